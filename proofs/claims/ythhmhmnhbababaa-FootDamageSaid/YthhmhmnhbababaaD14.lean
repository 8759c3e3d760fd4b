/- Footers there and back: trailers; the law's helpers. -/
import Derived.Test.YthhmhmnhbababaaD13
namespace Go.Proofs.Ythhmhmnhbababaa.E
open Go
theorem wordF8 {v : Nat} (h : v < 18446744073709551616) : word (fixed 8 v) = v := by
  unfold word
  rw [List.take_of_length_le (by rw [fixed_length]; omega), le_fixed]
  omega
theorem trail_tr {sp : Int} {n : Nat} (hm : mayT sp (n : Nat)) (size : Int) : trailF (trF sp n) size = if sp + (n : Nat) + 24 = size then (sp, ((n : Nat) : Int), 0) else (0, 0, 82) := by
  have hm1 := hm.1
  have hm2 := hm.2.1
  have hl := trF_len sp n
  have ho : openF (trF sp n) = (magic ++ fixedI sp 8 ++ fixedI (n : Nat) 8, 0) := by unfold trF; exact open_seal _
  have e1 : fixedI sp 8 = fixed 8 sp.toNat := fixedI_some (by omega)
  have e2 : fixedI (n : Nat) 8 = fixed 8 n := by rw [fixedI_some (by omega)]; rfl
  have l1 : (fixed 8 sp.toNat).length = 8 := fixed_length _ _
  have l2 : (fixed 8 n).length = 8 := fixed_length _ _
  have w1 : word (((openF (trF sp n)).1.drop 4).take 8) = sp.toNat := by
    rw [ho, e1, e2, List.append_assoc]
    show word (((fixed 8 sp.toNat) ++ (fixed 8 n)).take 8) = _
    rw [List.take_left' l1, wordF8 (by omega)]
  have w2 : word (((openF (trF sp n)).1.drop 12).take 8) = n := by
    rw [ho, e1, e2]
    show word (((magic ++ fixed 8 sp.toNat ++ fixed 8 n).drop 12).take 8) = _
    rw [List.drop_left' (by rw [List.length_append, l1]; rfl), List.take_of_length_le (by omega), wordF8 (by omega)]
  have h3 : (openF (trF sp n)).1.take 4 = magic := by
    rw [ho, List.append_assoc]; exact List.take_left' rfl
  have h2 : (openF (trF sp n)).2 = 0 := by rw [ho]
  have hsp : ((sp.toNat : Nat) : Int) = sp := by omega
  have h4 : mayT (word (((openF (trF sp n)).1.drop 4).take 8) : Nat) (word (((openF (trF sp n)).1.drop 12).take 8) : Nat) := by rw [w1, w2, hsp]; exact hm
  split
  · rename_i k
    rw [tr_ok hl h2 h3 h4 (by rw [w1, w2, hsp]; exact k), w1, w2, hsp]
  · rename_i k
    rw [tr_size hl h2 h3 h4 (by rw [w1, w2, hsp]; exact k)]
theorem enc_may {parts : Int} {ps : List Pp} (h : ftOk parts ps) (h2 : ¬ (16777216 < (bodyF parts ps).length ∨ 268435456 < spaceF ps)) : mayT (spaceF ps) ((pagesF (bodyF parts ps)).length : Nat) := by
  have hs := sp_nn parts ps _ _ h.2
  have hp := pages_len _ (bodyF parts ps) (Nat.le_refl _)
  have hb : 2 ≤ (bodyF parts ps).length := by
    unfold bodyF
    have a1 := putI_pos (v := parts) (by have := h.1; omega)
    have a2 := putI_pos (v := ((ps.length : Nat) : Int)) (by omega)
    rw [List.length_append, putAll_cons, putAll_cons, List.length_append, List.length_append]; omega
  unfold mayT
  rw [hp]
  omega
theorem ft_head : ftOk 1 [] := by unfold ftOk; exact ⟨by omega, trivial⟩
theorem body_head : bodyF 1 [] = [1, 0] := by
  unfold bodyF
  rw [putAll_cons, putAll_cons, putI_lt (by omega) (by omega), List.length_nil, putI_lt (by omega) (by omega)]; rfl
theorem enc_head : encT 1 [] = (pagesF [1, 0] ++ trF 0 6, 0) := by
  have hp := pages_len _ ([1, 0] : List UInt8) (Nat.le_refl _)
  have hl : (pagesF [1, 0]).length = 6 := hp
  rw [encT_ok ft_head (by rw [body_head]; simp [spaceF]), body_head, hl]; rfl
theorem head_len : (pagesF [1, 0]).length = 6 := pages_len _ ([1, 0] : List UInt8) (Nat.le_refl _)
theorem head_cut : (pagesF [1, 0] ++ trF 0 6).drop 6 = trF 0 6 ∧ (pagesF [1, 0] ++ trF 0 6).take 6 = pagesF [1, 0] ∧ (pagesF [1, 0] ++ trF 0 6).length = 30 := ⟨List.drop_left' head_len, List.take_left' head_len, by rw [List.length_append, head_len, trF_len]⟩
theorem head_tr : trailF (trF 0 6) 30 = (0, 6, 0) := by
  rw [trail_tr (sp := 0) (n := 6) (by unfold mayT; omega)]; rfl
theorem head_dc {P e : Int} {PS : List Pp} (h : DcSpec (pagesF [1, 0]) 0 6 P PS e) : e = 0 ∧ P = 1 ∧ PS = [] := by
  rcases h with ⟨h0, h1, h2, h3, h4, h5, h6⟩ | ⟨h0, h1, h2, h3⟩
  · obtain ⟨rfl, rfl⟩ := h6 1 [] ft_head (by rw [body_head])
    exact ⟨h0, rfl, rfl⟩
  · exact absurd rfl (h3 1 [] (by unfold mayT; omega) (by rw [head_len]; rfl) ft_head (by rw [body_head]))
section
variable {P : Program} {r : List MI} {f : Fr} {w w0 : World} {S : List Nat} {R : List (List Ent)} {K : Fr → World → Prop} {d : Nat}
theorem m_alU {t : TypeId} {cs : List Value} (hM : Mem w0 S w R) (h : ∀ b w', Upd [] w w' → Mem w0 S w' (R ++ [[⟨b, t, cs⟩]]) → vr P r (upd f d (.pointer (some ⟨b, 0, none⟩))) w' K) : vr P (.l none (some d) (.al t cs) :: r) f w K :=
  h _ _ (mem_alloc w t cs).upd (hM.add (mem_alloc w t cs))
end

/-- winnowlaw8.space -/
theorem spaceL_ok (parts : Int) (x : Value) (ps : List Pr) (w : World) (hx : RdS prC w x ps) (hok : ∀ p ∈ ps, p.ok w) (hl : ps.length ≤ 1954687338211) (hp : inK .i64 parts) (hft : ftOk parts (ps.map Pr.p)) : Calls Try.prog 42 [.agg [.int .i64 parts, x].toArray].toArray w (Rt fun r w' => r = .int .i64 (spaceF (ps.map Pr.p)) ∧ Upd [] w w') := by
  have hM0 : Mem w [] w [] := Mem.nil w []
  refine calls_vc mixed Try.func42 rfl C42 (by simp [Try.ntmps42]) ?_
  refine seq fun K1 h1 => ?_
  refine m_bx (v := .agg ([.int .i64 parts, x] : List Value).toArray) hM0 rfl rfl fun b2 w3 (hM3 : Mem w [] w3 [[⟨b2, 24, [.int .i64 parts, x]⟩]]) => ?_
  refine stp (v := .int .i64 0) (o_mv rfl) ?_
  refine h1 _ _ ?_
  clear h1
  refine seq fun K4 h4 => ?_
  refine stp (v := .int .i64 0) (o_mv rfl) ?_
  refine h4 _ _ ?_
  clear h4
  refine seq fun K5 h5 => ?_
  refine seq fun K6 h6 => ?_
  refine stp (v := .int .i64 0) (o_mv rfl) ?_
  refine h6 _ _ ?_
  clear h6
  refine lp (n := fun _ _ => False) (ι := (Nat) × (Int) × (Nat) × (Int)) (fun ⟨i, last, n, s⟩ f w' => f 3 = .int .i64 s ∧ f 4 = .int .i64 (i : Nat) ∧ f 1 = .pointer (some ⟨b2, 0, none⟩) ∧ Mem w [] w' [[⟨b2, 24, [.int .i64 parts, x]⟩]] ∧ (i ≤ ps.length) ∧ (infOk parts last n ((ps.drop i).map Pr.p)) ∧ (n ≤ 262144) ∧ (0 ≤ s ∧ s ≤ n * 65541) ∧ (spaceF (ps.map Pr.p) = s + spaceF ((ps.drop i).map Pr.p))) (fun ⟨i, last, n, s⟩ => ps.length - i) (0, (-1), 0, 0) ?_ ?_
  · exact ⟨by first | rfl | exact v_int (by omega) | exact v_int (by simp) | exact v_int (by simp; omega), by first | rfl | exact v_int (by omega) | exact v_int (by simp) | exact v_int (by simp; omega), rfl, hM3, by omega, hft.2, by omega, by omega, by rw [List.drop_zero]; omega⟩
  · rintro ⟨i, last, n, s⟩ f w7 ⟨e7_3, e7_4, e7_1, hM7, hi, hI, hn, hs, hE⟩ K8 h8
    obtain ⟨frm, rfl⟩ : ∃ frm, f = (upd (upd (upd frm 3 (.int .i64 s)) 4 (.int .i64 (i : Nat))) 1 (.pointer (some ⟨b2, 0, none⟩))) := ⟨f, by rw [upd_self e7_3, upd_self e7_4, upd_self e7_1]⟩
    clear e7_3 e7_4 e7_1
    refine seq fun K9 h9 => ?_
    refine seq fun K10 h10 => ?_
    refine stp (v := .int .i64 (i : Nat)) (o_mv rfl) ?_
    refine stp (v := .pointer (some ⟨b2, 1, none⟩)) (o_fa rfl rfl) ?_
    refine m_ld (v := x) hM7 (i := 0) (j := 0) rfl rfl rfl rfl ?_
    refine stp (v := .int .i64 (ps.length : Nat)) (o_lenR (hx.upd hM7.upd) rfl rfl) ?_
    refine stp (v := .bool (decide (((i : Nat) : Int) < (ps.length : Nat)))) (o_bin rfl rfl rfl) ?_
    refine h10 _ _ ?_
    clear h10
    refine cndP rfl (fun c11 => ?_) (fun c11 => ?_)
    ·
      refine h9 _ _ ?_
      clear h9
      refine seq fun K12 h12 => ?_
      refine seq fun K13 h13 => ?_
      have hpi := hok _ (getD_memG pz (l := ps) (i := i) (by omega))
      have hic := (inf_cons (ps := ps) (i := i) (parts := parts) (last := last) (n := n) (by omega)).1 hI
      have hsc := sp_cons (ps := ps) (i := i) (by omega)
      refine stp (v := .int .i64 0) (o_mv rfl) ?_
      refine h13 _ _ ?_
      clear h13
      refine lp (n := fun _ _ => False) (ι := (Nat) × (List UInt8) × (Int)) (fun ⟨k, key, t⟩ f w' => f 3 = .int .i64 t ∧ f 5 = .int .i64 (k : Nat) ∧ f 1 = .pointer (some ⟨b2, 0, none⟩) ∧ f 4 = .int .i64 (i : Nat) ∧ Mem w [] w' [[⟨b2, 24, [.int .i64 parts, x]⟩]] ∧ (k ≤ (ps.getD i pz).bl.length) ∧ (blsOk key ((ps.getD i pz).bl.drop k)) ∧ (0 ≤ t ∧ t ≤ (n + k : Nat) * 65541) ∧ (s + spB (ps.getD i pz).bl = t + spB ((ps.getD i pz).bl.drop k))) (fun ⟨k, key, t⟩ => (ps.getD i pz).bl.length - k) (0, [], s) ?_ ?_
      · exact ⟨by first | rfl | exact v_int (by omega) | exact v_int (by simp) | exact v_int (by simp; omega), by first | rfl | exact v_int (by omega) | exact v_int (by simp) | exact v_int (by simp; omega), rfl, by first | rfl | exact v_int (by omega) | exact v_int (by simp) | exact v_int (by simp; omega), hM7, by omega, hic.1.1.2.2.2.2, by omega, by rw [List.drop_zero]⟩
      · rintro ⟨k, key, t⟩ f w14 ⟨e14_3, e14_5, e14_1, e14_4, hM14, hk, hB, ht, hT⟩ K15 h15
        obtain ⟨frm, rfl⟩ : ∃ frm, f = (upd (upd (upd (upd frm 3 (.int .i64 t)) 5 (.int .i64 (k : Nat))) 1 (.pointer (some ⟨b2, 0, none⟩))) 4 (.int .i64 (i : Nat))) := ⟨f, by rw [upd_self e14_3, upd_self e14_5, upd_self e14_1, upd_self e14_4]⟩
        clear e14_3 e14_5 e14_1 e14_4
        refine seq fun K16 h16 => ?_
        refine seq fun K17 h17 => ?_
        refine stp (v := .int .i64 (k : Nat)) (o_mv rfl) ?_
        refine stp (v := .pointer (some ⟨b2, 1, none⟩)) (o_fa rfl rfl) ?_
        refine m_ld (v := x) hM14 (i := 0) (j := 0) rfl rfl rfl rfl ?_
        refine stp (v := .int .i64 (i : Nat)) (o_mv rfl) ?_
        refine m_idxS pz (j := i) (hx.upd hM14.upd) rfl rfl (by omega) fun b18 o18 hp18 => ?_
        refine stp (v := .pointer (some ⟨b18, o18 + 1, none⟩)) (o_fa rfl rfl) ?_
        refine ld (v := (ps.getD i pz).bv) rfl (hp18.get 1 rfl) ?_
        refine stp (v := .int .i64 (((ps.getD i pz).bl).length : Nat)) (o_lenR (((fun p hp => (hok p hp).upd hM14.upd) _ (getD_memG pz (by omega))).rb) rfl rfl) ?_
        refine stp (v := .bool (decide (((k : Nat) : Int) < (((ps.getD i pz).bl).length : Nat)))) (o_bin rfl rfl rfl) ?_
        refine h17 _ _ ?_
        clear h17
        refine cndP rfl (fun c19 => ?_) (fun c19 => ?_)
        ·
          refine h16 _ _ ?_
          clear h16
          refine seq fun K20 h20 => ?_
          have hbc := (bls_cons (last := key) (bl := (ps.getD i pz).bl) (k := k) (by omega)).1 hB
          have hbk := hbc.1.1.1
          have hsk := spB_cons (bl := (ps.getD i pz).bl) (k := k) (by omega)
          refine stp (v := .int .i64 t) (o_mv rfl) ?_
          refine stp (v := .pointer (some ⟨b2, 1, none⟩)) (o_fa rfl rfl) ?_
          refine m_ld (v := x) hM14 (i := 0) (j := 0) rfl rfl rfl rfl ?_
          refine stp (v := .int .i64 (i : Nat)) (o_mv rfl) ?_
          refine m_idxS pz (j := i) (hx.upd hM14.upd) rfl rfl (by omega) fun b21 o21 hp21 => ?_
          refine stp (v := .pointer (some ⟨b21, o21 + 1, none⟩)) (o_fa rfl rfl) ?_
          refine ld (v := (ps.getD i pz).bv) rfl (hp21.get 1 rfl) ?_
          refine stp (v := .int .i64 (k : Nat)) (o_mv rfl) ?_
          refine m_idxS bz (j := k) (((fun p hp => (hok p hp).upd hM14.upd) _ (getD_memG pz (by omega))).rb) rfl rfl (by omega) fun b22 o22 hp22 => ?_
          refine stp (v := .pointer (some ⟨b22, o22, none⟩)) (o_fa rfl rfl) ?_
          refine ld (v := .int .i64 ((((ps.getD i pz).bl).getD k bz).st)) rfl (hp22.get 0 rfl) ?_
          refine stp (v := .int .i64 (t + ((((ps.getD i pz).bl).getD k bz).st))) (o_bin rfl rfl (v_add64 (by constructor <;> omega))) ?_
          refine stp (v := .int .i64 ((t + ((((ps.getD i pz).bl).getD k bz).st)) + 5)) (o_bin rfl rfl (v_add64 (by constructor <;> omega))) ?_
          refine stp (v := .int .i64 ((t + ((((ps.getD i pz).bl).getD k bz).st)) + 5)) (o_mv rfl) ?_
          refine h20 _ _ ?_
          clear h20
          refine stp (v := .int .i64 (k : Nat)) (o_mv rfl) ?_
          refine stp (v := .int .i64 ((k : Nat) + 1)) (o_bin rfl rfl (v_add64 (by constructor <;> omega))) ?_
          have hpi := hok _ (getD_memG pz (l := ps) (i := i) (by omega))
          have hic := (inf_cons (ps := ps) (i := i) (parts := parts) (last := last) (n := n) (by omega)).1 hI
          have hsc := sp_cons (ps := ps) (i := i) (by omega)
          refine stp (v := .int .i64 ((k : Nat) + 1)) (o_mv rfl) ?_
          refine h15 (k + 1, ((ps.getD i pz).bl.getD k bz).cut, t + ((ps.getD i pz).bl.getD k bz).st + 5) _ _ ⟨by first | rfl | exact v_int (by omega) | exact v_int (by simp) | exact v_int (by simp; omega), by first | rfl | exact v_int (by omega) | exact v_int (by simp) | exact v_int (by simp; omega), rfl, by first | rfl | exact v_int (by omega) | exact v_int (by simp) | exact v_int (by simp; omega), hM14, by omega, hbc.2, by omega, by omega⟩ (by (try dsimp only); omega)
        ·
          refine h12 _ _ ?_
          clear h12
          refine stp (v := .int .i64 (i : Nat)) (o_mv rfl) ?_
          refine stp (v := .int .i64 ((i : Nat) + 1)) (o_bin rfl rfl (v_add64 (by constructor <;> omega))) ?_
          refine stp (v := .int .i64 ((i : Nat) + 1)) (o_mv rfl) ?_
          refine h8 (i + 1, (ps.getD i pz).part, n + (ps.getD i pz).bl.length, t) _ _ ⟨by first | rfl | exact v_int (by omega) | exact v_int (by simp) | exact v_int (by simp; omega), by first | rfl | exact v_int (by omega) | exact v_int (by simp) | exact v_int (by simp; omega), rfl, hM14, by omega, hic.2, hic.1.2, by omega, by have := spB_end (bl := (ps.getD i pz).bl) (k := k) (by omega); omega⟩ (by (try dsimp only); omega)
    ·
      refine h5 _ _ ?_
      clear h5
      refine seq fun K23 h23 => ?_
      refine stp (v := .int .i64 s) (o_mv rfl) ?_
      refine stp (v := .int .i64 s) (o_mv rfl) ?_
      refine h23 _ _ ?_
      clear h23
      refine ⟨(.int .i64 s), rfl, ?_⟩
      exact ⟨v_int (by have := sp_end (ps := ps) (i := i) (by omega); omega), hM7.upd⟩

def hdB : List UInt8 := pagesF [1, 0] ++ trF 0 6
theorem head_enc (w : World) : Calls Try.prog 24 [.agg [.int .i64 1, .slice none 0 0].toArray].toArray w (Rt fun r w' => ∃ y rs, r = .tuple #[y, .int .i64 0] ∧ SlE byteV 5 y hdB rs ∧ Mem w [] w' [rs]) := by
  refine (Encode_ok 1 (.slice none 0 0) [] w (Sl.rdOwn (Sl.nil 5 71) (by simp)) (fun p hp => by cases hp) (by simp) (by simp only [inK]; omega)).mono fun en w2 h => h.elim fun v h => ⟨v, h.1, ?_⟩
  obtain ⟨y, rs, h1, h2, h3⟩ := h.2
  have e := enc_head
  simp only [List.map_nil] at h1 h2
  rw [e] at h1 h2
  exact ⟨y, rs, h1, h2, h3⟩
theorem head_trl (x : Value) (w : World) (hx : RdE byteV w x (hdB.drop 6)) : Calls Try.prog 21 [x, .int .i64 30].toArray w (Rt fun r w' => r = .tuple #[.agg #[.int .i64 0, .int .i64 6], .int .i64 0] ∧ Upd [] w w') := by
  have h1 := Trailer_ok x (hdB.drop 6) 30 (by simp only [inK]; omega) w hx (by rw [List.length_drop, show hdB.length = 30 from head_cut.2.2]; omega)
  rwa [show hdB.drop 6 = trF 0 6 from head_cut.1, head_tr] at h1
theorem head_dcd (x : Value) (w : World) (hx : RdE byteV w x (hdB.take 6)) : Calls Try.prog 39 [x, .agg [.int .i64 0, .int .i64 6].toArray].toArray w (Rt fun r w' => ∃ v rs NS, r = .tuple #[.agg #[.int .i64 1, v], .int .i64 0] ∧ SlS prC 5 71 v [] rs ∧ Mem w [] w' [rs, NS]) := by
  refine (Decode_ok 0 6 x (hdB.take 6) w (by simp only [inK]; omega) (by simp only [inK]; omega) hx (by rw [List.length_take]; omega)).mono fun en w2 h => h.elim fun v h => ⟨v, h.1, ?_⟩
  obtain ⟨P, v, ps, rs, NS, e, h1, h2, h3, h4, h5, h6, h7⟩ := h.2
  rw [show hdB.take 6 = pagesF [1, 0] from head_cut.2.1] at h6
  obtain ⟨rfl, rfl, h8⟩ := head_dc h6
  obtain rfl := List.map_eq_nil_iff.1 h8
  exact ⟨v, rs, NS, h1, h2, h7⟩

/-- winnowlaw8.head -/
theorem head_ok (w : World) : Calls Try.prog 41 [].toArray w (Rt fun r w' => r = .bool true ∧ Upd [] w w') := by
  have hM0 : Mem w [] w [] := Mem.nil w []
  refine calls_vc mixed Try.func41 rfl C41 (by simp [Try.ntmps41]) ?_
  refine seq fun K1 h1 => ?_
  refine stp (v := .bool false) (o_mv rfl) ?_
  refine h1 _ _ ?_
  clear h1
  refine seq fun K2 h2 => ?_
  refine stp (v := .agg ([.int .i64 1, .slice none 0 0] : List Value).toArray) (o_bld rfl rfl) ?_
  refine m_call (head_enc w) rfl fun v3 w3 ⟨y3, rs3, hr3, hs3, hm3⟩ => ?_
  have hM3 : Mem w [] w3 [rs3] := hM0.add hm3
  subst hr3
  have hhl3 : hdB.length = 30 := head_cut.2.2
  refine stp (v := .tuple [y3, .int .i64 0].toArray) (o_mv rfl) ?_
  refine stp (v := y3) (o_ext rfl rfl) ?_
  refine stp (v := .int .i64 0) (o_ext rfl rfl) ?_
  refine stp (v := y3) (o_mv rfl) ?_
  refine stp (v := .int .i64 0) (o_mv rfl) ?_
  refine h2 _ _ ?_
  clear h2
  refine seq fun K4 h4 => ?_
  refine seq fun K5 h5 => ?_
  refine stp (v := .int .i64 0) (o_mv rfl) ?_
  refine stp (v := .bool false) (o_bin rfl rfl v_neF) ?_
  refine stp (v := .bool false) (o_mv rfl) ?_
  refine splitF rfl ?_
  refine stg rfl (v := y3) (o_mv rfl) ?_
  refine stg rfl (v := .int .i64 (hdB.length : Nat)) (o_lenR (hs3.rd hM3 (i := 0) rfl) rfl rfl) ?_
  refine stg rfl (v := .bool (decide (¬ ((hdB.length : Nat) : Int) = 30))) (o_bin rfl rfl v_neq) ?_
  refine stp (v := .bool (decide (¬ ((hdB.length : Nat) : Int) = 30))) (o_pickF rfl rfl) ?_
  refine h5 _ _ ?_
  clear h5
  refine cndP rfl (fun c6 => ?_) (fun c6 => ?_)
  ·
    refine seq fun K7 h7 => ?_
    refine stp (v := .bool false) (o_mv rfl) ?_
    refine h7 _ _ ?_
    clear h7
    refine ⟨(.bool false), rfl, ?_⟩
    first | exact ⟨rfl, hM3.upd⟩ | (exfalso; omega) | (exfalso; simp at *; done) | (exfalso; simp at *; omega)
  ·
    refine h4 _ _ ?_
    clear h4
    refine seq fun K8 h8 => ?_
    refine stp (v := y3) (o_mv rfl) ?_
    refine m_slcE 6 hdB.length (hs3.rd hM3 (i := 0) rfl) rfl (by omega) (by omega) rfl ⟨_, rfl⟩ fun u9 hu9 => ?_
    refine m_call (head_trl _ w3 (by have h9 := (hu9); (try rw [show hdB.length = 30 from head_cut.2.2] at h9); rw [show hdB.take 30 = hdB from List.take_of_length_le (by rw [show hdB.length = 30 from head_cut.2.2]; omega)] at h9; exact h9)) rfl fun v10 w10 ⟨hr10, hu10⟩ => ?_
    have hM10 : Mem w [] w10 [rs3] := hM3.pure hu10
    subst hr10
    refine stp (v := .tuple [.agg ([.int .i64 0, .int .i64 6] : List Value).toArray, .int .i64 0].toArray) (o_mv rfl) ?_
    refine stp (v := .agg ([.int .i64 0, .int .i64 6] : List Value).toArray) (o_ext rfl rfl) ?_
    refine stp (v := .int .i64 0) (o_ext rfl rfl) ?_
    refine m_al hM10 fun b11 w12 (hM12 : Mem w [] w12 [rs3, [⟨b11, 36, [.int .i64 0, .int .i64 0]⟩]]) => ?_
    refine m_stA (l := [.int .i64 0, .int .i64 6]) hM12 (i := 1) rfl rfl rfl rfl (by simp [oneCells, Value.oneCell', byteV]) (by simp) fun w13 (hM13 : Mem w [] w13 [rs3, [⟨b11, 36, [.int .i64 0, .int .i64 6]⟩]]) => ?_
    refine stp (v := .int .i64 0) (o_mv rfl) ?_
    refine h8 _ _ ?_
    clear h8
    refine seq fun K14 h14 => ?_
    intro wd e1 e2 e3 e4
    have hd := Upd.same e1 e2 e3 e4 []
    have hM15 := hM13.pure hd
    clear e1 e2 e3 e4
    refine ⟨(some [b11]), ?_⟩
    show vd _ _ _ _ _ _ _
    refine dq (v := y3) (o_mv rfl) ?_
    refine dqp (m_slcO 6 (hs3) rfl (by first | omega | (simp; done) | (simp; omega)) (⟨_, rfl⟩) trivial fun u16 hu16 => ?_)
    show vd _ _ _ _ _ _ _
    refine dqldA (cs := [.int .i64 0, .int .i64 6]) rfl (by simp [isHeld]) rfl ((hM15.at (i := 1) (j := 0) rfl rfl).agg rfl rfl) ?_
    show _ ∧ _
    refine ⟨?_, ?_⟩
    ·
      show vd _ _ _ _ _ _ _
      refine dl (m_call (head_dcd _ wd (by exact (hu16.rd hM15 (i := 0) rfl))) rfl fun v17 w17 ⟨v17_, rs17, NS17, hr17, hs17, hm17⟩ => ?_)
      have hM17 : Mem w [] w17 [rs3, [⟨b11, 36, [.int .i64 0, .int .i64 6]⟩], rs17, NS17] := hM15.add2 hm17
      subst hr17
      obtain ⟨av17, lv17, cv17, rfl⟩ := hs17.isSlice
      have hh17 := held_upd (wr := wd) (bs := [b11]) hm17.upd (fun b hb => by
        simp only [List.mem_cons, List.not_mem_nil, or_false] at hb
        rw [hb]; exact ⟨(hM15.at (i := 1) (j := 0) rfl rfl).lt, by simp⟩) (fun b hb => rfl)
      refine ⟨hh17, ?_⟩
      refine dq (v := .tuple [.agg ([.int .i64 1, (.slice av17 lv17 cv17)] : List Value).toArray, .int .i64 0].toArray) (o_mv rfl) ?_
      refine dq (v := .agg ([.int .i64 1, (.slice av17 lv17 cv17)] : List Value).toArray) (o_ext rfl rfl) ?_
      refine dq (v := .int .i64 0) (o_ext rfl rfl) ?_
      refine dl (m_alU hM17 fun b18 w19 hup19 (hM19 : Mem w [] w19 [rs3, [⟨b11, 36, [.int .i64 0, .int .i64 6]⟩], rs17, NS17, [⟨b18, 24, [.int .i64 0, .slice none 0 0]⟩]]) => ?_)
      have hh19 := held_upd (wr := wd) (bs := [b11]) hup19 (fun b hb => by
        simp only [List.mem_cons, List.not_mem_nil, or_false] at hb
        rw [hb]; exact ⟨(hM17.at (i := 1) (j := 0) rfl rfl).lt, by simp⟩) hh17
      refine ⟨hh19, ?_⟩
      refine dl (m_stAU (l := [.int .i64 1, (.slice av17 lv17 cv17)]) hM19 (i := 4) rfl rfl rfl rfl (by simp [oneCells, Value.oneCell', byteV]) (by simp) fun w20 hup20 (hM20 : Mem w [] w20 [rs3, [⟨b11, 36, [.int .i64 0, .int .i64 6]⟩], rs17, NS17, [⟨b18, 24, [.int .i64 1, (.slice av17 lv17 cv17)]⟩]]) => ?_)
      have hh20 := held_upd (wr := wd) (bs := [b11]) hup20 (fun b hb => by
        simp only [List.mem_cons, List.not_mem_nil, or_false] at hb
        rw [hb]; exact ⟨(hM19.at (i := 1) (j := 0) rfl rfl).lt, hM19.apart (i := 1) (j := 0) (k := 4) rfl rfl rfl (by decide)⟩) hh19
      refine ⟨hh20, ?_⟩
      refine dq (v := .int .i64 0) (o_mv rfl) ?_
      refine h14 _ _ ?_
      clear h14
      refine seq fun K21 h21 => ?_
      refine stp (v := .int .i64 0) (o_mv rfl) ?_
      refine stp (v := .bool true) (o_bin rfl rfl v_eqT) ?_
      refine stp (v := .bool true) (o_mv rfl) ?_
      refine splitT rfl ?_
      refine stg rfl (v := .int .i64 0) (o_mv rfl) ?_
      refine stg rfl (v := .bool true) (o_bin rfl rfl v_eqT) ?_
      refine stp (v := .bool true) (o_pickT rfl rfl) ?_
      refine stp (v := .bool true) (o_mv rfl) ?_
      refine splitT rfl ?_
      refine gyesl rfl ?_
      refine m_ldA (l := [.int .i64 0, .int .i64 6]) hM20 (i := 1) (j := 0) rfl rfl rfl rfl rfl ?_
      refine stg rfl (v := .agg ([.int .i64 0, .int .i64 6] : List Value).toArray) (o_bld rfl rfl) ?_
      refine stg rfl (v := .bool (decide (0 = 0) && (decide (6 = 6) && true))) (o_aeq (t := (decide (0 = 0) && (decide (6 = 6) && true))) rfl rfl (by simp [eqCs, eqC, toList_str, Int.natCast_inj]) rfl) ?_
      refine stp (v := .bool (decide (0 = 0) && (decide (6 = 6) && true))) (o_pickT rfl rfl) ?_
      refine stp (v := .bool (decide (0 = 0) && (decide (6 = 6) && true))) (o_mv rfl) ?_
      refine split rfl (fun c22 => ?_) (fun c22 => ?_)
      ·
        refine stg rfl (v := .pointer (some ⟨b18, 0, none⟩)) (o_fa rfl rfl) ?_
        refine gyesl rfl ?_
        refine m_ld (v := .int .i64 1) hM20 (i := 4) (j := 0) rfl rfl rfl rfl ?_
        refine stg rfl (v := .bool true) (o_bin rfl rfl v_eqT) ?_
        refine stp (v := .bool true) (o_pickT rfl rfl) ?_
        refine stp (v := .bool true) (o_mv rfl) ?_
        refine splitT rfl ?_
        refine stg rfl (v := .pointer (some ⟨b18, 1, none⟩)) (o_fa rfl rfl) ?_
        refine gyesl rfl ?_
        refine m_ld (v := (.slice av17 lv17 cv17)) hM20 (i := 4) (j := 0) rfl rfl rfl rfl ?_
        refine stg rfl (v := .int .i64 (([] : List Pr).length : Nat)) (o_lenR (hs17.rd hM20 (i := 2) rfl) rfl rfl) ?_
        refine stg rfl (v := .bool (decide (((([] : List Pr).length : Nat) : Int) = 0))) (o_bin rfl rfl rfl) ?_
        refine stp (v := .bool (decide (((([] : List Pr).length : Nat) : Int) = 0))) (o_pickT rfl rfl) ?_
        refine stp (v := .bool (decide (((([] : List Pr).length : Nat) : Int) = 0))) (o_mv rfl) ?_
        refine h21 _ _ ?_
        clear h21
        refine ⟨(.bool (decide (((([] : List Pr).length : Nat) : Int) = 0))), rfl, ?_⟩
        first | exact ⟨rfl, hM20.upd⟩ | (exfalso; omega) | (exfalso; simp at *; done) | (exfalso; simp at *; omega)
      ·
        refine gno rfl (by simp) ?_
        refine gnol rfl (by simp) ?_
        refine gno rfl (by simp) ?_
        refine stp (v := .bool false) (o_pickF rfl rfl) ?_
        refine stp (v := .bool false) (o_mv rfl) ?_
        refine splitF rfl ?_
        refine gno rfl (by simp) ?_
        refine gnol rfl (by simp) ?_
        refine gno rfl (by simp) ?_
        refine gno rfl (by simp) ?_
        refine stp (v := .bool false) (o_pickF rfl rfl) ?_
        refine stp (v := .bool false) (o_mv rfl) ?_
        refine h21 _ _ ?_
        clear h21
        refine ⟨(.bool false), rfl, ?_⟩
        first | exact ⟨rfl, hM20.upd⟩ | (exfalso; omega) | (exfalso; simp at *; done) | (exfalso; simp at *; omega)
    ·
      show vd _ _ _ _ _ _ _
      refine dl (m_alU hM15 fun b23 w24 hup24 (hM24 : Mem w [] w24 [rs3, [⟨b11, 36, [.int .i64 0, .int .i64 6]⟩], [⟨b23, 24, [.int .i64 0, .slice none 0 0]⟩]]) => ?_)
      have hh24 := held_upd (wr := wd) (bs := [b11]) hup24 (fun b hb => by
        simp only [List.mem_cons, List.not_mem_nil, or_false] at hb
        rw [hb]; exact ⟨(hM15.at (i := 1) (j := 0) rfl rfl).lt, by simp⟩) (fun b hb => rfl)
      refine ⟨hh24, ?_⟩
      refine dl (m_call (head_dcd _ w24 (by exact (hu16.rd hM24 (i := 0) rfl))) rfl fun v25 w25 ⟨v25_, rs25, NS25, hr25, hs25, hm25⟩ => ?_)
      have hM25 : Mem w [] w25 [rs3, [⟨b11, 36, [.int .i64 0, .int .i64 6]⟩], [⟨b23, 24, [.int .i64 0, .slice none 0 0]⟩], rs25, NS25] := hM24.add2 hm25
      subst hr25
      obtain ⟨av25, lv25, cv25, rfl⟩ := hs25.isSlice
      have hh25 := held_upd (wr := wd) (bs := [b11]) hm25.upd (fun b hb => by
        simp only [List.mem_cons, List.not_mem_nil, or_false] at hb
        rw [hb]; exact ⟨(hM24.at (i := 1) (j := 0) rfl rfl).lt, by simp⟩) hh24
      refine ⟨hh25, ?_⟩
      refine dq (v := .tuple [.agg ([.int .i64 1, (.slice av25 lv25 cv25)] : List Value).toArray, .int .i64 0].toArray) (o_mv rfl) ?_
      refine dq (v := .agg ([.int .i64 1, (.slice av25 lv25 cv25)] : List Value).toArray) (o_ext rfl rfl) ?_
      refine dq (v := .int .i64 0) (o_ext rfl rfl) ?_
      refine dl (m_stAU (l := [.int .i64 1, (.slice av25 lv25 cv25)]) hM25 (i := 2) rfl rfl rfl rfl (by simp [oneCells, Value.oneCell', byteV]) (by simp) fun w26 hup26 (hM26 : Mem w [] w26 [rs3, [⟨b11, 36, [.int .i64 0, .int .i64 6]⟩], [⟨b23, 24, [.int .i64 1, (.slice av25 lv25 cv25)]⟩], rs25, NS25]) => ?_)
      have hh26 := held_upd (wr := wd) (bs := [b11]) hup26 (fun b hb => by
        simp only [List.mem_cons, List.not_mem_nil, or_false] at hb
        rw [hb]; exact ⟨(hM25.at (i := 1) (j := 0) rfl rfl).lt, hM25.apart (i := 1) (j := 0) (k := 2) rfl rfl rfl (by decide)⟩) hh25
      refine ⟨hh26, ?_⟩
      refine dq (v := .int .i64 0) (o_mv rfl) ?_
      refine h14 _ _ ?_
      clear h14
      refine seq fun K27 h27 => ?_
      refine stp (v := .int .i64 0) (o_mv rfl) ?_
      refine stp (v := .bool true) (o_bin rfl rfl v_eqT) ?_
      refine stp (v := .bool true) (o_mv rfl) ?_
      refine splitT rfl ?_
      refine stg rfl (v := .int .i64 0) (o_mv rfl) ?_
      refine stg rfl (v := .bool true) (o_bin rfl rfl v_eqT) ?_
      refine stp (v := .bool true) (o_pickT rfl rfl) ?_
      refine stp (v := .bool true) (o_mv rfl) ?_
      refine splitT rfl ?_
      refine gyesl rfl ?_
      refine m_ldA (l := [.int .i64 0, .int .i64 6]) hM26 (i := 1) (j := 0) rfl rfl rfl rfl rfl ?_
      refine stg rfl (v := .agg ([.int .i64 0, .int .i64 6] : List Value).toArray) (o_bld rfl rfl) ?_
      refine stg rfl (v := .bool (decide (0 = 0) && (decide (6 = 6) && true))) (o_aeq (t := (decide (0 = 0) && (decide (6 = 6) && true))) rfl rfl (by simp [eqCs, eqC, toList_str, Int.natCast_inj]) rfl) ?_
      refine stp (v := .bool (decide (0 = 0) && (decide (6 = 6) && true))) (o_pickT rfl rfl) ?_
      refine stp (v := .bool (decide (0 = 0) && (decide (6 = 6) && true))) (o_mv rfl) ?_
      refine split rfl (fun c28 => ?_) (fun c28 => ?_)
      ·
        refine stg rfl (v := .pointer (some ⟨b23, 0, none⟩)) (o_fa rfl rfl) ?_
        refine gyesl rfl ?_
        refine m_ld (v := .int .i64 1) hM26 (i := 2) (j := 0) rfl rfl rfl rfl ?_
        refine stg rfl (v := .bool true) (o_bin rfl rfl v_eqT) ?_
        refine stp (v := .bool true) (o_pickT rfl rfl) ?_
        refine stp (v := .bool true) (o_mv rfl) ?_
        refine splitT rfl ?_
        refine stg rfl (v := .pointer (some ⟨b23, 1, none⟩)) (o_fa rfl rfl) ?_
        refine gyesl rfl ?_
        refine m_ld (v := (.slice av25 lv25 cv25)) hM26 (i := 2) (j := 0) rfl rfl rfl rfl ?_
        refine stg rfl (v := .int .i64 (([] : List Pr).length : Nat)) (o_lenR (hs25.rd hM26 (i := 3) rfl) rfl rfl) ?_
        refine stg rfl (v := .bool (decide (((([] : List Pr).length : Nat) : Int) = 0))) (o_bin rfl rfl rfl) ?_
        refine stp (v := .bool (decide (((([] : List Pr).length : Nat) : Int) = 0))) (o_pickT rfl rfl) ?_
        refine stp (v := .bool (decide (((([] : List Pr).length : Nat) : Int) = 0))) (o_mv rfl) ?_
        refine h27 _ _ ?_
        clear h27
        refine ⟨(.bool (decide (((([] : List Pr).length : Nat) : Int) = 0))), rfl, ?_⟩
        first | exact ⟨rfl, hM26.upd⟩ | (exfalso; omega) | (exfalso; simp at *; done) | (exfalso; simp at *; omega)
      ·
        refine gno rfl (by simp) ?_
        refine gnol rfl (by simp) ?_
        refine gno rfl (by simp) ?_
        refine stp (v := .bool false) (o_pickF rfl rfl) ?_
        refine stp (v := .bool false) (o_mv rfl) ?_
        refine splitF rfl ?_
        refine gno rfl (by simp) ?_
        refine gnol rfl (by simp) ?_
        refine gno rfl (by simp) ?_
        refine gno rfl (by simp) ?_
        refine stp (v := .bool false) (o_pickF rfl rfl) ?_
        refine stp (v := .bool false) (o_mv rfl) ?_
        refine h27 _ _ ?_
        clear h27
        refine ⟨(.bool false), rfl, ?_⟩
        first | exact ⟨rfl, hM26.upd⟩ | (exfalso; omega) | (exfalso; simp at *; done) | (exfalso; simp at *; omega)
