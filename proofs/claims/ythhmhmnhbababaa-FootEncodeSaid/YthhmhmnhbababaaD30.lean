/- A twin with other cuts in it. -/
import Derived.Test.YthhmhmnhbababaaD29
namespace Go.Proofs.Ythhmhmnhbababaa.E
open Go
theorem Mem.join4 {w0 w : World} {S : List Nat} {x y r A B : List Ent} (h : Mem w0 S w [x, A ++ B, y, r]) : Mem w0 S w [x, A ++ (r ++ B), y] := Mem.joinM (R := [x, A ++ B, y]) (i := 1) h rfl
def setB (p : Pr) (bl : List Bi) : Pr := ⟨p.part, p.bad, p.bln, p.bcp, bl, p.a, p.h, p.dad, p.dln, p.dcp, p.d⟩
theorem fm_same : ∀ {qs : List Pr} {i : Nat} {q : Pr}, prC q = prC (qs.getD i pz) → (qs.set i q).flatMap prC = qs.flatMap prC
  | [], _, _, _ => rfl
  | p :: ps, 0, q, h => by
    have h' : prC q = prC p := h
    rw [List.set_cons_zero, List.flatMap_cons, List.flatMap_cons, h']
  | p :: ps, i + 1, q, h => by
    rw [List.set_cons_succ, List.flatMap_cons, List.flatMap_cons, fm_same (by simpa using h)]
theorem fm_sameE {qs : List Pr} {i : Nat} {q : Pr} (h : prC q = prC (qs.getD i pz)) : (qs.set i q ++ [pm]).flatMap prC = (qs ++ [pm]).flatMap prC := by
  rw [List.flatMap_append, List.flatMap_append, fm_same h]
theorem sl_same {v : Value} {qs ps : List Pr} {r : List Ent} (h : SlS prC 5 71 v qs r) (e1 : ps.length = qs.length) (e2 : ps.flatMap prC = qs.flatMap prC) : SlS prC 5 71 v ps r := by
  show Sl 5 71 v ps.length (ps.flatMap prC) r
  rw [e1, e2]; exact h
theorem sl_less {a : Option Addr} {c n : Nat} {qs : List Pr} {r : List Ent} (h : SlS prC 5 71 (.slice a (n + 1) c) (qs ++ [pm]) r) (e : qs.length = n) : SlS prC 5 71 (.slice a n c) qs r := by
  have e1 := SlS.cut h n (by simp; omega)
  rwa [List.take_left' e] at e1
theorem getP_set {qs : List Pr} {i : Nat} {q : Pr} (h : i < qs.length) : (qs.set i q).getD i pz = q := by
  rw [List.getD_eq_getElem?_getD, List.getElem?_set_self h]; rfl
theorem getP_ne {qs : List Pr} {i m : Nat} {q : Pr} (h : ¬ m = i) : (qs.set i q).getD m pz = qs.getD m pz := by
  rw [List.getD_eq_getElem?_getD, List.getElem?_set_ne (fun e => h e.symm), ← List.getD_eq_getElem?_getD]
theorem getB_set {bl : List Bi} {i : Nat} {q : Bi} (h : i < bl.length) : (bl.set i q).getD i bz = q := by
  rw [List.getD_eq_getElem?_getD, List.getElem?_set_self h]; rfl
theorem getB_ne {bl : List Bi} {i m : Nat} {q : Bi} (h : ¬ m = i) : (bl.set i q).getD m bz = bl.getD m bz := by
  rw [List.getD_eq_getElem?_getD, List.getElem?_set_ne (fun e => h e.symm), ← List.getD_eq_getElem?_getD]
/-- a block of a twin is written anew -/
theorem TwP.setB {p : Pr} {rd rb r' : List Ent} {k : Nat} {b : Bi} (h : TwP p rd rb) (hb : b.ok) (e : r' = upS biC (p.bl.set k b) rb) : TwP (setB p (p.bl.set k b)) rd r' := by
  subst e
  have h1 := SlS.upFull (m := p.bl.set k b) h.sb (by rw [List.length_set, List.length_append]; omega)
  rw [List.length_set, List.drop_left' rfl] at h1
  refine ⟨h.sd, ?_, h.nd, ?_, h.kp, h.kh, h.ld, ?_, ?_⟩
  · show SlS biC 4 74 (.slice p.bad ((p.bl.set k b).length + 1) p.bcp) (p.bl.set k b ++ [bm]) _
    rw [List.length_set]; exact h1
  · show p.bln = (p.bl.set k b).length
    rw [List.length_set]; exact h.nb
  · show (p.bl.set k b).length ≤ _
    rw [List.length_set]; exact h.lb
  · intro x hx
    rcases List.mem_or_eq_of_mem_set hx with h2 | h2
    · exact h.kb x h2
    · subst h2; exact hb
theorem srt_all {cut : List UInt8} {bl : List Bi} (h : ∀ j, j < bl.length → (bl.getD j bz).cut = cut) : Srt bl := fun a b hab hb => by
  rw [h a (by omega), h b hb]
  have := (cmp_zero cut cut).2 rfl
  omega
theorem mem_get {qs : List Pr} {p : Pr} (h : p ∈ qs) : ∃ m, m < qs.length ∧ qs.getD m pz = p := by
  obtain ⟨m, hm, e⟩ := List.mem_iff_getElem.1 h
  exact ⟨m, hm, by rw [List.getD_eq_getElem?_getD, List.getElem?_eq_getElem hm]; exact e⟩

section
variable {α : Type} {enc : α → List Value} {sz : Nat} [Enc enc sz]
theorem fm_setF (z : α) {l : List α} {tail : List Value} {j o : Nat} {q : α} {val : Value} (hj : j < l.length) (ho : o < sz) (hq : enc q = (enc (l.getD j z)).set o val) : (l.flatMap enc ++ tail).set (j * sz + o) val = (l.set j q).flatMap enc ++ tail := by
  have hl : l = l.take j ++ l.getD j z :: l.drop (j + 1) := by
    conv => lhs; rw [← List.take_append_drop j l, dropG z hj]
  have hL : l.flatMap enc ++ tail = (l.take j).flatMap enc ++ (enc (l.getD j z) ++ ((l.drop (j + 1)).flatMap enc ++ tail)) := by
    conv => lhs; rw [hl]
    simp [List.flatMap_append]
  have hR : (l.set j q).flatMap enc ++ tail = (l.take j).flatMap enc ++ (enc q ++ ((l.drop (j + 1)).flatMap enc ++ tail)) := by
    rw [List.set_eq_take_append_cons_drop, if_pos hj]
    simp [List.flatMap_append]
  have hn : ((l.take j).flatMap enc).length = j * sz := by rw [fm_length, List.length_take, Nat.min_eq_left (by omega)]
  rw [hL, hR, List.set_append_right _ _ (by rw [hn]; omega), hn, Nat.add_sub_cancel_left, List.set_append_left _ _ (by rw [Enc.len (enc := enc)]; exact ho), hq]
variable {P : Program} {r : List MI} {f : Fr} {w w0 : World} {S : List Nat} {R : List (List Ent)} {K : Fr → World → Prop} {d : Nat} {t : TypeId} {v : Value}
/-- one cell of an element of the call's own slice is written -/
theorem m_setF (z : α) {x p y : Operand} {l : List α} {q : α} {i j o d2 : Nat} {k : IntKind} {val : Value} {rs : List Ent} (hM : Mem w0 S w R) (hi : R[i]? = some rs) (hs : SlS enc sz t v l rs) (hx : ev f x = v) (hp : ev f p = .int k j) (hj : j < l.length) (ho : o < sz) (hyd : y ≠ .tmp d) (hyd2 : y ≠ .tmp d2) (hy : ev f y = val) (h1 : val.oneCell' = true) (hq : enc q = (enc (l.getD j z)).set o val)
    (h : ∀ w' r' u u2, r' = upS enc (l.set j q) rs → SlS enc sz t v (l.set j q) r' → Mem w0 S w' (R.set i r') → vr P r (upd (upd f d u) d2 u2) w' K) : vr P (.p none d (.idx sz x p) :: .p none d2 (.fa o (.tmp d)) :: .l none none (.st 1 (.tmp d2) y) :: r) f w K := by
  rcases hs.form with ⟨_, h0, _⟩ | ⟨b, cap, tail, rfl, rfl, h2, h3⟩
  · omega
  · refine idx hx hp ⟨by omega, by omega⟩ ?_
    refine fa (b := b) (o := 0 + (j : Int).toNat * sz) (by show upd f d _ d = _; unfold upd; rw [if_pos rfl]) ?_
    have e1 : 0 + (j : Int).toNat * sz + o = j * sz + o := by simp
    rw [e1]
    have hev : ev (upd (upd f d (.pointer (some ⟨b, 0 + (j : Int).toNat * sz, none⟩))) d2 (.pointer (some ⟨b, j * sz + o, none⟩))) y = val := by
      cases y with
      | tmp a => show upd (upd f d _) d2 _ a = _; unfold upd; rw [if_neg (fun e => hyd2 (by rw [e])), if_neg (fun e => hyd (by rw [e]))]; exact hy
      | _ => exact hy
    have hle : j * sz + sz ≤ l.length * sz := by
      have := Nat.mul_le_mul_right sz hj
      rwa [Nat.succ_mul] at this
    refine m_st hM hi (b := b) (o := j * sz + o) (by show upd _ d2 _ d2 = _; unfold upd; rw [if_pos rfl]) hev h1 (by rw [List.length_append, fm_length]; omega) fun w' hM' => ?_
    rw [fm_setF z hj ho hq] at hM'
    refine h _ _ _ _ ?_ ⟨fm_length _, .inr ⟨b, cap, tail, by simp, rfl, by simpa using h2, by simpa using h3⟩⟩ hM'
    unfold upS
    simp only [List.map_cons, List.map_nil]
    have e : (l.flatMap enc).length = ((l.set j q).flatMap enc).length := by rw [fm_length, fm_length, List.length_set]
    rw [List.drop_left' e]
end
/-- two places of a list turned round are exchanged -/
theorem back_elS {α : Type} (z : α) {enc : α → List Value} {sz : Nat} {t : TypeId} {x : Value} {l : List α} {i : Nat} {r r' : List Ent} (_ : SlS enc sz t x (revI z i l) r) (h : 2 * i + 1 < l.length)
    (k : SlS enc sz t x (((revI z i l).set i ((revI z i l).getD (l.length - 1 - i) z)).set (l.length - 1 - i) ((revI z i l).getD i z)) r') : SlS enc sz t x (((revI z i l).set i (l.getD (l.length - 1 - i) z)).set (l.length - 1 - i) (l.getD i z)) r' := by
  rwa [revI_getD z (by omega), revI_getD z (by omega), if_neg (by omega), if_neg (by omega)] at k
theorem back_upS {α : Type} (z : α) {enc : α → List Value} (sz : Nat) (hE : Enc enc sz) {l : List α} {i : Nat} {r0 r r' r'' : List Ent} (h : 2 * i + 1 < l.length) (he : r = upS enc (revI z i l) r0) (k1 : r' = upS enc ((revI z i l).set i ((revI z i l).getD (l.length - 1 - i) z)) r)
    (k2 : r'' = upS enc (((revI z i l).set i ((revI z i l).getD (l.length - 1 - i) z)).set (l.length - 1 - i) ((revI z i l).getD i z)) r') : r'' = upS enc (((revI z i l).set i (l.getD (l.length - 1 - i) z)).set (l.length - 1 - i) (l.getD i z)) r0 := by
  rw [k2, k1, he, upS_upS sz hE (by simp), upS_upS sz hE (by simp)]
  rw [revI_getD z (by omega), revI_getD z (by omega), if_neg (by omega), if_neg (by omega)]

theorem srt_map {ps qs : List Pr} (he : qs.map Pr.p = ps.map Pr.p) (h : ∀ p ∈ ps, Srt p.bl) : ∀ q ∈ qs, Srt q.bl := fun q hq => by
  obtain ⟨m, hm, rfl⟩ := mem_get hq
  have hl : qs.length = ps.length := by simpa using congrArg List.length he
  have e : (qs.getD m pz).bl = (ps.getD m pz).bl := congrArg Pp.bl (map_at he m)
  rw [e]
  exact h _ (getD_memG pz (by omega))

/-- winnowlaw8.foundAnew -/
theorem foundAnew_ok (parts : Int) (a : Option Addr) (c n : Nat) (q0 : List Pr) (rs N0 : List Ent) (w : World) (hs0 : SlS prC 5 71 (.slice a (n + 1) c) (q0 ++ [pm]) rs) (hT0 : Tw q0 N0) (hn : q0.length = n) (hr : Res w (rs ++ N0)) (hl : n ≤ 1954687338211) (hp : inK .i64 parts) (part : Int) (hpt : inK .i64 part) (key : List UInt8) (hkl : key.length ≤ 140737488351232) (cut : List UInt8) (hcl : cut.length ≤ 140737488351232) : Calls Try.prog 19 [.agg [.int .i64 parts, .slice a n c].toArray, .int .i64 part, .string (str key), .string (str cut)].toArray w (Rt fun r w' => r = .bool true ∧ ∃ qs NS, Tw qs NS ∧ SlS prC 5 71 (.slice a (n + 1) c) (qs ++ [pm]) rs ∧ qs.length = n ∧ Mem w (ids (rs ++ N0)) w' [rs, NS]) := by
  have hM0 : Mem w (ids (rs ++ N0)) w [rs, N0] := (Mem.start hr).keep (by simp)
  simp only [inK] at hp hpt
  have hz0 := sl_less hs0 hn
  refine calls_vc mixed Try.func19 rfl C19 (by simp [Try.ntmps19]) ?_
  refine seq fun K1 h1 => ?_
  refine m_bx (v := .agg ([.int .i64 parts, (.slice a n c)] : List Value).toArray) hM0 rfl rfl fun b2 w3 (hM3 : Mem w (ids (rs ++ N0)) w3 [rs, N0, [⟨b2, 24, [.int .i64 parts, (.slice a n c)]⟩]]) => ?_
  refine stp (v := .bool false) (o_mv rfl) ?_
  refine h1 _ _ ?_
  clear h1
  refine seq fun K4 h4 => ?_
  refine seq fun K5 h5 => ?_
  refine stp (v := .int .i64 0) (o_mv rfl) ?_
  refine h5 _ _ ?_
  clear h5
  refine lp (n := fun _ _ => False) (ι := (Nat) × (List Pr) × (List Ent)) (fun ⟨i, qs, NS⟩ f w' => f 9 = .int .i64 (i : Nat) ∧ f 1 = .int .i64 part ∧ f 2 = .string (str key) ∧ f 3 = .string (str cut) ∧ f 4 = .pointer (some ⟨b2, 0, none⟩) ∧ Mem w (ids (rs ++ N0)) w' [rs, NS, [⟨b2, 24, [.int .i64 parts, (.slice a n c)]⟩]] ∧ (i ≤ n) ∧ (Tw qs NS) ∧ (qs.length = n) ∧ (SlS prC 5 71 (.slice a (n + 1) c) (qs ++ [pm]) rs) ∧ (SlS prC 5 71 (.slice a n c) qs rs) ∧ (∀ m, m < i → ∀ j, j < (qs.getD m pz).bl.length → ((qs.getD m pz).bl.getD j bz).cut = cut)) (fun ⟨i, qs, NS⟩ => n - i) (0, q0, N0) ?_ ?_
  · exact ⟨by first | rfl | exact v_int (by omega) | exact v_int (by simp) | exact v_int (by simp; omega), by first | rfl | exact v_int (by omega) | exact v_int (by simp) | exact v_int (by simp; omega), by first | rfl | simp [upd], by first | rfl | simp [upd], rfl, hM3, by omega, hT0, hn, hs0, hz0, fun m hm => by omega⟩
  · rintro ⟨i, qs, NS⟩ f w6 ⟨e6_9, e6_1, e6_2, e6_3, e6_4, hM6, hi, hT, hql, hsf, hs, hc⟩ K7 h7
    obtain ⟨frm, rfl⟩ : ∃ frm, f = (upd (upd (upd (upd (upd frm 9 (.int .i64 (i : Nat))) 1 (.int .i64 part)) 2 (.string (str key))) 3 (.string (str cut))) 4 (.pointer (some ⟨b2, 0, none⟩))) := ⟨f, by rw [upd_self e6_9, upd_self e6_1, upd_self e6_2, upd_self e6_3, upd_self e6_4]⟩
    clear e6_9 e6_1 e6_2 e6_3 e6_4
    refine seq fun K8 h8 => ?_
    refine seq fun K9 h9 => ?_
    refine stp (v := .int .i64 (i : Nat)) (o_mv rfl) ?_
    refine stp (v := .pointer (some ⟨b2, 1, none⟩)) (o_fa rfl rfl) ?_
    refine m_ld (v := (.slice a n c)) hM6 (i := 2) (j := 0) rfl rfl rfl rfl ?_
    refine stp (v := .int .i64 (qs.length : Nat)) (o_lenR (hs.rd hM6 (i := 0) rfl) rfl rfl) ?_
    refine stp (v := .bool (decide (((i : Nat) : Int) < (qs.length : Nat)))) (o_bin rfl rfl rfl) ?_
    refine h9 _ _ ?_
    clear h9
    refine cndP rfl (fun c10 => ?_) (fun c10 => ?_)
    ·
      refine h8 _ _ ?_
      clear h8
      refine seq fun K11 h11 => ?_
      refine seq fun K12 h12 => ?_
      refine stp (v := .int .i64 0) (o_mv rfl) ?_
      refine h12 _ _ ?_
      clear h12
      refine lp (n := fun _ _ => False) (ι := (Nat) × (List Pr) × (List Ent)) (fun ⟨k, qs, NS⟩ f w' => f 10 = .int .i64 (k : Nat) ∧ f 1 = .int .i64 part ∧ f 2 = .string (str key) ∧ f 3 = .string (str cut) ∧ f 4 = .pointer (some ⟨b2, 0, none⟩) ∧ f 9 = .int .i64 (i : Nat) ∧ Mem w (ids (rs ++ N0)) w' [rs, NS, [⟨b2, 24, [.int .i64 parts, (.slice a n c)]⟩]] ∧ (Tw qs NS) ∧ (qs.length = n) ∧ (k ≤ (qs.getD i pz).bl.length) ∧ (SlS prC 5 71 (.slice a (n + 1) c) (qs ++ [pm]) rs) ∧ (SlS prC 5 71 (.slice a n c) qs rs) ∧ (∀ m, m < i → ∀ j, j < (qs.getD m pz).bl.length → ((qs.getD m pz).bl.getD j bz).cut = cut) ∧ (∀ j, j < k → ((qs.getD i pz).bl.getD j bz).cut = cut)) (fun ⟨k, qs, NS⟩ => (qs.getD i pz).bl.length - k) (0, qs, NS) ?_ ?_
      · exact ⟨by first | rfl | exact v_int (by omega) | exact v_int (by simp) | exact v_int (by simp; omega), by first | rfl | exact v_int (by omega) | exact v_int (by simp) | exact v_int (by simp; omega), by first | rfl | simp [upd], by first | rfl | simp [upd], rfl, by first | rfl | exact v_int (by omega) | exact v_int (by simp) | exact v_int (by simp; omega), hM6, hT, hql, by omega, hsf, hs, hc, fun j hj => by omega⟩
      · rintro ⟨k, qs, NS⟩ f w13 ⟨e13_10, e13_1, e13_2, e13_3, e13_4, e13_9, hM13, hT, hql, hk, hsf, hs, hc, hck⟩ K14 h14
        obtain ⟨frm, rfl⟩ : ∃ frm, f = (upd (upd (upd (upd (upd (upd frm 10 (.int .i64 (k : Nat))) 1 (.int .i64 part)) 2 (.string (str key))) 3 (.string (str cut))) 4 (.pointer (some ⟨b2, 0, none⟩))) 9 (.int .i64 (i : Nat))) := ⟨f, by rw [upd_self e13_10, upd_self e13_1, upd_self e13_2, upd_self e13_3, upd_self e13_4, upd_self e13_9]⟩
        clear e13_10 e13_1 e13_2 e13_3 e13_4 e13_9
        refine seq fun K15 h15 => ?_
        refine seq fun K16 h16 => ?_
        refine stp (v := .int .i64 (k : Nat)) (o_mv rfl) ?_
        refine stp (v := .pointer (some ⟨b2, 1, none⟩)) (o_fa rfl rfl) ?_
        refine m_ld (v := (.slice a n c)) hM13 (i := 2) (j := 0) rfl rfl rfl rfl ?_
        refine stp (v := .int .i64 (i : Nat)) (o_mv rfl) ?_
        refine m_idxS pz (j := i) (hs.rd hM13 (i := 0) rfl) rfl rfl (by omega) fun b17 o17 hp17 => ?_
        refine stp (v := .pointer (some ⟨b17, o17 + 1, none⟩)) (o_fa rfl rfl) ?_
        refine ld (v := (qs.getD i pz).bv) rfl (hp17.get 1 rfl) ?_
        refine stp (v := .int .i64 (((qs.getD i pz).bl).length : Nat)) (o_lenR (((fun p hp => (hT.tk (hM13.res (i := 1) rfl).1 p hp).ok) _ (getD_memG pz (by omega))).rb) rfl rfl) ?_
        refine stp (v := .bool (decide (((k : Nat) : Int) < (((qs.getD i pz).bl).length : Nat)))) (o_bin rfl rfl rfl) ?_
        refine h16 _ _ ?_
        clear h16
        refine cndP rfl (fun c18 => ?_) (fun c18 => ?_)
        ·
          refine h15 _ _ ?_
          clear h15
          refine seq fun K19 h19 => ?_
          show vr _ _ _ _ _
          refine stp (v := .pointer (some ⟨b2, 1, none⟩)) (o_fa rfl rfl) ?_
          have hTok := hT.tk (hM13.res (i := 1) rfl).1
          have hlb := (hTok _ (getD_memG pz (l := qs) (i := i) (by omega))).ok.lb
          have hbk := (hTok _ (getD_memG pz (l := qs) (i := i) (by omega))).ok.kb _ (getD_memG bz (l := (qs.getD i pz).bl) (i := k) (by omega))
          refine m_ld (v := (.slice a n c)) hM13 (i := 2) (j := 0) rfl rfl rfl rfl ?_
          refine stp (v := .int .i64 (i : Nat)) (o_mv rfl) ?_
          refine m_idxS pz (j := i) (hs.rd hM13 (i := 0) rfl) rfl rfl (by omega) fun b20 o20 hp20 => ?_
          refine stp (v := .pointer (some ⟨b20, o20 + 1, none⟩)) (o_fa rfl rfl) ?_
          refine ld (v := (qs.getD i pz).bv) rfl (hp20.get 1 rfl) ?_
          refine stp (v := .int .i64 (k : Nat)) (o_mv rfl) ?_
          refine stp (v := .string (str cut)) (o_mv rfl) ?_
          obtain ⟨A, B, rd, rb, hNS, hTp, hup⟩ := hT.at (i := i) (by omega)
          subst hNS
          have hM21 : Mem w (ids (rs ++ N0)) w13 [rs, (A ++ B), [⟨b2, 24, [.int .i64 parts, (.slice a n c)]⟩], rb] := hM13.part (i := 1) rfl
          have hsb := SlS.cut hTp.sb (qs.getD i pz).bl.length (by simp)
          rw [List.take_left' rfl, ← hTp.nb] at hsb
          refine m_setF (enc := biC) bz (q := (⟨(((qs.getD i pz).bl).getD k bz).st, (((qs.getD i pz).bl).getD k bz).ra, (((qs.getD i pz).bl).getD k bz).ct, cut⟩ : Bi)) (j := k) (val := .string (str cut)) hM21 (i := 3) rfl hsb rfl rfl (by omega) (by omega) (by simp) (by simp) rfl rfl (rfl) fun w22 r22 u22 x22 he22 hs22 (hM22 : Mem w (ids (rs ++ N0)) w22 [rs, (A ++ B), [⟨b2, 24, [.int .i64 parts, (.slice a n c)]⟩], r22]) => ?_
          refine h19 _ _ ?_
          clear h19
          refine stp (v := .int .i64 (k : Nat)) (o_mv rfl) ?_
          refine stp (v := .int .i64 ((k : Nat) + 1)) (o_bin rfl rfl (v_add64 (by constructor <;> omega))) ?_
          refine stp (v := .int .i64 ((k : Nat) + 1)) (o_mv rfl) ?_
          refine h14 (k + 1, (qs.set i (setB (qs.getD i pz) ((qs.getD i pz).bl.set k (⟨((qs.getD i pz).bl.getD k bz).st, ((qs.getD i pz).bl.getD k bz).ra, ((qs.getD i pz).bl.getD k bz).ct, cut⟩ : Bi)))), A ++ (r22 ++ B)) _ _ ⟨by first | rfl | exact v_int (by omega) | exact v_int (by simp) | exact v_int (by simp; omega), by first | rfl | exact v_int (by omega) | exact v_int (by simp) | exact v_int (by simp; omega), by first | rfl | simp [upd], by first | rfl | simp [upd], rfl, by first | rfl | exact v_int (by omega) | exact v_int (by simp) | exact v_int (by simp; omega), Mem.join4 hM22, hup _ _ (hTp.setB ⟨hbk.1, hbk.2.1, hbk.2.2.1, hcl⟩ he22), by rw [List.length_set]; exact hql, by rw [getP_set (by omega)]; show k + 1 ≤ ((qs.getD i pz).bl.set k (⟨((qs.getD i pz).bl.getD k bz).st, ((qs.getD i pz).bl.getD k bz).ra, ((qs.getD i pz).bl.getD k bz).ct, cut⟩ : Bi)).length; rw [List.length_set]; omega, sl_same hsf (by simp) (fm_sameE rfl), sl_same hs (by simp) (fm_same rfl), fun m hm j hj => by
            rw [getP_ne (by omega)] at hj ⊢
            exact hc m hm j hj, fun j hj => by
            rw [getP_set (by omega)]
            show (((qs.getD i pz).bl.set k (⟨((qs.getD i pz).bl.getD k bz).st, ((qs.getD i pz).bl.getD k bz).ra, ((qs.getD i pz).bl.getD k bz).ct, cut⟩ : Bi)).getD j bz).cut = cut
            by_cases e : j = k
            · subst e; rw [getB_set (by omega)]
            · rw [getB_ne e]; exact hck j (by omega)⟩ (by (try dsimp only); rw [getP_set (by omega)]; show ((qs.getD i pz).bl.set k (⟨((qs.getD i pz).bl.getD k bz).st, ((qs.getD i pz).bl.getD k bz).ra, ((qs.getD i pz).bl.getD k bz).ct, cut⟩ : Bi)).length - (k + 1) < _; rw [List.length_set]; omega)
        ·
          refine h11 _ _ ?_
          clear h11
          refine stp (v := .int .i64 (i : Nat)) (o_mv rfl) ?_
          refine stp (v := .int .i64 ((i : Nat) + 1)) (o_bin rfl rfl (v_add64 (by constructor <;> omega))) ?_
          refine stp (v := .int .i64 ((i : Nat) + 1)) (o_mv rfl) ?_
          refine h7 (i + 1, qs, NS) _ _ ⟨by first | rfl | exact v_int (by omega) | exact v_int (by simp) | exact v_int (by simp; omega), by first | rfl | exact v_int (by omega) | exact v_int (by simp) | exact v_int (by simp; omega), by first | rfl | simp [upd], by first | rfl | simp [upd], rfl, hM13, by omega, hT, hql, hsf, hs, fun m hm j hj => by
            by_cases e : m = i
            · subst e; exact hck j (by omega)
            · exact hc m (by omega) j hj⟩ (by (try dsimp only); omega)
    ·
      refine h4 _ _ ?_
      clear h4
      refine seq fun K23 h23 => ?_
      have hsr : ∀ p ∈ qs, Srt p.bl := fun p hp => by
        obtain ⟨m, hm, rfl⟩ := mem_get hp
        exact srt_all (hc m (by omega))
      refine m_ldA (l := [.int .i64 parts, (.slice a n c)]) hM6 (i := 2) (j := 0) rfl rfl rfl rfl rfl ?_
      refine m_call (twin_ok parts _ qs w6 (hs.rd hM6 (i := 0) rfl) (fun p hp => (hT.tk (hM6.res (i := 1) rfl).1 p hp).ok) (by omega) (by simp only [inK]; omega)) rfl fun v24 w24 ⟨a24, c24, qs24, rs24, NS24, hr24, hs24, hT24, hq24, hm24⟩ => ?_
      have hM24 : Mem w (ids (rs ++ N0)) w24 [rs, NS, [⟨b2, 24, [.int .i64 parts, (.slice a n c)]⟩], rs24, NS24] := hM6.add2 hm24
      subst hr24
      have hll24 : qs24.length = qs.length := by simpa using congrArg List.length hq24
      have hz24 := sl_less hs24 hll24
      refine m_al hM24 fun b25 w26 (hM26 : Mem w (ids (rs ++ N0)) w26 [rs, NS, [⟨b2, 24, [.int .i64 parts, (.slice a n c)]⟩], rs24, NS24, [⟨b25, 24, [.int .i64 0, .slice none 0 0]⟩]]) => ?_
      refine m_stA (l := [.int .i64 parts, (.slice a24 qs.length c24)]) hM26 (i := 5) rfl rfl rfl rfl (by simp [oneCells, Value.oneCell', byteV]) (by simp) fun w27 (hM27 : Mem w (ids (rs ++ N0)) w27 [rs, NS, [⟨b2, 24, [.int .i64 parts, (.slice a n c)]⟩], rs24, NS24, [⟨b25, 24, [.int .i64 parts, (.slice a24 qs.length c24)]⟩]]) => ?_
      refine h23 _ _ ?_
      clear h23
      refine seq fun K28 h28 => ?_
      refine m_ldA (l := [.int .i64 parts, (.slice a n c)]) hM27 (i := 2) (j := 0) rfl rfl rfl rfl rfl ?_
      refine stp (v := .int .i64 part) (o_mv rfl) ?_
      refine stp (v := .string (str key)) (o_mv rfl) ?_
      refine m_call (Find_ok parts _ qs w27 (hs.rd hM27 (i := 0) rfl) (fun p hp => (hT.tk (hM27.res (i := 1) rfl).1 p hp).ok) (by omega) (by simp only [inK]; omega) part (by simp only [inK]; omega) key (by omega) hsr) rfl fun v29 w29 ⟨iF, kF, hr29, hfF, hu29⟩ => ?_
      have hM29 : Mem w (ids (rs ++ N0)) w29 [rs, NS, [⟨b2, 24, [.int .i64 parts, (.slice a n c)]⟩], rs24, NS24, [⟨b25, 24, [.int .i64 parts, (.slice a24 qs.length c24)]⟩]] := hM27.pure hu29
      subst hr29
      refine stp (v := .tuple [.int .i64 iF, .int .i64 kF].toArray) (o_mv rfl) ?_
      refine stp (v := .int .i64 iF) (o_ext rfl rfl) ?_
      refine stp (v := .int .i64 kF) (o_ext rfl rfl) ?_
      refine stp (v := .int .i64 iF) (o_mv rfl) ?_
      refine stp (v := .int .i64 kF) (o_mv rfl) ?_
      refine h28 _ _ ?_
      clear h28
      refine seq fun K30 h30 => ?_
      refine m_ldA (l := [.int .i64 parts, (.slice a24 qs.length c24)]) hM29 (i := 5) (j := 0) rfl rfl rfl rfl rfl ?_
      refine stp (v := .int .i64 part) (o_mv rfl) ?_
      refine stp (v := .string (str key)) (o_mv rfl) ?_
      refine m_call (refFind_ok parts _ qs24 w29 (hz24.rd hM29 (i := 3) rfl) (fun p hp => (hT24.tk (hM29.res (i := 4) rfl).1 p hp).ok) (by omega) (by simp only [inK]; omega) part (by simp only [inK]; omega) key (by omega) (srt_map hq24 hsr)) rfl fun v31 w31 ⟨i31, k31, hr31, hf31, hu31⟩ => ?_
      have hM31 : Mem w (ids (rs ++ N0)) w31 [rs, NS, [⟨b2, 24, [.int .i64 parts, (.slice a n c)]⟩], rs24, NS24, [⟨b25, 24, [.int .i64 parts, (.slice a24 qs.length c24)]⟩]] := hM29.pure hu31
      obtain ⟨e131, e231⟩ := findS_one hq24 hf31 hfF
      rw [e131, e231] at hr31
      subst hr31
      refine stp (v := .tuple [.int .i64 iF, .int .i64 kF].toArray) (o_mv rfl) ?_
      refine stp (v := .int .i64 iF) (o_ext rfl rfl) ?_
      refine stp (v := .int .i64 kF) (o_ext rfl rfl) ?_
      refine stp (v := .int .i64 iF) (o_mv rfl) ?_
      refine stp (v := .int .i64 kF) (o_mv rfl) ?_
      refine h30 _ _ ?_
      clear h30
      refine seq fun K32 h32 => ?_
      refine stp (v := .int .i64 iF) (o_mv rfl) ?_
      refine stp (v := .int .i64 iF) (o_mv rfl) ?_
      refine stp (v := .bool true) (o_bin rfl rfl v_eqT) ?_
      refine stp (v := .bool true) (o_mv rfl) ?_
      refine splitT rfl ?_
      refine stg rfl (v := .int .i64 kF) (o_mv rfl) ?_
      refine stg rfl (v := .int .i64 kF) (o_mv rfl) ?_
      refine stg rfl (v := .bool true) (o_bin rfl rfl v_eqT) ?_
      refine stp (v := .bool true) (o_pickT rfl rfl) ?_
      refine stp (v := .bool true) (o_mv rfl) ?_
      refine splitT rfl ?_
      refine gyesl rfl ?_
      refine m_ldA (l := [.int .i64 parts, (.slice a n c)]) hM31 (i := 2) (j := 0) rfl rfl rfl rfl rfl ?_
      refine gyesl rfl ?_
      refine m_ldA (l := [.int .i64 parts, (.slice a24 qs.length c24)]) hM31 (i := 5) (j := 0) rfl rfl rfl rfl rfl ?_
      refine gyesl rfl ?_
      refine m_call (sameFoot_eq parts _ _ qs qs24 w31 (hs.rd hM31 (i := 0) rfl) (fun p hp => (hT.tk (hM31.res (i := 1) rfl).1 p hp).ok) (hz24.rd hM31 (i := 3) rfl) (fun p hp => (hT24.tk (hM31.res (i := 4) rfl).1 p hp).ok) (by omega) hq24.symm) rfl fun v33 w33 ⟨hr33, hu33⟩ => ?_
      have hM33 : Mem w (ids (rs ++ N0)) w33 [rs, NS, [⟨b2, 24, [.int .i64 parts, (.slice a n c)]⟩], rs24, NS24, [⟨b25, 24, [.int .i64 parts, (.slice a24 qs.length c24)]⟩]] := hM31.pure hu33
      subst hr33
      refine stp (v := .bool true) (o_pickT rfl rfl) ?_
      refine stp (v := .bool true) (o_mv rfl) ?_
      refine h32 _ _ ?_
      clear h32
      refine ⟨(.bool true), rfl, ?_⟩
      exact ⟨rfl, qs, NS, hT, hsf, hql, (((hM33.drop 2).drop 3).drop 4).keep (by simp)⟩
