/- Footers as bytes: the reference's body. -/
import Derived.Test.YthhmhmnhbababaaD7
import Derived.Test.YthhmhmnhbababaaE23
namespace Go.Proofs.Ythhmhmnhbababaa.E
open Go
theorem fk_empty {a : Bool} {h : Int} {d : List UInt8} (k : ¬ fk a h d = 0) (hd : d.length = 0) : fk a h d = if a then 1 else 2 := by
 unfold fk at k ⊢
 split at k
 ·rename_i c; rw [if_pos c]
 split at k
 ·omega
 omega
theorem fk_full {a : Bool} {h : Int} {d : List UInt8} (k : ¬ fk a h d = 0) (hd : ¬ d.length = 0) : fk a h d = 3 := by
 unfold fk at k ⊢
 split at k
 ·omega
 split at k
 ·rename_i c1 c2; rw [if_neg c1, if_pos c2]
 omega
theorem fk_true {h : Int} {d : List UInt8} (k : ¬ fk true h d = 0) : fk true h d = 1 := by
 unfold fk at k ⊢
 split
 ·rfl
 rename_i c; rw [if_neg c, if_neg (fun k => by cases k.1)] at k; exact absurd rfl k
theorem putAll_1 (n : Int) : putAll [n] = putI n := by simp [putAll]
theorem putAll_2 (m n : Int) : putAll [m, n] = putI m ++ putI n := by simp [putAll]
theorem putAll_5 (a b c d e : Int) : putAll [a, b, c, d, e] = putI a ++ (putI b ++ (putI c ++ (putI d ++ putI e))) := by simp [putAll]
theorem refFEncode_ok (a : Bool) (h : Int) (v : Value) (d : List UInt8) (w : World) (hx : RdE byteV w v d) (hl : d.length ≤ 140737488351232) : Calls Try.prog 80 [.agg [.bool a, .int .i64 h, v].toArray].toArray w (Rt fun r w' => ∃ v' rs, r = .tuple #[v', .int .i64 (encF a h d).2] ∧ SlE byteV 5 v' (encF a h d).1 rs ∧ Mem w [] w' [rs]) := by
 have hM0 : Mem w [] w [] := Mem.nil w []
 refine calls_vc mixed Try.func80 rfl C80 (by simp [Try.ntmps80]) <| seq fun _ h1 => m_bx (v := .agg ([.bool a, .int .i64 h, v] : List Value).toArray) hM0 rfl rfl fun b2 w3 (hM3 : Mem w [] w3 [[⟨b2, 69, [.bool a, .int .i64 h, v]⟩]]) => mv <| mv <| h1 _ _ <| seq fun _ h4 => m_ldA (l := [.bool a, .int .i64 h, v]) hM3 (i := 0) (j := 0) rfl rfl rfl rfl rfl <| m_call (refCheck_ok a h _ d w3 (hx.upd hM3.upd) (by first | omega | (simp; done) | (simp; omega))) rfl fun v5 w5 ⟨hr5, hu5⟩ => ?_
 have hM5 : Mem w [] w5 [[⟨b2, 69, [.bool a, .int .i64 h, v]⟩]] := hM3.pure hu5
 subst hr5
 refine mv <| h4 _ _ <| seq fun _ h6 => seq fun _ h7 => mv <| bneq rfl rfl <| h7 _ _ <| cndP rfl (fun c8 => ?_) (fun c8 => ?_)
 ·refine seq fun _ h9 => mv <| mv <| mv <| h9 _ _ <| ⟨(.tuple [.slice none 0 0, .int .i64 (chk a h d)].toArray), rfl, ?_⟩
  have kf := (chk_ne (a := a) (h := h) (d := d) (by omega))
  exact ⟨_, _, by rw [encF_0 (by omega) (by omega) (by omega), chk_70 kf], by rw [encF_0 (by omega) (by omega) (by omega)]; exact Sl.nil 1 5, ((hM5.drop 0).addNil).keep (by simp)⟩
 refine h6 _ _ <| seq fun _ h10 => seq fun _ h11 => fa rfl <| m_ld (v := .bool a) hM5 (i := 0) (j := 0) rfl rfl rfl rfl <| h11 _ _ <| cnd rfl (fun c12 => ?_) (fun c12 => ?_)
 ·refine seq fun _ h13 => m_bs hM5 rfl fun b14 w15 (hM15 : Mem w [] w15 [[⟨b2, 69, [.bool a, .int .i64 h, v]⟩], [⟨b14, 5, [.int .u8 255]⟩]]) => mv <| mv <| h13 _ _ <| ⟨(.tuple [.slice (some ⟨b14, 0, none⟩) 1 1, .int .i64 0].toArray), rfl, ?_⟩
  have kf := (by subst c12; exact fk_true (chk_fk (a := true) (h := h) (d := d) (by omega)) : fk a h d = 1)
  exact ⟨_, _, by rw [encF_1 kf], by rw [encF_1 kf]; exact SlE.lit (l := [255]) rfl, (hM15.drop 0).keep (by simp [byteV])⟩
 refine h10 _ _ <| seq fun _ h16 => seq fun _ h17 => fa rfl <| m_ld (v := v) hM5 (i := 0) (j := 0) rfl rfl rfl rfl <| stp (v := .int .i64 (d.length : Nat)) (o_lenR (hx.upd hM5.upd) rfl rfl) <| bn rfl rfl <| h17 _ _ <| cndP rfl (fun c18 => ?_) (fun c18 => ?_)
 ·refine seq fun _ h19 => m_bs hM5 rfl fun b20 w21 (hM21 : Mem w [] w21 [[⟨b2, 69, [.bool a, .int .i64 h, v]⟩], [⟨b20, 5, [.int .u8 0]⟩]]) => mv <| mv <| h19 _ _ <| ⟨(.tuple [.slice (some ⟨b20, 0, none⟩) 1 1, .int .i64 0].toArray), rfl, ?_⟩
  have kf := (by rw [fk_empty (chk_fk (a := a) (h := h) (d := d) (by omega)) (by omega)]; simp_all : fk a h d = 2)
  exact ⟨_, _, by rw [encF_2 kf], by rw [encF_2 kf]; exact SlE.lit (l := [0]) rfl, (hM21.drop 0).keep (by simp [byteV])⟩
 refine h16 _ _ <| seq fun _ h22 => ?_
 intro wd e1 e2 e3 e4
 have hd := Upd.same e1 e2 e3 e4 []
 have hM23 := hM5.pure hd
 clear e1 e2 e3 e4
 refine ⟨(some [b2]), ?_⟩
 show vd _ _ _ _ _ _ _
 have h3f := fk_full (chk_fk (a := a) (h := h) (d := d) (by omega)) (by omega)
 have h3 := fk3 h3f
 refine dfa rfl <| dfa rfl <| dqld rfl (by simp [isHeld]) (v := v) ((hM23.at (i := 0) (j := 0) rfl rfl).cell 2) <| dq (v := .int .i64 (d.length : Nat)) (o_lenR (hx.upd hM23.upd) rfl rfl) <| dqld rfl (by simp [isHeld]) (v := .int .i64 h) ((hM23.at (i := 0) (j := 0) rfl rfl).cell 1) <| dq (v := byteV h.toNat.toUInt8) (o_conv rfl (conv_h (by omega) (by omega))) ?_
 show _ ∧ _
 refine ⟨?_, ?_⟩
 ·show vd _ _ _ _ _ _ _
  refine dl (m_bsU hM23 rfl fun b24 w25 hup25 (hM25 : Mem w [] w25 [[⟨b2, 69, [.bool a, .int .i64 h, v]⟩], [⟨b24, 5, [byteV h.toNat.toUInt8]⟩]]) => ?_)
  have hh25 := held_upd (wr := wd) (bs := [b2]) hup25 (fun b hb => by
   simp only [List.mem_cons, List.not_mem_nil, or_false] at hb
   rw [hb]; exact ⟨(hM23.at (i := 0) (j := 0) rfl rfl).lt, by simp⟩) (fun b hb => rfl)
  refine ⟨hh25, dl (m_call (refPut_ok (d.length : Nat) (by simp only [inK]; omega) w25) rfl fun v26 w26 ⟨rs26, hs26, hm26⟩ => ?_)⟩
  have hM26 : Mem w [] w26 [[⟨b2, 69, [.bool a, .int .i64 h, v]⟩], [⟨b24, 5, [byteV h.toNat.toUInt8]⟩], rs26] := hM25.add hm26
  have hn26 := putI_len (v := (d.length : Nat)) (by omega)
  have hh26 := held_upd (wr := wd) (bs := [b2]) hm26.upd (fun b hb => by
   simp only [List.mem_cons, List.not_mem_nil, or_false] at hb
   rw [hb]; exact ⟨(hM25.at (i := 0) (j := 0) rfl rfl).lt, by simp⟩) hh25
  refine ⟨hh26, ?_⟩
  have hs27 : SlE byteV 5 (.slice (some ⟨b24, 0, none⟩) 1 1) [h.toNat.toUInt8] [⟨b24, 5, [byteV h.toNat.toUInt8]⟩] := SlE.lit (l := [h.toNat.toUInt8]) rfl
  refine dl (m_appEU hM26 (i := 1) rfl hs27 rfl rfl (hs26.rd hM26 (i := 2) rfl) (by first | omega | (simp; omega)) (by omega) fun v28 w28 r28 (hs28 : SlE byteV 5 v28 (([h.toNat.toUInt8]) ++ (putI (d.length : Nat))) r28) hup28 (hM28 : Mem w [] w28 [[⟨b2, 69, [.bool a, .int .i64 h, v]⟩], r28, rs26]) => ?_)
  have hh28 := held_upd (wr := wd) (bs := [b2]) hup28 (fun b hb => by
   simp only [List.mem_cons, List.not_mem_nil, or_false] at hb
   rw [hb]; exact ⟨(hM26.at (i := 0) (j := 0) rfl rfl).lt, hM26.apart (i := 0) (j := 0) (k := 1) rfl rfl rfl (by decide)⟩) hh26
  refine ⟨hh28, dmv <| h22 _ _ <| seq fun _ h29 => mv <| fa rfl <| m_ld (v := v) hM28 (i := 0) (j := 0) rfl rfl rfl rfl <| m_appE hM28 (i := 1) rfl hs28 rfl rfl (hx.upd hM28.upd) (by first | omega | (simp; omega)) (by omega) fun v30 w30 r30 (hs30 : SlE byteV 5 v30 ((([h.toNat.toUInt8]) ++ (putI (d.length : Nat))) ++ d) r30) (hM30 : Mem w [] w30 [[⟨b2, 69, [.bool a, .int .i64 h, v]⟩], r30, rs26]) => mv <| mv <| h29 _ _ <| ⟨(.tuple [v30, .int .i64 0].toArray), rfl, ⟨_, _, by rw [encF_3 h3f], by rw [encF_3 h3f]; simpa using hs30, (hM30.drop 0).keep (by simp)⟩⟩⟩
 show vd _ _ _ _ _ _ _
 refine dl (m_call (refPut_ok (d.length : Nat) (by simp only [inK]; omega) wd) rfl fun v31 w31 ⟨rs31, hs31, hm31⟩ => ?_)
 have hM31 : Mem w [] w31 [[⟨b2, 69, [.bool a, .int .i64 h, v]⟩], rs31] := hM23.add hm31
 have hn31 := putI_len (v := (d.length : Nat)) (by omega)
 have hh31 := held_upd (wr := wd) (bs := [b2]) hm31.upd (fun b hb => by
  simp only [List.mem_cons, List.not_mem_nil, or_false] at hb
  rw [hb]; exact ⟨(hM23.at (i := 0) (j := 0) rfl rfl).lt, by simp⟩) (fun b hb => rfl)
 refine ⟨hh31, dl (m_bsU hM31 rfl fun b32 w33 hup33 (hM33 : Mem w [] w33 [[⟨b2, 69, [.bool a, .int .i64 h, v]⟩], rs31, [⟨b32, 5, [byteV h.toNat.toUInt8]⟩]]) => ?_)⟩
 have hh33 := held_upd (wr := wd) (bs := [b2]) hup33 (fun b hb => by
  simp only [List.mem_cons, List.not_mem_nil, or_false] at hb
  rw [hb]; exact ⟨(hM31.at (i := 0) (j := 0) rfl rfl).lt, by simp⟩) hh31
 refine ⟨hh33, ?_⟩
 have hs34 : SlE byteV 5 (.slice (some ⟨b32, 0, none⟩) 1 1) [h.toNat.toUInt8] [⟨b32, 5, [byteV h.toNat.toUInt8]⟩] := SlE.lit (l := [h.toNat.toUInt8]) rfl
 refine dl (m_appEU hM33 (i := 2) rfl hs34 rfl rfl (hs31.rd hM33 (i := 1) rfl) (by first | omega | (simp; omega)) (by omega) fun v35 w35 r35 (hs35 : SlE byteV 5 v35 (([h.toNat.toUInt8]) ++ (putI (d.length : Nat))) r35) hup35 (hM35 : Mem w [] w35 [[⟨b2, 69, [.bool a, .int .i64 h, v]⟩], rs31, r35]) => ?_)
 have hh35 := held_upd (wr := wd) (bs := [b2]) hup35 (fun b hb => by
  simp only [List.mem_cons, List.not_mem_nil, or_false] at hb
  rw [hb]; exact ⟨(hM33.at (i := 0) (j := 0) rfl rfl).lt, hM33.apart (i := 0) (j := 0) (k := 2) rfl rfl rfl (by decide)⟩) hh33
 refine ⟨hh35, dmv <| h22 _ _ <| seq fun _ h36 => mv <| fa rfl <| m_ld (v := v) hM35 (i := 0) (j := 0) rfl rfl rfl rfl <| m_appE hM35 (i := 2) rfl hs35 rfl rfl (hx.upd hM35.upd) (by first | omega | (simp; omega)) (by omega) fun v37 w37 r37 (hs37 : SlE byteV 5 v37 ((([h.toNat.toUInt8]) ++ (putI (d.length : Nat))) ++ d) r37) (hM37 : Mem w [] w37 [[⟨b2, 69, [.bool a, .int .i64 h, v]⟩], rs31, r37]) => mv <| mv <| h36 _ _ <| ⟨(.tuple [v37, .int .i64 0].toArray), rfl, ⟨_, _, by rw [encF_3 h3f], by rw [encF_3 h3f]; simpa using hs37, (hM37.drop 0).keep (by simp)⟩⟩⟩
theorem refnum_ok (v : Value) (L : List UInt8) (rb : List Ent) (n : Int) (w : World) (hs : SlE byteV 5 v L rb) (hr : Res w rb) (hn : inK .i64 n) (hl : L.length ≤ 140737488351232) : Calls Try.prog 79 [v, .int .i64 n].toArray w (Rt fun r w' => ∃ rb', SlE byteV 5 r (L ++ putI n) rb' ∧ Mem w (ids rb) w' [rb']) := by
 have hM0 : Mem w (ids rb) w [rb] := Mem.start hr
 simp only [inK] at hn
 refine calls_vc mixed Try.func79 rfl C79 (by simp [Try.ntmps79]) <| seq fun _ h1 => mv <| h1 _ _ <| seq fun _ h2 => mv <| m_call (refPut_ok n (by simp only [inK]; omega) w) rfl fun v3 w3 ⟨rs3, hs3, hm3⟩ => ?_
 have hM3 : Mem w (ids rb) w3 [rb, rs3] := hM0.add hm3
 have hn3 := putI_len (v := n) (by omega)
 refine mv <| h2 _ _ <| seq fun _ h4 => mv <| mv <| m_appE hM3 (i := 0) rfl hs rfl rfl (hs3.rd hM3 (i := 1) rfl) (by first | omega | (simp; omega)) (by omega) fun v5 w5 r5 (hs5 : SlE byteV 5 v5 (L ++ (putI n)) r5) (hM5 : Mem w (ids rb) w5 [r5, rs3]) => mv <| h4 _ _ <| seq fun _ h6 => mv <| mv <| h6 _ _ <| ⟨v5, rfl, ⟨_, hs5, (hM5.drop 1).keep (by simp)⟩⟩
theorem refSpace_ok (parts : Int) (x : Value) (ps : List Pr) (w : World) (hx : RdS prC w x ps) (hok : ∀ p ∈ ps, p.ok w) (hl : ps.length ≤ 1954687338211) (hp : inK .i64 parts) (hft : ftOk parts (ps.map Pr.p)) : Calls Try.prog 60 [.agg [.int .i64 parts, x].toArray].toArray w (Rt fun r w' => r = .int .i64 (spaceF (ps.map Pr.p)) ∧ Upd [] w w') := by
 have hM0 : Mem w [] w [] := Mem.nil w []
 refine calls_vc mixed Try.func60 rfl C60 (by simp [Try.ntmps60]) <| seq fun _ h1 => m_bx (v := .agg ([.int .i64 parts, x] : List Value).toArray) hM0 rfl rfl fun b2 w3 (hM3 : Mem w [] w3 [[⟨b2, 24, [.int .i64 parts, x]⟩]]) => mv <| h1 _ _ <| seq fun _ h4 => mv <| h4 _ _ <| seq fun _ h5 => seq fun _ h6 => mv <| h6 _ _ <| lp (n := fun _ _ => False) (ι := (Nat) × (Int) × (Nat) × (Int)) (fun ⟨i, last, n, s⟩ f w' => f 3 = .int .i64 s ∧ f 4 = .int .i64 (i : Nat) ∧ f 1 = .pointer (some ⟨b2, 0, none⟩) ∧ Mem w [] w' [[⟨b2, 24, [.int .i64 parts, x]⟩]] ∧ (i ≤ ps.length) ∧ (infOk parts last n ((ps.drop i).map Pr.p)) ∧ (n ≤ 262144) ∧ (0 ≤ s ∧ s ≤ n * 65541) ∧ (spaceF (ps.map Pr.p) = s + spaceF ((ps.drop i).map Pr.p))) (fun ⟨i, last, n, s⟩ => ps.length - i) (0, (-1), 0, 0) ?_ ?_
 ·exact ⟨vi, vi, rfl, hM3, by omega, hft.2, by omega, by omega, by rw [List.drop_zero]; omega⟩
 rintro ⟨i, last, n, s⟩ f w7 ⟨e7_3, e7_4, e7_1, hM7, hi, hI, hn, hs, hE⟩ K8 h8
 obtain ⟨frm, rfl⟩ := re3 e7_3 e7_4 e7_1
 refine seq fun _ h9 => seq fun _ h10 => mv <| fa rfl <| m_ld (v := x) hM7 (i := 0) (j := 0) rfl rfl rfl rfl <| stp (v := .int .i64 (ps.length : Nat)) (o_lenR (hx.upd hM7.upd) rfl rfl) <| bn rfl rfl <| h10 _ _ <| cndP rfl (fun c11 => ?_) (fun c11 => ?_)
 ·refine h9 _ _ <| seq fun _ h12 => seq fun _ h13 => ?_
  have hpi := hok _ (getD_memG pz (l := ps) (i := i) (by omega))
  have hic := (inf_cons (ps := ps) (i := i) (parts := parts) (last := last) (n := n) (by omega)).1 hI
  have hsc := sp_cons (ps := ps) (i := i) (by omega)
  refine mv <| h13 _ _ <| lp (n := fun _ _ => False) (ι := (Nat) × (List UInt8) × (Int)) (fun ⟨k, key, t⟩ f w' => f 3 = .int .i64 t ∧ f 5 = .int .i64 (k : Nat) ∧ f 1 = .pointer (some ⟨b2, 0, none⟩) ∧ f 4 = .int .i64 (i : Nat) ∧ Mem w [] w' [[⟨b2, 24, [.int .i64 parts, x]⟩]] ∧ (k ≤ (ps.getD i pz).bl.length) ∧ (blsOk key ((ps.getD i pz).bl.drop k)) ∧ (0 ≤ t ∧ t ≤ (n + k : Nat) * 65541) ∧ (s + spB (ps.getD i pz).bl = t + spB ((ps.getD i pz).bl.drop k))) (fun ⟨k, key, t⟩ => (ps.getD i pz).bl.length - k) (0, [], s) ?_ ?_
  ·exact ⟨vi, vi, rfl, vi, hM7, by omega, hic.1.1.2.2.2.2, by omega, by rw [List.drop_zero]⟩
  rintro ⟨k, key, t⟩ f w14 ⟨e14_3, e14_5, e14_1, e14_4, hM14, hk, hB, ht, hT⟩ K15 h15
  obtain ⟨frm, rfl⟩ := re4 e14_3 e14_5 e14_1 e14_4
  refine seq fun _ h16 => seq fun _ h17 => mv <| fa rfl <| m_ld (v := x) hM14 (i := 0) (j := 0) rfl rfl rfl rfl <| mv <| m_idxS pz (j := i) (hx.upd hM14.upd) rfl rfl (by omega) fun b18 o18 hp18 => fa rfl <| ld (v := (ps.getD i pz).bv) rfl (hp18.get 1 rfl) <| stp (v := .int .i64 (((ps.getD i pz).bl).length : Nat)) (o_lenR (((fun p hp => (hok p hp).upd hM14.upd) _ (getD_memG pz (by omega))).rb) rfl rfl) <| bn rfl rfl <| h17 _ _ <| cndP rfl (fun c19 => ?_) (fun c19 => ?_)
  ·refine h16 _ _ <| seq fun _ h20 => ?_
   have hbc := (bls_cons (last := key) (bl := (ps.getD i pz).bl) (k := k) (by omega)).1 hB
   have hbk := hbc.1.1.1
   have hsk := spB_cons (bl := (ps.getD i pz).bl) (k := k) (by omega)
   refine mv <| fa rfl <| m_ld (v := x) hM14 (i := 0) (j := 0) rfl rfl rfl rfl <| mv <| m_idxS pz (j := i) (hx.upd hM14.upd) rfl rfl (by omega) fun b21 o21 hp21 => fa rfl <| ld (v := (ps.getD i pz).bv) rfl (hp21.get 1 rfl) <| mv <| m_idxS bz (j := k) (((fun p hp => (hok p hp).upd hM14.upd) _ (getD_memG pz (by omega))).rb) rfl rfl (by omega) fun b22 o22 hp22 => fa rfl <| ld (v := .int .i64 ((((ps.getD i pz).bl).getD k bz).st)) rfl (hp22.get 0 rfl) <| stp (v := .int .i64 (t + ((((ps.getD i pz).bl).getD k bz).st))) (o_bin rfl rfl (v_add64 (by omega))) <| stp (v := .int .i64 ((t + ((((ps.getD i pz).bl).getD k bz).st)) + 5)) (o_bin rfl rfl (v_add64 (by omega))) <| mv ?_
   refine h20 _ _ <| mv <| stp (v := .int .i64 ((k : Nat) + 1)) (o_bin rfl rfl (v_add64 (by omega))) ?_
   have hpi := hok _ (getD_memG pz (l := ps) (i := i) (by omega))
   have hic := (inf_cons (ps := ps) (i := i) (parts := parts) (last := last) (n := n) (by omega)).1 hI
   have hsc := sp_cons (ps := ps) (i := i) (by omega)
   refine mv <| h15 (k + 1, ((ps.getD i pz).bl.getD k bz).cut, t + (((ps.getD i pz).bl.getD k bz).st + 5)) _ _ ⟨vi, vi, rfl, vi, hM14, by omega, hbc.2, by omega, by omega⟩ (by (try dsimp only); omega)
  refine h12 _ _ <| mv <| stp (v := .int .i64 ((i : Nat) + 1)) (o_bin rfl rfl (v_add64 (by omega))) <| mv <| h8 (i + 1, (ps.getD i pz).part, n + (ps.getD i pz).bl.length, t) _ _ ⟨vi, vi, rfl, hM14, by omega, hic.2, hic.1.2, by omega, by have := spB_end (bl := (ps.getD i pz).bl) (k := k) (by omega); omega⟩ (by (try dsimp only); omega)
 refine h5 _ _ <| seq fun _ h23 => mv <| mv <| h23 _ _ <| ⟨(.int .i64 s), rfl, ⟨v_int (by have := sp_end (ps := ps) (i := i) (by omega); omega), hM7.upd⟩⟩
