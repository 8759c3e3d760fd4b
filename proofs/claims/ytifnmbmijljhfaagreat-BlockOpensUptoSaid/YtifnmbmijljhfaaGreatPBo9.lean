/- Part 9 of the proof of what the last of these files says. -/
import Derived.Test.YtifnmbmijljhfaaGreatPBo8
namespace Go.Proofs.YtifnmbmijljhfaaGreat.E
open Go
theorem word_lt4 {l : List UInt8} (h : l.length ≤ 4) : word l < 4294967296 := by
 by_cases h0 : l = []
 ·subst h0; decide
 have h1 : 0 < l.length := List.length_pos_iff.2 h0
 unfold word
 rw [List.take_of_length_le (by omega)]
 have := le_fixed l.length (le l)
 rw [fixed_le] at this
 have h2 : le l < 256 ^ l.length := by
  have := Nat.mod_lt (le l) (Nat.pow_pos (n := l.length) (show 0 < 256 by omega)); omega
 exact Nat.lt_of_lt_of_le h2 (Nat.le_trans (Nat.pow_le_pow_right (show 0 < 256 by omega) h) (by decide))
section
variable {R : Nat} {es : List Pr2} {raw : List UInt8}
theorem blk_len (h : Blk R es raw) : raw.length = (bldF R es).raw.length + 4 * cdiv R es.length + 8 := by
 have hst := bld_st R h.1.1 es
 have := congrArg List.length h.2.2.2
 unfold rawB at this
 rw [List.length_append, List.length_append, List.length_append, fix4_len, fix4_len, starts_len, hst] at this
 omega
theorem blk_nums (h : Blk R es raw) (hl : raw.length ≤ 65536) {E : Nat} (hE : E = raw.length - 8) : word ((raw.take (E + 4)).drop E) = R ∧ word (raw.drop (E + 4)) = es.length := by
 have h1 := blk_len h
 have h2 := bld_raw (R := R) es h.2.2.1
 have hst := bld_st R h.1.1 es
 have hb : ((bldF R es).raw ++ startsF (bldF R es).st).length = E := by rw [List.length_append, starts_len, hst]; omega
 have e := h.2.2.2
 unfold rawB at e
 constructor
 ·rw [e, List.append_assoc, List.take_append, List.take_of_length_le (by rw [hb]; omega), hb, show E + 4 - E = 4 by omega, List.take_left' (fix4_len _), List.drop_left' hb]
  exact fix4_word (by have := h.1; omega)
 rw [e, List.drop_left' (by rw [List.length_append, hb, fix4_len])]
 exact fix4_word (by omega)
theorem blk_full (h : Blk R es raw) {n : Nat} (hn : n = es.length) {F : Nat} (hF : F + 4 * cdiv R n + 8 = raw.length) : FullB R n (raw.take F) (raw.drop F) es := by
 subst hn
 have h1 := blk_len h
 have hst := bld_st R h.1.1 es
 have e := h.2.2.2
 unfold rawB at e
 have hF2 : (bldF R es).raw.length = F := by omega
 refine ⟨h.2.2.1, rfl, ?_, ?_⟩
 ·conv => rhs; rw [← List.take_left' (l₁ := (bldF R es).raw) (l₂ := startsF (bldF R es).st ++ fixedI (R : Nat) 4 ++ fixedI (es.length : Nat) 4) hF2]
  rw [e]; simp only [List.append_assoc]
 rw [e, List.append_assoc, List.append_assoc, List.drop_left' hF2, List.take_left' (by rw [starts_len, hst])]
theorem full_blk {n F E : Nat} (hF : F + 4 * cdiv R n + 8 = raw.length) (hE : E = raw.length - 8) (hR : 1 ≤ R ∧ R ≤ 64) (hn : 1 ≤ n) (hw : word ((raw.take (E + 4)).drop E) = R) (hw2 : word (raw.drop (E + 4)) = n) (h : FullB R n (raw.take F) (raw.drop F) es) : Blk R es raw := by
 refine ⟨hR, by rw [h.2.1]; exact hn, h.1, ?_⟩
 have g1 := word_fix4 (l := (raw.take (E + 4)).drop E) (by rw [List.length_drop, List.length_take]; omega)
 have g2 := word_fix4 (l := raw.drop (E + 4)) (by rw [List.length_drop]; omega)
 rw [hw] at g1
 rw [hw2] at g2
 unfold rawB
 rw [h.2.1, g1, g2, ← h.2.2.1, h.2.2.2]
 have e1 : F + 4 * cdiv R n = E := by omega
 have e2 : raw.take F ++ (raw.drop F).take (4 * cdiv R n) = raw.take E := by rw [← List.take_add, e1]
 rw [e2, List.append_assoc]
 have e3 : raw.take (E + 4) = raw.take E ++ (raw.take (E + 4)).drop E := by
  conv => lhs; rw [← List.take_append_drop E (raw.take (E + 4)), List.take_take, show min E (E + 4) = E by omega]
 rw [← List.append_assoc, ← e3, List.take_append_drop]
end
end Go.Proofs.YtifnmbmijljhfaaGreat.E
namespace Go.Proofs.YtifnmbmijljhfaaGreat.E
open Go
def numbF (b : List UInt8) (at_ : Nat) (most : Int) : Int × Nat := if (get (b.drop at_)).2.2 = 0 ∧ ((get (b.drop at_)).1 : Int) ≤ most then ((get (b.drop at_)).1, at_ + (get (b.drop at_)).2.1) else (-1, at_)
def stepE (b key : List UInt8) (a : Nat) : Option (Pr2 × Nat) :=
 if (numbF b a key.length).1 < 0 then none
 else if (numbF b (numbF b a key.length).2 (1024 - (numbF b a key.length).1)).1 < 0 then none
 else if (numbF b (numbF b (numbF b a key.length).2 (1024 - (numbF b a key.length).1)).2 1024).1 < 0 then none
 else if (b.length : Int) - (numbF b (numbF b (numbF b a key.length).2 (1024 - (numbF b a key.length).1)).2 1024).2 < (numbF b (numbF b a key.length).2 (1024 - (numbF b a key.length).1)).1 + (numbF b (numbF b (numbF b a key.length).2 (1024 - (numbF b a key.length).1)).2 1024).1 then none
 else some ((key.take (numbF b a key.length).1.toNat ++ (b.take ((numbF b (numbF b (numbF b a key.length).2 (1024 - (numbF b a key.length).1)).2 1024).2 + (numbF b (numbF b a key.length).2 (1024 - (numbF b a key.length).1)).1.toNat)).drop (numbF b (numbF b (numbF b a key.length).2 (1024 - (numbF b a key.length).1)).2 1024).2,
  (b.take ((numbF b (numbF b (numbF b a key.length).2 (1024 - (numbF b a key.length).1)).2 1024).2 + (numbF b (numbF b a key.length).2 (1024 - (numbF b a key.length).1)).1.toNat + (numbF b (numbF b (numbF b a key.length).2 (1024 - (numbF b a key.length).1)).2 1024).1.toNat)).drop ((numbF b (numbF b (numbF b a key.length).2 (1024 - (numbF b a key.length).1)).2 1024).2 + (numbF b (numbF b a key.length).2 (1024 - (numbF b a key.length).1)).1.toNat)),
  (numbF b (numbF b (numbF b a key.length).2 (1024 - (numbF b a key.length).1)).2 1024).2 + (numbF b (numbF b a key.length).2 (1024 - (numbF b a key.length).1)).1.toNat + (numbF b (numbF b (numbF b a key.length).2 (1024 - (numbF b a key.length).1)).2 1024).1.toNat)
def entF (b : List UInt8) : Nat → Option (List Pr2 × Nat)
 | 0 => some ([], 0)
 | i + 1 => match entF b i with
  | none => none
  | some (l, a) => match stepE b (lastK l) a with
   | none => none
   | some (x, a') => some (l ++ [x], a')
theorem step_some {b key : List UInt8} {a p q z : Nat} {s r v : Int} (h1 : numbF b a key.length = (s, p)) (hs : ¬ s < 0) (h2 : numbF b p (1024 - s) = (r, q)) (hr : ¬ r < 0) (h3 : numbF b q 1024 = (v, z)) (hv : ¬ v < 0) (hl : ¬ (b.length : Int) - z < r + v) :
 stepE b key a = some ((key.take s.toNat ++ (b.take (z + r.toNat)).drop z, (b.take (z + r.toNat + v.toNat)).drop (z + r.toNat)), z + r.toNat + v.toNat) := by
 unfold stepE
 rw [h1]; dsimp only; rw [h2]; dsimp only; rw [h3]; dsimp only
 rw [if_neg hs, if_neg hr, if_neg hv, if_neg hl]
theorem step_no1 {b key : List UInt8} {a p : Nat} {s : Int} (h1 : numbF b a key.length = (s, p)) (hs : s < 0) : stepE b key a = none := by unfold stepE; rw [h1]; exact if_pos hs
theorem step_no2 {b key : List UInt8} {a p q : Nat} {s r : Int} (h1 : numbF b a key.length = (s, p)) (hs : ¬ s < 0) (h2 : numbF b p (1024 - s) = (r, q)) (hr : r < 0) : stepE b key a = none := by
 unfold stepE; rw [h1]; dsimp only; rw [h2, if_neg hs]; exact if_pos hr
theorem step_no3 {b key : List UInt8} {a p q z : Nat} {s r v : Int} (h1 : numbF b a key.length = (s, p)) (hs : ¬ s < 0) (h2 : numbF b p (1024 - s) = (r, q)) (hr : ¬ r < 0) (h3 : numbF b q 1024 = (v, z)) (h : v < 0 ∨ (b.length : Int) - z < r + v) : stepE b key a = none := by
 unfold stepE; rw [h1]; dsimp only; rw [h2]; dsimp only; rw [h3, if_neg hs, if_neg hr]; dsimp only
 by_cases hv : v < 0
 ·rw [if_pos hv]
 rw [if_neg hv, if_pos (h.resolve_left hv)]
theorem ent_no {b : List UInt8} {l : List Pr2} {a : Nat} : ∀ {i n : Nat}, entF b i = some (l, a) → i < n → stepE b (lastK l) a = none → entF b n = none
 | i, 0, _, h, _ => absurd h (Nat.not_lt_zero _)
 | i, n + 1, h1, h, h2 => by
  by_cases e : i = n
  ·subst e; unfold entF; rw [h1]; dsimp only; rw [h2]
  have := ent_no h1 (show i < n by omega) h2
  unfold entF; rw [this]
theorem ent_succ {b : List UInt8} {l : List Pr2} {a a' : Nat} {x : Pr2} {i : Nat} (h1 : entF b i = some (l, a)) (h2 : stepE b (lastK l) a = some (x, a')) : entF b (i + 1) = some (l ++ [x], a') := by
 unfold entF; rw [h1]; dsimp only; rw [h2]
theorem numb_b (b : List UInt8) (a : Nat) (m : Int) (ha : a ≤ b.length) (hm : m ≤ 65536) : -1 ≤ (numbF b a m).1 ∧ (numbF b a m).1 ≤ 65536 ∧ ((numbF b a m).1 ≤ m ∨ (numbF b a m).1 = -1) ∧ (numbF b a m).2 ≤ b.length := by
 unfold numbF
 split
 ·rename_i h
  have hg := get_ok h.1
  rw [List.length_drop] at hg
  dsimp only
  omega
 dsimp only; omega
theorem number_ok6 (x : Value) (b : List UInt8) (a : Nat) (m : Int) (w : World) (hx : RdE byteV w x b) (hl : b.length ≤ 65536) (ha : a ≤ b.length) (hm : m ≤ 65536) : Calls Tryz.prog 109 [x, .int .i64 (a : Nat), .int .i64 m].toArray w (Rt fun r w' => r = .tuple [.int .i64 (numbF b a m).1, .int .i64 ((numbF b a m).2 : Nat)].toArray ∧ Upd [] w w') := by
 have hM0 : Mem w [] w [] := Mem.nil w []
 refine calls_vc mixed Tryz.func109 rfl C109 (by simp [Tryz.ntmps109]) <| seq fun _ h1 => mv <| mv <| h1 _ _ <| seq fun _ h2 => mv <| mv <| m_slcE a b.length (hx) rfl (by omega) (by omega) rfl ⟨_, rfl⟩ fun u3 hu3 => ?_
 have hu3' : RdE byteV w u3 (b.drop a) := by
  have e : (b.take b.length).drop a = (b.drop a) := by rw [List.take_length]
  rw [e] at hu3; exact hu3
 refine m_call (refGet_ok _ (b.drop a) w ((hu3'.upd hM0.upd)) (by first | omega | (simp; done) | (simp; omega))) rfl fun v4 w4 ⟨hr4, hu4⟩ => ?_
 have hM4 : Mem _ _ w4 [] := hM0.pure hu4
 subst hr4
 refine mv <| ext rfl rfl <| ext rfl rfl <| ext rfl rfl <| mv <| mv <| mv <| h2 _ _ <| seq fun _ h5 => seq fun _ h6 => mv <| bneq rfl rfl <| mv <| splitP rfl (fun c7 => ?_) (fun c7 => ?_)
 ·refine gx rfl <| gx rfl <| gx rfl <| pkT rfl <| h6 _ _ <| cndT rfl <| seq fun _ h8 => mv <| mv <| mv <| h8 _ _ <| ⟨(.tuple [.int .i64 (-1), .int .i64 (a : Nat)].toArray), rfl, ⟨by unfold numbF; rw [if_neg (fun q => by omega)], hM4.upd⟩⟩
 refine gmv rfl <| gmv rfl <| gbn rfl rfl rfl <| pkF rfl <| h6 _ _ <| cndP rfl (fun c9 => ?_) (fun c9 => ?_)
 ·refine seq fun _ h10 => mv <| mv <| mv <| h10 _ _ <| ⟨(.tuple [.int .i64 (-1), .int .i64 (a : Nat)].toArray), rfl, ⟨by unfold numbF; rw [if_neg (fun q => by omega)], hM4.upd⟩⟩
 refine h5 _ _ <| seq fun _ h11 => mv <| mv <| mv ?_
 have hgk := get_ok (b := b.drop a) (by omega)
 rw [List.length_drop] at hgk
 refine stp (v := .int .i64 ((a : Nat) + ((get (b.drop a)).2.1 : Nat))) (o_bin rfl rfl (v_add64 (by omega))) <| mv <| mv <| h11 _ _ <| ⟨(.tuple [.int .i64 ((get (b.drop a)).1 : Nat), .int .i64 ((a : Nat) + ((get (b.drop a)).2.1 : Nat))].toArray), rfl, ⟨by unfold numbF; rw [if_pos ⟨by omega, by omega⟩]; rfl, hM4.upd⟩⟩
end Go.Proofs.YtifnmbmijljhfaaGreat.E
namespace Go.Proofs.YtifnmbmijljhfaaGreat.E
open Go
def shortE (l : List Pr2) : Prop := ∀ i, (l.getD i ([], [])).1.length ≤ 1024 ∧ (l.getD i ([], [])).2.length ≤ 1024
theorem short_snoc {l : List Pr2} {x : Pr2} (h : shortE l) (h1 : x.1.length ≤ 1024) (h2 : x.2.length ≤ 1024) : shortE (l ++ [x]) := fun i => by
 by_cases c : i < l.length
 ·rw [getD_lt _ _ _ c]; exact h i
 by_cases e : i = l.length
 ·subst e; rw [getD_snoc]; exact ⟨h1, h2⟩
 rw [List.getD_eq_getElem?_getD, List.getElem?_eq_none (by rw [List.length_append, List.length_singleton]; omega)]; exact ⟨Nat.zero_le _, Nat.zero_le _⟩
theorem entries_ok (x : Value) (b : List UInt8) (n : Nat) (w : World) (hx : RdE byteV w x b) (hl : b.length ≤ 65536) (hn : n ≤ 65544) : Calls Tryz.prog 76 [x, .int .i64 (n : Nat)].toArray w (Rt fun r w' => ∃ v ok es re, r = .tuple [v, .bool ok].toArray ∧ (ok = true → (∃ a, entF b n = some (es, a)) ∧ es.length = n ∧ shortE es ∧ SlS pairC 2 35 v es re) ∧ (ok = false → entF b n = none) ∧ Mem w [] w' [re]) := by
 have hM0 : Mem w [] w [] := Mem.nil w []
 refine calls_vc mixed Tryz.func76 rfl C76 (by simp [Tryz.ntmps76]) <| seq fun _ h1 => stp (v := .slice none 0 0) (o_mv rfl) <| stp (v := .bool false) (o_mv rfl) <| h1 _ _ <| seq fun _ h2 => stp (v := .slice none 0 0) (o_mv rfl) <| h2 _ _ <| seq fun _ h3 => stp (v := .string (str ([]))) (o_mv rfl) <| h3 _ _ <| seq fun _ h4 => stp (v := .int .i64 0) (o_mv rfl) <| h4 _ _ ?_
 refine seq fun _ h5 => seq fun _ h6 => stp (v := .int .i64 0) (o_mv rfl) <| h6 _ _ ?_
 have hM7 : Mem w [] w [[]] := hM0.addNil
 have hs7 : SlS pairC 2 35 (.slice none 0 0) [] [] := Sl.nil 2 35
 refine lp (n := fun _ _ => False) (ι := (Nat) × (Nat) × (List UInt8) × (List Pr2) × (Value) × (List Ent)) (fun ⟨i, a, key, es, y6_, r6_⟩ f w' => f 9 = .int .i64 (i : Nat) ∧ f 8 = .int .i64 (a : Nat) ∧ f 7 = .string (str key) ∧ f 6 = y6_ ∧ f 0 = x ∧ f 1 = .int .i64 (n : Nat) ∧ Mem w [] w' [r6_] ∧ (i ≤ n) ∧ (a ≤ b.length) ∧ (key = lastK es ∧ key.length ≤ 1024) ∧ (entF b i = some (es, a)) ∧ (es.length = i) ∧ (shortE es) ∧ (SlS pairC 2 35 y6_ (es) r6_)) (fun ⟨i, a, key, es, y6_, r6_⟩ => n - i) (0, 0, [], [], ((.slice none 0 0)), ([])) ?_ ?_
 ·exact ⟨vi, vi, by first | rfl | simp [upd], rfl, rfl, vi, hM7, by omega, by omega, ⟨rfl, by simp⟩, rfl, rfl, fun j => ⟨Nat.zero_le _, Nat.zero_le _⟩, by first | exact hs7 | simpa using hs7⟩
 rintro ⟨i, a, key, es, y6_, r6_⟩ f w8 ⟨e8_9, e8_8, e8_7, e8_6, e8_0, e8_1, hM8, hi, ha, hk, he, hes, hse, hy6_⟩ K9 h9
 obtain ⟨frm, rfl⟩ := re6 e8_9 e8_8 e8_7 e8_6 e8_0 e8_1
 refine seq fun _ h10 => seq fun _ h11 => ?_
 obtain ⟨hk1, hk2⟩ := hk
 subst hk1
 refine stp (v := .int .i64 (i : Nat)) (o_mv rfl) <| stp (v := .int .i64 (n : Nat)) (o_mv rfl) <| stp (v := .bool (decide (((i : Nat) : Int) < (n : Nat)))) (o_bin rfl rfl rfl) <| h11 _ _ <| cndP rfl (fun c12 => ?_) (fun c12 => ?_)
 ·refine h10 _ _ <| seq fun _ h13 => seq fun _ h14 => stp (v := x) (o_mv rfl) <| stp (v := .int .i64 (a : Nat)) (o_mv rfl) <| stp (v := .string (str (lastK es))) (o_mv rfl) <| stp (v := .int .i64 ((lastK es).length : Nat)) (o_lens rfl rfl) <| m_call (number_ok6 _ b a ((lastK es).length : Nat) w8 (hx.upd hM8.upd) hl (by omega) (by omega)) rfl fun v15 w15 ⟨hr15, hu15⟩ => ?_
  have hM15 : Mem w [] w15 [r6_] := hM8.pure hu15
  obtain ⟨n15_, p15_, hnq15⟩ : ∃ n p, numbF b a ((lastK es).length : Nat) = (n, p) := ⟨_, _, rfl⟩
  have hnb15 := numb_b b a ((lastK es).length : Nat) (by omega) (by omega)
  rw [hnq15] at hr15 hnb15
  dsimp only at hnb15
  subst hr15
  refine stp (v := .tuple [.int .i64 n15_, .int .i64 (p15_ : Nat)].toArray) (o_mv rfl) <| stp (v := .int .i64 n15_) (o_ext rfl rfl) <| stp (v := .int .i64 (p15_ : Nat)) (o_ext rfl rfl) <| stp (v := .int .i64 n15_) (o_mv rfl) <| stp (v := .int .i64 (p15_ : Nat)) (o_mv rfl) <| h14 _ _ <| seq fun _ h16 => seq fun _ h17 => stp (v := .int .i64 n15_) (o_mv rfl) <| stp (v := .bool (decide (n15_ < 0))) (o_bin rfl rfl rfl) <| h17 _ _ <| cndP rfl (fun c18 => ?_) (fun c18 => ?_)
  ·refine seq fun _ h19 => stp (v := .slice none 0 0) (o_mv rfl) <| stp (v := .bool false) (o_mv rfl) <| h19 _ _ <| ⟨(.tuple [.slice none 0 0, .bool false].toArray), rfl, ?_⟩
   have hz := ent_no he (show i < n by omega) (step_no1 hnq15 (by omega))
   exact ⟨_, false, [], [], rfl, fun h => absurd h (by decide), fun _ => hz, hM15.keep (by simp)⟩
  refine h16 _ _ <| seq fun _ h20 => stp (v := x) (o_mv rfl) <| stp (v := .int .i64 (p15_ : Nat)) (o_mv rfl) <| stp (v := .int .i64 n15_) (o_mv rfl) <| stp (v := .int .i64 (1024 - n15_)) (o_bin rfl rfl (v_sub64 (by omega))) <| m_call (number_ok6 _ b p15_ (1024 - n15_) w15 (hx.upd hM15.upd) hl (by omega) (by omega)) rfl fun v21 w21 ⟨hr21, hu21⟩ => ?_
  have hM21 : Mem w [] w21 [r6_] := hM15.pure hu21
  obtain ⟨n21_, p21_, hnq21⟩ : ∃ n p, numbF b p15_ (1024 - n15_) = (n, p) := ⟨_, _, rfl⟩
  have hnb21 := numb_b b p15_ (1024 - n15_) (by omega) (by omega)
  rw [hnq21] at hr21 hnb21
  dsimp only at hnb21
  subst hr21
  refine stp (v := .tuple [.int .i64 n21_, .int .i64 (p21_ : Nat)].toArray) (o_mv rfl) <| stp (v := .int .i64 n21_) (o_ext rfl rfl) <| stp (v := .int .i64 (p21_ : Nat)) (o_ext rfl rfl) <| stp (v := .int .i64 n21_) (o_mv rfl) <| stp (v := .int .i64 (p21_ : Nat)) (o_mv rfl) <| h20 _ _ <| seq fun _ h22 => seq fun _ h23 => stp (v := .int .i64 n21_) (o_mv rfl) <| stp (v := .bool (decide (n21_ < 0))) (o_bin rfl rfl rfl) <| h23 _ _ <| cndP rfl (fun c24 => ?_) (fun c24 => ?_)
  ·refine seq fun _ h25 => stp (v := .slice none 0 0) (o_mv rfl) <| stp (v := .bool false) (o_mv rfl) <| h25 _ _ <| ⟨(.tuple [.slice none 0 0, .bool false].toArray), rfl, ?_⟩
   have hz := ent_no he (show i < n by omega) (step_no2 hnq15 (by omega) hnq21 (by omega))
   exact ⟨_, false, [], [], rfl, fun h => absurd h (by decide), fun _ => hz, hM21.keep (by simp)⟩
  refine h22 _ _ <| seq fun _ h26 => stp (v := x) (o_mv rfl) <| stp (v := .int .i64 (p21_ : Nat)) (o_mv rfl) <| m_call (number_ok6 _ b p21_ 1024 w21 (hx.upd hM21.upd) hl (by omega) (by omega)) rfl fun v27 w27 ⟨hr27, hu27⟩ => ?_
  have hM27 : Mem w [] w27 [r6_] := hM21.pure hu27
  obtain ⟨n27_, p27_, hnq27⟩ : ∃ n p, numbF b p21_ 1024 = (n, p) := ⟨_, _, rfl⟩
  have hnb27 := numb_b b p21_ 1024 (by omega) (by omega)
  rw [hnq27] at hr27 hnb27
  dsimp only at hnb27
  subst hr27
  refine stp (v := .tuple [.int .i64 n27_, .int .i64 (p27_ : Nat)].toArray) (o_mv rfl) <| stp (v := .int .i64 n27_) (o_ext rfl rfl) <| stp (v := .int .i64 (p27_ : Nat)) (o_ext rfl rfl) <| stp (v := .int .i64 n27_) (o_mv rfl) <| stp (v := .int .i64 (p27_ : Nat)) (o_mv rfl) <| h26 _ _ <| seq fun _ h28 => seq fun _ h29 => stp (v := .int .i64 n27_) (o_mv rfl) <| stp (v := .bool (decide (n27_ < 0))) (o_bin rfl rfl rfl) <| stp (v := .bool (decide (n27_ < 0))) (o_mv rfl) <| splitP rfl (fun c30 => ?_) (fun c30 => ?_)
  ·refine gx rfl <| gx rfl <| gx rfl <| gx rfl <| gx rfl <| gx rfl <| gx rfl <| gx rfl <| stp (v := .bool true) (o_pickT rfl rfl) <| h29 _ _ <| cndT rfl <| seq fun _ h31 => stp (v := .slice none 0 0) (o_mv rfl) <| stp (v := .bool false) (o_mv rfl) ?_
   refine h31 _ _ <| ⟨(.tuple [.slice none 0 0, .bool false].toArray), rfl, ?_⟩
   have hz := ent_no he (show i < n by omega) (step_no3 hnq15 (by omega) hnq21 (by omega) hnq27 (by omega))
   exact ⟨_, false, [], [], rfl, fun h => absurd h (by decide), fun _ => hz, hM27.keep (by simp)⟩
  refine stg rfl (v := .int .i64 n21_) (o_mv rfl) <| stg rfl (v := .int .i64 n27_) (o_mv rfl) <| stg rfl (v := .int .i64 (n21_ + n27_)) (o_bin rfl rfl (v_add64 (by omega))) <| stg rfl (v := x) (o_mv rfl) <| stg rfl (v := .int .i64 (b.length : Nat)) (o_lenR (hx.upd hM27.upd) rfl rfl) <| stg rfl (v := .int .i64 (p27_ : Nat)) (o_mv rfl) <| stg rfl (v := .int .i64 ((b.length : Nat) - (p27_ : Nat))) (o_bin rfl rfl (v_sub64 (by omega))) <| stg rfl (v := .bool (decide (((b.length : Nat) - (p27_ : Nat) : Int) < (n21_ + n27_)))) (o_bin rfl rfl rfl) <| stp (v := .bool (decide (((b.length : Nat) - (p27_ : Nat) : Int) < (n21_ + n27_)))) (o_pickF rfl rfl) <| h29 _ _ <| cndP rfl (fun c32 => ?_) (fun c32 => ?_)
  ·refine seq fun _ h33 => stp (v := .slice none 0 0) (o_mv rfl) <| stp (v := .bool false) (o_mv rfl) <| h33 _ _ <| ⟨(.tuple [.slice none 0 0, .bool false].toArray), rfl, ?_⟩
   have hz := ent_no he (show i < n by omega) (step_no3 hnq15 (by omega) hnq21 (by omega) hnq27 (by omega))
   exact ⟨_, false, [], [], rfl, fun h => absurd h (by decide), fun _ => hz, hM27.keep (by simp)⟩
  refine h28 _ _ <| seq fun _ h34 => ?_
  intro wd e1 e2 e3 e4
  have hd := Upd.same e1 e2 e3 e4 []
  have hM35 := hM27.pure hd
  clear e1 e2 e3 e4
  refine ⟨(some []), ?_⟩
  show vd _ _ _ _ _ _ _
  obtain ⟨s1, hs1⟩ : ∃ s : Nat, n15_ = (s : Int) := ⟨n15_.toNat, by omega⟩
  subst hs1
  obtain ⟨s2, hs2⟩ : ∃ s : Nat, n21_ = (s : Int) := ⟨n21_.toNat, by omega⟩
  subst hs2
  obtain ⟨s3, hs3⟩ : ∃ s : Nat, n27_ = (s : Int) := ⟨n27_.toNat, by omega⟩
  subst hs3
  have hq1 := hnq15
  have hq2 := hnq21
  have hq3 := hnq27
  obtain ⟨p3, hp3⟩ : ∃ p, p = p27_ := ⟨_, rfl⟩
  rw [← hp3] at hq3 hnb27
  try rw [← hp3]
  refine dq (v := .string (str (lastK es))) (o_mv rfl) <| dq (v := .int .i64 (s1 : Nat)) (o_mv rfl) <| dq (v := .string (str (((lastK es).take s1).drop 0))) (o_slcs (a := 0) (b := s1) rfl (by omega) ⟨_, rfl⟩ rfl rfl) <| dq (v := x) (o_mv rfl) <| dq (v := .int .i64 (p3 : Nat)) (o_mv rfl) <| dq (v := .int .i64 (p3 : Nat)) (o_mv rfl) <| dq (v := .int .i64 (s2 : Nat)) (o_mv rfl) <| dq (v := .int .i64 ((p3 : Nat) + (s2 : Nat))) (o_bin rfl rfl (v_add64 (by omega))) <| dqp (m_slcE p3 (p3 + s2) (hx) rfl (by omega) (by omega) ⟨_, v_int (by omega)⟩ ⟨_, v_int (by omega)⟩ fun u36 hu36 => ?_)
  show vd _ _ _ _ _ _ _
  refine dl (m_b2s rfl ((hu36.upd hM35.upd)) <| ⟨(fun b hb => by cases hb), dq (v := .string (str ((((lastK es).take s1).drop 0) ++ ((b.take (p3 + s2)).drop p3)))) (o_sadd rfl rfl (by first | omega | (simp; omega)) rfl) <| dq (v := .string (str ((((lastK es).take s1).drop 0) ++ ((b.take (p3 + s2)).drop p3)))) (o_mv rfl) <| h34 _ _ <| seq fun _ h37 => stp (v := y6_) (o_mv rfl) <| stp (v := .string (str ((((lastK es).take s1).drop 0) ++ ((b.take (p3 + s2)).drop p3)))) (o_mv rfl) <| stp (v := x) (o_mv rfl) <| stp (v := .int .i64 (p3 : Nat)) (o_mv rfl) <| stp (v := .int .i64 (s2 : Nat)) (o_mv rfl) <| stp (v := .int .i64 ((p3 : Nat) + (s2 : Nat))) (o_bin rfl rfl (v_add64 (by omega))) <| stp (v := .int .i64 (p3 : Nat)) (o_mv rfl) <| stp (v := .int .i64 (s2 : Nat)) (o_mv rfl) <| stp (v := .int .i64 ((p3 : Nat) + (s2 : Nat))) (o_bin rfl rfl (v_add64 (by omega))) <| stp (v := .int .i64 (s3 : Nat)) (o_mv rfl) <| stp (v := .int .i64 (((p3 : Nat) + (s2 : Nat)) + (s3 : Nat))) (o_bin rfl rfl (v_add64 (by omega))) <| m_slcE (p3 + s2) (p3 + s2 + s3) (hx) rfl (by omega) (by omega) ⟨_, v_int (by omega)⟩ ⟨_, v_int (by omega)⟩ fun u38 hu38 => m_b2s rfl ((hu38.upd hM35.upd)) <| stp (v := .agg ([.string (str ((((lastK es).take s1).drop 0) ++ ((b.take (p3 + s2)).drop p3))), .string (str ((b.take (p3 + s2 + s3)).drop (p3 + s2)))] : List Value).toArray) (o_bld rfl rfl) <| m_app1S (enc := pairC) (q := ((((lastK es).take s1).drop 0) ++ ((b.take (p3 + s2)).drop p3), (b.take (p3 + s2 + s3)).drop (p3 + s2))) hM35 (i := 0) rfl hy6_ rfl (by simp) (rfl) (rfl) (by first | omega | (simp; omega)) (by omega) fun v39 w39 r39 u39 (hs39 : SlS pairC 2 35 v39 (es ++ [((((lastK es).take s1).drop 0) ++ ((b.take (p3 + s2)).drop p3), (b.take (p3 + s2 + s3)).drop (p3 + s2))]) r39) (hM39 : Mem w [] w39 [r39]) => stp (v := v39) (o_mv rfl) <| h37 _ _ <| stp (v := .int .i64 (p3 : Nat)) (o_mv rfl) <| stp (v := .int .i64 (s2 : Nat)) (o_mv rfl) <| stp (v := .int .i64 ((p3 : Nat) + (s2 : Nat))) (o_bin rfl rfl (v_add64 (by omega))) <| stp (v := .int .i64 (s3 : Nat)) (o_mv rfl) <| stp (v := .int .i64 (((p3 : Nat) + (s2 : Nat)) + (s3 : Nat))) (o_bin rfl rfl (v_add64 (by omega))) <| stp (v := .int .i64 (((p3 : Nat) + (s2 : Nat)) + (s3 : Nat))) (o_mv rfl) <| h13 _ _ <| stp (v := .int .i64 (i : Nat)) (o_mv rfl) <| stp (v := .int .i64 ((i : Nat) + 1)) (o_bin rfl rfl (v_add64 (by omega))) <| stp (v := .int .i64 ((i : Nat) + 1)) (o_mv rfl) <| h9 (i + 1, p3 + s2 + s3, (((lastK es).take s1).drop 0) ++ ((b.take (p3 + s2)).drop p3), es ++ [((((lastK es).take s1).drop 0) ++ ((b.take (p3 + s2)).drop p3), (b.take (p3 + s2 + s3)).drop (p3 + s2))], v39, r39) _ _ ⟨vi, vi, by first | rfl | simp [upd], rfl, rfl, vi, hM39, by omega, by omega, ⟨by unfold lastK; rw [List.length_append, List.length_singleton, Nat.add_sub_cancel, getD_snoc], by (try dsimp only); simp only [List.length_append, List.length_take, List.length_drop]; omega⟩, ent_succ he (step_some hq1 (by omega) hq2 (by omega) hq3 (by omega) (by omega)), by rw [List.length_append, List.length_singleton]; omega, short_snoc hse (by (try dsimp only); simp only [List.length_append, List.length_take, List.length_drop]; omega) (by (try dsimp only); simp only [List.length_append, List.length_take, List.length_drop]; omega), by first | exact hs39 | simpa using hs39⟩ (by (try dsimp only); omega)⟩)
 refine h5 _ _ <| seq fun _ h40 => stp (v := y6_) (o_mv rfl) <| stp (v := y6_) (o_mv rfl) <| stp (v := .bool true) (o_mv rfl) <| h40 _ _ <| ⟨(.tuple [y6_, .bool true].toArray), rfl, ?_⟩
 obtain rfl : i = n := by omega
 exact ⟨_, true, es, _, rfl, fun _ => ⟨⟨a, he⟩, hes, hse, hy6_⟩, fun h => absurd h (by decide), hM8.keep (by simp)⟩
end Go.Proofs.YtifnmbmijljhfaaGreat.E
namespace Go.Proofs.YtifnmbmijljhfaaGreat.E
open Go
theorem take_snoc {tk : List Pr2} {i : Nat} (h : i < tk.length) : tk.take (i + 1) = tk.take i ++ [tk.getD i ([], [])] := by
 rw [List.take_add_one, List.getElem?_eq_getElem h, List.getD_eq_getElem?_getD, List.getElem?_eq_getElem h]; rfl
theorem last_take {tk : List Pr2} {i : Nat} (h : i ≤ tk.length) : (lastK (tk.take i)) = if i = 0 then [] else (tk.getD (i - 1) ([], [])).1 := by
 unfold lastK
 rw [List.length_take, Nat.min_eq_left h]
 by_cases h0 : i = 0
 ·subst h0; rw [if_pos rfl]; simp
 rw [if_neg h0, List.getD_eq_getElem?_getD, List.getElem?_take_of_lt (by omega), ← List.getD_eq_getElem?_getD]
theorem raw_take {R : Nat} {tk : List Pr2} {i : Nat} (h : i < tk.length) : (bldF R (tk.take (i + 1))).raw = (bldF R (tk.take i)).raw ++ wrB (ahd R i (lastK (tk.take i))) (tk.getD i ([], [])).1 (tk.getD i ([], [])).2 := by
 rw [take_snoc h, bld_snoc]
 show _ ++ wrB (ahd R (bldF R (tk.take i)).n (bldF R (tk.take i)).last) _ _ = _
 rw [bld_n, bld_last, List.length_take, Nat.min_eq_left (by omega)]
theorem st_take {R : Nat} {tk : List Pr2} {i : Nat} (h : i < tk.length) : startsF (bldF R (tk.take (i + 1))).st = if i % R = 0 then startsF (bldF R (tk.take i)).st ++ fixedI ((bldF R (tk.take i)).raw.length : Nat) 4 else startsF (bldF R (tk.take i)).st := by
 rw [take_snoc h, bld_snoc]
 show startsF (if (bldF R (tk.take i)).n % R = 0 then (bldF R (tk.take i)).st ++ [((bldF R (tk.take i)).raw.length : Int)] else (bldF R (tk.take i)).st) = _
 rw [bld_n, List.length_take, Nat.min_eq_left (by omega)]
 split
 ·unfold startsF; rw [List.map_append, List.flatten_append]; simp
 rfl
theorem raw_bd {R : Nat} : ∀ tk, shortE tk → (bldF R tk).raw.length ≤ 2075 * tk.length := rev_ind (fun _ => Nat.zero_le _) fun tk x ih h => by
 have hx := h tk.length
 rw [getD_snoc] at hx
 have h1 := ih fun i => by
  by_cases c : i < tk.length
  ·have q := h i
   rwa [getD_lt _ _ _ c] at q
  rw [List.getD_eq_getElem?_getD, List.getElem?_eq_none (by omega)]; exact ⟨Nat.zero_le _, Nat.zero_le _⟩
 have h2 := (wrB_len (a := ahd R (bldF R tk).n (bldF R tk).last) (k := x.1) (v := x.2) hx.1 hx.2).1
 rw [bld_snoc]
 show ((bldF R tk).raw ++ _).length ≤ _
 rw [List.length_append, List.length_append, List.length_singleton]
 omega
theorem short_take {tk : List Pr2} (h : shortE tk) (i : Nat) : shortE (tk.take i) := fun j => by
 by_cases c : j < i
 ·rw [List.getD_eq_getElem?_getD, List.getElem?_take_of_lt c, ← List.getD_eq_getElem?_getD]; exact h j
 rw [List.getD_eq_getElem?_getD, List.getElem?_eq_none (by rw [List.length_take]; omega)]; exact ⟨Nat.zero_le _, Nat.zero_le _⟩
theorem take_bd {R : Nat} {tk : List Pr2} (hR : 1 ≤ R) (hn : tk.length ≤ 65544) (ho : shortE tk) (i : Nat) : (bldF R (tk.take i)).raw.length ≤ 136003800 ∧ (startsF (bldF R (tk.take i)).st).length ≤ 262176 := by
 have h1 := raw_bd (R := R) _ (short_take ho i)
 have h2 := bld_st R hR (tk.take i)
 rw [List.length_take] at h1 h2
 have h3 : cdiv R (min i tk.length) ≤ min i tk.length := by
  unfold cdiv
  rcases Nat.eq_zero_or_pos (min i tk.length) with e | e
  ·rw [e]; have := Nat.div_eq_of_lt (show 0 + R - 1 < R by omega); omega
  have q : (min i tk.length + R - 1) / R ≤ (min i tk.length * R) / R := Nat.div_le_div_right (by
   have := Nat.le_mul_of_pos_left (R - 1) e
   have q2 : min i tk.length * R = min i tk.length * (R - 1) + min i tk.length := by
    conv => lhs; rw [show R = (R - 1) + 1 by omega, Nat.mul_succ]
   omega)
  rwa [Nat.mul_div_cancel _ (show 0 < R by omega)] at q
 rw [starts_len]
 omega
theorem RRaw_ok (x : Value) (R : Nat) (tk : List Pr2) (w : World) (hx : RdS pairC w x tk) (hR : 1 ≤ R ∧ R ≤ 64) (hn : tk.length ≤ 65544) (ho : shortE tk) : Calls Tryz.prog 31 [x, .int .i64 (R : Nat)].toArray w (Rt fun r w' => ∃ rs, SlE byteV 5 r (rawB R (bldF R tk).raw (bldF R tk).st tk.length) rs ∧ Mem w [] w' [rs]) := by
 have hM0 : Mem w [] w [] := Mem.nil w []
 refine calls_vc mixed Tryz.func31 rfl C31 (by simp [Tryz.ntmps31]) <| seq fun _ h1 => mv <| h1 _ _ <| seq fun _ h2 => mv <| mv <| h2 _ _ <| seq fun _ h3 => seq fun _ h4 => mv <| h4 _ _ ?_
 have hM5 : Mem _ _ w [[]] := hM0.addNil
 have hs5 : SlE byteV 5 (.slice none 0 0) [] [] := Sl.nil 1 5
 have hM6 : Mem _ _ w [_, []] := hM5.addNil
 have hs6 : SlE byteV 5 (.slice none 0 0) [] [] := Sl.nil 1 5
 refine lp (n := fun _ _ => False) (ι := (Nat) × (Value) × (List Ent) × (Value) × (List Ent)) (fun ⟨i, y5_, r5_, y6_, r6_⟩ f w' => f 7 = .int .i64 (i : Nat) ∧ f 5 = y5_ ∧ f 6 = y6_ ∧ f 0 = x ∧ f 1 = .int .i64 (R : Nat) ∧ Mem w [] w' [r5_, r6_] ∧ (i ≤ tk.length) ∧ (SlE byteV 5 y5_ ((bldF R (tk.take i)).raw) r5_) ∧ (SlE byteV 5 y6_ ((startsF (bldF R (tk.take i)).st)) r6_)) (fun ⟨i, y5_, r5_, y6_, r6_⟩ => tk.length - i) (0, ((.slice none 0 0)), ([]), ((.slice none 0 0)), ([])) ?_ ?_
 ·exact ⟨vi, rfl, rfl, rfl, vi, hM6, by omega, by first | exact hs5 | simpa using hs5, by first | exact hs6 | simpa using hs6⟩
 rintro ⟨i, y5_, r5_, y6_, r6_⟩ f w7 ⟨e7_7, e7_5, e7_6, e7_0, e7_1, hM7, hi, hy5_, hy6_⟩ K8 h8
 obtain ⟨frm, rfl⟩ := re5 e7_7 e7_5 e7_6 e7_0 e7_1
 refine seq fun _ h9 => seq fun _ h10 => ?_
 obtain ⟨hb1, hb2⟩ := take_bd hR.1 hn ho i
 have hkl := (ho i).1
 have hkl1 := (ho (i - 1)).1
 have hvl := (ho i).2
 refine mv <| mv <| stp (v := .int .i64 (tk.length : Nat)) (o_lenR (hx.upd hM7.upd) rfl rfl) <| bn rfl rfl <| h10 _ _ <| cndP rfl (fun c11 => ?_) (fun c11 => ?_)
 ·refine h9 _ _ <| seq fun _ h12 => seq fun _ h13 => mv <| h13 _ _ <| seqc (fun f w' => ∃ (c : Nat) (y6 : Value) (r6 : List Ent), f 8 = .int .i64 (c : Nat) ∧ f 6 = y6 ∧ f 0 = x ∧ f 1 = .int .i64 (R : Nat) ∧ f 5 = y5_ ∧ f 7 = .int .i64 (i : Nat) ∧ Mem w [] w' [r5_, r6] ∧ (SlE byteV 5 y6 (startsF (bldF R (tk.take (i + 1))).st) r6) ∧ (c = common (ahd R i (lastK (tk.take i))) (tk.getD i ([], [])).1)) ?_ ?_
  ·intro K14 h14
   refine seq fun _ h16 => mv <| mv <| stp (v := .int .i64 (i % R : Nat)) (o_rem rfl rfl (by omega) ((v_rem (Int.natCast_nonneg _)).trans rfl)) <| bn rfl rfl <| h16 _ _ <| cndP rfl (fun c17 => ?_) (fun c17 => ?_)
   ·refine mv <| mv <| stp (v := .int .i64 (((bldF R (tk.take i)).raw).length : Nat)) (o_lenR (hy5_.rd hM7 (i := 0) rfl) rfl rfl) <| stp (v := .int .u64 ((bldF R (tk.take i)).raw.length : Nat)) (o_conv rfl (conv_u64 (by omega) (by omega))) <| m_call (refFixed_ok ((bldF R (tk.take i)).raw.length : Nat) 4 (by simp only [inK]; omega) (by simp only [inK]; omega) w7) rfl fun v18 w18 ⟨rs18, hs18, hm18⟩ => ?_
    have hM18 : Mem w [] w18 [r5_, r6_, rs18] := hM7.add hm18
    have hn18 := fixedI_len (v := ((bldF R (tk.take i)).raw.length : Nat)) (n := 4)
    refine m_appE hM18 (i := 1) rfl hy6_ rfl rfl (hs18.rd hM18 (i := 2) rfl) (by first | omega | (simp; omega)) (by omega) fun v19 w19 r19 (hs19 : SlE byteV 5 v19 ((startsF (bldF R (tk.take i)).st) ++ (fixedI ((bldF R (tk.take i)).raw.length : Nat) 4)) r19) (hM19 : Mem _ _ w19 [_, r19, _]) => mv <| h14 _ _ ⟨0, v19, r19, vi, rfl, rfl, vi, rfl, vi, hM19.keep (by simp), by rw [st_take (by omega), if_pos (by omega)]; exact hs19, by unfold ahd; rw [if_pos (by omega)]; rfl⟩
   intro wd e1 e2 e3 e4
   have hd := Upd.same e1 e2 e3 e4 []
   have hM20 := hM7.pure hd
   clear e1 e2 e3 e4
   refine ⟨(some [(blkV x)]), ?_⟩
   show vd _ _ _ _ _ _ _
   refine dmv <| dmv <| dq (v := .int .i64 ((i : Nat) - 1)) (o_bin rfl rfl (v_sub64 (by omega))) ?_
   have h0 : 0 < i := Nat.pos_of_ne_zero fun q => by
    have q2 : i % R = 0 := by rw [q]; exact Nat.zero_mod R
    omega
   refine dqp (m_idxS3 ([], []) (j := (i - 1)) (hx.upd hM20.upd) (hx.upd hM20.upd) rfl (v_int (by omega)) (by omega) fun b21 o21 hp21 hbb21 => ?_)
   show vd _ _ _ _ _ _ _
   subst hbb21
   refine dfa rfl <| dmv <| dmv <| dqp (m_idxS3 ([], []) (j := i) (hx.upd hM20.upd) (hx.upd hM20.upd) rfl rfl (by omega) fun b22 o22 hp22 hbb22 => ?_)
   show vd _ _ _ _ _ _ _
   subst hbb22
   refine dfa rfl <| dqld rfl (by simp [isHeld]) (v := .string (str ((tk.getD i ([], [])).1))) (hp22.get 0 rfl) <| dl (ld (v := .string (str ((tk.getD (i - 1) ([], [])).1))) rfl (hp21.get 0 rfl) <| ⟨(fun b hb => rfl), dl (m_call (refCommon_ok ((tk.getD (i - 1) ([], [])).1) ((tk.getD i ([], [])).1) wd (by first | omega | (simp; done) | (simp; omega)) (by first | omega | (simp; done) | (simp; omega))) rfl fun v23 w23 ⟨hr23, hu23⟩ => ?_)⟩)
   have hM23 : Mem w [] w23 [r5_, r6_] := hM20.pure hu23
   subst hr23
   have hh23 := held_upd (wr := wd) (bs := [(blkV x)]) hu23 (fun b hb => by
    simp only [List.mem_cons, List.not_mem_nil, or_false] at hb
    rw [hb]; exact ⟨Rd.blkV_ltS (hx.upd hM20.upd) (by omega), by simp⟩) (fun b hb => rfl)
   refine ⟨hh23, dmv <| h14 _ _ ⟨(common (tk.getD (i - 1) ([], [])).1 (tk.getD i ([], [])).1), y6_, r6_, vi, rfl, rfl, vi, rfl, vi, hM23.keep (by simp), by rw [st_take (by omega), if_neg (by omega)]; exact hy6_, by rw [last_take (by omega), if_neg (by intro q; subst q; exact absurd (Nat.zero_mod R) (by omega))]; unfold ahd; rw [if_neg (by omega)]⟩⟩
  rintro f w15 ⟨c, y6, r6, e15_8, e15_6, e15_0, e15_1, e15_5, e15_7, hM15, h6, hc⟩
  obtain ⟨frm, rfl⟩ := re6 e15_8 e15_6 e15_0 e15_1 e15_5 e15_7
  refine seq fun _ h24 => mv ?_
  have hcl := common_le (ahd R i (lastK (tk.take i))) (tk.getD i ([], [])).1
  rw [← hc] at hcl
  have hwl := wrB_len (a := (ahd R i (lastK (tk.take i)))) (k := (tk.getD i ([], [])).1) (v := (tk.getD i ([], [])).2) hkl hvl
  obtain ⟨hb3, hb4⟩ := take_bd hR.1 hn ho (i + 1)
  refine mv <| m_call (refPut_ok (c : Nat) (by simp only [inK]; omega) w15) rfl fun v25 w25 ⟨rs25, hs25, hm25⟩ => ?_
  have hM25 : Mem w [] w25 [r5_, r6, rs25] := hM15.add hm25
  have hn25 := putI_len (v := (c : Nat)) (by omega)
  refine m_appE hM25 (i := 0) rfl hy5_ rfl rfl (hs25.rd hM25 (i := 2) rfl) (by first | omega | (simp; omega)) (by omega) fun v26 w26 r26 (hs26 : SlE byteV 5 v26 (((bldF R (tk.take i)).raw) ++ (putI (c : Nat))) r26) (hM26 : Mem _ _ w26 [r26, _, _]) => mv <| h24 _ _ <| seq fun _ h27 => ?_
  have hx1 : ((bldF R (tk.take i)).raw ++ putI (c : Nat)).length = (bldF R (tk.take i)).raw.length + (putI (c : Nat)).length := List.length_append
  refine mv <| mv <| mv <| m_idxS ([], []) (j := i) (hx.upd hM26.upd) rfl rfl (by omega) fun b28 o28 hp28 => fa rfl <| ld (v := .string (str ((tk.getD i ([], [])).1))) rfl (hp28.get 0 rfl) <| stp (v := .int .i64 (((tk.getD i ([], [])).1).length : Nat)) (o_lens rfl rfl) <| mv <| stp (v := .int .i64 ((((tk.getD i ([], [])).1).length : Nat) - (c : Nat))) (o_bin rfl rfl (v_sub64 (by omega))) <| m_call (refPut_ok ((((tk.getD i ([], [])).1).length : Nat) - (c : Nat)) (by simp only [inK]; omega) w26) rfl fun v29 w29 ⟨rs29, hs29, hm29⟩ => ?_
  have hM29 : Mem _ _ w29 [_, _, _, rs29] := hM26.add hm29
  have hn29 := putI_len (v := (((tk.getD i ([], [])).1).length : Nat) - (c : Nat)) (by omega)
  refine m_appE hM29 (i := 0) rfl hs26 rfl rfl (hs29.rd hM29 (i := 3) rfl) (by first | omega | (simp; omega)) (by omega) fun v30 w30 r30 (hs30 : SlE byteV 5 v30 ((((bldF R (tk.take i)).raw) ++ (putI (c : Nat))) ++ (putI ((((tk.getD i ([], [])).1).length : Nat) - (c : Nat)))) r30) (hM30 : Mem _ _ w30 [r30, _, _, _]) => mv <| h27 _ _ <| seq fun _ h31 => ?_
  have hx2 : (((bldF R (tk.take i)).raw ++ putI (c : Nat)) ++ putI (((tk.getD i ([], [])).1.length : Nat) - (c : Nat))).length = ((bldF R (tk.take i)).raw ++ putI (c : Nat)).length + (putI (((tk.getD i ([], [])).1.length : Nat) - (c : Nat))).length := List.length_append
  refine mv <| mv <| mv <| m_idxS ([], []) (j := i) (hx.upd hM30.upd) rfl rfl (by omega) fun b32 o32 hp32 => fa rfl <| ld (v := .string (str ((tk.getD i ([], [])).2))) rfl (hp32.get 1 rfl) <| stp (v := .int .i64 (((tk.getD i ([], [])).2).length : Nat)) (o_lens rfl rfl) <| m_call (refPut_ok (((tk.getD i ([], [])).2).length : Nat) (by simp only [inK]; omega) w30) rfl fun v33 w33 ⟨rs33, hs33, hm33⟩ => ?_
  have hM33 : Mem _ _ w33 [_, _, _, _, rs33] := hM30.add hm33
  have hn33 := putI_len (v := (((tk.getD i ([], [])).2).length : Nat)) (by omega)
  refine m_appE hM33 (i := 0) rfl hs30 rfl rfl (hs33.rd hM33 (i := 4) rfl) (by first | omega | (simp; omega)) (by omega) fun v34 w34 r34 (hs34 : SlE byteV 5 v34 (((((bldF R (tk.take i)).raw) ++ (putI (c : Nat))) ++ (putI ((((tk.getD i ([], [])).1).length : Nat) - (c : Nat)))) ++ (putI (((tk.getD i ([], [])).2).length : Nat))) r34) (hM34 : Mem _ _ w34 [r34, _, _, _, _]) => mv <| h31 _ _ <| seq fun _ h35 => ?_
  have hx3 : ((((bldF R (tk.take i)).raw ++ putI (c : Nat)) ++ putI (((tk.getD i ([], [])).1.length : Nat) - (c : Nat))) ++ putI ((tk.getD i ([], [])).2.length : Nat)).length = (((bldF R (tk.take i)).raw ++ putI (c : Nat)) ++ putI (((tk.getD i ([], [])).1.length : Nat) - (c : Nat))).length + (putI ((tk.getD i ([], [])).2.length : Nat)).length := List.length_append
  have hx5 : (((tk.getD i ([], [])).1.take (tk.getD i ([], [])).1.length).drop c).length = (tk.getD i ([], [])).1.length - c := by rw [List.take_length, List.length_drop]
  refine mv <| mv <| mv <| m_idxS ([], []) (j := i) (hx.upd hM34.upd) rfl rfl (by omega) fun b36 o36 hp36 => fa rfl <| ld (v := .string (str ((tk.getD i ([], [])).1))) rfl (hp36.get 0 rfl) <| mv <| stp (v := .string (str ((((tk.getD i ([], [])).1).take (((tk.getD i ([], [])).1).length)).drop c))) (o_slcs (a := c) (b := ((tk.getD i ([], [])).1).length) rfl (by omega) rfl ⟨_, rfl⟩ rfl) <| m_s2b hM34 rfl fun v37 w37 r37 hs37 (hM37 : Mem _ _ w37 [_, _, _, _, _, r37]) => m_appE hM37 (i := 0) rfl hs34 rfl rfl (hs37.rd hM37 (i := 5) rfl) (by first | omega | (simp; omega)) (by omega) fun v38 w38 r38 (hs38 : SlE byteV 5 v38 ((((((bldF R (tk.take i)).raw) ++ (putI (c : Nat))) ++ (putI ((((tk.getD i ([], [])).1).length : Nat) - (c : Nat)))) ++ (putI (((tk.getD i ([], [])).2).length : Nat))) ++ ((((tk.getD i ([], [])).1).take (((tk.getD i ([], [])).1).length)).drop c)) r38) (hM38 : Mem _ _ w38 [r38, _, _, _, _, _]) => mv <| h35 _ _ ?_
  have hx4 : (((((bldF R (tk.take i)).raw ++ putI (c : Nat)) ++ putI (((tk.getD i ([], [])).1.length : Nat) - (c : Nat))) ++ putI ((tk.getD i ([], [])).2.length : Nat)) ++ ((tk.getD i ([], [])).1.take (tk.getD i ([], [])).1.length).drop c).length = ((((bldF R (tk.take i)).raw ++ putI (c : Nat)) ++ putI (((tk.getD i ([], [])).1.length : Nat) - (c : Nat))) ++ putI ((tk.getD i ([], [])).2.length : Nat)).length + (((tk.getD i ([], [])).1.take (tk.getD i ([], [])).1.length).drop c).length := List.length_append
  refine mv <| mv <| mv <| m_idxS ([], []) (j := i) (hx.upd hM38.upd) rfl rfl (by omega) fun b39 o39 hp39 => fa rfl <| ld (v := .string (str ((tk.getD i ([], [])).2))) rfl (hp39.get 1 rfl) <| m_s2b hM38 rfl fun v40 w40 r40 hs40 (hM40 : Mem _ _ w40 [_, _, _, _, _, _, r40]) => m_appE hM40 (i := 0) rfl hs38 rfl rfl (hs40.rd hM40 (i := 6) rfl) (by first | omega | (simp; omega)) (by omega) fun v41 w41 r41 (hs41 : SlE byteV 5 v41 (((((((bldF R (tk.take i)).raw) ++ (putI (c : Nat))) ++ (putI ((((tk.getD i ([], [])).1).length : Nat) - (c : Nat)))) ++ (putI (((tk.getD i ([], [])).2).length : Nat))) ++ ((((tk.getD i ([], [])).1).take (((tk.getD i ([], [])).1).length)).drop c)) ++ ((tk.getD i ([], [])).2)) r41) (hM41 : Mem _ _ w41 [r41, _, _, _, _, _, _]) => mv <| h12 _ _ <| mv <| stp (v := .int .i64 ((i : Nat) + 1)) (o_bin rfl rfl (v_add64 (by omega))) <| mv <| h8 (i + 1, v41, r41, y6, r6) _ _ ⟨vi, rfl, rfl, rfl, vi, hM41.keep (by simp), by omega, by rw [raw_take (by omega)]; unfold wrB; rw [← hc]; simpa using hs41, h6⟩ (by (try dsimp only); omega)
 refine h3 _ _ <| seq fun _ h42 => ?_
 obtain rfl : i = tk.length := by omega
 rw [List.take_of_length_le (Nat.le_refl _)] at hy5_ hy6_ hb1 hb2
 refine mv <| mv <| m_appE hM7 (i := 0) rfl hy5_ rfl rfl (hy6_.rd hM7 (i := 1) rfl) (by first | omega | (simp; omega)) (by omega) fun v43 w43 r43 (hs43 : SlE byteV 5 v43 (((bldF R tk).raw) ++ (startsF (bldF R tk).st)) r43) (hM43 : Mem w [] w43 [r43, r6_]) => mv <| h42 _ _ <| seq fun _ h44 => mv <| mv <| stp (v := .int .u64 (R : Nat)) (o_conv rfl (conv_u64 (by omega) (by omega))) <| m_call (refFixed_ok (R : Nat) 4 (by simp only [inK]; omega) (by simp only [inK]; omega) w43) rfl fun v45 w45 ⟨rs45, hs45, hm45⟩ => ?_
 have hM45 : Mem _ _ w45 [_, _, rs45] := hM43.add hm45
 have hn45 := fixedI_len (v := (R : Nat)) (n := 4)
 refine m_appE hM45 (i := 0) rfl hs43 rfl rfl (hs45.rd hM45 (i := 2) rfl) (by first | omega | (simp; omega)) (by omega) fun v46 w46 r46 (hs46 : SlE byteV 5 v46 ((((bldF R tk).raw) ++ (startsF (bldF R tk).st)) ++ (fixedI (R : Nat) 4)) r46) (hM46 : Mem _ _ w46 [r46, _, _]) => mv <| h44 _ _ <| seq fun _ h47 => mv <| mv <| stp (v := .int .i64 (tk.length : Nat)) (o_lenR (hx.upd hM46.upd) rfl rfl) <| stp (v := .int .u64 (tk.length : Nat)) (o_conv rfl (conv_u64 (by omega) (by omega))) <| m_call (refFixed_ok (tk.length : Nat) 4 (by simp only [inK]; omega) (by simp only [inK]; omega) w46) rfl fun v48 w48 ⟨rs48, hs48, hm48⟩ => ?_
 have hM48 : Mem _ _ w48 [_, _, _, rs48] := hM46.add hm48
 have hn48 := fixedI_len (v := (tk.length : Nat)) (n := 4)
 refine m_appE hM48 (i := 0) rfl hs46 rfl rfl (hs48.rd hM48 (i := 3) rfl) (by first | omega | (simp; omega)) (by omega) fun v49 w49 r49 (hs49 : SlE byteV 5 v49 (((((bldF R tk).raw) ++ (startsF (bldF R tk).st)) ++ (fixedI (R : Nat) 4)) ++ (fixedI (tk.length : Nat) 4)) r49) (hM49 : Mem _ _ w49 [r49, _, _, _]) => mv <| h47 _ _ <| ⟨v49, rfl, ⟨_, by unfold rawB; simpa using hs49, hM49.keep (by simp)⟩⟩
end Go.Proofs.YtifnmbmijljhfaaGreat.E
namespace Go.Proofs.YtifnmbmijljhfaaGreat.E
open Go
theorem numb_put {b X : List UInt8} {a v : Nat} {m : Int} (hd : b.drop a = putI (v : Nat) ++ X) (hm : (v : Int) ≤ m) (hv : v ≤ 65536) : numbF b a m = ((v : Int), a + (putI (v : Nat)).length) ∧ b.drop (a + (putI (v : Nat)).length) = X := by
 have hg := get_put (v := ((v : Nat) : Int)) (by omega) (by omega) X
 constructor
 ·unfold numbF
  rw [hd, hg]
  dsimp only
  rw [Int.toNat_natCast, if_pos ⟨rfl, hm⟩]
 rw [← List.drop_drop, hd, List.drop_left' rfl]
theorem take_drop_of {b Y Z : List UInt8} {z r : Nat} (hd : b.drop z = Y ++ Z) (hr : Y.length = r) : (b.take (z + r)).drop z = Y := by
 rw [List.drop_take, show z + r - z = r by omega, hd, List.take_left' hr]
theorem step_wr {R : Nat} {b key k v X : List UInt8} {a i : Nat} (hk : k.length ≤ 1024) (hv : v.length ≤ 1024) (hd : b.drop a = wrB (ahd R i key) k v ++ X) : stepE b key a = some ((k, v), a + (wrB (ahd R i key) k v).length) := by
 obtain ⟨c, hc⟩ : ∃ c, c = common (ahd R i key) k := ⟨_, rfl⟩
 have hcl := common_le (ahd R i key) k
 rw [← hc] at hcl
 have hkey : c ≤ key.length ∧ key.take c = k.take c := by
  have h1 := hcl.1
  have h2 := hcl.2.2.1
  unfold ahd at h1 h2
  split at h1
  ·rename_i q
   have h0 : c = 0 := by simpa using h1
   subst h0
   exact ⟨Nat.zero_le _, by simp⟩
  rename_i q
  rw [if_neg q] at h2
  exact ⟨h1, h2⟩
 have hw : wrB (ahd R i key) k v = putI (c : Nat) ++ (putI ((k.length - c : Nat) : Nat) ++ (putI (v.length : Nat) ++ (k.drop c ++ v))) := by
  unfold wrB
  rw [← hc, show ((k.length : Nat) : Int) - ((c : Nat) : Int) = ((k.length - c : Nat) : Int) by omega]
  simp only [List.append_assoc]
 rw [hw] at hd
 simp only [List.append_assoc] at hd
 obtain ⟨h1, d1⟩ := numb_put (m := key.length) hd (by omega) (by omega)
 obtain ⟨h2, d2⟩ := numb_put (m := 1024 - (c : Int)) d1 (by omega) (by omega)
 obtain ⟨h3, d3⟩ := numb_put (m := 1024) d2 (by omega) (by omega)
 obtain ⟨z, hz⟩ : ∃ z, z = a + (putI (c : Nat)).length + (putI ((k.length - c : Nat) : Nat)).length + (putI (v.length : Nat)).length := ⟨_, rfl⟩
 rw [← hz] at h3 d3
 have hkd : (k.drop c).length = k.length - c := List.length_drop
 have hlen := congrArg List.length d3
 rw [List.length_drop, List.length_append, List.length_append, hkd] at hlen
 have hl0 := congrArg List.length hd
 have hp := putI_pos (v := ((c : Nat) : Int)) (by omega)
 rw [List.length_drop] at hl0
 simp only [List.length_append, hkd] at hl0
 rw [step_some h1 (by omega) h2 (by omega) h3 (by omega) (by omega)]
 simp only [Int.toNat_natCast]
 have e1 : (b.take (z + (k.length - c))).drop z = k.drop c := take_drop_of d3 hkd
 have e2 : (b.take (z + (k.length - c) + v.length)).drop (z + (k.length - c)) = v := by
  refine take_drop_of (Z := X) ?_ rfl
  rw [← List.drop_drop, d3, List.drop_left' hkd]
 rw [e1, e2, hkey.2, List.take_append_drop, hw]
 simp only [List.length_append, hkd]
 congr 2
 omega
theorem ent_blk {R : Nat} {es : List Pr2} {t b : List UInt8} (h : Blk R es t) (hb : b = t.take (t.length - 8)) : ∀ i, i ≤ es.length → entF b i = some (es.take i, (bldF R (es.take i)).raw.length)
 | 0, _ => by rw [List.take_zero]; rfl
 | i + 1, hi => by
  have ih := ent_blk h hb i (by omega)
  have hx := h.2.2.1 i (by omega)
  have hlt := blk_len h
  have hrt := raw_take (R := R) (tk := es) (i := i) (by omega)
  obtain ⟨r, s, h1, h2⟩ := bld_ext R (es.take (i + 1)) (es.drop (i + 1))
  rw [List.take_append_drop] at h1
  have hbe : b = (bldF R es).raw ++ startsF (bldF R es).st := by
   have hst := bld_st R h.1.1 es
   have e : t = ((bldF R es).raw ++ startsF (bldF R es).st) ++ (fixedI (R : Nat) 4 ++ fixedI (es.length : Nat) 4) := h.2.2.2.trans (List.append_assoc _ _ _)
   have hl : ((bldF R es).raw ++ startsF (bldF R es).st).length = t.length - 8 := by rw [List.length_append, starts_len]; omega
   rw [hb]
   conv => lhs; rw [e]
   exact List.take_left' (by rw [hl, ← e])
  have hd : b.drop (bldF R (es.take i)).raw.length = wrB (ahd R i (lastK (es.take i))) (es.getD i ([], [])).1 (es.getD i ([], [])).2 ++ (r ++ startsF (bldF R es).st) := by
   rw [hbe, h1, hrt]
   simp only [List.append_assoc]
   exact List.drop_left' rfl
  have hs := step_wr (R := R) hx.1 hx.2.1 hd
  have e := ent_succ ih hs
  rw [e, take_snoc (by omega)]
  have hq : (bldF R (es.take i ++ [es.getD i ([], [])])).raw.length = (bldF R (es.take i)).raw.length + (wrB (ahd R i (lastK (es.take i))) (es.getD i ([], [])).1 (es.getD i ([], [])).2).length := by
   rw [← take_snoc (by omega), hrt, List.length_append]
  rw [hq]
theorem ent_all {R : Nat} {es : List Pr2} {t b : List UInt8} (h : Blk R es t) (hb : b = t.take (t.length - 8)) : entF b es.length = some (es, (bldF R es).raw.length) := by
 have := ent_blk h hb es.length (Nat.le_refl _)
 rwa [List.take_of_length_le (Nat.le_refl _)] at this
end Go.Proofs.YtifnmbmijljhfaaGreat.E
namespace Go.Proofs.YtifnmbmijljhfaaGreat.E
open Go
theorem blk_here {Rq nq E R : Nat} {es : List Pr2} {raw : List UInt8} (hB : Blk R es raw) (hl : raw.length ≤ 65536) (hE : E = raw.length - 8) (hRe : Rq = word ((raw.take (E + 4)).drop E)) (hne : nq = word (raw.drop (E + 4))) : R = Rq ∧ es.length = nq ∧ (1 ≤ Rq ∧ Rq ≤ 64) ∧ 1 ≤ nq ∧ 3 * nq ≤ E ∧ 4 * cdiv Rq nq ≤ E ∧ ∀ F, F + 4 * cdiv Rq nq = E → FullB Rq nq (raw.take F) (raw.drop F) es := by
 obtain ⟨h1, h2⟩ := blk_nums hB hl hE
 have e1 : R = Rq := by rw [hRe, h1]
 have e2 : es.length = nq := by rw [hne, h2]
 subst e1; subst e2
 have h3 := blk_len hB
 have h4 := bld_raw (R := R) es hB.2.2.1
 exact ⟨rfl, rfl, hB.1, hB.2.1, by omega, by omega, fun F hF => blk_full hB rfl (by omega)⟩
theorem cut_eq {raw : List UInt8} {F g : Nat} : (raw.take (F + 4 * g + 4)).drop (F + 4 * g) = ((raw.drop F).drop (4 * g)).take 4 := by rw [List.drop_drop, List.drop_take, show F + 4 * g + 4 - (F + 4 * g) = 4 by omega]
theorem end_0 {b : List UInt8} {a : Nat} : endE b a 0 = if a < b.length then 22 else 0 := by unfold endE; rw [if_neg (by omega)]
theorem conv_i64 {a : Nat} (h : a ≤ 9223372036854775807) : Value.int .i64 (IntKind.i64.wrap (a : Int)) = .int .i64 (a : Nat) := by
 congr 1
 simp [IntKind.wrap, IntKind.bits, IntKind.signed]
 omega
theorem parsed_ok (x : Value) (raw : List UInt8) (w : World) (hx : RdE byteV w x raw) (hl : raw.length ≤ 65536) : Calls Tryz.prog 36 [x].toArray w (Rt fun r w' => ∃ rs, Mem w [] w' [rs] ∧ ((r = .pointer none ∧ ∀ R es, ¬ Blk R es raw) ∨ (∃ br R es, r = .pointer (some ⟨br, 0, none⟩) ∧ Blk R es raw ∧ RdrS br R es rs ∧ ∀ R' es', Blk R' es' raw → R' = R ∧ es' = es))) := by
 have hM0 : Mem w [] w [] := Mem.nil w []
 obtain ⟨E, hE⟩ : ∃ E, E = raw.length - 8 := ⟨_, rfl⟩
 refine calls_vc mixed Tryz.func36 rfl C36 (by simp [Tryz.ntmps36]) <| seq fun _ h1 => stp (v := .pointer none) (o_mv rfl) <| h1 _ _ <| seq fun _ h2 => seq fun _ h3 => stp (v := x) (o_mv rfl) <| stp (v := .int .i64 (raw.length : Nat)) (o_lenR (hx.upd hM0.upd) rfl rfl) <| stp (v := .bool (decide (((raw.length : Nat) : Int) < 8))) (o_bin rfl rfl rfl) <| h3 _ _ <| cndP rfl (fun c4 => ?_) (fun c4 => ?_)
 ·refine seq fun _ h5 => stp (v := .pointer none) (o_mv rfl) <| h5 _ _ <| ⟨(.pointer none), rfl, ⟨[], hM0.keep (by simp), .inl ⟨rfl, fun R es hB => by have := blk_len hB; omega⟩⟩⟩
 refine h2 _ _ <| seq fun _ h6 => stp (v := x) (o_mv rfl) <| stp (v := .int .i64 (raw.length : Nat)) (o_lenR (hx.upd hM0.upd) rfl rfl) <| stp (v := .int .i64 (E : Nat)) (o_bin rfl rfl ((v_sub64 (by omega)).trans (v_int (by omega)))) <| stp (v := .int .i64 (E : Nat)) (o_mv rfl) <| h6 _ _ <| seq fun _ h7 => stp (v := x) (o_mv rfl) <| stp (v := .int .i64 (E : Nat)) (o_mv rfl) <| stp (v := .int .i64 (E : Nat)) (o_mv rfl) <| stp (v := .int .i64 ((E : Nat) + 4)) (o_bin rfl rfl (v_add64 (by omega))) <| m_slcE E (E + 4) (hx) rfl (by omega) (by omega) ⟨_, v_int (by omega)⟩ ⟨_, v_int (by omega)⟩ fun u8 hu8 => m_call (Word_ok _ ((raw.take (E + 4)).drop E) w ((hu8.upd hM0.upd)) (by first | omega | (simp; done) | (simp; omega))) rfl fun v9 w9 ⟨hr9, hu9⟩ => ?_
 have hM9 : Mem w [] w9 [] := hM0.pure hu9
 subst hr9
 obtain ⟨Rq, hRe⟩ : ∃ R, R = word ((raw.take (E + 4)).drop E) := ⟨_, rfl⟩
 have hR4 : Rq < 4294967296 := by rw [hRe]; exact word_lt4 (by rw [List.length_drop, List.length_take]; omega)
 refine stp (v := .int .i64 (Rq : Nat)) (o_conv rfl (by rw [← hRe]; exact conv_i64 (by omega))) <| stp (v := .int .i64 (Rq : Nat)) (o_mv rfl) <| h7 _ _ <| seq fun _ h10 => stp (v := x) (o_mv rfl) <| stp (v := .int .i64 (E : Nat)) (o_mv rfl) <| stp (v := .int .i64 ((E : Nat) + 4)) (o_bin rfl rfl (v_add64 (by omega))) <| m_slcE (E + 4) raw.length (hx) rfl (by omega) (by omega) rfl ⟨_, v_int (by omega)⟩ fun u11 hu11 => m_call (Word_ok _ ((raw.take raw.length).drop (E + 4)) w9 ((hu11.upd hM9.upd)) (by first | omega | (simp; done) | (simp; omega))) rfl fun v12 w12 ⟨hr12, hu12⟩ => ?_
 have hM12 : Mem w [] w12 [] := hM9.pure hu12
 subst hr12
 obtain ⟨nq, hne⟩ : ∃ R, R = word (raw.drop (E + 4)) := ⟨_, rfl⟩
 have hn4 : nq < 4294967296 := by rw [hne]; exact word_lt4 (by rw [List.length_drop]; omega)
 refine stp (v := .int .i64 (nq : Nat)) (o_conv rfl (by first | (rw [← hne]; exact conv_i64 (by omega)) | (rw [List.take_of_length_le (Nat.le_refl _), ← hne]; exact conv_i64 (by omega)))) <| stp (v := .int .i64 (nq : Nat)) (o_mv rfl) <| h10 _ _ <| seq fun _ h13 => seq fun _ h14 => stp (v := .int .i64 (Rq : Nat)) (o_mv rfl) <| stp (v := .bool (decide (((Rq : Nat) : Int) < 1))) (o_bin rfl rfl rfl) <| stp (v := .bool (decide (((Rq : Nat) : Int) < 1))) (o_mv rfl) <| splitP rfl (fun c15 => ?_) (fun c15 => ?_)
 ·refine gx rfl <| gx rfl <| stp (v := .bool true) (o_pickT rfl rfl) <| stp (v := .bool true) (o_mv rfl) <| splitT rfl <| gx rfl <| gx rfl <| stp (v := .bool true) (o_pickT rfl rfl) <| stp (v := .bool true) (o_mv rfl) <| splitT rfl <| gx rfl <| gx rfl <| gx rfl <| gx rfl ?_
  refine stp (v := .bool true) (o_pickT rfl rfl) <| h14 _ _ <| cndT rfl <| seq fun _ h16 => stp (v := .pointer none) (o_mv rfl) <| h16 _ _ <| ⟨(.pointer none), rfl, ⟨[], hM12.keep (by simp), .inl ⟨rfl, fun R es hB => by have hh := blk_here hB hl hE hRe hne; omega⟩⟩⟩
 refine stg rfl (v := .int .i64 (Rq : Nat)) (o_mv rfl) <| stg rfl (v := .bool (decide ((64 : Int) < ((Rq : Nat) : Int)))) (o_bin rfl rfl rfl) <| stp (v := .bool (decide ((64 : Int) < ((Rq : Nat) : Int)))) (o_pickF rfl rfl) <| stp (v := .bool (decide ((64 : Int) < ((Rq : Nat) : Int)))) (o_mv rfl) <| splitP rfl (fun c17 => ?_) (fun c17 => ?_)
 ·refine gx rfl <| gx rfl <| stp (v := .bool true) (o_pickT rfl rfl) <| stp (v := .bool true) (o_mv rfl) <| splitT rfl <| gx rfl <| gx rfl <| gx rfl <| gx rfl <| stp (v := .bool true) (o_pickT rfl rfl) <| h14 _ _ <| cndT rfl <| seq fun _ h18 => stp (v := .pointer none) (o_mv rfl) ?_
  refine h18 _ _ <| ⟨(.pointer none), rfl, ⟨[], hM12.keep (by simp), .inl ⟨rfl, fun R es hB => by have hh := blk_here hB hl hE hRe hne; omega⟩⟩⟩
 refine stg rfl (v := .int .i64 (nq : Nat)) (o_mv rfl) <| stg rfl (v := .bool (decide (((nq : Nat) : Int) < 1))) (o_bin rfl rfl rfl) <| stp (v := .bool (decide (((nq : Nat) : Int) < 1))) (o_pickF rfl rfl) <| stp (v := .bool (decide (((nq : Nat) : Int) < 1))) (o_mv rfl) <| splitP rfl (fun c19 => ?_) (fun c19 => ?_)
 ·refine gx rfl <| gx rfl <| gx rfl <| gx rfl <| stp (v := .bool true) (o_pickT rfl rfl) <| h14 _ _ <| cndT rfl <| seq fun _ h20 => stp (v := .pointer none) (o_mv rfl) <| h20 _ _ <| ⟨(.pointer none), rfl, ⟨[], hM12.keep (by simp), .inl ⟨rfl, fun R es hB => by have hh := blk_here hB hl hE hRe hne; omega⟩⟩⟩
 refine stg rfl (v := .int .i64 (nq : Nat)) (o_mv rfl) <| stg rfl (v := .int .i64 (E : Nat)) (o_mv rfl) <| stg rfl (v := .int .i64 ((E : Nat) / 3)) (o_quo rfl rfl (by omega) (v_quo (by omega) (by omega) (by simp only [inK]; omega))) <| stg rfl (v := .bool (decide ((((E : Nat) / 3 : Int) : Int) < ((nq : Nat) : Int)))) (o_bin rfl rfl rfl) <| stp (v := .bool (decide ((((E : Nat) / 3 : Int) : Int) < ((nq : Nat) : Int)))) (o_pickF rfl rfl) <| h14 _ _ <| cndP rfl (fun c21 => ?_) (fun c21 => ?_)
 ·refine seq fun _ h22 => stp (v := .pointer none) (o_mv rfl) <| h22 _ _ <| ⟨(.pointer none), rfl, ⟨[], hM12.keep (by simp), .inl ⟨rfl, fun R es hB => by have hh := blk_here hB hl hE hRe hne; omega⟩⟩⟩
 refine h13 _ _ <| seq fun _ h23 => stp (v := .int .i64 (E : Nat)) (o_mv rfl) <| stp (v := .int .i64 (nq : Nat)) (o_mv rfl) <| stp (v := .int .i64 (Rq : Nat)) (o_mv rfl) <| stp (v := .int .i64 ((nq : Nat) + (Rq : Nat))) (o_bin rfl rfl (v_add64 (by omega))) <| stp (v := .int .i64 (((nq : Nat) + (Rq : Nat)) - 1)) (o_bin rfl rfl (v_sub64 (by omega))) <| stp (v := .int .i64 (Rq : Nat)) (o_mv rfl) ?_
 obtain ⟨q, hq⟩ : ∃ q, q = cdiv Rq nq := ⟨_, rfl⟩
 have hqb : q ≤ nq + Rq - 1 := by rw [hq]; exact Nat.div_le_self _ _
 refine stp (v := .int .i64 (q : Nat)) (o_quo rfl rfl (by omega) ((v_quo (by omega) (by omega) (by simp only [inK]; omega)).trans (v_int (by rw [hq]; unfold cdiv; rw [show ((nq : Nat) : Int) + (Rq : Int) - 1 = ((nq + Rq - 1 : Nat) : Int) by omega]; rfl)))) <| stp (v := .int .i64 (4 * (q : Nat))) (o_bin rfl rfl (v_mul64 (by omega))) <| stp (v := .int .i64 ((E : Nat) - (4 * (q : Nat)))) (o_bin rfl rfl (v_sub64 (by omega))) <| stp (v := .int .i64 ((E : Nat) - (4 * (q : Nat)))) (o_mv rfl) <| h23 _ _ <| seq fun _ h24 => seq fun _ h25 => stp (v := .int .i64 ((E : Nat) - (4 * (q : Nat)))) (o_mv rfl) <| stp (v := .bool (decide (((E : Nat) - (4 * (q : Nat)) : Int) < 0))) (o_bin rfl rfl rfl) <| h25 _ _ <| cndP rfl (fun c26 => ?_) (fun c26 => ?_)
 ·refine seq fun _ h27 => stp (v := .pointer none) (o_mv rfl) <| h27 _ _ <| ⟨(.pointer none), rfl, ⟨[], hM12.keep (by simp), .inl ⟨rfl, fun R es hB => by have hh := blk_here hB hl hE hRe hne; omega⟩⟩⟩
 refine h24 _ _ <| seq fun _ h28 => ?_
 obtain ⟨F, hF⟩ : ∃ F : Nat, (F : Int) = (E : Nat) - 4 * (q : Nat) := ⟨E - 4 * q, by omega⟩
 rw [← hF]
 refine stp (v := .int .i64 (Rq : Nat)) (o_mv rfl) <| stp (v := .agg ([.int .i64 (Rq : Nat), .slice none 0 0] : List Value).toArray) (o_bld rfl rfl) <| m_bx (v := .agg ([.int .i64 (Rq : Nat), .slice none 0 0] : List Value).toArray) hM12 rfl rfl fun b29 w30 (hM30 : Mem w [] w30 [[⟨b29, 101, [.int .i64 (Rq : Nat), .slice none 0 0]⟩]]) => stp (v := .pointer (some ⟨b29, 0, none⟩)) (o_mv rfl) <| h28 _ _ <| seq fun _ h31 => stp (v := x) (o_mv rfl) <| stp (v := .int .i64 (F : Nat)) (o_mv rfl) <| m_slcE 0 F (hx) rfl (by omega) (by omega) ⟨_, rfl⟩ rfl fun u32 hu32 => m_call (NewCursor_ok _ ((raw.take F).drop 0) w30 ((hu32.upd hM30.upd)) (by first | omega | (simp; done) | (simp; omega))) rfl fun v33 w33 ⟨bc33, rs33, hr33, hc33, hm33⟩ => ?_
 have hM33 : Mem w [] w33 [[⟨b29, 101, [.int .i64 (Rq : Nat), .slice none 0 0]⟩], rs33] := hM30.add hm33
 subst hr33
 refine stp (v := .agg ([.pointer (some ⟨bc33, 0, none⟩), .string (str ([]))] : List Value).toArray) (o_bld rfl rfl) <| m_al hM33 fun b34 w35 (hM35 : Mem w [] w35 [[⟨b29, 101, [.int .i64 (Rq : Nat), .slice none 0 0]⟩], rs33, [⟨b34, 105, [.pointer none, .string (str ([]))]⟩]]) => m_stA (l := [.pointer (some ⟨bc33, 0, none⟩), .string (str ([]))]) hM35 (i := 2) rfl rfl rfl rfl (by simp [oneCells, Value.oneCell', byteV]) (by simp) fun w36 (hM36 : Mem w [] w36 [[⟨b29, 101, [.int .i64 (Rq : Nat), .slice none 0 0]⟩], rs33, [⟨b34, 105, [.pointer (some ⟨bc33, 0, none⟩), .string (str ([]))]⟩]]) => h31 _ _ <| seq fun _ h37 => seq fun _ h38 => stp (v := .int .i64 (nq : Nat)) (o_mv rfl) <| stp (v := .int .i64 0) (o_mv rfl) <| h38 _ _ <| lp (n := fun _ _ => False) (ι := (Nat) × (Nat) × (List UInt8) × (List Pr2) × (Value) × (List Ent) × (List Ent)) (fun ⟨i, a, p, es, v, re, rc⟩ f w' => f 68 = .int .i64 (i : Nat) ∧ f 0 = x ∧ f 4 = .int .i64 (Rq : Nat) ∧ f 6 = .int .i64 (F : Nat) ∧ f 7 = .pointer (some ⟨b29, 0, none⟩) ∧ f 8 = .pointer (some ⟨b34, 0, none⟩) ∧ f 67 = .int .i64 (nq : Nat) ∧ Mem w [] w' [[⟨b29, 101, [.int .i64 (Rq : Nat), v]⟩], rc, [⟨b34, 105, [.pointer (some ⟨bc33, 0, none⟩), .string (str p)]⟩], re] ∧ (i ≤ nq) ∧ (SlS pairC 2 107 v es re) ∧ (CurS bc33 (raw.take F) a 0 rc) ∧ (PI Rq nq (raw.take F) (raw.drop F) i a p es) ∧ (p.length ≤ 1024)) (fun ⟨i, a, p, es, v, re, rc⟩ => nq - i) (0, 0, [], [], (.slice none 0 0), [], rs33) ?_ ?_
 ·exact ⟨vi, rfl, vi, vi, rfl, rfl, vi, hM36.keep (by simp), by omega, Sl.nil 2 107, hc33, PI.init (by omega), by simp⟩
 rintro ⟨i, a, p, es, v, re, rc⟩ f w39 ⟨e39_68, e39_0, e39_4, e39_6, e39_7, e39_8, e39_67, hM39, hi, hv, hc, hI, hpk⟩ K40 h40
 obtain ⟨frm, rfl⟩ := re7 e39_68 e39_0 e39_4 e39_6 e39_7 e39_8 e39_67
 refine seq fun _ h41 => stp (v := .bool (decide (((i : Nat) : Int) < (nq : Nat)))) (o_bin rfl rfl rfl) <| h41 _ _ <| seq fun _ h42 => cndP rfl (fun c43 => ?_) (fun c43 => ?_)
 ·refine h42 _ _ <| seq fun _ h44 => seq fun _ h45 => ?_
  have hel := hI.len
  refine stp (v := .int .i64 (i : Nat)) (o_mv rfl) <| stp (v := .int .i64 (i : Nat)) (o_mv rfl) <| h45 _ _ <| seq fun _ h46 => seq fun _ h47 => stp (v := .int .i64 (i : Nat)) (o_mv rfl) <| stp (v := .int .i64 (Rq : Nat)) (o_mv rfl) <| stp (v := .int .i64 (i % Rq : Nat)) (o_rem rfl rfl (by omega) ((v_rem (Int.natCast_nonneg _)).trans rfl)) <| stp (v := .bool (decide (((i % Rq : Nat) : Int) = 0))) (o_bin rfl rfl rfl) <| h47 _ _ <| cndP rfl (fun c48 => ?_) (fun c48 => ?_)
  ·refine seq fun _ h49 => stp (v := .int .i64 (F : Nat)) (o_mv rfl) <| stp (v := .int .i64 (i : Nat)) (o_mv rfl) <| stp (v := .int .i64 (Rq : Nat)) (o_mv rfl) ?_
   have h0 : i % Rq = 0 := by omega
   obtain ⟨g, hg⟩ : ∃ g, g = i / Rq := ⟨_, rfl⟩
   have hgb : g ≤ i := by rw [hg]; exact Nat.div_le_self _ _
   have hgq : g + 1 ≤ q := by
    have := cdiv_le (R := Rq) (show i + 1 ≤ nq by omega)
    rw [cdiv_succ (by omega), if_pos h0, cdiv_at (by omega) h0] at this
    omega
   refine stp (v := .int .i64 (g : Nat)) (o_quo rfl rfl (by omega) ((v_quo (by omega) (by omega) (by simp only [inK]; omega)).trans (v_int (by rw [hg]; rfl)))) <| stp (v := .int .i64 (4 * (g : Nat))) (o_bin rfl rfl (v_mul64 (by omega))) <| stp (v := .int .i64 ((F : Nat) + (4 * (g : Nat)))) (o_bin rfl rfl (v_add64 (by omega))) <| stp (v := .int .i64 ((F : Nat) + (4 * (g : Nat)))) (o_mv rfl) <| h49 _ _ <| seq fun _ h50 => ?_
   intro wd e1 e2 e3 e4
   have hd := Upd.same e1 e2 e3 e4 []
   have hM51 := hM39.pure hd
   clear e1 e2 e3 e4
   refine ⟨(some [b34]), ?_⟩
   show vd _ _ _ _ _ _ _
   refine dq (v := x) (o_mv rfl) <| dq (v := .int .i64 ((F : Nat) + (4 * (g : Nat)))) (o_mv rfl) <| dq (v := .int .i64 ((F : Nat) + (4 * (g : Nat)))) (o_mv rfl) <| dq (v := .int .i64 (((F : Nat) + (4 * (g : Nat))) + 4)) (o_bin rfl rfl (v_add64 (by omega))) <| dqp (m_slcE (F + 4 * g) (F + 4 * g + 4) (hx) rfl (by omega) (by omega) ⟨_, v_int (by omega)⟩ ⟨_, v_int (by omega)⟩ fun u52 hu52 => ?_)
   show vd _ _ _ _ _ _ _
   refine dq (v := .int .i64 (F : Nat)) (o_mv rfl) <| dq (v := .pointer (some ⟨b34, 0, none⟩)) (o_fa rfl rfl) <| dqld rfl (by simp [isHeld]) (v := .pointer (some ⟨bc33, 0, none⟩)) ((hM51.at (i := 2) (j := 0) rfl rfl).cell 0) <| dl (m_call (Word_ok _ ((raw.take (F + 4 * g + 4)).drop (F + 4 * g)) wd ((hu52.upd hM51.upd)) (by first | omega | (simp; done) | (simp; omega))) rfl fun v53 w53 ⟨hr53, hu53⟩ => ?_)
   have hM53 : Mem w [] w53 [[⟨b29, 101, [.int .i64 (Rq : Nat), v]⟩], rc, [⟨b34, 105, [.pointer (some ⟨bc33, 0, none⟩), .string (str p)]⟩], re] := hM51.pure hu53
   subst hr53
   have hh53 := held_upd (wr := wd) (bs := [b34]) hu53 (fun b hb => by
    simp only [List.mem_cons, List.not_mem_nil, or_false] at hb
    rw [hb]; exact ⟨(hM51.at (i := 2) (j := 0) rfl rfl).lt, by simp⟩) (fun b hb => rfl)
   refine ⟨hh53, dl (m_call (Rest_ok _ (raw.take F) a 0 rc w53 hc (hM53.res (i := 1) rfl) (by first | omega | (simp; done) | (simp; omega))) rfl fun v54 w54 ⟨hr54, hm54⟩ => ?_)⟩
   have hM54 : Mem w [] w54 [[⟨b29, 101, [.int .i64 (Rq : Nat), v]⟩], rc, [⟨b34, 105, [.pointer (some ⟨bc33, 0, none⟩), .string (str p)]⟩], re] := hM53.step 1 rfl hm54
   subst hr54
   have hh54 := held_upd (wr := wd) (bs := [b34]) hm54.upd (fun b hb => by
    simp only [List.mem_cons, List.not_mem_nil, or_false] at hb
    rw [hb]; exact ⟨(hM53.at (i := 2) (j := 0) rfl rfl).lt, hM53.apart (i := 2) (j := 0) (k := 1) rfl rfl rfl (by decide)⟩) hh53
   refine ⟨hh54, ?_⟩
   have hrv : restV (raw.take F) a 0 = (F : Nat) - (a : Nat) := by
    unfold restV
    rw [if_pos rfl, List.length_take]
    have := hc.le
    rw [List.length_take] at this
    omega
   have hal := hc.le
   rw [List.length_take] at hal
   refine dq (v := .int .i64 ((F : Nat) - (restV (raw.take F) a 0))) (o_bin rfl rfl (v_sub64 (by omega))) <| dq (v := .int .u64 (a : Nat)) (o_conv rfl (by rw [hrv, show ((F : Nat) : Int) - ((F : Nat) - (a : Nat)) = ((a : Nat) : Int) by omega]; exact conv_u64 (by omega) (by have := hc.le; rw [List.length_take] at this; omega))) <| dq (v := .bool (decide (¬ ((word ((raw.take (F + 4 * g + 4)).drop (F + 4 * g)) : Nat) : Int) = (a : Nat)))) (o_bin rfl rfl v_neq) <| h50 _ _ <| cndP rfl (fun c55 => ?_) (fun c55 => ?_)
   ·refine seq fun _ h56 => stp (v := .pointer none) (o_mv rfl) <| h56 _ _ <| ⟨(.pointer none), rfl, ⟨[], hM54.keep (by simp), .inl ⟨rfl, fun R es2 hB => ?_⟩⟩⟩
    obtain ⟨u1, u2, g1, g2, g3, g4, g5⟩ := blk_here hB hl hE hRe hne
    rw [← hq] at g4 g5
    have hw := hI.start (by omega) (by omega) h0 (by rw [List.length_drop, ← hq]; omega) (by rw [List.length_take]; omega) (g5 F (by omega))
    rw [← hg, ← cut_eq] at hw
    omega
   refine h46 _ _ <| seq fun _ h57 => stp (v := .int .i64 (i : Nat)) (o_mv rfl) <| stp (v := .int .i64 (Rq : Nat)) (o_mv rfl) <| stp (v := .int .i64 (i % Rq : Nat)) (o_rem rfl rfl (by omega) ((v_rem (Int.natCast_nonneg _)).trans rfl)) <| stp (v := .bool (decide (i % Rq = 0))) (o_bin rfl rfl (congrArg Value.bool (decide_eq_decide.2 (by omega)))) <| stp (v := .int .i64 (i : Nat)) (o_mv rfl) <| stp (v := .bool (decide (i = 0))) (o_bin rfl rfl (congrArg Value.bool (decide_eq_decide.2 (by omega)))) <| m_call (next_ok b34 bc33 (raw.take F) a p (decide (i % Rq = 0)) (decide (i = 0)) rc w54 hc (Mem.res2 hM54 2 1 rfl rfl (by decide)) (by rw [List.length_take]; omega) hpk) rfl fun v58 w58 ⟨okq, x1q, x2q, aq, eq_, keyq, r'58, hr58, hnq, hkq, hcq, hm58⟩ => ?_
   have hM58 : Mem w [] w58 [[⟨b29, 101, [.int .i64 (Rq : Nat), v]⟩], r'58, [⟨b34, 105, [.pointer (some ⟨bc33, 0, none⟩), .string (str keyq)]⟩], re] := Mem.step2 hM54 2 1 rfl rfl (by decide) hm58
   subst hr58
   refine stp (v := .tuple [.agg ([.string (str x1q), .string (str x2q)] : List Value).toArray, .bool okq].toArray) (o_mv rfl) <| stp (v := .agg ([.string (str x1q), .string (str x2q)] : List Value).toArray) (o_ext rfl rfl) <| stp (v := .bool okq) (o_ext rfl rfl) <| m_al hM58 fun b59 w60 (hM60 : Mem w [] w60 [[⟨b29, 101, [.int .i64 (Rq : Nat), v]⟩], r'58, [⟨b34, 105, [.pointer (some ⟨bc33, 0, none⟩), .string (str keyq)]⟩], re, [⟨b59, 107, [.string (str ([])), .string (str ([]))]⟩]]) => m_stA (l := [.string (str x1q), .string (str x2q)]) hM60 (i := 4) rfl rfl rfl rfl (by simp [oneCells, Value.oneCell', byteV]) (by simp) fun w61 (hM61 : Mem w [] w61 [[⟨b29, 101, [.int .i64 (Rq : Nat), v]⟩], r'58, [⟨b34, 105, [.pointer (some ⟨bc33, 0, none⟩), .string (str keyq)]⟩], re, [⟨b59, 107, [.string (str x1q), .string (str x2q)]⟩]]) => stp (v := .bool okq) (o_mv rfl) <| h57 _ _ <| seq fun _ h62 => seq fun _ h63 => ?_
   rcases okq with _ | _
   ·refine stp (v := .bool false) (o_mv rfl) <| stp (v := .bool true) (o_not rfl rfl) <| h63 _ _ <| cndT rfl <| seq fun _ h64 => stp (v := .pointer none) (o_mv rfl) <| h64 _ _ <| ⟨(.pointer none), rfl, ⟨[], hM61.keep (by simp), .inl ⟨rfl, fun R es2 hB => ?_⟩⟩⟩
    obtain ⟨u1, u2, g1, g2, g3, g4, g5⟩ := blk_here hB hl hE hRe hne
    rw [← hq] at g4 g5
    exact hI.stop (by omega) (by omega) hnq (g5 F (by omega))
   refine stp (v := .bool true) (o_mv rfl) <| stp (v := .bool false) (o_not rfl rfl) <| h63 _ _ <| cndF rfl <| h62 _ _ ?_
   intro wd e1 e2 e3 e4
   have hd := Upd.same e1 e2 e3 e4 []
   have hM65 := hM61.pure hd
   clear e1 e2 e3 e4
   refine ⟨(some [b59]), ?_⟩
   show vd _ _ _ _ _ _ _
   refine dq (v := .pointer (some ⟨b29, 0, none⟩)) (o_mv rfl) <| dq (v := .pointer (some ⟨b29, 0, none⟩)) (o_mv rfl) <| dq (v := .pointer (some ⟨b29, 0, none⟩)) (o_nilchk rfl rfl) <| dq (v := .pointer (some ⟨b29, 1, none⟩)) (o_fa rfl rfl) <| dqldA (cs := [.string (str x1q), .string (str x2q)]) rfl (by simp [isHeld]) rfl ((hM65.at (i := 4) (j := 0) rfl rfl).agg rfl rfl) ?_
   show _ ∧ _
   refine ⟨?_, ?_⟩
   ·show vd _ _ _ _ _ _ _
    refine dl (m_ld (v := v) hM65 (i := 0) (j := 0) rfl rfl rfl rfl <| ⟨(fun b hb => rfl), dl (m_bsU hM65 rfl fun b66 w67 hup67 (hM67 : Mem w [] w67 [[⟨b29, 101, [.int .i64 (Rq : Nat), v]⟩], r'58, [⟨b34, 105, [.pointer (some ⟨bc33, 0, none⟩), .string (str keyq)]⟩], re, [⟨b59, 107, [.string (str x1q), .string (str x2q)]⟩], [⟨b66, 107, [.string (str x1q), .string (str x2q)]⟩]]) => ?_)⟩)
    have hh67 := held_upd (wr := wd) (bs := [b59]) hup67 (fun b hb => by
     simp only [List.mem_cons, List.not_mem_nil, or_false] at hb
     rw [hb]; exact ⟨(hM65.at (i := 4) (j := 0) rfl rfl).lt, by simp⟩) (fun b hb => rfl)
    refine ⟨hh67, dl (m_appSU (enc := pairC) hM67 (i := 3) rfl hv rfl rfl (own_rdS (enc := pairC) (l := [(x1q, x2q)]) (hM67.at (i := 5) (j := 0) rfl rfl) rfl) rfl (by first | omega | (simp; omega)) (by omega) fun v68 w68 r68 (hs68 : SlS pairC 2 107 v68 (es ++ ([(x1q, x2q)])) r68) hup68 (hM68 : Mem w [] w68 [[⟨b29, 101, [.int .i64 (Rq : Nat), v]⟩], r'58, [⟨b34, 105, [.pointer (some ⟨bc33, 0, none⟩), .string (str keyq)]⟩], r68, [⟨b59, 107, [.string (str x1q), .string (str x2q)]⟩], [⟨b66, 107, [.string (str x1q), .string (str x2q)]⟩]]) => ?_)⟩
    have hh68 := held_upd (wr := wd) (bs := [b59]) hup68 (fun b hb => by
     simp only [List.mem_cons, List.not_mem_nil, or_false] at hb
     rw [hb]; exact ⟨(hM67.at (i := 4) (j := 0) rfl rfl).lt, hM67.apart (i := 4) (j := 0) (k := 3) rfl rfl rfl (by decide)⟩) hh67
    refine ⟨hh68, dq (v := .pointer (some ⟨b29, 0, none⟩)) (o_nilchk rfl rfl) <| dq (v := .pointer (some ⟨b29, 1, none⟩)) (o_fa rfl rfl) <| dl (m_stU (v := v68) hM68 (i := 0) rfl rfl rfl (Sl.one hs68) (by simp) fun w69 hup69 (hM69 : Mem w [] w69 [[⟨b29, 101, [.int .i64 (Rq : Nat), v68]⟩], r'58, [⟨b34, 105, [.pointer (some ⟨bc33, 0, none⟩), .string (str keyq)]⟩], r68, [⟨b59, 107, [.string (str x1q), .string (str x2q)]⟩], [⟨b66, 107, [.string (str x1q), .string (str x2q)]⟩]]) => ?_)⟩
    have hh69 := held_upd (wr := wd) (bs := [b59]) hup69 (fun b hb => by
     simp only [List.mem_cons, List.not_mem_nil, or_false] at hb
     rw [hb]; exact ⟨(hM68.at (i := 4) (j := 0) rfl rfl).lt, hM68.apart (i := 4) (j := 0) (k := 0) rfl rfl rfl (by decide)⟩) hh68
    refine ⟨hh69, h44 _ _ <| stp (v := .int .i64 ((i : Nat) + 1)) (o_bin rfl rfl (v_add64 (by omega))) <| stp (v := .int .i64 ((i : Nat) + 1)) (o_mv rfl) <| h40 (i + 1, aq, keyq, es ++ [(x1q, x2q)], v68, r68, r'58) _ _ ⟨vi, rfl, vi, vi, rfl, rfl, vi, hM69.keep (by simp), by omega, hs68, by have h1 := (hnq.1 rfl).1; rw [h1] at hcq; exact hcq, by rw [(hkq rfl).1]; exact hI.step (by omega) (by omega) hcq.le (fun q0 => by first | exact hI.restart (by omega) (by omega) q0 (by rw [List.length_drop, ← hq]; omega) (by rw [← hg, ← cut_eq]; omega) | exact absurd q0 (by omega)) hnq, by rw [(hkq rfl).1]; exact (hkq rfl).2⟩ (by (try dsimp only); omega)⟩
   show vd _ _ _ _ _ _ _
   refine dl (m_bsU hM65 rfl fun b70 w71 hup71 (hM71 : Mem w [] w71 [[⟨b29, 101, [.int .i64 (Rq : Nat), v]⟩], r'58, [⟨b34, 105, [.pointer (some ⟨bc33, 0, none⟩), .string (str keyq)]⟩], re, [⟨b59, 107, [.string (str x1q), .string (str x2q)]⟩], [⟨b70, 107, [.string (str x1q), .string (str x2q)]⟩]]) => ?_)
   have hh71 := held_upd (wr := wd) (bs := [b59]) hup71 (fun b hb => by
    simp only [List.mem_cons, List.not_mem_nil, or_false] at hb
    rw [hb]; exact ⟨(hM65.at (i := 4) (j := 0) rfl rfl).lt, by simp⟩) (fun b hb => rfl)
   refine ⟨hh71, dl (m_ld (v := v) hM71 (i := 0) (j := 0) rfl rfl rfl rfl <| ⟨hh71, dl (m_appSU (enc := pairC) hM71 (i := 3) rfl hv rfl rfl (own_rdS (enc := pairC) (l := [(x1q, x2q)]) (hM71.at (i := 5) (j := 0) rfl rfl) rfl) rfl (by first | omega | (simp; omega)) (by omega) fun v72 w72 r72 (hs72 : SlS pairC 2 107 v72 (es ++ ([(x1q, x2q)])) r72) hup72 (hM72 : Mem w [] w72 [[⟨b29, 101, [.int .i64 (Rq : Nat), v]⟩], r'58, [⟨b34, 105, [.pointer (some ⟨bc33, 0, none⟩), .string (str keyq)]⟩], r72, [⟨b59, 107, [.string (str x1q), .string (str x2q)]⟩], [⟨b70, 107, [.string (str x1q), .string (str x2q)]⟩]]) => ?_)⟩)⟩
   have hh72 := held_upd (wr := wd) (bs := [b59]) hup72 (fun b hb => by
    simp only [List.mem_cons, List.not_mem_nil, or_false] at hb
    rw [hb]; exact ⟨(hM71.at (i := 4) (j := 0) rfl rfl).lt, hM71.apart (i := 4) (j := 0) (k := 3) rfl rfl rfl (by decide)⟩) hh71
   refine ⟨hh72, dq (v := .pointer (some ⟨b29, 0, none⟩)) (o_nilchk rfl rfl) <| dq (v := .pointer (some ⟨b29, 1, none⟩)) (o_fa rfl rfl) <| dl (m_stU (v := v72) hM72 (i := 0) rfl rfl rfl (Sl.one hs72) (by simp) fun w73 hup73 (hM73 : Mem w [] w73 [[⟨b29, 101, [.int .i64 (Rq : Nat), v72]⟩], r'58, [⟨b34, 105, [.pointer (some ⟨bc33, 0, none⟩), .string (str keyq)]⟩], r72, [⟨b59, 107, [.string (str x1q), .string (str x2q)]⟩], [⟨b70, 107, [.string (str x1q), .string (str x2q)]⟩]]) => ?_)⟩
   have hh73 := held_upd (wr := wd) (bs := [b59]) hup73 (fun b hb => by
    simp only [List.mem_cons, List.not_mem_nil, or_false] at hb
    rw [hb]; exact ⟨(hM72.at (i := 4) (j := 0) rfl rfl).lt, hM72.apart (i := 4) (j := 0) (k := 0) rfl rfl rfl (by decide)⟩) hh72
   refine ⟨hh73, h44 _ _ <| stp (v := .int .i64 ((i : Nat) + 1)) (o_bin rfl rfl (v_add64 (by omega))) <| stp (v := .int .i64 ((i : Nat) + 1)) (o_mv rfl) <| h40 (i + 1, aq, keyq, es ++ [(x1q, x2q)], v72, r72, r'58) _ _ ⟨vi, rfl, vi, vi, rfl, rfl, vi, hM73.keep (by simp), by omega, hs72, by have h1 := (hnq.1 rfl).1; rw [h1] at hcq; exact hcq, by rw [(hkq rfl).1]; exact hI.step (by omega) (by omega) hcq.le (fun q0 => by first | exact hI.restart (by omega) (by omega) q0 (by rw [List.length_drop, ← hq]; omega) (by rw [← hg, ← cut_eq]; omega) | exact absurd q0 (by omega)) hnq, by rw [(hkq rfl).1]; exact (hkq rfl).2⟩ (by (try dsimp only); omega)⟩
  refine h46 _ _ <| seq fun _ h74 => stp (v := .int .i64 (i : Nat)) (o_mv rfl) <| stp (v := .int .i64 (Rq : Nat)) (o_mv rfl) <| stp (v := .int .i64 (i % Rq : Nat)) (o_rem rfl rfl (by omega) ((v_rem (Int.natCast_nonneg _)).trans rfl)) <| stp (v := .bool (decide (i % Rq = 0))) (o_bin rfl rfl (congrArg Value.bool (decide_eq_decide.2 (by omega)))) <| stp (v := .int .i64 (i : Nat)) (o_mv rfl) <| stp (v := .bool (decide (i = 0))) (o_bin rfl rfl (congrArg Value.bool (decide_eq_decide.2 (by omega)))) <| m_call (next_ok b34 bc33 (raw.take F) a p (decide (i % Rq = 0)) (decide (i = 0)) rc w39 hc (Mem.res2 hM39 2 1 rfl rfl (by decide)) (by rw [List.length_take]; omega) hpk) rfl fun v75 w75 ⟨okq, x1q, x2q, aq, eq_, keyq, r'75, hr75, hnq, hkq, hcq, hm75⟩ => ?_
  have hM75 : Mem w [] w75 [[⟨b29, 101, [.int .i64 (Rq : Nat), v]⟩], r'75, [⟨b34, 105, [.pointer (some ⟨bc33, 0, none⟩), .string (str keyq)]⟩], re] := Mem.step2 hM39 2 1 rfl rfl (by decide) hm75
  subst hr75
  refine stp (v := .tuple [.agg ([.string (str x1q), .string (str x2q)] : List Value).toArray, .bool okq].toArray) (o_mv rfl) <| stp (v := .agg ([.string (str x1q), .string (str x2q)] : List Value).toArray) (o_ext rfl rfl) <| stp (v := .bool okq) (o_ext rfl rfl) <| m_al hM75 fun b76 w77 (hM77 : Mem w [] w77 [[⟨b29, 101, [.int .i64 (Rq : Nat), v]⟩], r'75, [⟨b34, 105, [.pointer (some ⟨bc33, 0, none⟩), .string (str keyq)]⟩], re, [⟨b76, 107, [.string (str ([])), .string (str ([]))]⟩]]) => m_stA (l := [.string (str x1q), .string (str x2q)]) hM77 (i := 4) rfl rfl rfl rfl (by simp [oneCells, Value.oneCell', byteV]) (by simp) fun w78 (hM78 : Mem w [] w78 [[⟨b29, 101, [.int .i64 (Rq : Nat), v]⟩], r'75, [⟨b34, 105, [.pointer (some ⟨bc33, 0, none⟩), .string (str keyq)]⟩], re, [⟨b76, 107, [.string (str x1q), .string (str x2q)]⟩]]) => stp (v := .bool okq) (o_mv rfl) <| h74 _ _ <| seq fun _ h79 => seq fun _ h80 => ?_
  rcases okq with _ | _
  ·refine stp (v := .bool false) (o_mv rfl) <| stp (v := .bool true) (o_not rfl rfl) <| h80 _ _ <| cndT rfl <| seq fun _ h81 => stp (v := .pointer none) (o_mv rfl) <| h81 _ _ <| ⟨(.pointer none), rfl, ⟨[], hM78.keep (by simp), .inl ⟨rfl, fun R es2 hB => ?_⟩⟩⟩
   obtain ⟨u1, u2, g1, g2, g3, g4, g5⟩ := blk_here hB hl hE hRe hne
   rw [← hq] at g4 g5
   exact hI.stop (by omega) (by omega) hnq (g5 F (by omega))
  refine stp (v := .bool true) (o_mv rfl) <| stp (v := .bool false) (o_not rfl rfl) <| h80 _ _ <| cndF rfl <| h79 _ _ ?_
  intro wd e1 e2 e3 e4
  have hd := Upd.same e1 e2 e3 e4 []
  have hM82 := hM78.pure hd
  clear e1 e2 e3 e4
  refine ⟨(some [b76]), ?_⟩
  show vd _ _ _ _ _ _ _
  refine dq (v := .pointer (some ⟨b29, 0, none⟩)) (o_mv rfl) <| dq (v := .pointer (some ⟨b29, 0, none⟩)) (o_mv rfl) <| dq (v := .pointer (some ⟨b29, 0, none⟩)) (o_nilchk rfl rfl) <| dq (v := .pointer (some ⟨b29, 1, none⟩)) (o_fa rfl rfl) <| dqldA (cs := [.string (str x1q), .string (str x2q)]) rfl (by simp [isHeld]) rfl ((hM82.at (i := 4) (j := 0) rfl rfl).agg rfl rfl) ?_
  show _ ∧ _
  refine ⟨?_, ?_⟩
  ·show vd _ _ _ _ _ _ _
   refine dl (m_ld (v := v) hM82 (i := 0) (j := 0) rfl rfl rfl rfl <| ⟨(fun b hb => rfl), dl (m_bsU hM82 rfl fun b83 w84 hup84 (hM84 : Mem w [] w84 [[⟨b29, 101, [.int .i64 (Rq : Nat), v]⟩], r'75, [⟨b34, 105, [.pointer (some ⟨bc33, 0, none⟩), .string (str keyq)]⟩], re, [⟨b76, 107, [.string (str x1q), .string (str x2q)]⟩], [⟨b83, 107, [.string (str x1q), .string (str x2q)]⟩]]) => ?_)⟩)
   have hh84 := held_upd (wr := wd) (bs := [b76]) hup84 (fun b hb => by
    simp only [List.mem_cons, List.not_mem_nil, or_false] at hb
    rw [hb]; exact ⟨(hM82.at (i := 4) (j := 0) rfl rfl).lt, by simp⟩) (fun b hb => rfl)
   refine ⟨hh84, dl (m_appSU (enc := pairC) hM84 (i := 3) rfl hv rfl rfl (own_rdS (enc := pairC) (l := [(x1q, x2q)]) (hM84.at (i := 5) (j := 0) rfl rfl) rfl) rfl (by first | omega | (simp; omega)) (by omega) fun v85 w85 r85 (hs85 : SlS pairC 2 107 v85 (es ++ ([(x1q, x2q)])) r85) hup85 (hM85 : Mem w [] w85 [[⟨b29, 101, [.int .i64 (Rq : Nat), v]⟩], r'75, [⟨b34, 105, [.pointer (some ⟨bc33, 0, none⟩), .string (str keyq)]⟩], r85, [⟨b76, 107, [.string (str x1q), .string (str x2q)]⟩], [⟨b83, 107, [.string (str x1q), .string (str x2q)]⟩]]) => ?_)⟩
   have hh85 := held_upd (wr := wd) (bs := [b76]) hup85 (fun b hb => by
    simp only [List.mem_cons, List.not_mem_nil, or_false] at hb
    rw [hb]; exact ⟨(hM84.at (i := 4) (j := 0) rfl rfl).lt, hM84.apart (i := 4) (j := 0) (k := 3) rfl rfl rfl (by decide)⟩) hh84
   refine ⟨hh85, dq (v := .pointer (some ⟨b29, 0, none⟩)) (o_nilchk rfl rfl) <| dq (v := .pointer (some ⟨b29, 1, none⟩)) (o_fa rfl rfl) <| dl (m_stU (v := v85) hM85 (i := 0) rfl rfl rfl (Sl.one hs85) (by simp) fun w86 hup86 (hM86 : Mem w [] w86 [[⟨b29, 101, [.int .i64 (Rq : Nat), v85]⟩], r'75, [⟨b34, 105, [.pointer (some ⟨bc33, 0, none⟩), .string (str keyq)]⟩], r85, [⟨b76, 107, [.string (str x1q), .string (str x2q)]⟩], [⟨b83, 107, [.string (str x1q), .string (str x2q)]⟩]]) => ?_)⟩
   have hh86 := held_upd (wr := wd) (bs := [b76]) hup86 (fun b hb => by
    simp only [List.mem_cons, List.not_mem_nil, or_false] at hb
    rw [hb]; exact ⟨(hM85.at (i := 4) (j := 0) rfl rfl).lt, hM85.apart (i := 4) (j := 0) (k := 0) rfl rfl rfl (by decide)⟩) hh85
   refine ⟨hh86, h44 _ _ <| stp (v := .int .i64 ((i : Nat) + 1)) (o_bin rfl rfl (v_add64 (by omega))) <| stp (v := .int .i64 ((i : Nat) + 1)) (o_mv rfl) <| h40 (i + 1, aq, keyq, es ++ [(x1q, x2q)], v85, r85, r'75) _ _ ⟨vi, rfl, vi, vi, rfl, rfl, vi, hM86.keep (by simp), by omega, hs85, by have h1 := (hnq.1 rfl).1; rw [h1] at hcq; exact hcq, by rw [(hkq rfl).1]; exact hI.step (by omega) (by omega) hcq.le (fun q0 => by first | exact hI.restart (by omega) (by omega) q0 (by rw [List.length_drop, ← hq]; omega) (by rw [← hg, ← cut_eq]; omega) | exact absurd q0 (by omega)) hnq, by rw [(hkq rfl).1]; exact (hkq rfl).2⟩ (by (try dsimp only); omega)⟩
  show vd _ _ _ _ _ _ _
  refine dl (m_bsU hM82 rfl fun b87 w88 hup88 (hM88 : Mem w [] w88 [[⟨b29, 101, [.int .i64 (Rq : Nat), v]⟩], r'75, [⟨b34, 105, [.pointer (some ⟨bc33, 0, none⟩), .string (str keyq)]⟩], re, [⟨b76, 107, [.string (str x1q), .string (str x2q)]⟩], [⟨b87, 107, [.string (str x1q), .string (str x2q)]⟩]]) => ?_)
  have hh88 := held_upd (wr := wd) (bs := [b76]) hup88 (fun b hb => by
   simp only [List.mem_cons, List.not_mem_nil, or_false] at hb
   rw [hb]; exact ⟨(hM82.at (i := 4) (j := 0) rfl rfl).lt, by simp⟩) (fun b hb => rfl)
  refine ⟨hh88, dl (m_ld (v := v) hM88 (i := 0) (j := 0) rfl rfl rfl rfl <| ⟨hh88, dl (m_appSU (enc := pairC) hM88 (i := 3) rfl hv rfl rfl (own_rdS (enc := pairC) (l := [(x1q, x2q)]) (hM88.at (i := 5) (j := 0) rfl rfl) rfl) rfl (by first | omega | (simp; omega)) (by omega) fun v89 w89 r89 (hs89 : SlS pairC 2 107 v89 (es ++ ([(x1q, x2q)])) r89) hup89 (hM89 : Mem w [] w89 [[⟨b29, 101, [.int .i64 (Rq : Nat), v]⟩], r'75, [⟨b34, 105, [.pointer (some ⟨bc33, 0, none⟩), .string (str keyq)]⟩], r89, [⟨b76, 107, [.string (str x1q), .string (str x2q)]⟩], [⟨b87, 107, [.string (str x1q), .string (str x2q)]⟩]]) => ?_)⟩)⟩
  have hh89 := held_upd (wr := wd) (bs := [b76]) hup89 (fun b hb => by
   simp only [List.mem_cons, List.not_mem_nil, or_false] at hb
   rw [hb]; exact ⟨(hM88.at (i := 4) (j := 0) rfl rfl).lt, hM88.apart (i := 4) (j := 0) (k := 3) rfl rfl rfl (by decide)⟩) hh88
  refine ⟨hh89, dq (v := .pointer (some ⟨b29, 0, none⟩)) (o_nilchk rfl rfl) <| dq (v := .pointer (some ⟨b29, 1, none⟩)) (o_fa rfl rfl) <| dl (m_stU (v := v89) hM89 (i := 0) rfl rfl rfl (Sl.one hs89) (by simp) fun w90 hup90 (hM90 : Mem w [] w90 [[⟨b29, 101, [.int .i64 (Rq : Nat), v89]⟩], r'75, [⟨b34, 105, [.pointer (some ⟨bc33, 0, none⟩), .string (str keyq)]⟩], r89, [⟨b76, 107, [.string (str x1q), .string (str x2q)]⟩], [⟨b87, 107, [.string (str x1q), .string (str x2q)]⟩]]) => ?_)⟩
  have hh90 := held_upd (wr := wd) (bs := [b76]) hup90 (fun b hb => by
   simp only [List.mem_cons, List.not_mem_nil, or_false] at hb
   rw [hb]; exact ⟨(hM89.at (i := 4) (j := 0) rfl rfl).lt, hM89.apart (i := 4) (j := 0) (k := 0) rfl rfl rfl (by decide)⟩) hh89
  refine ⟨hh90, h44 _ _ <| stp (v := .int .i64 ((i : Nat) + 1)) (o_bin rfl rfl (v_add64 (by omega))) <| stp (v := .int .i64 ((i : Nat) + 1)) (o_mv rfl) <| h40 (i + 1, aq, keyq, es ++ [(x1q, x2q)], v89, r89, r'75) _ _ ⟨vi, rfl, vi, vi, rfl, rfl, vi, hM90.keep (by simp), by omega, hs89, by have h1 := (hnq.1 rfl).1; rw [h1] at hcq; exact hcq, by rw [(hkq rfl).1]; exact hI.step (by omega) (by omega) hcq.le (fun q0 => by first | exact hI.restart (by omega) (by omega) q0 (by rw [List.length_drop, ← hq]; omega) (by rw [← hg, ← cut_eq]; omega) | exact absurd q0 (by omega)) hnq, by rw [(hkq rfl).1]; exact (hkq rfl).2⟩ (by (try dsimp only); omega)⟩
 refine h37 _ _ <| seq fun _ h91 => seq fun _ h92 => stp (v := .pointer (some ⟨b34, 0, none⟩)) (o_fa rfl rfl) <| m_ld (v := .pointer (some ⟨bc33, 0, none⟩)) hM39 (i := 2) (j := 0) rfl rfl rfl rfl <| m_call (End_ok _ (raw.take F) a 0 rc w39 hc (hM39.res (i := 1) rfl)) rfl fun v93 w93 ⟨hr93, hm93⟩ => ?_
 have hM93 : Mem w [] w93 [[⟨b29, 101, [.int .i64 (Rq : Nat), v]⟩], rc, [⟨b34, 105, [.pointer (some ⟨bc33, 0, none⟩), .string (str p)]⟩], re] := hM39.step 1 rfl hm93
 subst hr93
 refine stp (v := .int .i64 (endE (raw.take F) a 0)) (o_fld rfl rfl) <| stp (v := .bool (decide (¬ (endE (raw.take F) a 0) = 0))) (o_bin rfl rfl v_neq) <| h92 _ _ <| cndP rfl (fun c94 => ?_) (fun c94 => ?_)
 ·refine seq fun _ h95 => stp (v := .pointer none) (o_mv rfl) <| h95 _ _ <| ⟨(.pointer none), rfl, ⟨[], hM93.keep (by simp), .inl ⟨rfl, fun R es2 hB => ?_⟩⟩⟩
  obtain ⟨u1, u2, g1, g2, g3, g4, g5⟩ := blk_here hB hl hE hRe hne
  rw [← hq] at g4 g5
  have hz : ¬ a = (raw.take F).length := fun u => by
   have h1 : endE (raw.take F) a 0 = 0 := by rw [end_0, if_neg (by omega)]
   omega
  exact hI.left (by omega) (by omega) hz (g5 F (by omega))
 refine h91 _ _ <| seq fun _ h96 => stp (v := .pointer (some ⟨b29, 0, none⟩)) (o_mv rfl) <| stp (v := .pointer (some ⟨b29, 0, none⟩)) (o_mv rfl) <| h96 _ _ <| ⟨(.pointer (some ⟨b29, 0, none⟩)), rfl, ?_⟩
 have hz : a = (raw.take F).length := by
  have h1 := hc.le
  have h2 : endE (raw.take F) a 0 = 0 := by omega
  rw [end_0] at h2
  split at h2 <;> omega
 have hblk := full_blk (by rw [← hq]; omega) hE ⟨by omega, by omega⟩ (by omega) hRe.symm hne.symm (hI.done (by omega) (by omega) hz)
 refine ⟨_, hM93.keep (by simp; repeat first | exact List.Sublist.refl _ | refine List.Sublist.trans ?_ (List.sublist_append_right _ _) | refine List.Sublist.cons _ ?_), .inr ⟨_, Rq, es, rfl, hblk, ⟨v, re, rfl, hv⟩, fun R2 es2 hB => ?_⟩⟩
 obtain ⟨u1, u2, g1, g2, g3, g4, g5⟩ := blk_here hB hl hE hRe hne
 rw [← hq] at g4 g5
 have hcp := hI.cpl _ (g5 F (by omega))
 rw [List.take_of_length_le (by omega)] at hcp
 exact ⟨u1, hcp⟩
end Go.Proofs.YtifnmbmijljhfaaGreat.E
namespace Go.Proofs.YtifnmbmijljhfaaGreat.E.Hf
open Go
def inB (lo hi : Int) (l : List Int) : Bool := l.all fun x => decide (lo ≤ x) && decide (x ≤ hi)
theorem inB_iff {lo hi : Int} {l : List Int} : inB lo hi l = true ↔ ∀ i, i < l.length → lo ≤ l.getD i 0 ∧ l.getD i 0 ≤ hi := by
 unfold inB
 rw [List.all_eq_true]
 constructor
 ·intro h i hi'
  have := h (l.getD i 0) (by rw [List.getD_eq_getElem?_getD, List.getElem?_eq_getElem hi']; exact List.getElem_mem hi')
  simpa using this
 intro h x hx
 obtain ⟨i, hi', rfl⟩ := List.getElem_of_mem hx
 have := h i hi'
 rw [List.getD_eq_getElem?_getD, List.getElem?_eq_getElem hi'] at this
 simpa using this
theorem inB_no {lo hi : Int} {l : List Int} {i : Nat} (h : i < l.length) (h2 : l.getD i 0 < lo ∨ hi < l.getD i 0) : inB lo hi l = false := by
 cases hb : inB lo hi l
 ·rfl
 have := inB_iff.1 hb i h; omega
theorem all_succ {l : List Int} {i : Nat} {lo hi : Int} (hp : ∀ j, j < i → lo ≤ l.getD j 0 ∧ l.getD j 0 ≤ hi) (h : lo ≤ l.getD i 0 ∧ l.getD i 0 ≤ hi) : ∀ j, j < i + 1 → lo ≤ l.getD j 0 ∧ l.getD j 0 ≤ hi := by
 intro j hj
 rcases Nat.lt_or_eq_of_le (Nat.le_of_lt_succ hj) with h' | h'
 ·exact hp j h'
 subst h'; exact h
end Go.Proofs.YtifnmbmijljhfaaGreat.E.Hf
namespace Go.Proofs.YtifnmbmijljhfaaGreat.E.Hf
open Go
def symN (l : List Int) (n s : Nat) : List Nat := (List.range s).filter fun i => decide (l.getD i 0 = (n : Int))
theorem symN_succ (l : List Int) (n s : Nat) : symN l n (s + 1) = symN l n s ++ if l.getD s 0 = (n : Int) then [s] else [] := by
 unfold symN
 rw [List.range_succ, List.filter_append]
 congr 1
 by_cases h : l.getD s 0 = (n : Int)
 ·rw [if_pos h, List.filter_cons_of_pos (by simpa using h)]; rfl
 rw [if_neg h, List.filter_cons_of_neg (by simpa using h)]; rfl
theorem symN_yes {l : List Int} {n s : Nat} (h : l.getD s 0 = (n : Int)) : symN l n (s + 1) = symN l n s ++ [s] := by rw [symN_succ, if_pos h]
theorem symN_no {l : List Int} {n s : Nat} (h : ¬ l.getD s 0 = (n : Int)) : symN l n (s + 1) = symN l n s := by rw [symN_succ, if_neg h, List.append_nil]
theorem symN_le (l : List Int) (n s : Nat) : (symN l n s).length ≤ s := by
 unfold symN
 exact Nat.le_trans (List.length_filter_le _ _) (by simp)
def ordB (l : List Int) : Nat → List Nat
 | 0 => []
 | k + 1 => ordB l k ++ symN l (k + 1) l.length
theorem ordB_le (l : List Int) (k : Nat) (h : l.length ≤ 256) : (ordB l k).length ≤ k * 256 := by
 induction k with
 | zero => simp [ordB]
 | succ k ih =>
  have := symN_le l (k + 1) l.length
  simp only [ordB, List.length_append, Nat.succ_mul]; omega
def manyL (l : List Int) (n s : Nat) : List Int := (List.range 16).map fun k => if 1 ≤ k ∧ k < n then (((symN l k l.length).length : Nat) : Int) else if k = n then (((symN l n s).length : Nat) : Int) else 0
theorem manyL_length (l : List Int) (n s : Nat) : (manyL l n s).length = 16 := by simp [manyL]
theorem many_get (l : List Int) {n s : Nat} (h : n ≤ 15) : ((manyL l n s).map i64V)[n]? = some (i64V ((symN l n s).length : Nat)) := by
 rw [List.getElem?_map, manyL, List.getElem?_map, List.getElem?_range (by omega)]
 simp
theorem many_set {l : List Int} {n s : Nat} (h : n ≤ 15) (hs : l.getD s 0 = (n : Int)) : ((manyL l n s).map i64V).set n (.int .i64 (((symN l n s).length : Nat) + 1)) = (manyL l n (s + 1)).map i64V := by
 apply List.ext_getElem?
 intro k
 rw [List.getElem?_set]
 split
 ·rename_i e; subst e
  rw [many_get l h, if_pos (by simp [manyL_length]; omega), symN_yes hs, List.length_append]; rfl
 rename_i e
 rw [List.getElem?_map, List.getElem?_map, manyL, manyL, List.getElem?_map, List.getElem?_map]
 by_cases hk : k < 16
 ·rw [List.getElem?_range hk]
  simp only [Option.map_some]
  by_cases h1 : 1 ≤ k ∧ k < n
  ·rw [if_pos h1, if_pos h1]
  rw [if_neg h1, if_neg h1, if_neg (fun h => e h.symm), if_neg (fun h => e h.symm)]
 rw [List.getElem?_eq_none (by simpa using hk)]; rfl
theorem many_skip {l : List Int} {n s : Nat} (hs : ¬ l.getD s 0 = (n : Int)) : manyL l n (s + 1) = manyL l n s := by unfold manyL; rw [symN_no hs]
theorem many_next {l : List Int} {n : Nat} (h : 1 ≤ n) : manyL l (n + 1) 0 = manyL l n l.length := by
 unfold manyL
 apply List.map_congr_left
 intro k _
 have e : (symN l (n + 1) 0).length = 0 := rfl
 by_cases h1 : 1 ≤ k ∧ k < n
 ·rw [if_pos h1, if_pos (by omega)]
 rw [if_neg h1]
 by_cases h2 : k = n
 ·subst h2; rw [if_pos (by omega), if_pos rfl]
 rw [if_neg (by omega), if_neg h2, e]; simp
def usedB (l : List Int) : Nat → Nat
 | 0 => 0
 | k + 1 => usedB l k + (symN l (k + 1) l.length).length * 2 ^ (15 - (k + 1))
theorem usedB_le (l : List Int) (k : Nat) (h : l.length ≤ 256) : usedB l k ≤ k * 4194304 := by
 induction k with
 | zero => simp [usedB]
 | succ k ih =>
  have h1 := symN_le l (k + 1) l.length
  have h2 : 2 ^ (15 - (k + 1)) ≤ 16384 := by
   calc 2 ^ (15 - (k + 1)) ≤ 2 ^ 14 := Nat.pow_le_pow_right (by omega) (by omega)
    _ = 16384 := by decide
  have h3 : (symN l (k + 1) l.length).length * 2 ^ (15 - (k + 1)) ≤ 256 * 16384 := Nat.mul_le_mul (by omega) h2
  simp only [usedB]; omega
def usedP (l : List Int) (n s : Nat) : Nat := usedB l (n - 1) + (symN l n s).length * 2 ^ (15 - n)
def pw (n : Nat) : Nat := 2 ^ (15 - n)
theorem usedP_zero (l : List Int) (n : Nat) : usedP l n 0 = usedB l (n - 1) := by simp [usedP, symN]
theorem usedP_end (l : List Int) {n : Nat} (h : 1 ≤ n) : usedP l n l.length = usedB l n := by
 obtain ⟨k, rfl⟩ : ∃ k, n = k + 1 := ⟨n - 1, by omega⟩
 rfl
theorem usedP_yes {l : List Int} {n s : Nat} (h : l.getD s 0 = (n : Int)) : usedP l n (s + 1) = usedP l n s + pw n := by
 unfold usedP pw; rw [symN_yes h, List.length_append, List.length_singleton, Nat.add_mul, Nat.one_mul, Nat.add_assoc]
theorem usedP_no {l : List Int} {n s : Nat} (h : ¬ l.getD s 0 = (n : Int)) : usedP l n (s + 1) = usedP l n s := by unfold usedP; rw [symN_no h]
theorem pow15 (n : Nat) : pw n ≤ 32768 := by
 show 2 ^ (15 - n) ≤ 32768
 calc 2 ^ (15 - n) ≤ 2 ^ 15 := Nat.pow_le_pow_right (by omega) (by omega)
  _ = 32768 := by decide
theorem usedP_le (l : List Int) (n s : Nat) (h : l.length ≤ 256) (hs : s ≤ 256) (hn : n ≤ 16) : usedP l n s ≤ 150000000 := by
 have h1 := usedB_le l (n - 1) h
 have h2 : (symN l n s).length * 2 ^ (15 - n) ≤ 256 * 32768 := Nat.mul_le_mul (Nat.le_trans (symN_le l n s) hs) (pow15 n)
 unfold usedP; omega
theorem shl15 {n : Nat} (h1 : 1 ≤ n) (h2 : n ≤ 15) : Value.int .i64 (IntKind.i64.wrap (1 * 2 ^ min (15 - (n : Int)).toNat IntKind.i64.bits)) = .int .i64 ((pw n : Nat) : Int) := by
 have e : (15 - (n : Int)).toNat = 15 - n := by omega
 have hp : 2 ^ (15 - n) ≤ 32768 := pow15 n
 have h := shlI_nat (k := .i64) (a := 1) (n := 15 - n) (by simp only [IntKind.bits]; omega) (by rw [Nat.one_mul]; simp only [inK]; generalize 2 ^ (15 - n) = q at hp ⊢; omega)
 unfold shlI at h
 rw [Int.toNat_natCast, Nat.one_mul] at h
 rw [e]; exact v_int h
theorem ord_next {l : List Int} {n : Nat} (h : 1 ≤ n) : ordB l (n + 1 - 1) = ordB l (n - 1) ++ symN l n l.length := by
 obtain ⟨k, rfl⟩ : ∃ k, n = k + 1 := ⟨n - 1, by omega⟩
 rfl
set_option maxRecDepth 100000 in
theorem order_ok (x : Value) (l : List Int) (w : World) (hx : RdE i64V w x l) (hl : l.length ≤ 256) : Calls Tryz.prog 117 [x].toArray w (Rt fun r w' => ∃ v rs, r = .tuple [v, .agg ((manyL l 16 0).map i64V).toArray, .bool (decide (0 ≤ 32768 - ((usedB l 15 : Nat) : Int)))].toArray ∧ SlE natV 3 v (ordB l 15) rs ∧ Mem w [] w' [rs]) := by
 have hM0 : Mem w [] w [] := Mem.nil w []
 refine calls_vc mixed Tryz.func117 rfl C117 (by simp [Tryz.ntmps117]) <| seq fun _ h1 => mv <| m_al hM0 fun b2 w3 (hM3 : Mem _ _ w3 [[⟨b2, 171, (List.replicate 16 (.int .i64 0))⟩]]) => mv <| h1 _ _ <| seq fun _ h4 => mv <| h4 _ _ <| seq fun _ h5 => m_al hM3 fun b6 w7 (hM7 : Mem _ _ w7 [_, [⟨b6, 171, (List.replicate 16 (.int .i64 0))⟩]]) => h5 _ _ <| seq fun _ h8 => mv ?_
 refine h8 _ _ <| seq fun _ h9 => seq fun _ h10 => mv <| h10 _ _ <| lp (n := fun _ _ => False) (ι := (Nat) × (Value) × (List Ent)) (fun ⟨n, y, r⟩ f w' => f 0 = x ∧ f 3 = .pointer (some ⟨b2, 0, none⟩) ∧ f 6 = .pointer (some ⟨b6, 0, none⟩) ∧ f 5 = y ∧ f 7 = .int .i64 (32768 - (usedB l (n - 1) : Nat)) ∧ f 8 = .int .i64 (n : Nat) ∧ Mem w [] w' [[⟨b2, 171, (List.replicate 16 (.int .i64 0))⟩], [⟨b6, 171, (manyL l n 0).map i64V⟩], r] ∧ (SlE natV 3 y (ordB l (n - 1)) r) ∧ (1 ≤ n ∧ n ≤ 16)) (fun ⟨n, y, r⟩ => 16 - n) (1, .slice none 0 0, []) ?_ ?_
 ·exact ⟨rfl, rfl, rfl, rfl, vi, vi, hM7.addNil, Sl.nil 1 3, by omega⟩
 rintro ⟨n, y, r⟩ f w11 ⟨e11_0, e11_3, e11_6, e11_5, e11_7, e11_8, hM11, hs, hn⟩ K12 h12
 obtain ⟨frm, rfl⟩ := re6 e11_0 e11_3 e11_6 e11_5 e11_7 e11_8
 refine seq fun _ h13 => seq fun _ h14 => ?_
 have ho := ordB_le l (n - 1) hl
 refine mv <| bn rfl rfl <| h14 _ _ <| cndP rfl (fun c15 => ?_) (fun c15 => ?_)
 ·refine h13 _ _ <| seq fun _ h16 => seq fun _ h17 => mv <| stp (v := .int .i64 (l.length : Nat)) (o_lenR (hx.upd hM11.upd) rfl rfl) <| mv <| h17 _ _ <| lp (n := fun _ _ => False) (ι := (Nat) × (Value) × (List Ent)) (fun ⟨s, y, r⟩ f w' => f 0 = x ∧ f 3 = .pointer (some ⟨b2, 0, none⟩) ∧ f 6 = .pointer (some ⟨b6, 0, none⟩) ∧ f 5 = y ∧ f 7 = .int .i64 (32768 - (usedP l n s : Nat)) ∧ f 8 = .int .i64 (n : Nat) ∧ f 15 = x ∧ f 16 = .int .i64 (l.length : Nat) ∧ f 17 = .int .i64 (s : Nat) ∧ Mem w [] w' [[⟨b2, 171, (List.replicate 16 (.int .i64 0))⟩], [⟨b6, 171, (manyL l n s).map i64V⟩], r] ∧ (SlE natV 3 y (ordB l (n - 1) ++ symN l n s) r) ∧ (s ≤ l.length)) (fun ⟨s, y, r⟩ => l.length - s) (0, y, r) ?_ ?_
  ·exact ⟨rfl, rfl, rfl, rfl, v_int (by rw [usedP_zero]), vi, rfl, vi, vi, hM11, by simpa [symN] using hs, by omega⟩
  rintro ⟨s, y, r⟩ f w18 ⟨e18_0, e18_3, e18_6, e18_5, e18_7, e18_8, e18_15, e18_16, e18_17, hM18, hs2, hi⟩ K19 h19
  obtain ⟨frm, rfl⟩ := re9 e18_0 e18_3 e18_6 e18_5 e18_7 e18_8 e18_15 e18_16 e18_17
  refine seq fun _ h20 => bn rfl rfl <| h20 _ _ <| seq fun _ h21 => cndP rfl (fun c22 => ?_) (fun c22 => ?_)
  ·refine h21 _ _ <| seq fun _ h23 => seq fun _ h24 => mv <| m_idxE 0 (j := s) (hx.upd hM18.upd) rfl rfl (by omega) fun b25 o25 hp25 => ld (v := .int .i64 (l.getD s 0)) rfl (hp25) <| mv <| mv <| h24 _ _ <| seq fun _ h26 => mv <| mv <| bn rfl rfl <| h26 _ _ ?_
   refine cndP rfl (fun c27 => ?_) (fun c27 => ?_)
   ·refine seq fun _ h28 => mv <| mv <| m_app1 (E := natV) (q := s) hM18 (i := 2) rfl hs2 rfl (by simp) (rfl) (by have h1 := symN_le l n s; simp only [List.length_append]; omega) (by omega) fun v29 w29 r29 u29 (hs29 : SlE natV 3 v29 ((ordB l (n - 1) ++ symN l n s) ++ [s]) r29) (hM29 : Mem w [] w29 [[⟨b2, 171, (List.replicate 16 (.int .i64 0))⟩], [⟨b6, 171, (manyL l n s).map i64V⟩], r29]) => mv <| h28 _ _ <| seq fun _ h30 => mv <| stp (v := .pointer (some ⟨b6, n, none⟩)) (o_idxa rfl rfl (by omega) (v_ptr (by first | (rw [Int.toNat_natCast, Nat.mul_one]; done) | (simp; done) | omega))) <| ld (v := .int .i64 ((symN l n s).length : Nat)) rfl (((hM29.at (i := 1) (j := 0) rfl rfl).cell n).trans (many_get l (by omega))) <| stp (v := .int .i64 (((symN l n s).length : Nat) + 1)) (o_bin rfl rfl (v_add64 (by have := symN_le l n s; omega))) <| stp (v := .pointer (some ⟨b6, n, none⟩)) (o_idxa rfl rfl (by omega) (v_ptr (by first | (rw [Int.toNat_natCast, Nat.mul_one]; done) | (simp; done) | omega))) <| m_st (v := .int .i64 (((symN l n s).length : Nat) + 1)) hM29 (i := 1) rfl rfl rfl rfl (by simp [manyL_length]; omega) fun w31 hm31 => ?_
    have hM31 : Mem w [] w31 [[⟨b2, 171, (List.replicate 16 (.int .i64 0))⟩], [⟨b6, 171, (manyL l n (s + 1)).map i64V⟩], r29] := by
     have e : ((manyL l n s).map i64V).set n (.int .i64 (((symN l n s).length : Nat) + 1)) = ((manyL l n (s + 1)).map i64V) := many_set (by omega) (by assumption)
     rw [← e]; exact hm31
    refine h30 _ _ <| mv <| mv <| stp (v := .int .i64 (15 - (n : Nat))) (o_bin rfl rfl (v_sub64 (by omega))) <| stp (v := .int .i64 (pw n : Nat)) (o_shl rfl rfl (by omega) (shl15 (by omega) (by omega))) <| stp (v := .int .i64 (32768 - (usedP l n (s + 1) : Nat))) (o_bin rfl rfl (by rw [usedP_yes (by assumption)]; have := usedP_le l n s hl (by omega) (by omega); have := pow15 n; exact (v_sub64 (by omega)).trans (v_int (by omega)))) <| mv <| h23 _ _ <| stp (v := .int .i64 ((s : Nat) + 1)) (o_bin rfl rfl (v_add64 (by omega))) <| mv <| h19 (s + 1, v29, r29) _ _ ⟨rfl, rfl, rfl, rfl, by first | rfl | exact v_int (by rw [usedP_no (by assumption)]), vi, rfl, vi, vi, hM31, by rw [symN_yes (by assumption), ← List.append_assoc]; exact hs29, by omega⟩ (by dsimp only; omega)
   refine h23 _ _ <| stp (v := .int .i64 ((s : Nat) + 1)) (o_bin rfl rfl (v_add64 (by omega))) <| mv <| h19 (s + 1, y, r) _ _ ⟨rfl, rfl, rfl, rfl, by first | rfl | exact v_int (by rw [usedP_no (by assumption)]), vi, rfl, vi, vi, by rw [many_skip (by assumption)]; exact hM18, by rw [symN_no (by assumption)]; exact hs2, by omega⟩ (by dsimp only; omega)
  refine h16 _ _ <| mv <| stp (v := .int .i64 ((n : Nat) + 1)) (o_bin rfl rfl (v_add64 (by omega))) <| mv <| h12 (n + 1, y, r) _ _ ⟨rfl, rfl, rfl, rfl, v_int (by (obtain rfl : s = l.length := by omega); rw [usedP_end l (n := n) (by omega)]; rfl), vi, by rw [many_next (l := l) (n := n) (by omega)]; (obtain rfl : s = l.length := by omega); exact hM18, by (obtain rfl : s = l.length := by omega); rw [ord_next (l := l) (n := n) (by omega)]; exact hs2, by omega⟩ (by dsimp only; omega)
 refine h9 _ _ <| seq fun _ h32 => ?_
 intro wd e1 e2 e3 e4
 have hd := Upd.same e1 e2 e3 e4 []
 have hM33 := hM11.pure hd
 clear e1 e2 e3 e4
 refine ⟨(some []), ?_⟩
 show vd _ _ _ _ _ _ _
 refine dmv <| dmv <| dbn rfl rfl <| dmv <| dl (ldA (cs := ((manyL l n 0).map i64V)) rfl (by first | rfl | simp [manyL_length]) ((hM33.at (i := 1) (j := 0) rfl rfl).all) <| ⟨(fun b hb => by cases hb), dl (m_stA (l := ((manyL l n 0).map i64V)) hM33 (i := 0) rfl rfl rfl (by simp [manyL_length]) (one_elems _) (by simp) fun w34 hm34 => ⟨(fun b hb => by cases hb), ?_⟩)⟩)
 have hM34 : Mem w [] w34 [[⟨b2, 171, ((manyL l n 0).map i64V)⟩], [⟨b6, 171, (manyL l n 0).map i64V⟩], r] := by
  have e : splice (List.replicate 16 (.int .i64 0)) 0 ((manyL l n 0).map i64V) = ((manyL l n 0).map i64V) := splice_full (by simp; first | done | (simp [manyL_length]) | omega)
  rw [e] at hm34
  exact hm34
 refine dmv <| h32 _ _ ?_
 show resV _ _ _ _ _
 refine res_tmp <| res_cell (s := some 16) (by kernel_rfl) <| vl_ldA (cs := ((manyL l n 0).map i64V)) rfl (by simp [manyL_length]) (hM34.at (i := 0) (j := 0) rfl rfl).all <| res_tmp <| ⟨(.tuple [y, .agg ((((manyL l n 0).map i64V)).toArray), .bool (decide ((0 : Int) ≤ (32768 - (usedB l (n - 1) : Nat) : Int)))].toArray), rfl, ?_⟩
 have e : n = 16 := by omega
 subst e
 exact ⟨_, _, rfl, hs, hM34.keep (by simp)⟩
def kr (l : List Int) : Nat → Nat
 | 0 => 0
 | s + 1 => kr l s + if 0 < l.getD s 0 then pw (l.getD s 0).toNat else 0
theorem kr_le (l : List Int) (s : Nat) : kr l s ≤ s * 32768 := by
 induction s with
 | zero => exact Nat.zero_le _
 | succ s ih =>
  have := pow15 (l.getD s 0).toNat
  show kr l s + (if 0 < l.getD s 0 then pw (l.getD s 0).toNat else 0) ≤ (s + 1) * 32768
  rw [Nat.succ_mul]
  refine Nat.add_le_add ih ?_
  split
  ·exact this
  exact Nat.zero_le _
theorem kr_yes {l : List Int} {s : Nat} (h : 0 < l.getD s 0) : kr l (s + 1) = kr l s + pw (l.getD s 0).toNat := by rw [kr, if_pos h]
theorem kr_no {l : List Int} {s : Nat} (h : ¬ 0 < l.getD s 0) : kr l (s + 1) = kr l s := by rw [kr, if_neg h]; rfl
theorem shl15x {x : Int} (h1 : 1 ≤ x) (h2 : x ≤ 15) : Value.int .i64 (IntKind.i64.wrap (1 * 2 ^ min (15 - x).toNat IntKind.i64.bits)) = .int .i64 ((pw x.toNat : Nat) : Int) := by
 have := shl15 (n := x.toNat) (by omega) (by omega)
 rwa [Int.toNat_of_nonneg (by omega)] at this
def krK (l : List Int) (k : Nat) : Nat → Nat
 | 0 => 0
 | s + 1 => krK l k s + if 0 < l.getD s 0 ∧ l.getD s 0 ≤ k then pw (l.getD s 0).toNat else 0
theorem krK_zero (l : List Int) (s : Nat) : krK l 0 s = 0 := by
 induction s with
 | zero => rfl
 | succ s ih => simp only [krK, ih]; rw [if_neg (by omega)]
theorem krK_succ (l : List Int) (k s : Nat) : krK l (k + 1) s = krK l k s + (symN l (k + 1) s).length * 2 ^ (15 - (k + 1)) := by
 induction s with
 | zero => simp [krK, symN]
 | succ s ih =>
  simp only [krK, ih]
  by_cases h : l.getD s 0 = ((k + 1 : Nat) : Int)
  ·rw [symN_yes h, List.length_append, List.length_singleton, Nat.add_mul, Nat.one_mul, if_pos (by omega), if_neg (by omega), h]
   have : pw ((k + 1 : Nat) : Int).toNat = 2 ^ (15 - (k + 1)) := by rw [Int.toNat_natCast]; rfl
   rw [this]; omega
  rw [symN_no h]
  by_cases h2 : 0 < l.getD s 0 ∧ l.getD s 0 ≤ k
  ·rw [if_pos (by omega), if_pos h2]; omega
  rw [if_neg (by omega), if_neg h2, Nat.add_zero]; rfl
theorem krK_used (l : List Int) (k : Nat) : krK l k l.length = usedB l k := by
 induction k with
 | zero => rw [krK_zero]; rfl
 | succ k ih => rw [krK_succ, ih]; rfl
theorem kr_used {l : List Int} (h : inB 0 15 l = true) : kr l l.length = usedB l 15 := by
 rw [← krK_used]
 have key : ∀ s, s ≤ l.length → kr l s = krK l 15 s := by
  intro s
  induction s with
  | zero => intro _; rfl
  | succ s ih =>
   intro hs
   have hb := inB_iff.1 h s (by omega)
   simp only [kr, krK, ih (by omega)]
   by_cases h0 : 0 < l.getD s 0
   ·rw [if_pos h0, if_pos ⟨h0, by omega⟩]
   rw [if_neg h0, if_neg (by omega)]
 exact key _ (Nat.le_refl _)
theorem Kraft_ok (x : Value) (l : List Int) (w : World) (hx : RdE i64V w x l) (hB : inB 0 15 l = true) (hl : l.length ≤ 256) : Calls Tryz.prog 102 [x].toArray w (Rt fun r w' => r = .int .i64 ((kr l l.length : Nat) : Int) ∧ Upd [] w w') := by
 have hM0 : Mem w [] w [] := Mem.nil w []
 refine calls_vc mixed Tryz.func102 rfl C102 (by simp [Tryz.ntmps102]) <| seq fun _ h1 => mv <| h1 _ _ <| seq fun _ h2 => mv <| h2 _ _ <| seq fun _ h3 => seq fun _ h4 => mv <| h4 _ _ <| lp (n := fun _ _ => False) (ι := (Nat)) (fun i f w' => f 0 = x ∧ f 3 = .int .i64 (kr l i : Nat) ∧ f 4 = .int .i64 (i : Nat) ∧ Mem w [] w' [] ∧ (i ≤ l.length)) (fun i => l.length - i) (0) ?_ ?_
 ·exact ⟨rfl, vi, vi, hM0, by omega⟩
 rintro i f w5 ⟨e5_0, e5_3, e5_4, hM5, hi⟩ K6 h6
 obtain ⟨frm, rfl⟩ := re3 e5_0 e5_3 e5_4
 refine seq fun _ h7 => seq fun _ h8 => mv <| mv <| stp (v := .int .i64 (l.length : Nat)) (o_lenR (hx.upd hM5.upd) rfl rfl) <| bn rfl rfl <| h8 _ _ <| cndP rfl (fun c9 => ?_) (fun c9 => ?_)
 ·refine h7 _ _ <| seq fun _ h10 => seq fun _ h11 => mv <| mv <| m_idxE 0 (j := i) (hx.upd hM5.upd) rfl rfl (by omega) fun b12 o12 hp12 => ld (v := .int .i64 (l.getD i 0)) rfl (hp12) <| bn rfl rfl <| h11 _ _ <| cndP rfl (fun c13 => ?_) (fun c13 => ?_)
  ·refine mv <| mv <| mv <| m_idxE 0 (j := i) (hx.upd hM5.upd) rfl rfl (by omega) fun b14 o14 hp14 => ld (v := .int .i64 (l.getD i 0)) rfl (hp14) <| stp (v := .int .i64 (15 - (l.getD i 0))) (o_bin rfl rfl (v_sub64 (by have hb := inB_iff.1 hB i (by omega); omega))) <| stp (v := .int .i64 (pw (l.getD i 0).toNat : Nat)) (o_shl rfl rfl (by have hb := inB_iff.1 hB i (by omega); omega) (by have hb := inB_iff.1 hB i (by omega); exact shl15x (by omega) (by omega))) <| stp (v := .int .i64 (kr l (i + 1) : Nat)) (o_bin rfl rfl (by rw [kr_yes (by omega)]; have := kr_le l i; have := pow15 (l.getD i 0).toNat; exact (v_add64 (by omega)).trans (v_int (by omega)))) <| mv <| h10 _ _ <| mv <| stp (v := .int .i64 ((i : Nat) + 1)) (o_bin rfl rfl (v_add64 (by omega))) <| mv <| h6 (i + 1) _ _ ⟨rfl, by first | rfl | exact v_int (by rw [kr_no (by omega)]), vi, hM5, by omega⟩ (by (try dsimp only); omega)
  refine h10 _ _ <| mv <| stp (v := .int .i64 ((i : Nat) + 1)) (o_bin rfl rfl (v_add64 (by omega))) <| mv <| h6 (i + 1) _ _ ⟨rfl, by first | rfl | exact v_int (by rw [kr_no (by omega)]), vi, hM5, by omega⟩ (by (try dsimp only); omega)
 refine h3 _ _ <| seq fun _ h15 => mv <| mv <| h15 _ _ <| ⟨(.int .i64 (kr l i : Nat)), rfl, ?_⟩
 have e : i = l.length := by omega
 subst e
 exact ⟨rfl, hM5.upd⟩
end Go.Proofs.YtifnmbmijljhfaaGreat.E.Hf
namespace Go.Proofs.YtifnmbmijljhfaaGreat.E.Hf
open Go
def cntW (l : List Int) (n : Nat) : Nat := if n = 0 then 0 else (symN l n l.length).length
def firstW (l : List Int) : Nat → Nat
 | 0 => 0
 | n + 1 => 2 * (firstW l n + cntW l n)
theorem word_used (l : List Int) : ∀ n, n ≤ 15 → (firstW l n + cntW l n) * 2 ^ (15 - n) = usedB l n := by
 intro n
 induction n with
 | zero => intro _; simp [firstW, cntW, usedB]
 | succ n ih =>
  intro hn
  have h1 := ih (by omega)
  have h2 : 2 ^ (15 - n) = 2 * 2 ^ (15 - (n + 1)) := by
   rw [← Nat.pow_succ']; congr 1; omega
  have h3 : cntW l (n + 1) = (symN l (n + 1) l.length).length := by unfold cntW; rw [if_neg (by omega)]
  show (2 * (firstW l n + cntW l n) + cntW l (n + 1)) * 2 ^ (15 - (n + 1)) = usedB l n + (symN l (n + 1) l.length).length * 2 ^ (15 - (n + 1))
  rw [Nat.add_mul, h3, ← h1, h2, Nat.mul_comm 2, Nat.mul_assoc]
theorem word_le {l : List Int} (h : usedB l 15 ≤ 32768) {n : Nat} (hn : n ≤ 15) : firstW l n + cntW l n ≤ 32768 := by
 have h1 := word_used l n hn
 have h2 : usedB l n ≤ usedB l 15 := by
  have mono : ∀ a b, usedB l a ≤ usedB l (a + b) := by
   intro a b
   induction b with
   | zero => exact Nat.le_refl _
   | succ b ih => exact Nat.le_trans ih (Nat.le_add_right _ _)
  have := mono n (15 - n)
  rwa [show n + (15 - n) = 15 by omega] at this
 have h3 : 1 ≤ 2 ^ (15 - n) := Nat.one_le_two_pow
 have h4 : (firstW l n + cntW l n) * 1 ≤ (firstW l n + cntW l n) * 2 ^ (15 - n) := Nat.mul_le_mul_left _ h3
 omega
def codeAt (l : List Int) (i : Nat) : Int × Int := if l.getD i 0 ≤ 0 then (0, 0) else (l.getD i 0, ((firstW l (l.getD i 0).toNat + (symN l (l.getD i 0).toNat i).length : Nat) : Int))
def codesL (l : List Int) : List (Int × Int) := (List.range l.length).map (codeAt l)
def partC (l : List Int) (n i : Nat) : List (Int × Int) := (List.range l.length).map fun j => if 0 < l.getD j 0 ∧ (l.getD j 0 < n ∨ l.getD j 0 = n ∧ j < i) then codeAt l j else (0, 0)
def codeC (c : Int × Int) : List Value := [.int .i64 c.1, .int .u32 c.2]
instance : Enc codeC 2 := ⟨fun _ => rfl, by omega, fun c => by intro v hv; simp only [codeC, List.mem_cons, List.not_mem_nil, or_false] at hv; rcases hv with rfl | rfl <;> rfl⟩
def codes (l : List Int) : List (Int × Int) × Int := if 256 < l.length then ([], 2) else if inB 0 15 l then (if 32768 < usedB l 15 then ([], 41) else (codesL l, 0)) else ([], 3)
theorem codes_long {l : List Int} (h : 256 < l.length) : codes l = ([], 2) := by unfold codes; rw [if_pos h]
theorem codes_bad {l : List Int} (h : ¬ 256 < l.length) (hb : inB 0 15 l = false) : codes l = ([], 3) := by unfold codes; rw [if_neg h, hb]; rfl
theorem codes_much {l : List Int} (h : ¬ 256 < l.length) (hb : inB 0 15 l = true) (hk : 32768 < usedB l 15) : codes l = ([], 41) := by unfold codes; rw [if_neg h, hb, if_pos rfl, if_pos hk]
theorem codes_ok {l : List Int} (h : ¬ 256 < l.length) (hb : inB 0 15 l = true) (hk : ¬ 32768 < usedB l 15) : codes l = (codesL l, 0) := by unfold codes; rw [if_neg h, hb, if_pos rfl, if_neg hk]
theorem part_init (l : List Int) : partC l 1 0 = List.replicate l.length (0, 0) := by
 apply List.ext_getElem (by simp [partC])
 intro j h1 h2
 simp only [partC, List.getElem_map, List.getElem_range, List.getElem_replicate]
 rw [if_neg (by omega)]
theorem partC_length (l : List Int) (n i : Nat) : (partC l n i).length = l.length := by simp [partC]
theorem part_set {l : List Int} {n i : Nat} (hi : i < l.length) (h : l.getD i 0 = (n : Int)) (hn : 1 ≤ n) : (partC l n i).set i (codeAt l i) = partC l n (i + 1) := by
 apply List.ext_getElem (by simp [partC])
 intro j h1 h2
 rw [List.getElem_set]
 simp only [partC, List.getElem_map, List.getElem_range]
 by_cases e : i = j
 ·subst e; rw [if_pos rfl, if_pos (by omega)]
 rw [if_neg e]
 by_cases c : 0 < l.getD j 0 ∧ (l.getD j 0 < n ∨ l.getD j 0 = n ∧ j < i)
 ·rw [if_pos c, if_pos (by omega)]
 rw [if_neg c, if_neg (by omega)]
theorem part_skip {l : List Int} {n i : Nat} (h : ¬ l.getD i 0 = (n : Int)) : partC l n (i + 1) = partC l n i := by
 unfold partC
 apply List.map_congr_left
 intro j _
 by_cases c : 0 < l.getD j 0 ∧ (l.getD j 0 < n ∨ l.getD j 0 = n ∧ j < i)
 ·rw [if_pos c, if_pos (by omega)]
 rw [if_neg c, if_neg (by
  intro k; apply c
  by_cases e : j = i
  ·subst e; omega
  omega)]
theorem part_next (l : List Int) (n : Nat) : partC l (n + 1) 0 = partC l n l.length := by
 unfold partC
 apply List.map_congr_left
 intro j hj
 have := List.mem_range.1 hj
 by_cases c : 0 < l.getD j 0 ∧ (l.getD j 0 < n ∨ l.getD j 0 = n ∧ j < l.length)
 ·rw [if_pos c, if_pos (by omega)]
 rw [if_neg c, if_neg (by omega)]
theorem part_end {l : List Int} (h : inB 0 15 l = true) : partC l 16 0 = codesL l := by
 unfold partC codesL
 apply List.map_congr_left
 intro j hj
 have := inB_iff.1 h j (List.mem_range.1 hj)
 by_cases c : 0 < l.getD j 0
 ·rw [if_pos (by omega)]
 rw [if_neg (by omega)]; unfold codeAt; rw [if_pos (by omega)]
theorem first_mul {l : List Int} {n : Nat} (h1 : 1 ≤ n) (h2 : n ≤ 15) (h : usedB l 15 ≤ 32768) : binI .mul .u32 ((firstW l (n - 1) + cntW l (n - 1) : Nat) : Int) 2 = .int .u32 ((firstW l n : Nat) : Int) := by
 obtain ⟨k, rfl⟩ : ∃ k, n = k + 1 := ⟨n - 1, by omega⟩
 have := word_le h (n := k) (by omega)
 show Value.int .u32 (IntKind.u32.wrap _) = .int .u32 ((2 * (firstW l k + cntW l k) : Nat) : Int)
 rw [Nat.add_sub_cancel]
 exact (v_same (by simp only [inK]; omega)).trans (v_int (by omega))
theorem code_cells {l : List Int} {n i : Nat} (h : l.getD i 0 = (n : Int)) (hn : 1 ≤ n) : (.agg [.int .i64 (n : Int), .int .u32 ((firstW l n + (symN l n i).length : Nat) : Int)].toArray : Value) = .agg (codeC (codeAt l i)).toArray := by
 unfold codeAt
 rw [if_neg (by omega), h, Int.toNat_natCast]; rfl
theorem word_add {l : List Int} {n i : Nat} (h : l.getD i 0 = (n : Int)) (hn : n ≤ 15) (hu : usedB l 15 ≤ 32768) (hi : i ≤ 256) : binI .add .u32 ((firstW l n + (symN l n i).length : Nat) : Int) 1 = .int .u32 ((firstW l n + (symN l n (i + 1)).length : Nat) : Int) := by
 have h1 := word_le hu hn
 have h2 := symN_le l n i
 rw [symN_yes h, List.length_append, List.length_singleton]
 exact (v_same (by simp only [inK]; omega)).trans (v_int (by omega))
theorem refCodes_ok (x : Value) (l : List Int) (w : World) (hx : RdE i64V w x l) (hl : l.length ≤ 1152921504606846976) : Calls Tryz.prog 63 [x].toArray w (Rt fun r w' => ∃ v rs, r = .tuple [v, .int .i64 (codes l).2].toArray ∧ SlS codeC 2 131 v (codes l).1 rs ∧ Mem w [] w' [rs]) := by
 have hM0 : Mem w [] w [] := Mem.nil w []
 refine calls_vc mixed Tryz.func63 rfl C63 (by simp [Tryz.ntmps63]) <| seq fun _ h1 => mv <| mv <| h1 _ _ <| seq fun _ h2 => seq fun _ h3 => mv <| stp (v := .int .i64 (l.length : Nat)) (o_lenR (hx.upd hM0.upd) rfl rfl) <| bn rfl rfl <| h3 _ _ <| cndP rfl (fun c4 => ?_) (fun c4 => ?_)
 ·refine seq fun _ h5 => mv <| mv <| h5 _ _ <| ⟨(.tuple [.slice none 0 0, .int .i64 2].toArray), rfl, ⟨.slice none 0 0, [], by rw [codes_long (by omega)], by rw [codes_long (by omega)]; exact Sl.nil 2 131, hM0.addNil⟩⟩
 refine h2 _ _ <| seq fun _ h6 => seq fun _ h7 => mv <| h7 _ _ <| lp (n := fun _ _ => False) (ι := (Nat)) (fun i f w' => f 0 = x ∧ f 4 = .int .i64 (i : Nat) ∧ Mem w [] w' [] ∧ (i ≤ l.length) ∧ (∀ j, j < i → 0 ≤ l.getD j 0 ∧ l.getD j 0 ≤ 15)) (fun i => l.length - i) (0) ?_ ?_
 ·exact ⟨rfl, vi, hM0, by omega, by omega⟩
 rintro i f w8 ⟨e8_0, e8_4, hM8, hi, hp⟩ K9 h9
 obtain ⟨frm, rfl⟩ := re2 e8_0 e8_4
 refine seq fun _ h10 => seq fun _ h11 => mv <| mv <| stp (v := .int .i64 (l.length : Nat)) (o_lenR (hx.upd hM8.upd) rfl rfl) <| bn rfl rfl <| h11 _ _ <| cndP rfl (fun c12 => ?_) (fun c12 => ?_)
 ·refine h10 _ _ <| seq fun _ h13 => seq fun _ h14 => mv <| mv <| m_idxE 0 (j := i) (hx.upd hM8.upd) rfl rfl (by omega) fun b15 o15 hp15 => ld (v := .int .i64 (l.getD i 0)) rfl (hp15) <| bn rfl rfl <| mv <| splitP rfl (fun c16 => ?_) (fun c16 => ?_)
  ·refine gx rfl <| gx rfl <| gx rfl <| gxl rfl <| gx rfl <| pkT rfl <| h14 _ _ <| cndT rfl <| seq fun _ h17 => mv <| mv <| h17 _ _ <| ⟨(.tuple [.slice none 0 0, .int .i64 3].toArray), rfl, ⟨.slice none 0 0, [], by rw [codes_bad (by omega) (inB_no (i := i) (by omega) (by omega))], by rw [codes_bad (by omega) (inB_no (i := i) (by omega) (by omega))]; exact Sl.nil 2 131, hM8.addNil⟩⟩
  refine gmv rfl <| gmv rfl <| gyes rfl rfl (m_idxE 0 (j := i) (hx.upd hM8.upd) rfl rfl (by omega) fun b18 o18 hp18 => gyesl rfl <| ld (v := .int .i64 (l.getD i 0)) rfl (hp18) <| gbn rfl rfl rfl <| pkF rfl <| h14 _ _ <| cndP rfl (fun c19 => ?_) (fun c19 => ?_))
  ·refine seq fun _ h20 => mv <| mv <| h20 _ _ <| ⟨(.tuple [.slice none 0 0, .int .i64 3].toArray), rfl, ⟨.slice none 0 0, [], by rw [codes_bad (by omega) (inB_no (i := i) (by omega) (by omega))], by rw [codes_bad (by omega) (inB_no (i := i) (by omega) (by omega))]; exact Sl.nil 2 131, hM8.addNil⟩⟩
  refine h13 _ _ <| mv <| stp (v := .int .i64 ((i : Nat) + 1)) (o_bin rfl rfl (v_add64 (by omega))) <| mv <| h9 (i + 1) _ _ ⟨rfl, vi, hM8, by omega, all_succ hp (by omega)⟩ (by (try dsimp only); omega)
 refine h6 _ _ <| seq fun _ h21 => seq fun _ h22 => ?_
 have k2 : inB 0 15 l = true := inB_iff.2 (fun j hj => hp j (by omega))
 have kk := kr_used k2
 refine mv <| m_call (Kraft_ok _ l w8 (hx.upd hM8.upd) (by assumption) (by first | omega | (simp; done) | (simp; omega))) rfl fun v23 w23 ⟨hr23, hu23⟩ => ?_
 have hM23 : Mem w [] w23 [] := hM8.pure hu23
 subst hr23
 refine bn rfl rfl <| h22 _ _ <| cndP rfl (fun c24 => ?_) (fun c24 => ?_)
 ·refine seq fun _ h25 => mv <| mv <| h25 _ _ <| ⟨(.tuple [.slice none 0 0, .int .i64 41].toArray), rfl, ⟨.slice none 0 0, [], by rw [codes_much (by omega) k2 (by omega)], by rw [codes_much (by omega) k2 (by omega)]; exact Sl.nil 2 131, hM23.addNil⟩⟩
 refine h21 _ _ <| seq fun _ h26 => mv <| stp (v := .int .i64 (l.length : Nat)) (o_lenR (hx.upd hM23.upd) rfl rfl) <| m_mksS (enc := codeC) (z := ((0, 0) : Int × Int)) (n := l.length) (c := l.length) (rfl) hM23 rfl rfl (by omega) (by omega) (by omega) fun v27 w27 r27 hs27 (hM27 : Mem _ _ w27 [r27]) => mv <| h26 _ _ <| seq fun _ h28 => mv <| h28 _ _ <| seq fun _ h29 => seq fun _ h30 => mv <| h30 _ _ <| lp (n := fun _ _ => False) (ι := (Nat) × (Value) × (List Ent)) (fun ⟨n, y, r⟩ f w' => f 0 = x ∧ f 5 = y ∧ f 6 = .int .u32 (firstW l (n - 1) + cntW l (n - 1) : Nat) ∧ f 7 = .int .i64 (n : Nat) ∧ Mem w [] w' [r] ∧ (SlS codeC 2 131 y (partC l n 0) r) ∧ (1 ≤ n ∧ n ≤ 16)) (fun ⟨n, y, r⟩ => 16 - n) (1, v27, r27) ?_ ?_
 ·exact ⟨rfl, rfl, rfl, vi, hM27, by rw [part_init]; exact hs27, by omega⟩
 rintro ⟨n, y, r⟩ f w31 ⟨e31_0, e31_5, e31_6, e31_7, hM31, hs, hn⟩ K32 h32
 obtain ⟨frm, rfl⟩ := re4 e31_0 e31_5 e31_6 e31_7
 refine seq fun _ h33 => seq fun _ h34 => mv <| bn rfl rfl <| h34 _ _ <| cndP rfl (fun c35 => ?_) (fun c35 => ?_)
 ·refine h33 _ _ <| seq fun _ h36 => seq fun _ h37 => mv <| stp (v := .int .u32 (firstW l n : Nat)) (o_bin rfl rfl (first_mul (by omega) (by omega) (by omega))) <| mv <| h37 _ _ <| seq fun _ h38 => mv <| h38 _ _ <| lp (n := fun _ _ => False) (ι := (Nat) × (Value) × (List Ent)) (fun ⟨i, y, r⟩ f w' => f 0 = x ∧ f 5 = y ∧ f 6 = .int .u32 (firstW l n + (symN l n i).length : Nat) ∧ f 7 = .int .i64 (n : Nat) ∧ f 8 = .int .i64 (i : Nat) ∧ Mem w [] w' [r] ∧ (SlS codeC 2 131 y (partC l n i) r) ∧ (i ≤ l.length)) (fun ⟨i, y, r⟩ => l.length - i) (0, y, r) ?_ ?_
  ·exact ⟨rfl, rfl, rfl, vi, vi, hM31, hs, by omega⟩
  rintro ⟨i, y, r⟩ f w39 ⟨e39_0, e39_5, e39_6, e39_7, e39_8, hM39, hs2, hi⟩ K40 h40
  obtain ⟨frm, rfl⟩ := re5 e39_0 e39_5 e39_6 e39_7 e39_8
  refine seq fun _ h41 => seq fun _ h42 => mv <| mv <| stp (v := .int .i64 (l.length : Nat)) (o_lenR (hx.upd hM39.upd) rfl rfl) <| bn rfl rfl <| h42 _ _ <| cndP rfl (fun c43 => ?_) (fun c43 => ?_)
  ·refine h41 _ _ <| seq fun _ h44 => seq fun _ h45 => mv <| mv <| m_idxE 0 (j := i) (hx.upd hM39.upd) rfl rfl (by omega) fun b46 o46 hp46 => ld (v := .int .i64 (l.getD i 0)) rfl (hp46) <| mv <| bn rfl rfl <| h45 _ _ <| cndP rfl (fun c47 => ?_) (fun c47 => ?_)
   ·refine seq fun _ h48 => mv <| mv <| mv <| mv <| stp (v := .agg ([.int .i64 (n : Nat), .int .u32 (firstW l n + (symN l n i).length : Nat)] : List Value).toArray) (o_bld rfl rfl) <| m_setS (enc := codeC) ((0, 0) : Int × Int) (q := codeAt l i) (j := i) hM39 (i := 0) rfl hs2 rfl rfl (by rw [partC_length]; omega) (by simp) (code_cells (by assumption) (by omega)) fun w49 r49 u49 he49 hs49 (hM49 : Mem w [] w49 [r49]) => h48 _ _ <| mv <| stp (v := .int .u32 (firstW l n + (symN l n (i + 1)).length : Nat)) (o_bin rfl rfl (word_add (by assumption) (by omega) (by omega) (by omega))) <| mv <| h44 _ _ <| mv <| stp (v := .int .i64 ((i : Nat) + 1)) (o_bin rfl rfl (v_add64 (by omega))) ?_
    refine mv <| h40 (i + 1, y, r49) _ _ ⟨rfl, rfl, by first | rfl | exact v_int (by rw [symN_no (by assumption)]), vi, vi, hM49, by rw [← part_set (by omega) (by assumption) (by omega)]; exact hs49, by omega⟩ (by (try dsimp only); omega)
   refine h44 _ _ <| mv <| stp (v := .int .i64 ((i : Nat) + 1)) (o_bin rfl rfl (v_add64 (by omega))) <| mv <| h40 (i + 1, y, r) _ _ ⟨rfl, rfl, by first | rfl | exact v_int (by rw [symN_no (by assumption)]), vi, vi, hM39, by rw [part_skip (by assumption)]; exact hs2, by omega⟩ (by (try dsimp only); omega)
  refine h36 _ _ <| mv <| stp (v := .int .i64 ((n : Nat) + 1)) (o_bin rfl rfl (v_add64 (by omega))) <| mv <| h32 (n + 1, y, r) _ _ ⟨rfl, rfl, v_int (by (obtain rfl : i = l.length := by omega); show _ = ((firstW l n + cntW l n : Nat) : Int); unfold cntW; rw [if_neg (by omega)]), vi, hM39, by (obtain rfl : i = l.length := by omega); rw [part_next]; exact hs2, by omega⟩ (by (try dsimp only); omega)
 refine h29 _ _ <| seq fun _ h50 => mv <| mv <| mv <| h50 _ _ <| ⟨(.tuple [y, .int .i64 0].toArray), rfl, ?_⟩
 have e : n = 16 := by omega
 subst e
 exact ⟨_, _, by rw [codes_ok (by omega) k2 (by omega)], by rw [codes_ok (by omega) k2 (by omega), ← part_end k2]; exact hs, hM31⟩
end Go.Proofs.YtifnmbmijljhfaaGreat.E.Hf
namespace Go.Proofs.YtifnmbmijljhfaaGreat.E.Hf
open Go
theorem mem_symN {l : List Int} {n s j : Nat} : j ∈ symN l n s ↔ j < s ∧ l.getD j 0 = (n : Int) := by
 unfold symN; rw [List.mem_filter]; simp
theorem rankN {l : List Int} {n r : Nat} : ∀ {s L : Nat}, r < (symN l n L).length → (symN l n L).getD r 0 = s → (symN l n s).length = r := by
 intro s L
 induction L with
 | zero => intro h; simp [symN] at h
 | succ L ih =>
  intro h e
  by_cases c : l.getD L 0 = (n : Int)
  ·rw [symN_yes c] at h e
   rw [List.length_append, List.length_singleton] at h
   by_cases h1 : r < (symN l n L).length
   ·rw [appG1 0 h1] at e; exact ih h1 e
   have hr : r = (symN l n L).length := by omega
   rw [appG2 0 (by omega), hr, Nat.sub_self] at e
   simp at e; subst e; exact hr.symm
  rw [symN_no c] at h e; exact ih h e
theorem ord_mono (l : List Int) (a b : Nat) : (ordB l a).length ≤ (ordB l (a + b)).length := by
 induction b with
 | zero => exact Nat.le_refl _
 | succ b ih => exact Nat.le_trans ih (by show _ ≤ (ordB l (a + b) ++ _).length; simp)
theorem getD_mem {l : List Nat} {r : Nat} (h : r < l.length) : l.getD r 0 ∈ l := by
 rw [List.getD_eq_getElem?_getD, List.getElem?_eq_getElem h]; exact List.getElem_mem h
theorem code_pos {l : List Int} {n r : Nat} (hn : 1 ≤ n) (hr : r < (symN l n l.length).length) : l.getD ((symN l n l.length).getD r 0) 0 = (n : Int) ∧ codeAt l ((symN l n l.length).getD r 0) = ((n : Int), ((firstW l n + r : Nat) : Int)) := by
 have h1 := (mem_symN.1 (getD_mem hr)).2
 refine ⟨h1, ?_⟩
 unfold codeAt
 rw [if_neg (by omega), h1, Int.toNat_natCast, rankN hr rfl]
end Go.Proofs.YtifnmbmijljhfaaGreat.E.Hf
namespace Go.Proofs.YtifnmbmijljhfaaGreat.E.Hf
open Go
def lastI (l : List Int) : Int := l.getLast?.getD (-1)
theorem lastI_app {l : List Int} {n : Nat} {x : Int} (h : 1 ≤ n) : lastI (l ++ List.replicate n x) = x := by
 unfold lastI
 obtain ⟨m, rfl⟩ : ∃ m, n = m + 1 := ⟨n - 1, by omega⟩
 rw [List.replicate_succ', ← List.append_assoc, List.getLast?_append]; simp
theorem get_nz {b : List UInt8} {a : Nat} (ha : a < b.length) (h0 : ¬ b.getD a 0 = 0) (h : (get (b.drop a)).2.2 = 0) : 1 ≤ (get (b.drop a)).1 := by
 apply Decidable.byContradiction; intro k
 have hg := get_ok h
 rw [show (get (b.drop a)).1 = 0 by omega] at hg
 have e : putI ((0 : Nat) : Int) = [0] := by decide +kernel
 rw [e, dropG 0 ha] at hg
 have h3 := hg.2.2
 cases hk : (get (b.getD a 0 :: b.drop (a + 1))).2.1 with
 | zero => rw [hk] at h3; simp at h3
 | succ m => rw [hk, List.take_succ_cons] at h3; injection h3 with h4 _; exact h0 h4.symm
theorem get_z {b : List UInt8} {a : Nat} (ha : a < b.length) (h0 : b.getD a 0 = 0) : get (b.drop a) = (0, 1, 0) := by
 rw [dropG 0 ha, h0]
 have := get_put (v := 0) (by omega) (by omega) (b.drop (a + 1))
 have e : putI 0 = [0] := by decide +kernel
 rw [e] at this
 exact this
def hdrP (b : List UInt8) (a : Nat) (l : List Int) : Prop := (get (b.drop a)).2.2 = 0 ∧ l.length + (get (b.drop a)).1 ≤ 256 ∧ a + (get (b.drop a)).2.1 < b.length ∧ ((b.getD (a + (get (b.drop a)).2.1) 0).toNat : Int) ≤ 15 ∧ ¬ lastI l = ((b.getD (a + (get (b.drop a)).2.1) 0).toNat : Int)
instance (b : List UInt8) (a : Nat) (l : List Int) : Decidable (hdrP b a l) := by unfold hdrP; infer_instance
def hdrL (b : List UInt8) (a : Nat) (l : List Int) : List Int := l ++ List.replicate (get (b.drop a)).1 ((b.getD (a + (get (b.drop a)).2.1) 0).toNat : Int)
def hdr (b : List UInt8) (a : Nat) (l : List Int) : Option (List Int × Nat) :=
 if _h : a < b.length then
  if b.getD a 0 = 0 then (if lastI l = 0 then none else some (l, a + 1))
  else if hdrP b a l then hdr b (a + (get (b.drop a)).2.1 + 1) (hdrL b a l) else none
 else none
termination_by b.length - a
theorem hdr_end {b : List UInt8} {a : Nat} {l : List Int} (h : ¬ a < b.length) : hdr b a l = none := by rw [hdr, dif_neg h]
theorem hdr_z0 {b : List UInt8} {a : Nat} {l : List Int} (h : a < b.length) (h0 : b.getD a 0 = 0) (h1 : lastI l = 0) : hdr b a l = none := by rw [hdr, dif_pos h, if_pos h0, if_pos h1]
theorem hdr_z1 {b : List UInt8} {a : Nat} {l : List Int} (h : a < b.length) (h0 : b.getD a 0 = 0) (h1 : ¬ lastI l = 0) : hdr b a l = some (l, a + 1) := by rw [hdr, dif_pos h, if_pos h0, if_neg h1]
theorem hdr_no {b : List UInt8} {a : Nat} {l : List Int} (h : a < b.length) (h0 : ¬ b.getD a 0 = 0) (h1 : ¬ hdrP b a l) : hdr b a l = none := by rw [hdr, dif_pos h, if_neg h0, if_neg h1]
theorem hdr_more {b : List UInt8} {a : Nat} {l : List Int} (h : a < b.length) (h0 : ¬ b.getD a 0 = 0) (h1 : hdrP b a l) : hdr b a l = hdr b (a + (get (b.drop a)).2.1 + 1) (hdrL b a l) := by conv => lhs; rw [hdr, dif_pos h, if_neg h0, if_pos h1]
def bitW (w : List UInt8) (i : Nat) : Nat := (w.getD (i / 8) 0).toNat / 2 ^ (i % 8) % 2
theorem bitW_le (w : List UInt8) (i : Nat) : bitW w i ≤ 1 := by unfold bitW; omega
def dec1 (l : List Int) (w : List UInt8) : Nat → Nat → Nat → Nat → Option (Nat × Nat)
 | 0, _, _, _ => none
 | k + 1, n, word, p => if p < 8 * w.length then (if 2 * word + bitW w p < firstW l n + cntW l n then some ((symN l n l.length).getD (2 * word + bitW w p - firstW l n) 0, p + 1) else dec1 l w k (n + 1) (2 * word + bitW w p) (p + 1)) else none
theorem dec1_end {l : List Int} {w : List UInt8} {k n word p : Nat} (h : ¬ p < 8 * w.length) : dec1 l w k n word p = none := by cases k with
 | zero => rfl
 | succ k => rw [dec1, if_neg h]
theorem dec1_yes {l : List Int} {w : List UInt8} {k n word p : Nat} (h : p < 8 * w.length) (h2 : 2 * word + bitW w p < firstW l n + cntW l n) : dec1 l w (k + 1) n word p = some ((symN l n l.length).getD (2 * word + bitW w p - firstW l n) 0, p + 1) := by rw [dec1, if_pos h, if_pos h2]
theorem dec1_no {l : List Int} {w : List UInt8} {k n word p : Nat} (h : p < 8 * w.length) (h2 : ¬ 2 * word + bitW w p < firstW l n + cntW l n) : dec1 l w (k + 1) n word p = dec1 l w k (n + 1) (2 * word + bitW w p) (p + 1) := by rw [dec1, if_pos h, if_neg h2]
theorem dec1_bd {l : List Int} {w : List UInt8} : ∀ {k n word p s e : Nat}, dec1 l w k n word p = some (s, e) → p < e ∧ e ≤ 8 * w.length
 | 0, _, _, _, _, _, h => by cases h
 | k + 1, n, word, p, s, e, h => by
  by_cases c : p < 8 * w.length
  ·by_cases c2 : 2 * word + bitW w p < firstW l n + cntW l n
   ·rw [dec1_yes c c2] at h; injection h with h; injection h with _ h; omega
   rw [dec1_no c c2] at h
   have := dec1_bd h; omega
  rw [dec1_end c] at h; cases h
def decA (l : List Int) (w : List UInt8) : Nat → Nat → Option (List UInt8 × Nat)
 | 0, p => some ([], p)
 | m + 1, p => match dec1 l w 15 1 0 p with
  | none => none
  | some (s, e) => match decA l w m e with
   | none => none
   | some (t, e2) => some (s.toUInt8 :: t, e2)
def pre (t : List UInt8) : Option (List UInt8 × Nat) → Option (List UInt8 × Nat)
 | none => none
 | some (u, e) => some (t ++ u, e)
theorem pre_nil (o : Option (List UInt8 × Nat)) : pre [] o = o := by cases o <;> rfl
theorem pre_step {l : List Int} {w : List UInt8} {m p s e : Nat} {t : List UInt8} (h : dec1 l w 15 1 0 p = some (s, e)) : pre t (decA l w (m + 1) p) = pre (t ++ [s.toUInt8]) (decA l w m e) := by
 rw [decA, h]
 simp only []
 cases decA l w m e with
 | none => rfl
 | some x => obtain ⟨u, e2⟩ := x; simp [pre]
theorem pre_fail {l : List Int} {w : List UInt8} {m p : Nat} {t : List UInt8} (h : dec1 l w 15 1 0 p = none) : pre t (decA l w (m + 1) p) = none := by rw [decA, h]; rfl
theorem decA_bd {l : List Int} {w : List UInt8} : ∀ {m p : Nat} {t : List UInt8} {e : Nat}, decA l w m p = some (t, e) → p ≤ 8 * w.length → p + m ≤ e ∧ e ≤ 8 * w.length ∧ t.length = m
 | 0, p, t, e, h, hp => by injection h with h; injection h with h1 h2; subst h1 h2; exact ⟨by omega, hp, rfl⟩
 | m + 1, p, t, e, h, hp => by
  rw [decA] at h
  split at h
  ·cases h
  rename_i s e1 h1
  have hb := dec1_bd h1
  split at h
  ·cases h
  rename_i u e2 h2
  injection h with h; injection h with h3 h4
  subst h3 h4
  have := decA_bd h2 (by omega)
  simp only [List.length_cons]; omega
def tailZ (w : List UInt8) (e : Nat) : Prop := ∀ i, i < 8 * w.length → e ≤ i → bitW w i = 0
instance (w : List UInt8) (e : Nat) : Decidable (tailZ w e) := by unfold tailZ; infer_instance
def wordsF (l : List Int) (w : List UInt8) (n : Nat) : Option (List UInt8) :=
 if 32768 < usedB l 15 then none else match decA l w n 0 with
  | none => none
  | some (t, e) => if (e + 7) / 8 = w.length ∧ tailZ w e then some t else none
def huffD (b : List UInt8) (n : Int) : List UInt8 × Int := if n < 0 ∨ 65536 < n then ([], 3) else match hdr b 0 [] with
 | none => ([], 40)
 | some (l, a) => match wordsF l (b.drop a) n.toNat with
  | none => ([], 40)
  | some t => (t, 0)
theorem bits_zero {x : UInt8} {k : Nat} (hk : k < 8) : (x.toNat / 2 ^ k = 0) ↔ ∀ i, k ≤ i → i < 8 → x.toNat / 2 ^ i % 2 = 0 := by
 have hx := x.toNat_lt
 constructor
 ·intro h i hi h8
  obtain ⟨j, rfl⟩ : ∃ j, i = k + j := ⟨i - k, by omega⟩
  rw [Nat.pow_add, ← Nat.div_div_eq_div_mul, h]; simp
 intro h
 apply Nat.eq_of_testBit_eq
 intro i
 rw [Nat.zero_testBit, Nat.testBit_div_two_pow]
 by_cases c : k + i < 8
 ·have := h (k + i) (by omega) c
  rw [Nat.testBit_eq_decide_div_mod_eq, Nat.add_comm i k, this]; rfl
 exact Nat.testBit_lt_two_pow (by
  have : 2 ^ 8 ≤ 2 ^ (i + k) := Nat.pow_le_pow_right (by omega) (by omega)
  omega)
theorem tail_byte {w : List UInt8} {e : Nat} (h : (e + 7) / 8 = w.length) (h8 : ¬ e % 8 = 0) : tailZ w e ↔ (w.getD (e / 8) 0).toNat / 2 ^ (e % 8) = 0 := by
 rw [bits_zero (by omega)]
 unfold tailZ bitW
 constructor
 ·intro hz i hi h8'
  have := hz (8 * (e / 8) + i) (by omega) (by omega)
  rwa [show (8 * (e / 8) + i) / 8 = e / 8 by omega, show (8 * (e / 8) + i) % 8 = i by omega] at this
 intro hz i hi he
 have h1 : i / 8 = e / 8 := by omega
 rw [h1]
 exact hz (i % 8) (by omega) (by omega)
theorem tail_none {w : List UInt8} {e : Nat} (h : (e + 7) / 8 = w.length) (h8 : e % 8 = 0) : tailZ w e := fun i hi he => by omega
end Go.Proofs.YtifnmbmijljhfaaGreat.E.Hf
namespace Go.Proofs.YtifnmbmijljhfaaGreat.E.Hf
open Go
theorem ifc {α : Type} {p q : Prop} [Decidable p] [Decidable q] {x y : α} (h : p ↔ q) : (if p then x else y) = (if q then x else y) := by
 by_cases c : p
 ·rw [if_pos c, if_pos (h.1 c)]
 rw [if_neg c, if_neg (fun k => c (h.2 k))]
theorem get_err (b : List UInt8) : ¬ (get b).2.2 = 22 := by
 have h : (get b).2.2 = 0 ∨ (get b).2.2 = 20 ∨ (get b).2.2 = 21 := (getA_err b 0 0).1
 omega
def hdI (b : List UInt8) (a : Nat) (e : Int) (L : List Int) : Prop := (e = 0 ∧ hdr b 0 [] = hdr b a L) ∨ (¬ e = 0 ∧ ¬ e = 22 ∧ hdr b 0 [] = none ∧ lastI L = 0)
theorem hd_num {b : List UInt8} {a : Nat} {e : Int} {L : List Int} (h : hdI b a e L) (hn : ¬ cNum b a e 256 = 0) : e = 0 ∧ hdr b 0 [] = hdr b a L ∧ (get (b.drop a)).2.2 = 0 ∧ (get (b.drop a)).1 ≤ 256 ∧ cNum b a e 256 = ((get (b.drop a)).1 : Nat) ∧ cNumA b a e 256 = a + (get (b.drop a)).2.1 ∧ cNumE b a e 256 = 0 ∧ a < b.length ∧ ¬ b.getD a 0 = 0 ∧ a + (get (b.drop a)).2.1 ≤ b.length := by
 have he : e = 0 := by
  apply Decidable.byContradiction; intro c
  exact hn (by unfold cNum; rw [if_neg c])
 subst he
 have hE : (get (b.drop a)).2.2 = 0 := by
  apply Decidable.byContradiction; intro c
  exact hn (by unfold cNum; rw [if_pos rfl, (num_bad c).2])
 have hM : ¬ (256 : Int) < ((get (b.drop a)).1 : Nat) := by
  intro c; exact hn (by unfold cNum; rw [if_pos rfl, (num_much hE c).2])
 have hf := num_fine hE hM
 have hg := get_ok hE
 rw [List.length_drop] at hg
 have ha : a < b.length := by omega
 refine ⟨rfl, ?_, hE, by omega, by unfold cNum; rw [if_pos rfl, hf.2], by unfold cNumA; rw [if_pos ⟨rfl, by rw [hf.1, hE]⟩], by unfold cNumE; rw [if_pos rfl, hf.1, hE], ha, ?_, by omega⟩
 ·rcases h with h | h
  ·exact h.2
  exact absurd rfl h.1
 intro h0
 have := get_z ha h0
 exact hn (by unfold cNum; rw [if_pos rfl, hf.2, this]; rfl)
theorem word_1 (x : UInt8) : word [x] = x.toNat := by
 have := x.toNat_lt
 simp [word, le]
theorem fix_1 {b : List UInt8} {A : Nat} : (A < b.length → cFix b A 0 1 = (b.getD A 0).toNat ∧ cFixA b A 0 1 = A + 1 ∧ cFixE b A 0 1 = 0) ∧ (¬ A < b.length → cFix b A 0 1 = 0 ∧ cFixA b A 0 1 = A ∧ cFixE b A 0 1 = 20) := by
 constructor
 ·intro h
  have hf := fix_fine (l := b.drop A) (n := 1) (by omega) (by rw [List.length_drop]; omega)
  refine ⟨?_, ?_, ?_⟩
  ·unfold cFix; rw [if_pos rfl, hf.2, dropG 0 h]; simp [word_1]
  ·unfold cFixA fixN; rw [if_pos ⟨rfl, hf.1⟩, if_pos hf.1]; rfl
  unfold cFixE; rw [if_pos rfl, hf.1]
 intro h
 have hf := fix_short (l := b.drop A) (n := 1) (by omega) (by rw [List.length_drop]; omega)
 refine ⟨?_, ?_, ?_⟩
 ·unfold cFix; rw [if_pos rfl, hf.2]
 ·unfold cFixA; rw [if_neg (by rw [hf.1]; omega)]
 unfold cFixE; rw [if_pos rfl, hf.1]
theorem fix1_le (b : List UInt8) (A : Nat) (E : Int) : cFix b A E 1 ≤ 255 := by
 by_cases c : E = 0
 ·subst c
  by_cases h : A < b.length
  ·rw [(fix_1.1 h).1]; have := (b.getD A 0).toNat_lt; omega
  rw [(fix_1.2 h).1]; omega
 unfold cFix; rw [if_neg c]; omega
theorem cNum_bd {b : List UInt8} {a : Nat} {e : Int} {L : List Int} (h : hdI b a e L) : 0 ≤ cNum b a e 256 ∧ cNum b a e 256 ≤ 256 := by
 by_cases c : cNum b a e 256 = 0
 ·omega
 obtain ⟨_, _, _, h4, h5, _⟩ := hd_num h c; omega
theorem hd_stop {b : List UInt8} {a : Nat} {e : Int} {L : List Int} (h : hdI b a e L) (hn : cNum b a e 256 = 0) :
 hdr b 0 [] = (if ¬ lastI L = 0 ∧ (endE b (cNumA b a e 256) (cNumE b a e 256) = 0 ∨ endE b (cNumA b a e 256) (cNumE b a e 256) = 22) then some (L, cNumA b a e 256) else none) ∧ ((endE b (cNumA b a e 256) (cNumE b a e 256) = 0 ∨ endE b (cNumA b a e 256) (cNumE b a e 256) = 22) → cNumE b a e 256 = 0) := by
 have nope : ∀ E : Int, ¬ E = 0 → ¬ E = 22 → cNumE b a e 256 = E → hdr b 0 [] = none → hdr b 0 [] = (if ¬ lastI L = 0 ∧ (endE b (cNumA b a e 256) (cNumE b a e 256) = 0 ∨ endE b (cNumA b a e 256) (cNumE b a e 256) = 22) then some (L, cNumA b a e 256) else none) ∧ ((endE b (cNumA b a e 256) (cNumE b a e 256) = 0 ∨ endE b (cNumA b a e 256) (cNumE b a e 256) = 22) → cNumE b a e 256 = 0) := by
  intro E h0 h22 hE hno
  have : endE b (cNumA b a e 256) (cNumE b a e 256) = E := by unfold endE; rw [hE, if_pos h0]
  rw [this, hno, if_neg (by omega)]
  exact ⟨rfl, by omega⟩
 rcases h with ⟨he, h⟩ | ⟨he, h22, h, hl⟩
 ·subst he
  by_cases hE : (get (b.drop a)).2.2 = 0
  ·have hg := get_ok hE
   rw [List.length_drop] at hg
   have ha : a < b.length := by omega
   by_cases hM : (256 : Int) < ((get (b.drop a)).1 : Nat)
   ·have hf := num_much hE hM
    refine nope 23 (by omega) (by omega) (by unfold cNumE; rw [if_pos rfl, hf.1]) ?_
    have h0 : ¬ b.getD a 0 = 0 := by
     intro h0; rw [get_z ha h0] at hM; simp at hM
    rw [h, hdr_no ha h0]
    rintro ⟨_, p, _⟩; omega
   have hf := num_fine hE hM
   have hz : (get (b.drop a)).1 = 0 := by
    unfold cNum at hn; rw [if_pos rfl, hf.2] at hn; omega
   have h0 : b.getD a 0 = 0 := by
    apply Decidable.byContradiction; intro c
    have := get_nz ha c hE; omega
   have hA : cNumA b a 0 256 = a + 1 := by unfold cNumA; rw [if_pos ⟨rfl, by rw [hf.1, hE]⟩, get_z ha h0]
   have hC : cNumE b a 0 256 = 0 := by unfold cNumE; rw [if_pos rfl, hf.1, hE]
   have hX : endE b (a + 1) 0 = 0 ∨ endE b (a + 1) 0 = 22 := by
    unfold endE; rw [if_neg (by omega)]; split
    ·exact .inr rfl
    exact .inl rfl
   rw [hA, hC, h]
   refine ⟨?_, fun _ => rfl⟩
   by_cases c : lastI L = 0
   ·rw [hdr_z0 ha h0 c, if_neg (fun h => h.1 c)]
   rw [hdr_z1 ha h0 c, if_pos ⟨c, hX⟩]
  have hf := num_bad (m := 256) hE
  refine nope _ hE (get_err _) (by unfold cNumE; rw [if_pos rfl, hf.1]) ?_
  rw [h]
  by_cases ha : a < b.length
  ·have h0 : ¬ b.getD a 0 = 0 := by
    intro h0; rw [get_z ha h0] at hE; exact hE rfl
   rw [hdr_no ha h0]
   exact fun p => hE p.1
  exact hdr_end ha
 exact nope e he h22 (by unfold cNumE; rw [if_neg he]) h
abbrev xF (b : List UInt8) (a : Nat) (e : Int) : Int := ((cFix b (cNumA b a e 256) (cNumE b a e 256) 1 : Nat) : Int)
theorem hd_bad {b : List UInt8} {a : Nat} {e : Int} {L : List Int} (h : hdI b a e L) (hn : ¬ cNum b a e 256 = 0) (hx : 15 < xF b a e ∨ xF b a e = lastI L ∨ 256 < ((L.length : Nat) : Int) + cNum b a e 256) : hdr b 0 [] = none := by
 obtain ⟨he, h1, h2, h3, h4, h5, h6, h7, h8, h9⟩ := hd_num h hn
 subst he
 unfold xF at hx
 rw [h1, hdr_no h7 h8]
 rintro ⟨_, p2, p3, p4, p5⟩
 rw [h5, h6, (fix_1.1 p3).1] at hx
 rw [h4] at hx
 rcases hx with hx | hx | hx
 ·omega
 ·exact p5 hx.symm
 omega
theorem hd_go {b : List UInt8} {a : Nat} {e : Int} {L : List Int} (h : hdI b a e L) (hn : ¬ cNum b a e 256 = 0) (hx : ¬ 15 < xF b a e) (hx2 : ¬ xF b a e = lastI L) (hx3 : ¬ 256 < ((L.length : Nat) : Int) + cNum b a e 256) :
 hdI b (cFixA b (cNumA b a e 256) (cNumE b a e 256) 1) (cFixE b (cNumA b a e 256) (cNumE b a e 256) 1) (L ++ List.replicate (cNum b a e 256).toNat (xF b a e)) ∧ lastI (L ++ List.replicate (cNum b a e 256).toNat (xF b a e)) = xF b a e := by
 obtain ⟨he, h1, h2, h3, h4, h5, h6, h7, h8, h9⟩ := hd_num h hn
 subst he
 have hl : lastI (L ++ List.replicate (cNum b a 0 256).toNat (xF b a 0)) = xF b a 0 := lastI_app (by omega)
 refine ⟨?_, hl⟩
 unfold xF at hx hx2 hl ⊢
 rw [h5, h6] at hx hx2 hl ⊢
 by_cases p3 : a + (get (b.drop a)).2.1 < b.length
 ·have hf := fix_1.1 p3
  rw [hf.1] at hx hx2 hl ⊢
  rw [hf.2.1, hf.2.2, h4]
  refine .inl ⟨rfl, ?_⟩
  rw [h1, hdr_more h7 h8 ⟨h2, by omega, p3, by omega, fun k => hx2 k.symm⟩]
  rw [Int.toNat_natCast]; rfl
 have hf := fix_1.2 p3
 rw [hf.1] at hx hx2 hl ⊢
 rw [hf.2.1, hf.2.2]
 refine .inr ⟨by omega, by omega, ?_, hl⟩
 rw [h1, hdr_no h7 h8]
 rintro ⟨_, _, p, _⟩; exact p3 p
theorem hdI_init (b : List UInt8) : hdI b 0 0 [] := .inl ⟨rfl, rfl⟩
theorem lengths_ok (bc : Nat) (b : List UInt8) (r0 : List Ent) (w : World) (hc : CurS bc b 0 0 r0) (hr : Res w r0) (hl : b.length ≤ 140737488355328) : Calls Tryz.prog 90 [.pointer (some ⟨bc, 0, none⟩)].toArray w (Rt fun r w' => ∃ v ok L a' e' r' rs, r = .tuple [v, .bool ok].toArray ∧ SlE i64V 3 v L rs ∧ CurS bc b a' e' r' ∧ (if ok then some (L, a') else none) = hdr b 0 [] ∧ (ok = true → e' = 0) ∧ Mem w (ids r0) w' [r', rs]) := by
 have hM0 : Mem w (ids r0) w [r0] := Mem.start hr
 refine calls_vc mixed Tryz.func90 rfl C90 (by simp [Tryz.ntmps90]) <| seq fun _ h1 => mv <| mv <| h1 _ _ <| seq fun _ h2 => mv <| h2 _ _ <| seq fun _ h3 => mv <| h3 _ _ <| seq fun _ h4 => ?_
 have hM5 : Mem _ _ w [_, []] := hM0.addNil
 have hs5 : SlE i64V 3 (.slice none 0 0) [] [] := Sl.nil 1 3
 refine lp (n := fun _ _ => False) (ι := (List Int) × (Nat) × (Int) × (List Ent) × (Value) × (List Ent)) (fun ⟨L, a, e, rc, y4_, r4_⟩ f w' => f 0 = .pointer (some ⟨bc, 0, none⟩) ∧ f 4 = y4_ ∧ f 5 = .int .i64 (lastI L) ∧ Mem w (ids r0) w' [rc, r4_] ∧ (CurS bc b a e rc) ∧ (hdI b a e L) ∧ (L.length ≤ 256) ∧ (SlE i64V 3 y4_ (L) r4_)) (fun ⟨L, a, e, rc, y4_, r4_⟩ => 256 - L.length) ([], 0, 0, r0, ((.slice none 0 0)), ([])) ?_ ?_
 ·exact ⟨rfl, rfl, vi, hM5, hc, hdI_init b, by simp, by first | exact hs5 | simpa using hs5⟩
 rintro ⟨L, a, e, rc, y4_, r4_⟩ f w6 ⟨e6_0, e6_4, e6_5, hM6, hcl, hI, hL, hy4_⟩ K7 h7
 obtain ⟨frm, rfl⟩ := re3 e6_0 e6_4 e6_5
 refine seq fun _ h8 => mv ?_
 have hcb := cNum_bd hI
 refine m_call (Num_ok _ b a e 256 rc w6 hcl (hM6.res (i := 0) rfl) (by first | omega | (simp; done) | (simp; omega))) rfl fun v9 w9 ⟨hr9, r'9, hc9, hm9⟩ => ?_
 have hM9 : Mem w (ids r0) w9 [r'9, r4_] := hM6.step 0 rfl hm9
 subst hr9
 refine mv <| h8 _ _ <| seq fun _ h10 => seq fun _ h11 => mv <| bn rfl rfl <| h11 _ _ <| cndP rfl (fun c12 => ?_) (fun c12 => ?_)
 ·refine h4 _ _ <| seq fun _ h13 => mv <| m_call (End_ok _ b (cNumA b a e 256) (cNumE b a e 256) r'9 w9 hc9 (hM9.res (i := 0) rfl)) rfl fun v14 w14 ⟨hr14, hm14⟩ => ?_
  have hM14 : Mem _ _ w14 [_, _] := hM9.step 0 rfl hm14
  subst hr14
  refine stp (v := .int .i64 (endE b (cNumA b a e 256) (cNumE b a e 256))) (o_fld rfl rfl) <| mv <| h13 _ _ <| seq fun _ h15 => mv <| mv <| bneq rfl rfl <| mv <| splitP rfl (fun c16 => ?_) (fun c16 => ?_)
  ·refine gmv rfl <| gbn rfl rfl rfl <| gmv rfl <| splitP rfl (fun c17 => ?_) (fun c17 => ?_)
   ·refine gx rfl <| gx rfl <| gpkT rfl rfl <| pkT rfl <| mv <| mv <| h15 _ _ <| ⟨(.tuple [y4_, .bool true].toArray), rfl, ?_⟩
    have hs := hd_stop hI (by omega)
    exact ⟨_, _, _, _, _, _, _, rfl, hy4_, hc9, by rw [hs.1]; exact ifc (by constructor <;> intro h <;> first | omega | (have := of_decide_eq_true h; omega) | (exact decide_eq_true (by omega)) | rfl | cases h), fun h => hs.2 (by first | omega | (have := of_decide_eq_true h; omega) | cases h), hM14⟩
   refine gmv rfl <| gbn rfl rfl rfl <| gpkF rfl rfl <| pkT rfl <| mv <| mv <| h15 _ _ <| ⟨(.tuple [y4_, .bool (decide ((endE b (cNumA b a e 256) (cNumE b a e 256)) = 22))].toArray), rfl, ?_⟩
   have hs := hd_stop hI (by omega)
   exact ⟨_, _, _, _, _, _, _, rfl, hy4_, hc9, by rw [hs.1]; exact ifc (by constructor <;> intro h <;> first | omega | (have := of_decide_eq_true h; omega) | (exact decide_eq_true (by omega)) | rfl | cases h), fun h => hs.2 (by first | omega | (have := of_decide_eq_true h; omega) | cases h), hM14⟩
  refine gx rfl <| gx rfl <| gx rfl <| splitU rfl <| gnou rfl <| gnou rfl <| gx rfl <| pkF rfl <| mv <| mv <| h15 _ _ <| ⟨(.tuple [y4_, .bool false].toArray), rfl, ?_⟩
  have hs := hd_stop hI (by omega)
  exact ⟨_, _, _, _, _, _, _, rfl, hy4_, hc9, by rw [hs.1]; exact ifc (by constructor <;> intro h <;> first | omega | (have := of_decide_eq_true h; omega) | (exact decide_eq_true (by omega)) | rfl | cases h), fun h => hs.2 (by first | omega | (have := of_decide_eq_true h; omega) | cases h), hM14⟩
 refine h10 _ _ <| seq fun _ h18 => mv ?_
 have hfb := fix1_le b (cNumA b a e 256) (cNumE b a e 256)
 refine m_call (cFixed_ok _ b (cNumA b a e 256) (cNumE b a e 256) 1 r'9 w9 hc9 (hM9.res (i := 0) rfl) (by first | omega | (simp; done) | (simp; omega))) rfl fun v19 w19 ⟨hr19, r'19, hc19, hm19⟩ => ?_
 have hM19 : Mem _ _ w19 [r'19, _] := hM9.step 0 rfl hm19
 subst hr19
 refine stp (v := .int .i64 (cFix b (cNumA b a e 256) (cNumE b a e 256) 1 : Nat)) (o_conv rfl (v_same (by simp only [inK]; omega))) <| mv <| h18 _ _ <| seq fun _ h20 => seq fun _ h21 => mv <| bn rfl rfl <| mv <| splitP rfl (fun c22 => ?_) (fun c22 => ?_)
 ·refine gx rfl <| gx rfl <| gx rfl <| pkT rfl <| mv <| splitT rfl <| gx rfl <| gx rfl <| gx rfl <| gx rfl <| gx rfl <| pkT rfl <| h21 _ _ <| cndT rfl ?_
  refine seq fun _ h23 => mv <| mv <| h23 _ _ <| ⟨(.tuple [.slice none 0 0, .bool false].toArray), rfl, ?_⟩
  have hb := hd_bad hI (by omega) (by first | exact .inl (by omega) | exact .inr (.inl (by omega)) | exact .inr (.inr (by omega)))
  exact ⟨_, _, [], _, _, _, _, rfl, (Sl.nil 1 3 : SlE i64V 3 _ [] []), hc19, by rw [hb]; rfl, (fun h => by cases h), (hM19.drop 1).keep (by simp)⟩
 refine gmv rfl <| gmv rfl <| gbn rfl rfl rfl <| pkF rfl <| mv <| splitP rfl (fun c24 => ?_) (fun c24 => ?_)
 ·refine gx rfl <| gx rfl <| gx rfl <| gx rfl <| gx rfl <| pkT rfl <| h21 _ _ <| cndT rfl <| seq fun _ h25 => mv <| mv <| h25 _ _ <| ⟨(.tuple [.slice none 0 0, .bool false].toArray), rfl, ?_⟩
  have hb := hd_bad hI (by omega) (by first | exact .inl (by omega) | exact .inr (.inl (by omega)) | exact .inr (.inr (by omega)))
  exact ⟨_, _, [], _, _, _, _, rfl, (Sl.nil 1 3 : SlE i64V 3 _ [] []), hc19, by rw [hb]; rfl, (fun h => by cases h), (hM19.drop 1).keep (by simp)⟩
 refine gmv rfl <| stg rfl (v := .int .i64 (L.length : Nat)) (o_lenR (hy4_.rd hM19 (i := 1) rfl) rfl rfl) <| gmv rfl <| stg rfl (v := .int .i64 ((L.length : Nat) + (cNum b a e 256))) (o_bin rfl rfl (v_add64 (by omega))) <| gbn rfl rfl rfl <| pkF rfl <| h21 _ _ <| cndP rfl (fun c26 => ?_) (fun c26 => ?_)
 ·refine seq fun _ h27 => mv <| mv <| h27 _ _ <| ⟨(.tuple [.slice none 0 0, .bool false].toArray), rfl, ?_⟩
  have hb := hd_bad hI (by omega) (by first | exact .inl (by omega) | exact .inr (.inl (by omega)) | exact .inr (.inr (by omega)))
  exact ⟨_, _, [], _, _, _, _, rfl, (Sl.nil 1 3 : SlE i64V 3 _ [] []), hc19, by rw [hb]; rfl, (fun h => by cases h), (hM19.drop 1).keep (by simp)⟩
 refine h20 _ _ <| seq fun _ h28 => seq fun _ h29 => mv <| mv <| h29 _ _ <| lp (n := fun _ _ => False) (ι := (Nat) × (Value) × (List Ent)) (fun ⟨k, y4_, r4_⟩ f w' => f 4 = y4_ ∧ f 31 = .int .i64 (k : Nat) ∧ f 0 = .pointer (some ⟨bc, 0, none⟩) ∧ f 7 = .int .i64 (cFix b (cNumA b a e 256) (cNumE b a e 256) 1 : Nat) ∧ f 30 = .int .i64 (cNum b a e 256) ∧ Mem w (ids r0) w' [r'19, r4_] ∧ ((k : Int) ≤ cNum b a e 256) ∧ (SlE i64V 3 y4_ (L ++ List.replicate k (xF b a e)) r4_)) (fun ⟨k, y4_, r4_⟩ => (cNum b a e 256).toNat - k) (0, y4_, r4_) ?_ ?_
 ·exact ⟨rfl, vi, rfl, vi, vi, hM19, by omega, by first | exact hy4_ | simpa using hy4_⟩
 rintro ⟨k, y4_, r4_⟩ f w30 ⟨e30_4, e30_31, e30_0, e30_7, e30_30, hM30, hk, hy4_⟩ K31 h31
 obtain ⟨frm, rfl⟩ := re5 e30_4 e30_31 e30_0 e30_7 e30_30
 refine seq fun _ h32 => bn rfl rfl <| h32 _ _ <| seq fun _ h33 => cndP rfl (fun c34 => ?_) (fun c34 => ?_)
 ·refine h33 _ _ <| seq fun _ h35 => mv <| mv <| m_app1 (E := i64V) (q := (xF b a e)) hM30 (i := 1) rfl hy4_ rfl (by simp) (rfl) (by rw [List.length_append, List.length_replicate]; omega) (by omega) fun v36 w36 r36 u36 (hs36 : SlE i64V 3 v36 ((L ++ List.replicate k (xF b a e)) ++ [(xF b a e)]) r36) (hM36 : Mem w (ids r0) w36 [r'19, r36]) => mv <| h35 _ _ <| stp (v := .int .i64 ((k : Nat) + 1)) (o_bin rfl rfl (v_add64 (by omega))) <| mv <| h31 (k + 1, v36, r36) _ _ ⟨rfl, vi, rfl, vi, vi, hM36, by omega, by rw [List.replicate_succ', ← List.append_assoc]; exact hs36⟩ (by (try dsimp only); omega)
 refine h28 _ _ ?_
 have hkk : k = (cNum b a e 256).toNat := by omega
 have hgo := hd_go hI (by omega) (by omega) (by omega) (by omega)
 refine mv <| mv <| h7 (L ++ List.replicate (cNum b a e 256).toNat (xF b a e), cFixA b (cNumA b a e 256) (cNumE b a e 256) 1, cFixE b (cNumA b a e 256) (cNumE b a e 256) 1, r'19, y4_, r4_) _ _ ⟨rfl, rfl, v_int hgo.2.symm, hM30, hc19, hgo.1, by rw [List.length_append, List.length_replicate]; omega, by rw [← hkk]; exact hy4_⟩ (by dsimp only; rw [List.length_append, List.length_replicate]; omega)
end Go.Proofs.YtifnmbmijljhfaaGreat.E.Hf
namespace Go.Proofs.YtifnmbmijljhfaaGreat.E.Hf
open Go
theorem lastI_get {L : List Int} (h : 0 < L.length) : lastI L = L.getD (L.length - 1) 0 := by
 unfold lastI
 rw [List.getLast?_eq_getElem?, List.getD_eq_getElem?_getD, List.getElem?_eq_getElem (by omega)]; rfl
theorem lastI_nil {L : List Int} (h : ¬ 0 < L.length) : lastI L = -1 := by
 have : L = [] := List.length_eq_zero_iff.1 (by omega)
 subst this; rfl
theorem rl_bad1 {b : List UInt8} {a : Nat} {L : List Int} (h : hdr b 0 [] = hdr b a L) (ha : a < b.length) (h0 : ¬ b.getD a 0 = 0) (hx : ¬ (get (b.drop a)).2.2 = 0 ∨ (((get (b.drop a)).1 : Nat) : Int) < 1 ∨ (256 : Int) - (L.length : Nat) < (((get (b.drop a)).1 : Nat) : Int) ∨ (b.length : Int) ≤ (a : Int) + (((get (b.drop a)).2.1 : Nat) : Int)) : hdr b 0 [] = none := by
 rw [h, hdr_no ha h0]
 rintro ⟨p1, p2, p3, _⟩
 have := get_nz ha h0 p1
 omega
theorem rl_bad2 {b : List UInt8} {a : Nat} {L : List Int} (h : hdr b 0 [] = hdr b a L) (ha : a < b.length) (h0 : ¬ b.getD a 0 = 0) (hx : 15 < ((b.getD (a + (get (b.drop a)).2.1) 0).toNat : Int) ∨ (0 < L.length ∧ L.getD (L.length - 1) 0 = ((b.getD (a + (get (b.drop a)).2.1) 0).toNat : Int))) : hdr b 0 [] = none := by
 rw [h, hdr_no ha h0]
 rintro ⟨p1, p2, p3, p4, p5⟩
 rcases hx with hx | ⟨h1, hx⟩
 ·omega
 exact p5 (by rw [lastI_get h1, hx])
theorem rl_go {b : List UInt8} {a : Nat} {L : List Int} (h : hdr b 0 [] = hdr b a L) (ha : a < b.length) (h0 : ¬ b.getD a 0 = 0) (h1 : (get (b.drop a)).2.2 = 0) (h2 : ¬ (256 : Int) - (L.length : Nat) < (((get (b.drop a)).1 : Nat) : Int)) (h3 : ¬ (b.length : Int) ≤ (a : Int) + (((get (b.drop a)).2.1 : Nat) : Int)) (h4 : ¬ 15 < ((b.getD (a + (get (b.drop a)).2.1) 0).toNat : Int)) (h5 : 0 < L.length → ¬ L.getD (L.length - 1) 0 = ((b.getD (a + (get (b.drop a)).2.1) 0).toNat : Int)) :
 hdr b 0 [] = hdr b (a + (get (b.drop a)).2.1 + 1) (hdrL b a L) ∧ (hdrL b a L).length ≤ 256 := by
 refine ⟨?_, by unfold hdrL; rw [List.length_append, List.length_replicate]; omega⟩
 rw [h, hdr_more ha h0 ⟨h1, by omega, by omega, by omega, fun k => ?_⟩]
 by_cases c : 0 < L.length
 ·exact h5 c (by rw [← lastI_get c, k])
 rw [lastI_nil c] at k; omega
theorem rl_end {b : List UInt8} {a : Nat} {L : List Int} (h : hdr b 0 [] = hdr b a L) (ha : a < b.length) (h0 : b.getD a 0 = 0) : hdr b 0 [] = (if 0 < L.length ∧ L.getD (L.length - 1) 0 = 0 then none else some (L, a + 1)) := by
 rw [h]
 by_cases c : 0 < L.length
 ·by_cases z : L.getD (L.length - 1) 0 = 0
  ·rw [if_pos ⟨c, z⟩, hdr_z0 ha h0 (by rw [lastI_get c, z])]
  rw [if_neg (fun h => z h.2), hdr_z1 ha h0 (by rw [lastI_get c]; exact z)]
 rw [if_neg (fun h => c h.1), hdr_z1 ha h0 (by rw [lastI_nil c]; omega)]
theorem hdr_bd {b : List UInt8} : ∀ (m a : Nat) (L : List Int), b.length - a ≤ m → L.length ≤ 256 → inB 0 15 L = true → ∀ l e, hdr b a L = some (l, e) → l.length ≤ 256 ∧ inB 0 15 l = true ∧ e ≤ b.length
 | m, a, L, hm, hL, hB, l, e, h => by
  by_cases ha : a < b.length
  ·by_cases h0 : b.getD a 0 = 0
   ·by_cases c : lastI L = 0
    ·rw [hdr_z0 ha h0 c] at h; cases h
    rw [hdr_z1 ha h0 c] at h; injection h with h; injection h with h1 h2; subst h1; exact ⟨hL, hB, by omega⟩
   by_cases p : hdrP b a L
   ·rw [hdr_more ha h0 p] at h
    obtain ⟨p1, p2, p3, p4, p5⟩ := p
    cases m with
    | zero => omega
    | succ m =>
     refine hdr_bd m _ _ (by omega) ?_ ?_ l e h
     ·unfold hdrL; rw [List.length_append, List.length_replicate]; omega
     unfold hdrL inB at *
     rw [List.all_append, hB, Bool.true_and, List.all_eq_true]
     intro x hx
     have := List.eq_of_mem_replicate hx
     simp only [Bool.and_eq_true, decide_eq_true_eq]; omega
   rw [hdr_no ha h0 p] at h; cases h
  rw [hdr_end ha] at h; cases h
theorem hdr_ok {b : List UInt8} {l : List Int} {e : Nat} (h : hdr b 0 [] = some (l, e)) : l.length ≤ 256 ∧ inB 0 15 l = true ∧ e ≤ b.length := hdr_bd _ 0 [] (Nat.le_refl _) (by simp) rfl l e h
theorem get_le (b : List UInt8) : (get b).2.1 ≤ b.length := by
 by_cases c : (get b).2.2 = 0
 ·exact (get_ok c).2.1
 have h : (get b).2.1 = 0 := ((getA_err b 0 0).2 c).2
 omega
theorem u8_z {x : UInt8} : ((x.toNat : Int) = 0) ↔ x = 0 := by
 constructor
 ·intro h
  have : x.toNat = (0 : UInt8).toNat := by simp; omega
  exact UInt8.toNat_inj.1 this
 rintro rfl; rfl
theorem u32_small {m : Nat} (h : m ≤ 255) : inK .u32 ((m : Nat) : Int) := by simp only [inK]; omega
theorem rem2 {m : Nat} : Value.int .u32 (((m : Nat) : Int).tmod 2) = .int .u32 ((m % 2 : Nat) : Int) := (v_rem (by omega)).trans (v_int (by omega))
theorem bit8 (x : UInt8) (k : Nat) : x.toNat / 2 ^ k ≤ 255 := by have := x.toNat_lt; have := Nat.div_le_self x.toNat (2 ^ k); omega
theorem shr_bit {x : UInt8} {i : Nat} {z : Int} (hz : z = ((i % 8 : Nat) : Int)) : Value.int .u8 ((x.toNat : Int).fdiv (2 ^ min z.toNat IntKind.u8.bits)) = .int .u8 ((x.toNat / 2 ^ (i % 8) : Nat) : Int) := by
 subst hz
 rw [v_shr _ (by simp only [IntKind.bits]; omega), Int.natCast_ediv]; simp
theorem readLens_ok (x : Value) (b : List UInt8) (w : World) (hx : RdE byteV w x b) (hl : b.length ≤ 140737488355328) : Calls Tryz.prog 106 [x].toArray w (Rt fun r w' => ∃ v ok L a rs, r = .tuple [v, .int .i64 ((a : Nat) : Int), .bool ok].toArray ∧ SlE i64V 3 v L rs ∧ (if ok then some (L, a) else none) = hdr b 0 [] ∧ Mem w [] w' [rs]) := by
 have hM0 : Mem w [] w [] := Mem.nil w []
 refine calls_vc mixed Tryz.func106 rfl C106 (by simp [Tryz.ntmps106]) <| seq fun _ h1 => mv <| mv <| mv <| h1 _ _ <| seq fun _ h2 => mv <| h2 _ _ <| seq fun _ h3 => mv <| h3 _ _ <| seq fun _ h4 => ?_
 have hM5 : Mem _ _ w [[]] := hM0.addNil
 have hs5 : SlE i64V 3 (.slice none 0 0) [] [] := Sl.nil 1 3
 refine lp (n := fun _ _ => False) (ι := (List Int) × (Nat) × (Value) × (List Ent)) (fun ⟨L, a, y5_, r5_⟩ f w' => f 5 = y5_ ∧ f 6 = .int .i64 (a : Nat) ∧ f 0 = x ∧ Mem w [] w' [r5_] ∧ (hdr b 0 [] = hdr b a L) ∧ (L.length ≤ 256) ∧ (SlE i64V 3 y5_ (L) r5_)) (fun ⟨L, a, y5_, r5_⟩ => b.length + 1 - a) ([], 0, ((.slice none 0 0)), ([])) ?_ ?_
 ·exact ⟨rfl, vi, rfl, hM5, rfl, by simp, by first | exact hs5 | simpa using hs5⟩
 rintro ⟨L, a, y5_, r5_⟩ f w6 ⟨e6_5, e6_6, e6_0, hM6, hh, hL, hy5_⟩ K7 h7
 obtain ⟨frm, rfl⟩ := re3 e6_5 e6_6 e6_0
 refine seq fun _ h8 => seq fun _ h9 => mv <| mv <| stp (v := .int .i64 (b.length : Nat)) (o_lenR (hx.upd hM6.upd) rfl rfl) <| bn rfl rfl <| mv <| splitP rfl (fun c10 => ?_) (fun c10 => ?_)
 ·refine gmv rfl <| gmv rfl <| gyes rfl rfl (m_idxE 0 (j := a) (hx.upd hM6.upd) rfl rfl (by omega) fun b11 o11 hp11 => gyesl rfl <| ld (v := byteV (b.getD a 0)) rfl (hp11) <| gbneq rfl rfl rfl <| pkT rfl <| h9 _ _ <| cndP rfl (fun c12 => ?_) (fun c12 => ?_))
  ·refine h8 _ _ <| seq fun _ h13 => mv <| mv <| m_slcE a b.length (hx) rfl (by omega) (by omega) rfl ⟨_, rfl⟩ fun u14 hu14 => ?_
   have hu14' : RdE byteV w u14 (b.drop a) := by
    have e : (b.take b.length).drop a = (b.drop a) := by rw [List.take_length]
    rw [e] at hu14; exact hu14
   refine m_call (refGet_ok _ (b.drop a) w6 ((hu14'.upd hM6.upd)) (by first | omega | (simp; done) | (simp; omega))) rfl fun v15 w15 ⟨hr15, hu15⟩ => ?_
   have hM15 : Mem w [] w15 [r5_] := hM6.pure hu15
   subst hr15
   refine mv ?_
   have hgl := get_le (b.drop a)
   rw [List.length_drop] at hgl
   refine ext rfl rfl <| ext rfl rfl <| ext rfl rfl <| mv <| mv <| mv <| h13 _ _ <| seq fun _ h16 => seq fun _ h17 => mv <| bneq rfl rfl <| mv <| splitP rfl (fun c18 => ?_) (fun c18 => ?_)
   ·refine gx rfl <| gx rfl <| pkT rfl <| mv <| splitT rfl <| gx rfl <| gx rfl <| gx rfl <| gx rfl <| gx rfl <| pkT rfl <| mv <| splitT rfl <| gx rfl ?_
    refine gx rfl <| gx rfl <| gx rfl <| gx rfl <| gx rfl <| pkT rfl <| h17 _ _ <| cndT rfl <| seq fun _ h19 => mv <| mv <| mv <| h19 _ _ <| ⟨(.tuple [.slice none 0 0, .int .i64 0, .bool false].toArray), rfl, ?_⟩
    exact ⟨_, _, [], _, _, rfl, (Sl.nil 1 3 : SlE i64V 3 _ [] []), by rw [rl_bad1 hh (by omega) (fun h => by have := (u8_z (x := b.getD a 0)).2 h; omega) (by omega)]; rfl, (hM15.drop 0).keep (by simp)⟩
   refine gmv rfl <| gbn rfl rfl rfl <| pkF rfl <| mv <| splitP rfl (fun c20 => ?_) (fun c20 => ?_)
   ·refine gx rfl <| gx rfl <| gx rfl <| gx rfl <| gx rfl <| pkT rfl <| mv <| splitT rfl <| gx rfl <| gx rfl <| gx rfl <| gx rfl <| gx rfl <| gx rfl ?_
    refine pkT rfl <| h17 _ _ <| cndT rfl <| seq fun _ h21 => mv <| mv <| mv <| h21 _ _ <| ⟨(.tuple [.slice none 0 0, .int .i64 0, .bool false].toArray), rfl, ⟨_, _, [], _, _, rfl, (Sl.nil 1 3 : SlE i64V 3 _ [] []), by rw [rl_bad1 hh (by omega) (fun h => by have := (u8_z (x := b.getD a 0)).2 h; omega) (by omega)]; rfl, (hM15.drop 0).keep (by simp)⟩⟩
   refine gmv rfl <| gmv rfl <| stg rfl (v := .int .i64 (L.length : Nat)) (o_lenR (hy5_.rd hM15 (i := 0) rfl) rfl rfl) <| stg rfl (v := .int .i64 (256 - (L.length : Nat))) (o_bin rfl rfl (v_sub64 (by omega))) <| gbn rfl rfl rfl <| pkF rfl <| mv <| splitP rfl (fun c22 => ?_) (fun c22 => ?_)
   ·refine gx rfl <| gx rfl <| gx rfl <| gx rfl <| gx rfl <| gx rfl <| pkT rfl <| h17 _ _ <| cndT rfl <| seq fun _ h23 => mv <| mv <| mv <| h23 _ _ ?_
    refine ⟨(.tuple [.slice none 0 0, .int .i64 0, .bool false].toArray), rfl, ⟨_, _, [], _, _, rfl, (Sl.nil 1 3 : SlE i64V 3 _ [] []), by rw [rl_bad1 hh (by omega) (fun h => by have := (u8_z (x := b.getD a 0)).2 h; omega) (by omega)]; rfl, (hM15.drop 0).keep (by simp)⟩⟩
   refine gmv rfl <| gmv rfl <| stg rfl (v := .int .i64 ((a : Nat) + ((get (b.drop a)).2.1 : Nat))) (o_bin rfl rfl (v_add64 (by omega))) <| gmv rfl <| stg rfl (v := .int .i64 (b.length : Nat)) (o_lenR (hx.upd hM15.upd) rfl rfl) <| gbn rfl rfl rfl <| pkF rfl <| h17 _ _ <| cndP rfl (fun c24 => ?_) (fun c24 => ?_)
   ·refine seq fun _ h25 => mv <| mv <| mv <| h25 _ _ <| ⟨(.tuple [.slice none 0 0, .int .i64 0, .bool false].toArray), rfl, ⟨_, _, [], _, _, rfl, (Sl.nil 1 3 : SlE i64V 3 _ [] []), by rw [rl_bad1 hh (by omega) (fun h => by have := (u8_z (x := b.getD a 0)).2 h; omega) (by omega)]; rfl, (hM15.drop 0).keep (by simp)⟩⟩
   refine h16 _ _ <| seq fun _ h26 => mv <| mv <| mv <| stp (v := .int .i64 ((a : Nat) + ((get (b.drop a)).2.1 : Nat))) (o_bin rfl rfl (v_add64 (by omega))) <| m_idxE 0 (j := (a + (get (b.drop a)).2.1)) (hx.upd hM15.upd) rfl (v_int (by omega)) (by omega) fun b27 o27 hp27 => ld (v := byteV (b.getD (a + (get (b.drop a)).2.1) 0)) rfl (hp27) <| stp (v := .int .i64 ((b.getD (a + (get (b.drop a)).2.1) 0).toNat : Int)) (o_conv rfl (v_byteTo (by decide))) <| mv <| h26 _ _ <| seq fun _ h28 => seq fun _ h29 => mv <| bn rfl rfl <| mv <| splitP rfl (fun c30 => ?_) (fun c30 => ?_)
   ·refine gx rfl <| gx rfl <| gx rfl <| gx rfl <| splitU rfl <| gnou rfl <| gnou rfl <| gnou rfl <| gnou rfl <| gnou rfl <| gnolu rfl <| gnou rfl <| gnou rfl <| gx rfl ?_
    refine pkT rfl <| h29 _ _ <| cndT rfl <| seq fun _ h31 => mv <| mv <| mv <| h31 _ _ <| ⟨(.tuple [.slice none 0 0, .int .i64 0, .bool false].toArray), rfl, ⟨_, _, [], _, _, rfl, (Sl.nil 1 3 : SlE i64V 3 _ [] []), by rw [rl_bad2 hh (by omega) (fun h => by have := (u8_z (x := b.getD a 0)).2 h; omega) (by omega)]; rfl, (hM15.drop 0).keep (by simp)⟩⟩
   refine gmv rfl <| stg rfl (v := .int .i64 (L.length : Nat)) (o_lenR (hy5_.rd hM15 (i := 0) rfl) rfl rfl) <| gbn rfl rfl rfl <| gmv rfl <| splitP rfl (fun c32 => ?_) (fun c32 => ?_)
   ·refine gmv rfl <| gmv rfl <| stg rfl (v := .int .i64 (L.length : Nat)) (o_lenR (hy5_.rd hM15 (i := 0) rfl) rfl rfl) <| stg rfl (v := .int .i64 ((L.length : Nat) - 1)) (o_bin rfl rfl (v_sub64 (by omega))) <| gyes rfl rfl (m_idxE 0 (j := (L.length - 1)) (hy5_.rd hM15 (i := 0) rfl) rfl (v_int (by omega)) (by omega) fun b33 o33 hp33 => gyesl rfl <| ld (v := .int .i64 (L.getD (L.length - 1) 0)) rfl (hp33) <| gmv rfl <| gbn rfl rfl rfl <| gpkT rfl rfl <| pkF rfl <| h29 _ _ <| cndP rfl (fun c34 => ?_) (fun c34 => ?_))
    ·refine seq fun _ h35 => mv <| mv <| mv <| h35 _ _ <| ⟨(.tuple [.slice none 0 0, .int .i64 0, .bool false].toArray), rfl, ⟨_, _, [], _, _, rfl, (Sl.nil 1 3 : SlE i64V 3 _ [] []), by rw [rl_bad2 hh (by omega) (fun h => by have := (u8_z (x := b.getD a 0)).2 h; omega) (by omega)]; rfl, (hM15.drop 0).keep (by simp)⟩⟩
    refine h28 _ _ <| seq fun _ h36 => seq fun _ h37 => mv <| h37 _ _ <| lp (n := fun _ _ => False) (ι := (Nat) × (Value) × (List Ent)) (fun ⟨j, y5_, r5_⟩ f w' => f 5 = y5_ ∧ f 11 = .int .i64 (j : Nat) ∧ f 0 = x ∧ f 6 = .int .i64 (a : Nat) ∧ f 7 = .int .i64 ((get (b.drop a)).1 : Nat) ∧ f 8 = .int .i64 ((get (b.drop a)).2.1 : Nat) ∧ f 10 = .int .i64 ((b.getD (a + (get (b.drop a)).2.1) 0).toNat : Int) ∧ Mem w [] w' [r5_] ∧ (j ≤ (get (b.drop a)).1) ∧ (SlE i64V 3 y5_ (L ++ List.replicate j (((b.getD (a + (get (b.drop a)).2.1) 0).toNat : Nat) : Int)) r5_)) (fun ⟨j, y5_, r5_⟩ => (get (b.drop a)).1 - j) (0, y5_, r5_) ?_ ?_
    ·exact ⟨rfl, vi, rfl, vi, vi, vi, vi, hM15, by omega, by first | exact hy5_ | simpa using hy5_⟩
    rintro ⟨j, y5_, r5_⟩ f w38 ⟨e38_5, e38_11, e38_0, e38_6, e38_7, e38_8, e38_10, hM38, hj, hy5_⟩ K39 h39
    obtain ⟨frm, rfl⟩ := re7 e38_5 e38_11 e38_0 e38_6 e38_7 e38_8 e38_10
    refine seq fun _ h40 => seq fun _ h41 => mv <| mv <| bn rfl rfl <| h41 _ _ <| cndP rfl (fun c42 => ?_) (fun c42 => ?_)
    ·refine h40 _ _ <| seq fun _ h43 => mv <| mv <| m_app1 (E := i64V) (q := (((b.getD (a + (get (b.drop a)).2.1) 0).toNat : Nat) : Int)) hM38 (i := 0) rfl hy5_ rfl (by simp) (rfl) (by rw [List.length_append, List.length_replicate]; omega) (by omega) fun v44 w44 r44 u44 (hs44 : SlE i64V 3 v44 ((L ++ List.replicate j (((b.getD (a + (get (b.drop a)).2.1) 0).toNat : Nat) : Int)) ++ [(((b.getD (a + (get (b.drop a)).2.1) 0).toNat : Nat) : Int)]) r44) (hM44 : Mem w [] w44 [r44]) => mv <| h43 _ _ <| mv <| stp (v := .int .i64 ((j : Nat) + 1)) (o_bin rfl rfl (v_add64 (by omega))) <| mv <| h39 (j + 1, v44, r44) _ _ ⟨rfl, vi, rfl, vi, vi, vi, vi, hM44, by omega, by rw [List.replicate_succ', ← List.append_assoc]; exact hs44⟩ (by (try dsimp only); omega)
    refine h36 _ _ ?_
    have hjj : j = (get (b.drop a)).1 := by omega
    have hgo := rl_go hh (by omega) (fun h => by have := (u8_z (x := b.getD a 0)).2 h; omega) (by omega) (by omega) (by omega) (by omega) (by intro _; omega)
    refine mv <| mv <| stp (v := .int .i64 ((a : Nat) + ((get (b.drop a)).2.1 : Nat))) (o_bin rfl rfl (v_add64 (by omega))) <| stp (v := .int .i64 (((a : Nat) + ((get (b.drop a)).2.1 : Nat)) + 1)) (o_bin rfl rfl (v_add64 (by omega))) <| mv <| h7 (hdrL b a L, a + (get (b.drop a)).2.1 + 1, y5_, r5_) _ _ ⟨rfl, vi, rfl, hM38, hgo.1, hgo.2, by unfold hdrL; rw [← hjj]; exact hy5_⟩ (by (try dsimp only); omega)
   refine gx rfl <| gx rfl <| gx rfl <| gx rfl <| gx rfl <| gxl rfl <| gx rfl <| gx rfl <| gpkF rfl rfl <| pkF rfl <| h29 _ _ <| cndF rfl <| h28 _ _ <| seq fun _ h45 => seq fun _ h46 => mv <| h46 _ _ <| lp (n := fun _ _ => False) (ι := (Nat) × (Value) × (List Ent)) (fun ⟨j, y5_, r5_⟩ f w' => f 5 = y5_ ∧ f 11 = .int .i64 (j : Nat) ∧ f 0 = x ∧ f 6 = .int .i64 (a : Nat) ∧ f 7 = .int .i64 ((get (b.drop a)).1 : Nat) ∧ f 8 = .int .i64 ((get (b.drop a)).2.1 : Nat) ∧ f 10 = .int .i64 ((b.getD (a + (get (b.drop a)).2.1) 0).toNat : Int) ∧ Mem w [] w' [r5_] ∧ (j ≤ (get (b.drop a)).1) ∧ (SlE i64V 3 y5_ (L ++ List.replicate j (((b.getD (a + (get (b.drop a)).2.1) 0).toNat : Nat) : Int)) r5_)) (fun ⟨j, y5_, r5_⟩ => (get (b.drop a)).1 - j) (0, y5_, r5_) ?_ ?_
   ·exact ⟨rfl, vi, rfl, vi, vi, vi, vi, hM15, by omega, by first | exact hy5_ | simpa using hy5_⟩
   rintro ⟨j, y5_, r5_⟩ f w47 ⟨e47_5, e47_11, e47_0, e47_6, e47_7, e47_8, e47_10, hM47, hj, hy5_⟩ K48 h48
   obtain ⟨frm, rfl⟩ := re7 e47_5 e47_11 e47_0 e47_6 e47_7 e47_8 e47_10
   refine seq fun _ h49 => seq fun _ h50 => mv <| mv <| bn rfl rfl <| h50 _ _ <| cndP rfl (fun c51 => ?_) (fun c51 => ?_)
   ·refine h49 _ _ <| seq fun _ h52 => mv <| mv <| m_app1 (E := i64V) (q := (((b.getD (a + (get (b.drop a)).2.1) 0).toNat : Nat) : Int)) hM47 (i := 0) rfl hy5_ rfl (by simp) (rfl) (by rw [List.length_append, List.length_replicate]; omega) (by omega) fun v53 w53 r53 u53 (hs53 : SlE i64V 3 v53 ((L ++ List.replicate j (((b.getD (a + (get (b.drop a)).2.1) 0).toNat : Nat) : Int)) ++ [(((b.getD (a + (get (b.drop a)).2.1) 0).toNat : Nat) : Int)]) r53) (hM53 : Mem w [] w53 [r53]) => mv <| h52 _ _ <| mv <| stp (v := .int .i64 ((j : Nat) + 1)) (o_bin rfl rfl (v_add64 (by omega))) <| mv <| h48 (j + 1, v53, r53) _ _ ⟨rfl, vi, rfl, vi, vi, vi, vi, hM53, by omega, by rw [List.replicate_succ', ← List.append_assoc]; exact hs53⟩ (by (try dsimp only); omega)
   refine h45 _ _ ?_
   have hjj : j = (get (b.drop a)).1 := by omega
   have hgo := rl_go hh (by omega) (fun h => by have := (u8_z (x := b.getD a 0)).2 h; omega) (by omega) (by omega) (by omega) (by omega) (by intro _; omega)
   refine mv <| mv <| stp (v := .int .i64 ((a : Nat) + ((get (b.drop a)).2.1 : Nat))) (o_bin rfl rfl (v_add64 (by omega))) <| stp (v := .int .i64 (((a : Nat) + ((get (b.drop a)).2.1 : Nat)) + 1)) (o_bin rfl rfl (v_add64 (by omega))) <| mv <| h7 (hdrL b a L, a + (get (b.drop a)).2.1 + 1, y5_, r5_) _ _ ⟨rfl, vi, rfl, hM47, hgo.1, hgo.2, by unfold hdrL; rw [← hjj]; exact hy5_⟩ (by (try dsimp only); omega)
  refine h4 _ _ <| seq fun _ h54 => seq fun _ h55 => mv <| mv <| stp (v := .int .i64 (b.length : Nat)) (o_lenR (hx.upd hM6.upd) rfl rfl) <| bn rfl rfl <| mv <| splitP rfl (fun c56 => ?_) (fun c56 => ?_)
  ·refine gx rfl <| gx rfl <| gx rfl <| gx rfl <| splitU rfl <| gnou rfl <| gnou rfl <| gnou rfl <| gnou rfl <| gnou rfl <| gnolu rfl <| gnou rfl <| gx rfl <| pkT rfl ?_
   refine h55 _ _ <| cndT rfl <| seq fun _ h57 => mv <| mv <| mv <| h57 _ _ <| ⟨(.tuple [.slice none 0 0, .int .i64 0, .bool false].toArray), rfl, ⟨_, _, [], _, _, rfl, (Sl.nil 1 3 : SlE i64V 3 _ [] []), by rw [hh, hdr_end (by omega)]; rfl, (hM6.drop 0).keep (by simp)⟩⟩
  refine gmv rfl <| stg rfl (v := .int .i64 (L.length : Nat)) (o_lenR (hy5_.rd hM6 (i := 0) rfl) rfl rfl) <| gbn rfl rfl rfl <| gmv rfl <| splitP rfl (fun c58 => ?_) (fun c58 => ?_)
  ·refine gmv rfl <| gmv rfl <| stg rfl (v := .int .i64 (L.length : Nat)) (o_lenR (hy5_.rd hM6 (i := 0) rfl) rfl rfl) <| stg rfl (v := .int .i64 ((L.length : Nat) - 1)) (o_bin rfl rfl (v_sub64 (by omega))) <| gyes rfl rfl (m_idxE 0 (j := (L.length - 1)) (hy5_.rd hM6 (i := 0) rfl) rfl (v_int (by omega)) (by omega) fun b59 o59 hp59 => gyesl rfl <| ld (v := .int .i64 (L.getD (L.length - 1) 0)) rfl (hp59) <| gbn rfl rfl rfl <| gpkT rfl rfl <| pkF rfl <| h55 _ _ <| cndP rfl (fun c60 => ?_) (fun c60 => ?_))
   ·refine seq fun _ h61 => mv <| mv <| mv <| h61 _ _ <| ⟨(.tuple [.slice none 0 0, .int .i64 0, .bool false].toArray), rfl, ⟨_, _, [], _, _, rfl, (Sl.nil 1 3 : SlE i64V 3 _ [] []), by rw [rl_end hh (by omega) (u8_z.1 (by omega))]; exact (if_pos ⟨by omega, by omega⟩).symm, (hM6.drop 0).keep (by simp)⟩⟩
   refine h54 _ _ <| seq fun _ h62 => mv <| mv <| stp (v := .int .i64 ((a : Nat) + 1)) (o_bin rfl rfl (v_add64 (by omega))) <| mv <| mv <| mv <| h62 _ _ <| ⟨(.tuple [y5_, .int .i64 ((a : Nat) + 1), .bool true].toArray), rfl, ⟨_, _, L, a + 1, _, rfl, hy5_, by rw [rl_end hh (by omega) (u8_z.1 (by omega))]; exact (if_neg (by omega)).symm, hM6⟩⟩
  refine gx rfl <| gx rfl <| gx rfl <| gx rfl <| gx rfl <| gxl rfl <| gx rfl <| gpkF rfl rfl <| pkF rfl <| h55 _ _ <| cndF rfl <| h54 _ _ <| seq fun _ h63 => mv <| mv <| stp (v := .int .i64 ((a : Nat) + 1)) (o_bin rfl rfl (v_add64 (by omega))) <| mv <| mv <| mv <| h63 _ _ <| ⟨(.tuple [y5_, .int .i64 ((a : Nat) + 1), .bool true].toArray), rfl, ⟨_, _, L, a + 1, _, rfl, hy5_, by rw [rl_end hh (by omega) (u8_z.1 (by omega))]; exact (if_neg (by omega)).symm, hM6⟩⟩
 refine gx rfl <| gx rfl <| gx rfl <| gxl rfl <| gx rfl <| pkF rfl <| h9 _ _ <| cndF rfl <| h4 _ _ <| seq fun _ h64 => seq fun _ h65 => mv <| mv <| stp (v := .int .i64 (b.length : Nat)) (o_lenR (hx.upd hM6.upd) rfl rfl) <| bn rfl rfl <| mv <| splitP rfl (fun c66 => ?_) (fun c66 => ?_)
 ·refine gx rfl <| gx rfl <| gx rfl <| gx rfl <| splitU rfl <| gnou rfl <| gnou rfl <| gnou rfl <| gnou rfl <| gnou rfl <| gnolu rfl <| gnou rfl <| gx rfl <| pkT rfl ?_
  refine h65 _ _ <| cndT rfl <| seq fun _ h67 => mv <| mv <| mv <| h67 _ _ <| ⟨(.tuple [.slice none 0 0, .int .i64 0, .bool false].toArray), rfl, ⟨_, _, [], _, _, rfl, (Sl.nil 1 3 : SlE i64V 3 _ [] []), by rw [hh, hdr_end (by omega)]; rfl, (hM6.drop 0).keep (by simp)⟩⟩
 refine gmv rfl <| stg rfl (v := .int .i64 (L.length : Nat)) (o_lenR (hy5_.rd hM6 (i := 0) rfl) rfl rfl) <| gbn rfl rfl rfl <| gmv rfl <| splitP rfl (fun c68 => ?_) (fun c68 => ?_)
 ·refine gmv rfl <| gmv rfl <| stg rfl (v := .int .i64 (L.length : Nat)) (o_lenR (hy5_.rd hM6 (i := 0) rfl) rfl rfl) <| stg rfl (v := .int .i64 ((L.length : Nat) - 1)) (o_bin rfl rfl (v_sub64 (by omega))) <| gyes rfl rfl (m_idxE 0 (j := (L.length - 1)) (hy5_.rd hM6 (i := 0) rfl) rfl (v_int (by omega)) (by omega) fun b69 o69 hp69 => gyesl rfl <| ld (v := .int .i64 (L.getD (L.length - 1) 0)) rfl (hp69) <| gbn rfl rfl rfl <| gpkT rfl rfl <| pkF rfl <| h65 _ _ <| cndP rfl (fun c70 => ?_) (fun c70 => ?_))
  ·refine seq fun _ h71 => mv <| mv <| mv <| h71 _ _ <| ⟨(.tuple [.slice none 0 0, .int .i64 0, .bool false].toArray), rfl, ⟨_, _, [], _, _, rfl, (Sl.nil 1 3 : SlE i64V 3 _ [] []), by rw [hh, hdr_end (by omega)]; rfl, (hM6.drop 0).keep (by simp)⟩⟩
  refine h64 _ _ <| seq fun _ h72 => mv <| mv <| stp (v := .int .i64 ((a : Nat) + 1)) (o_bin rfl rfl (v_add64 (by omega))) <| mv <| mv <| mv <| h72 _ _ <| ⟨(.tuple [y5_, .int .i64 ((a : Nat) + 1), .bool true].toArray), rfl, ⟨_, _, L, a + 1, _, rfl, hy5_, by rw [rl_end hh (by omega) (u8_z.1 (by omega))]; exact (if_neg (by omega)).symm, hM6⟩⟩
 refine gx rfl <| gx rfl <| gx rfl <| gx rfl <| gx rfl <| gxl rfl <| gx rfl <| gpkF rfl rfl <| pkF rfl <| h65 _ _ <| cndF rfl <| h64 _ _ <| seq fun _ h73 => mv <| mv <| stp (v := .int .i64 ((a : Nat) + 1)) (o_bin rfl rfl (v_add64 (by omega))) <| mv <| mv <| mv <| h73 _ _ <| ⟨(.tuple [y5_, .int .i64 ((a : Nat) + 1), .bool true].toArray), rfl, ⟨_, _, L, a + 1, _, rfl, hy5_, by rw [rl_end hh (by omega) (u8_z.1 (by omega))]; exact (if_neg (by omega)).symm, hM6⟩⟩
theorem bit_ok (x : Value) (b : List UInt8) (i : Nat) (w : World) (hx : RdE byteV w x b) (hi : i < 8 * b.length) (hl : b.length ≤ 140737488355328) : Calls Tryz.prog 107 [x, .int .i64 ((i : Nat) : Int)].toArray w (Rt fun r w' => r = .int .u32 ((bitW b i : Nat) : Int) ∧ Upd [] w w') := by
 have hM0 : Mem w [] w [] := Mem.nil w []
 refine calls_vc mixed Tryz.func107 rfl C107 (by simp [Tryz.ntmps107]) <| seq fun _ h1 => mv <| h1 _ _ <| seq fun _ h2 => mv <| mv <| stp (v := .int .i64 ((i : Nat) / 8)) (o_quo rfl rfl (by omega) (v_quo (by omega) (by omega) (by simp only [inK]; omega))) <| m_idxE 0 (j := (i / 8)) (hx.upd hM0.upd) rfl (v_int (by omega)) (by omega) fun b3 o3 hp3 => ld (v := byteV (b.getD (i / 8) 0)) rfl (hp3) <| mv <| stp (v := .int .i64 ((i : Nat) % 8)) (o_rem rfl rfl (by omega) (v_rem (by omega))) <| stp (v := .int .u8 ((b.getD (i / 8) 0).toNat / 2 ^ (i % 8) : Nat)) (o_shr rfl rfl (by omega) (shr_bit (by omega))) <| stp (v := .int .u32 ((b.getD (i / 8) 0).toNat / 2 ^ (i % 8) : Nat)) (o_conv rfl (v_same (u32_small (bit8 _ _)))) ?_
 refine stp (v := .int .u32 ((b.getD (i / 8) 0).toNat / 2 ^ (i % 8) % 2 : Nat)) (o_rem rfl rfl (by omega) (rem2)) <| mv <| h2 _ _ <| ⟨(.int .u32 ((b.getD (i / 8) 0).toNat / 2 ^ (i % 8) % 2 : Nat)), rfl, ⟨by unfold bitW; rfl, hM0.upd⟩⟩
end Go.Proofs.YtifnmbmijljhfaaGreat.E.Hf
namespace Go.Proofs.YtifnmbmijljhfaaGreat.E.Hf
open Go
theorem symN_at {l : List Int} {n i : Nat} (hi : l.getD i 0 = (n : Int)) : ∀ {L : Nat}, i < L → (symN l n L).getD (symN l n i).length 0 = i ∧ (symN l n i).length < (symN l n L).length
 | 0, h => by omega
 | L + 1, h => by
  by_cases e : i = L
  ·subst e
   rw [symN_yes hi, List.length_append, List.length_singleton]
   exact ⟨by rw [appG2 0 (Nat.le_refl _), Nat.sub_self]; rfl, by omega⟩
  have ih := symN_at hi (L := L) (by omega)
  rw [symN_succ, List.length_append]
  exact ⟨by rw [appG1 0 ih.2]; exact ih.1, by omega⟩
def findV (l : List Int) (n W : Nat) : Int := if firstW l n ≤ W ∧ W < firstW l n + cntW l n then (((symN l n l.length).getD (W - firstW l n) 0 : Nat) : Int) else -1
theorem cntW_pos {l : List Int} {n : Nat} (h : 1 ≤ n) : cntW l n = (symN l n l.length).length := by unfold cntW; rw [if_neg (by omega)]
theorem find_hit {l : List Int} {n W i : Nat} (hi : i < l.length) (hn : 1 ≤ n) (h1 : (codeAt l i).1 = (n : Int)) (h2 : (codeAt l i).2 = (W : Int)) : findV l n W = (i : Int) := by
 have hp : ¬ l.getD i 0 ≤ 0 := by
  intro h; unfold codeAt at h1; rw [if_pos h] at h1; simp at h1; omega
 have he : l.getD i 0 = (n : Int) := by unfold codeAt at h1; rw [if_neg hp] at h1; exact h1
 have hw : firstW l n + (symN l n i).length = W := by
  unfold codeAt at h2; rw [if_neg hp, he, Int.toNat_natCast] at h2; simp only at h2; omega
 have ha := symN_at he hi
 unfold findV
 rw [cntW_pos hn, if_pos (by omega), show W - firstW l n = (symN l n i).length by omega, ha.1]
theorem find_none {l : List Int} {n W : Nat} (hn : 1 ≤ n) (h : ∀ j, j < l.length → ¬ ((codeAt l j).1 = (n : Int) ∧ (codeAt l j).2 = (W : Int))) : findV l n W = -1 := by
 unfold findV
 rw [cntW_pos hn]
 by_cases c : firstW l n ≤ W ∧ W < firstW l n + (symN l n l.length).length
 ·exfalso
  have hr : W - firstW l n < (symN l n l.length).length := by omega
  have hp := code_pos hn hr
  have hm := (mem_symN.1 (getD_mem hr)).1
  exact h _ hm ⟨by rw [hp.2], by rw [hp.2]; show ((firstW l n + (W - firstW l n) : Nat) : Int) = W; omega⟩
 rw [if_neg c]
structure Dec (l : List Int) (w : List UInt8) (p0 k W p : Nat) : Prop where
 d : dec1 l w (16 - k) k W p = dec1 l w 15 1 0 p0
 lo : firstW l (k - 1) + cntW l (k - 1) ≤ W
 hi : W + 1 ≤ 2 ^ (k - 1)
 k1 : 1 ≤ k
 k2 : k ≤ 16
 p : p ≤ 8 * w.length
theorem Dec.init {l : List Int} {w : List UInt8} {p : Nat} (h : p ≤ 8 * w.length) : Dec l w p 1 0 p := ⟨rfl, by show 0 + 0 ≤ 0; omega, by simp, by omega, by omega, h⟩
theorem Dec.bd {l : List Int} {w : List UInt8} {p0 k W p : Nat} (h : Dec l w p0 k W p) : W ≤ 32767 := by
 have h1 := h.hi; have := h.k2
 have h2 : 2 ^ (k - 1) ≤ 2 ^ 15 := Nat.pow_le_pow_right (by omega) (by omega)
 have h3 : 2 ^ 15 = 32768 := by decide
 omega
theorem Dec.first {l : List Int} {w : List UInt8} {p0 k W p : Nat} (h : Dec l w p0 k W p) : firstW l k = 2 * (firstW l (k - 1) + cntW l (k - 1)) := by
 obtain ⟨j, rfl⟩ : ∃ j, k = j + 1 := ⟨k - 1, by have := h.k1; omega⟩
 rfl
theorem Dec.out {l : List Int} {w : List UInt8} {p0 k W p : Nat} (h : Dec l w p0 k W p) (hk : 15 < k ∨ 8 * w.length ≤ p) : dec1 l w 15 1 0 p0 = none := by
 rw [← h.d]
 rcases hk with hk | hk
 ·have : k = 16 := by have := h.k2; omega
  subst this; rfl
 exact dec1_end (by omega)
theorem Dec.yes {l : List Int} {w : List UInt8} {p0 k W p : Nat} (h : Dec l w p0 k W p) (hk : k ≤ 15) (hp : p < 8 * w.length) (hf : 2 * W + bitW w p < firstW l k + cntW l k) : dec1 l w 15 1 0 p0 = some ((symN l k l.length).getD (2 * W + bitW w p - firstW l k) 0, p + 1) := by
 rw [← h.d, show 16 - k = (16 - (k + 1)) + 1 by omega, dec1_yes hp hf]
theorem Dec.no {l : List Int} {w : List UInt8} {p0 k W p : Nat} (h : Dec l w p0 k W p) (hk : k ≤ 15) (hp : p < 8 * w.length) (hf : ¬ 2 * W + bitW w p < firstW l k + cntW l k) : Dec l w p0 (k + 1) (2 * W + bitW w p) (p + 1) := by
 have hb := bitW_le w p
 have h1 := h.hi; have h2 := h.k1
 refine ⟨?_, by rw [Nat.add_sub_cancel]; omega, ?_, by omega, by omega, by omega⟩
 ·rw [← h.d, show 16 - k = (16 - (k + 1)) + 1 by omega, dec1_no hp hf]
 rw [Nat.add_sub_cancel]
 have : 2 ^ k = 2 * 2 ^ (k - 1) := by rw [← Nat.pow_succ', show (k - 1).succ = k by omega]
 omega
theorem Dec.low {l : List Int} {w : List UInt8} {p0 k W p : Nat} (h : Dec l w p0 k W p) : firstW l k ≤ 2 * W + bitW w p := by
 have := h.first; have := h.lo; omega
theorem findV_yes {l : List Int} {w : List UInt8} {p0 k W p : Nat} (h : Dec l w p0 k W p) (hf : 2 * W + bitW w p < firstW l k + cntW l k) : findV l k (2 * W + bitW w p) = (((symN l k l.length).getD (2 * W + bitW w p - firstW l k) 0 : Nat) : Int) := by
 unfold findV; rw [if_pos ⟨h.low, hf⟩]
theorem findV_no {l : List Int} {n W : Nat} (hf : ¬ W < firstW l n + cntW l n) : findV l n W = -1 := by
 unfold findV; rw [if_neg (by omega)]
theorem codesL_len (l : List Int) : (codesL l).length = l.length := by simp [codesL]
theorem codesL_get {l : List Int} {i : Nat} (h : i < l.length) : (codesL l).getD i (0, 0) = codeAt l i := by
 unfold codesL; rw [List.getD_eq_getElem?_getD, List.getElem?_map, List.getElem?_range h]; rfl
theorem wordsF_none {l : List Int} {w : List UInt8} {n : Nat} (h : 32768 < usedB l 15 ∨ decA l w n 0 = none) : wordsF l w n = none := by
 unfold wordsF
 by_cases c : 32768 < usedB l 15
 ·rw [if_pos c]
 rw [if_neg c]
 rcases h with h | h
 ·exact absurd h c
 rw [h]
theorem wordsF_some {l : List Int} {w : List UInt8} {n e : Nat} {t : List UInt8} (hu : ¬ 32768 < usedB l 15) (h : decA l w n 0 = some (t, e)) : wordsF l w n = if (e + 7) / 8 = w.length ∧ tailZ w e then some t else none := by
 unfold wordsF; rw [if_neg hu, h]
theorem decA_long {l : List Int} {w : List UInt8} {n : Nat} (h : 8 * w.length < n) : decA l w n 0 = none := by
 cases hd : decA l w n 0 with
 | none => rfl
 | some x =>
  obtain ⟨t, e⟩ := x
  have := decA_bd hd (by omega)
  omega
structure Dcs (l : List Int) (w : List UInt8) (n : Nat) (T : List UInt8) (p : Nat) : Prop where
 d : pre T (decA l w (n - T.length) p) = decA l w n 0
 m : T.length ≤ n
 p : p ≤ 8 * w.length
theorem Dcs.init {l : List Int} {w : List UInt8} {n : Nat} : Dcs l w n [] 0 := ⟨pre_nil _, by simp, by omega⟩
theorem Dcs.fail {l : List Int} {w : List UInt8} {n : Nat} {T : List UInt8} {p : Nat} (h : Dcs l w n T p) (hm : T.length < n) (h1 : dec1 l w 15 1 0 p = none) : decA l w n 0 = none := by
 rw [← h.d, show n - T.length = (n - T.length - 1) + 1 by omega, pre_fail h1]
theorem Dcs.step {l : List Int} {w : List UInt8} {n : Nat} {T : List UInt8} {p s e : Nat} (h : Dcs l w n T p) (hm : T.length < n) (h1 : dec1 l w 15 1 0 p = some (s, e)) : Dcs l w n (T ++ [s.toUInt8]) e := by
 refine ⟨?_, by rw [List.length_append, List.length_singleton]; omega, (dec1_bd h1).2⟩
 rw [← h.d, show n - T.length = (n - (T ++ [s.toUInt8]).length) + 1 by rw [List.length_append, List.length_singleton]; omega, pre_step h1]
theorem Dcs.done {l : List Int} {w : List UInt8} {n : Nat} {T : List UInt8} {p : Nat} (h : Dcs l w n T p) (hm : n ≤ T.length) : decA l w n 0 = some (T, p) := by
 have := h.m
 rw [← h.d, show n - T.length = 0 by omega]
 simp [decA, pre]
def NoC (l : List Int) (n W i : Nat) : Prop := ∀ j, j < i → ¬ ((codeAt l j).1 = (n : Int) ∧ (codeAt l j).2 = (W : Int))
theorem noC_zero {l : List Int} {n W : Nat} : NoC l n W 0 := fun j h => by omega
theorem noC_succ {l : List Int} {n W i : Nat} (h : NoC l n W i) (hi : i < l.length) (hx : ¬ ((codesL l).getD i (0, 0)).1 = (n : Int) ∨ ¬ ((codesL l).getD i (0, 0)).2 = (W : Int)) : NoC l n W (i + 1) := by
 intro j hj hc
 rw [codesL_get hi] at hx
 by_cases e : j = i
 ·subst e; rcases hx with hx | hx
  ·exact hx hc.1
  exact hx hc.2
 exact h j (by omega) hc
theorem find_ok (x : Value) (l : List Int) (n W : Nat) (w : World) (hx : RdS codeC w x (codesL l)) (hl : l.length ≤ 256) (hn : 1 ≤ n ∧ n ≤ 15) (hW : W ≤ 4294967295) : Calls Tryz.prog 108 [x, .int .i64 ((n : Nat) : Int), .int .u32 ((W : Nat) : Int)].toArray w (Rt fun r w' => r = .int .i64 (findV l n W) ∧ Upd [] w w') := by
 have hM0 : Mem w [] w [] := Mem.nil w []
 refine calls_vc mixed Tryz.func108 rfl C108 (by simp [Tryz.ntmps108]) <| seq fun _ h1 => mv <| h1 _ _ <| seq fun _ h2 => seq fun _ h3 => mv <| h3 _ _ <| lp (n := fun _ _ => False) (ι := (Nat)) (fun i f w' => f 7 = .int .i64 (i : Nat) ∧ f 0 = x ∧ f 1 = .int .i64 (n : Nat) ∧ f 2 = .int .u32 (W : Nat) ∧ Mem w [] w' [] ∧ (i ≤ l.length) ∧ (NoC l n W i)) (fun i => (codesL l).length - i) (0) ?_ ?_
 ·exact ⟨vi, rfl, vi, vi, hM0, by omega, noC_zero⟩
 rintro i f w4 ⟨e4_7, e4_0, e4_1, e4_2, hM4, hi, hf⟩ K5 h5
 obtain ⟨frm, rfl⟩ := re4 e4_7 e4_0 e4_1 e4_2
 refine seq fun _ h6 => seq fun _ h7 => mv <| mv <| stp (v := .int .i64 ((codesL l).length : Nat)) (o_lenR (hx.upd hM4.upd) rfl rfl) <| bn rfl rfl <| h7 _ _ <| cndP rfl (fun c8 => ?_) (fun c8 => ?_)
 ·refine h6 _ _ <| seq fun _ h9 => seq fun _ h10 => mv <| mv <| m_idxS ((0, 0) : Int × Int) (j := i) (hx.upd hM4.upd) rfl rfl (by omega) fun b11 o11 hp11 => fa rfl <| ld (v := .int .i64 (((codesL l).getD i ((0, 0) : Int × Int)).1)) rfl (hp11.get 0 rfl) <| mv <| bn rfl rfl <| mv <| splitP rfl (fun c12 => ?_) (fun c12 => ?_)
  ·refine gmv rfl <| gmv rfl <| gyes rfl rfl (m_idxS ((0, 0) : Int × Int) (j := i) (hx.upd hM4.upd) rfl rfl (by omega) fun b13 o13 hp13 => gfa rfl rfl <| gyesl rfl <| ld (v := .int .u32 (((codesL l).getD i ((0, 0) : Int × Int)).2)) rfl (hp13.get 1 rfl) <| gmv rfl <| gbn rfl rfl rfl <| pkT rfl <| mv <| splitP rfl (fun c14 => ?_) (fun c14 => ?_))
   ·refine gmv rfl <| gbn rfl rfl rfl <| pkT rfl <| h10 _ _ <| cndP rfl (fun c15 => ?_) (fun c15 => (c15 (by omega)).elim)
    refine seq fun _ h16 => mv <| mv <| h16 _ _ <| ⟨(.int .i64 (i : Nat)), rfl, ?_⟩
    have hcl := codesL_len l
    exact ⟨by rw [find_hit (i := i) (by omega) (by omega) (by rw [← codesL_get (by omega)]; assumption) (by rw [← codesL_get (by omega)]; assumption)], hM4.upd⟩
   refine gx rfl <| gx rfl <| pkF rfl <| h10 _ _ <| cndF rfl <| h9 _ _ <| mv <| stp (v := .int .i64 ((i : Nat) + 1)) (o_bin rfl rfl (v_add64 (by omega))) <| mv <| h5 (i + 1) _ _ ⟨vi, rfl, vi, vi, hM4, by have := codesL_len l; omega, noC_succ hf (by have := codesL_len l; omega) (.inr (by assumption))⟩ (by (try dsimp only); omega)
  refine gx rfl <| gx rfl <| gx rfl <| gx rfl <| gxl rfl <| gx rfl <| gx rfl <| pkF rfl <| mv <| splitF rfl <| gx rfl <| gx rfl <| pkF rfl <| h10 _ _ <| cndF rfl <| h9 _ _ <| mv <| stp (v := .int .i64 ((i : Nat) + 1)) (o_bin rfl rfl (v_add64 (by omega))) <| mv <| h5 (i + 1) _ _ ⟨vi, rfl, vi, vi, hM4, by have := codesL_len l; omega, noC_succ hf (by have := codesL_len l; omega) (.inl (by assumption))⟩ (by (try dsimp only); omega)
 refine h2 _ _ <| seq fun _ h17 => mv <| h17 _ _ <| ⟨(.int .i64 (-1)), rfl, ?_⟩
 have hcl := codesL_len l
 obtain rfl : i = l.length := by omega
 exact ⟨by rw [find_none (by omega) hf], hM4.upd⟩
end Go.Proofs.YtifnmbmijljhfaaGreat.E.Hf
namespace Go.Proofs.YtifnmbmijljhfaaGreat.E.Hf
open Go
theorem ord_pre {l : List Int} {k i : Nat} (h : i < (ordB l k).length) : ∀ d, (ordB l (k + d)).getD i 0 = (ordB l k).getD i 0
 | 0 => rfl
 | d + 1 => by
  have := ord_mono l k d
  show (ordB l (k + d) ++ symN l (k + d + 1) l.length).getD i 0 = _
  rw [appG1 0 (by omega)]; exact ord_pre h d
theorem ord_len {l : List Int} {k : Nat} (h : 1 ≤ k) : (ordB l k).length = (ordB l (k - 1)).length + cntW l k := by
 obtain ⟨j, rfl⟩ : ∃ j, k = j + 1 := ⟨k - 1, by omega⟩
 rw [cntW_pos h]; simp [ordB]
theorem ord_elem {l : List Int} {k r : Nat} (h : 1 ≤ k) (h2 : k ≤ 15) (hr : r < cntW l k) : (ordB l 15).getD ((ordB l (k - 1)).length + r) 0 = (symN l k l.length).getD r 0 := by
 have hl := ord_len (l := l) h
 rw [show (15 : Nat) = k + (15 - k) by omega, ord_pre (by omega)]
 obtain ⟨j, rfl⟩ : ∃ j, k = j + 1 := ⟨k - 1, by omega⟩
 simp only [Nat.add_sub_cancel] at hl ⊢
 rw [ordB, appG2 0 (by omega)]; congr 1; omega
theorem ord_all {l : List Int} {k : Nat} (h : k ≤ 15) : (ordB l k).length ≤ (ordB l 15).length := by
 have := ord_mono l k (15 - k); rwa [show k + (15 - k) = 15 by omega] at this
theorem many_16 {l : List Int} {k : Nat} (h : 1 ≤ k) (h2 : k ≤ 15) : ((manyL l 16 0).map i64V)[k]? = some (.int .i64 ((cntW l k : Nat) : Int)) := by
 rw [List.getElem?_map, manyL, List.getElem?_map, List.getElem?_range (by omega), cntW_pos h]
 simp only [Option.map_some]
 rw [if_pos (by omega)]; rfl
theorem shl1 {a b : Nat} (ha : a ≤ 1000000) (h : b = 2 * a) : Value.int .i64 (IntKind.i64.wrap ((a : Int) * 2 ^ min ((1 : Int)).toNat IntKind.i64.bits)) = .int .i64 ((b : Nat) : Int) := by
 have e : min ((1 : Int)).toNat IntKind.i64.bits = 1 := by decide
 rw [e, v_same (by simp only [inK]; omega)]
 exact v_int (by omega)
theorem and_bit {x : UInt8} {i : Nat} : binI .and .u8 ((x.toNat / 2 ^ (i % 8) : Nat) : Int) 1 = .int .u8 ((x.toNat / 2 ^ (i % 8) % 2 : Nat) : Int) := by
 have hb := bit8 x (i % 8)
 have h := andI_nat (k := .u8) (a := x.toNat / 2 ^ (i % 8)) (b := 1) (by simp only [IntKind.bits]; omega) (by decide) (by
  have := Nat.and_le_left (n := x.toNat / 2 ^ (i % 8)) (m := 1)
  simp only [inK]; omega)
 rw [show (1 : Nat) = 2 ^ 1 - 1 from rfl, and_low] at h
 exact v_int h
theorem or_bit {a b : Nat} (ha : a ≤ 1000000) (hb : b ≤ 1) : binI .or .i64 ((2 * a : Nat) : Int) ((b : Nat) : Int) = .int .i64 ((2 * a + b : Nat) : Int) := by
 have e := or_add (v := b) (d := a) (n := 1) (by omega)
 rw [Nat.or_comm, Nat.pow_one, Nat.mul_comm a 2] at e
 have h := orI_nat (k := .i64) (a := 2 * a) (b := b) (by simp only [IntKind.bits]; omega) (by simp only [IntKind.bits]; omega) (by rw [e]; simp only [inK]; omega)
 rw [e, Nat.add_comm] at h
 exact v_int h
theorem sym_lt {l : List Int} {k r : Nat} (hl : l.length ≤ 256) (hr : r < (symN l k l.length).length) : (symN l k l.length).getD r 0 ≤ 255 := by
 have := (mem_symN.1 (getD_mem hr)).1; omega
theorem sym_byte {l : List Int} {k r : Nat} (hl : l.length ≤ 256) (h : 1 ≤ k) (h2 : k ≤ 15) (hr : r < cntW l k) : Value.int .u8 ((((ordB l 15).getD ((ordB l (k - 1)).length + r) 0 : Nat) : Int) % 256) = byteV ((symN l k l.length).getD r 0).toUInt8 := by
 rw [ord_elem h h2 hr]
 rw [cntW_pos h] at hr
 have := sym_lt hl hr
 rw [byteV_of (by omega) (by omega)]
 congr 2; omega
theorem words_ok (x y : Value) (l : List Int) (bs : List UInt8) (n : Nat) (w : World) (hx : RdE i64V w x l) (hy : RdE byteV w y bs) (hl : l.length ≤ 256) (hb : bs.length ≤ 140737488355328) (hn : n ≤ 65536) : Calls Tryz.prog 91 [x, y, .int .i64 ((n : Nat) : Int)].toArray w (Rt fun r w' => ∃ v ok T rs, r = .tuple [v, .bool ok].toArray ∧ SlE byteV 5 v T rs ∧ (if ok then some T else none) = wordsF l bs n ∧ Mem w [] w' [rs]) := by
 have hM0 : Mem w [] w [] := Mem.nil w []
 refine calls_vc mixed Tryz.func91 rfl C91 (by simp [Tryz.ntmps91]) <| seq fun _ h1 => mv <| mv <| h1 _ _ <| seq fun _ h2 => mv <| m_call (order_ok _ l w (hx.upd hM0.upd) (by omega)) rfl fun v3 w3 ⟨y3, rs3, hr3, hs3, hm3⟩ => ?_
 have hM3 : Mem _ _ w3 [rs3] := hM0.add hm3
 subst hr3
 refine mv <| ext rfl rfl <| ext rfl rfl <| ext rfl rfl <| m_al hM3 fun b4 w5 (hM5 : Mem _ _ w5 [_, [⟨b4, 171, (List.replicate 16 (.int .i64 0))⟩]]) => mv <| m_stA (l := ((manyL l 16 0).map i64V)) hM5 (i := 1) rfl rfl rfl (by simp [manyL_length]) (one_elems _) (by simp) fun w6 hm6 => ?_
 have hM6 : Mem w [] w6 [rs3, [⟨b4, 171, ((manyL l 16 0).map i64V)⟩]] := by
  have e : splice (List.replicate 16 (.int .i64 0)) 0 ((manyL l 16 0).map i64V) = ((manyL l 16 0).map i64V) := splice_full (by simp; first | done | (simp [manyL_length]) | omega)
  rw [e] at hm6
  exact hm6
 refine mv <| h2 _ _ <| seq fun _ h7 => seq fun _ h8 => mv <| stp (v := .bool (decide (¬ (0 ≤ 32768 - ((usedB l 15 : Nat) : Int))))) (o_not rfl v_not) <| mv <| splitP rfl (fun c9 => ?_) (fun c9 => ?_)
 ·refine gx rfl <| gx rfl <| gx rfl <| gx rfl <| gx rfl <| pkT rfl <| h8 _ _ <| cndT rfl <| seq fun _ h10 => mv <| mv <| h10 _ _ <| ⟨(.tuple [.slice none 0 0, .bool false].toArray), rfl, ⟨_, _, [], [], rfl, (Sl.nil 1 5 : SlE byteV 5 _ [] []), by rw [wordsF_none (.inl (by omega))]; rfl, hM6.keep (by simp)⟩⟩
 refine gmv rfl <| gmv rfl <| stg rfl (v := .int .i64 (bs.length : Nat)) (o_lenR (hy.upd hM6.upd) rfl rfl) <| stg rfl (v := .int .i64 (8 * (bs.length : Nat))) (o_bin rfl rfl (v_mul64 (by omega))) <| gbn rfl rfl rfl <| pkF rfl <| h8 _ _ <| cndP rfl (fun c11 => ?_) (fun c11 => ?_)
 ·refine seq fun _ h12 => mv <| mv <| h12 _ _ <| ⟨(.tuple [.slice none 0 0, .bool false].toArray), rfl, ⟨_, _, [], [], rfl, (Sl.nil 1 5 : SlE byteV 5 _ [] []), by rw [wordsF_none (.inr (decA_long (by omega)))]; rfl, hM6.keep (by simp)⟩⟩
 refine h7 _ _ <| seq fun _ h13 => mv <| m_mksE (E := byteV) (z := 0) (n := 0) (c := n) rfl hM6 (v_int (by omega)) (v_int (by omega)) (by omega) (by omega) (by omega) fun v14 w14 r14 hs14 (hM14 : Mem _ _ w14 [_, _, r14]) => mv <| h13 _ _ <| seq fun _ h15 => mv <| h15 _ _ <| seq fun _ h16 => seq fun _ h17 => mv <| mv <| h17 _ _ <| lp (n := fun _ _ => False) (ι := (List UInt8) × (Nat) × (Value) × (List Ent)) (fun ⟨T, p, y11_, r11_⟩ f w' => f 11 = y11_ ∧ f 12 = .int .i64 (p : Nat) ∧ f 35 = .int .i64 (T.length : Nat) ∧ f 1 = y ∧ f 8 = y3 ∧ f 9 = .pointer (some ⟨b4, 0, none⟩) ∧ f 34 = .int .i64 (n : Nat) ∧ Mem w [] w' [rs3, [⟨b4, 171, ((manyL l 16 0).map i64V)⟩], r11_] ∧ (Dcs l bs n T p) ∧ (SlE byteV 5 y11_ (T) r11_)) (fun ⟨T, p, y11_, r11_⟩ => n - T.length) ([], 0, v14, r14) ?_ ?_
 ·exact ⟨rfl, vi, vi, rfl, rfl, rfl, vi, hM14, Dcs.init, by first | exact hs14 | simpa using hs14⟩
 rintro ⟨T, p, y11_, r11_⟩ f w18 ⟨e18_11, e18_12, e18_35, e18_1, e18_8, e18_9, e18_34, hM18, hD, hy11_⟩ K19 h19
 obtain ⟨frm, rfl⟩ := re7 e18_11 e18_12 e18_35 e18_1 e18_8 e18_9 e18_34
 refine seq fun _ h20 => bn rfl rfl <| h20 _ _ <| seq fun _ h21 => cndP rfl (fun c22 => ?_) (fun c22 => ?_)
 ·refine h21 _ _ <| seq fun _ h23 => seq fun _ h24 => mv <| mv <| mv <| h24 _ _ <| seq fun _ h25 => mv <| h25 _ _ <| lp (n := fun _ _ => False) (ι := (Nat) × (Nat) × (Nat)) (fun ⟨W, k, q⟩ f w' => f 11 = y11_ ∧ f 12 = .int .i64 (q : Nat) ∧ f 13 = .int .i64 (W : Nat) ∧ f 14 = .int .i64 (firstW l (k - 1) + cntW l (k - 1) : Nat) ∧ f 15 = .int .i64 ((ordB l (k - 1)).length : Nat) ∧ f 16 = .int .i64 (k : Nat) ∧ f 1 = y ∧ f 8 = y3 ∧ f 9 = .pointer (some ⟨b4, 0, none⟩) ∧ f 34 = .int .i64 (n : Nat) ∧ f 35 = .int .i64 (T.length : Nat) ∧ Mem w [] w' [rs3, [⟨b4, 171, ((manyL l 16 0).map i64V)⟩], r11_] ∧ (Dec l bs p k W q)) (fun ⟨W, k, q⟩ => 16 - k) (0, 1, p) ?_ ?_
  ·exact ⟨rfl, vi, vi, vi, vi, vi, rfl, rfl, rfl, vi, vi, hM18, Dec.init hD.p⟩
  rintro ⟨W, k, q⟩ f w26 ⟨e26_11, e26_12, e26_13, e26_14, e26_15, e26_16, e26_1, e26_8, e26_9, e26_34, e26_35, hM26, hd⟩ K27 h27
  obtain ⟨frm, rfl⟩ := re11 e26_11 e26_12 e26_13 e26_14 e26_15 e26_16 e26_1 e26_8 e26_9 e26_34 e26_35
  refine seq fun _ h28 => seq fun _ h29 => seq fun _ h30 => mv <| bn rfl rfl <| mv <| splitP rfl (fun c31 => ?_) (fun c31 => ?_)
  ·refine gx rfl <| gx rfl <| gx rfl <| gx rfl <| gx rfl <| pkT rfl <| h30 _ _ <| cndT rfl <| seq fun _ h32 => mv <| mv <| h32 _ _ <| ⟨(.tuple [.slice none 0 0, .bool false].toArray), rfl, ⟨_, _, [], [], rfl, (Sl.nil 1 5 : SlE byteV 5 _ [] []), by rw [wordsF_none (.inr (hD.fail (by omega) (hd.out (.inl (by omega)))))]; rfl, hM26.keep (by simp)⟩⟩
  refine gmv rfl <| gmv rfl <| stg rfl (v := .int .i64 (bs.length : Nat)) (o_lenR (hy.upd hM26.upd) rfl rfl) <| stg rfl (v := .int .i64 (8 * (bs.length : Nat))) (o_bin rfl rfl (v_mul64 (by omega))) <| gbn rfl rfl rfl <| pkF rfl <| h30 _ _ <| cndP rfl (fun c33 => ?_) (fun c33 => ?_)
  ·refine seq fun _ h34 => mv <| mv <| h34 _ _ <| ⟨(.tuple [.slice none 0 0, .bool false].toArray), rfl, ⟨_, _, [], [], rfl, (Sl.nil 1 5 : SlE byteV 5 _ [] []), by rw [wordsF_none (.inr (hD.fail (by omega) (hd.out (.inr (by omega)))))]; rfl, hM26.keep (by simp)⟩⟩
  refine h29 _ _ <| seq fun _ h35 => ?_
  have hqp := hd.p
  have hWb := hd.bd
  have hfi := hd.first
  have hlo := hd.low
  have hk1 := hd.k1
  have hwl := word_le (l := l) (by omega) (n := k) (by omega)
  have hbw := bitW_le bs q
  have hol := ord_len (l := l) hd.k1
  have hoa := ord_all (l := l) (k := k) (by omega)
  have hoz := ordB_le l 15 hl
  refine mv <| stp (v := .int .i64 (2 * W : Nat)) (o_shl rfl rfl (by omega) (shl1 (by omega) rfl)) <| mv <| mv <| stp (v := .int .i64 ((q : Nat) / 8)) (o_quo rfl rfl (by omega) (v_quo (by omega) (by omega) (by simp only [inK]; omega))) <| m_idxE 0 (j := (q / 8)) (hy.upd hM26.upd) rfl (v_int (by omega)) (by omega) fun b36 o36 hp36 => ld (v := byteV (bs.getD (q / 8) 0)) rfl (hp36) <| mv <| stp (v := .int .i64 ((q : Nat) % 8)) (o_rem rfl rfl (by omega) (v_rem (by omega))) <| stp (v := .int .u8 ((bs.getD (q / 8) 0).toNat / 2 ^ (q % 8) : Nat)) (o_shr rfl rfl (by omega) (shr_bit (by omega))) <| stp (v := .int .u8 (bitW bs q : Nat)) (o_bin rfl rfl (and_bit)) <| stp (v := .int .i64 (bitW bs q : Nat)) (o_conv rfl (v_same (by simp only [inK]; omega))) <| stp (v := .int .i64 (2 * W + bitW bs q : Nat)) (o_bin rfl rfl (or_bit (by omega) hbw)) <| mv <| h35 _ _ <| seq fun _ h37 => mv <| stp (v := .int .i64 ((q : Nat) + 1)) (o_bin rfl rfl (v_add64 (by omega))) <| mv <| h37 _ _ <| seq fun _ h38 => mv <| stp (v := .int .i64 (firstW l k : Nat)) (o_shl rfl rfl (by omega) (shl1 (by omega) hfi)) <| mv <| h38 _ _ <| seq fun _ h39 => seq fun _ h40 => mv <| mv <| stp (v := .int .i64 ((2 * W + bitW bs q : Nat) - (firstW l k : Nat))) (o_bin rfl rfl (v_sub64 (by omega))) <| mv <| stp (v := .pointer (some ⟨b4, k, none⟩)) (o_idxa rfl rfl (by omega) (v_ptr (by first | (rw [Int.toNat_natCast, Nat.mul_one]; done) | (simp; done) | omega))) <| ld (v := .int .i64 (cntW l k : Nat)) rfl (((hM26.at (i := 1) (j := 0) rfl rfl).cell k).trans (many_16 (by omega) (by omega))) <| bn rfl rfl <| h40 _ _ <| cndP rfl (fun c41 => ?_) (fun c41 => ?_)
  ·refine seq fun _ h42 => mv <| mv <| mv <| mv <| stp (v := .int .i64 (((ordB l (k - 1)).length : Nat) + (2 * W + bitW bs q : Nat))) (o_bin rfl rfl (v_add64 (by omega))) <| mv <| stp (v := .int .i64 ((((ordB l (k - 1)).length : Nat) + (2 * W + bitW bs q : Nat)) - (firstW l k : Nat))) (o_bin rfl rfl (v_sub64 (by omega))) <| m_idxE 0 (j := ((ordB l (k - 1)).length + (2 * W + bitW bs q - firstW l k))) (hs3.rd hM26 (i := 0) rfl) rfl (v_int (by omega)) (by omega) fun b43 o43 hp43 => ld (v := .int .i64 ((ordB l 15).getD ((ordB l (k - 1)).length + (2 * W + bitW bs q - firstW l k)) 0 : Nat)) rfl (hp43) <| stp (v := .int .u8 (((ordB l 15).getD ((ordB l (k - 1)).length + (2 * W + bitW bs q - firstW l k)) 0 : Nat) % 256)) (o_conv rfl (v_u8 _)) <| m_app1 (E := byteV) (q := ((symN l k l.length).getD (2 * W + bitW bs q - firstW l k) 0).toUInt8) hM26 (i := 2) rfl hy11_ rfl (by simp) (sym_byte hl (by omega) (by omega) (by omega)) (by omega) (by omega) fun v44 w44 r44 u44 (hs44 : SlE byteV 5 v44 (T ++ [((symN l k l.length).getD (2 * W + bitW bs q - firstW l k) 0).toUInt8]) r44) (hM44 : Mem w [] w44 [rs3, [⟨b4, 171, ((manyL l 16 0).map i64V)⟩], r44]) => mv <| h42 _ _ ?_
   refine h23 _ _ <| stp (v := .int .i64 ((T.length : Nat) + 1)) (o_bin rfl rfl (v_add64 (by omega))) <| mv <| h19 (T ++ [((symN l k l.length).getD (2 * W + bitW bs q - firstW l k) 0).toUInt8], q + 1, v44, r44) _ _ ⟨rfl, vi, vi, rfl, rfl, rfl, vi, hM44, hD.step (by omega) (hd.yes (by omega) (by omega) (by omega)), by first | exact hs44 | simpa using hs44⟩ (by dsimp only; rw [List.length_append, List.length_singleton]; omega)
  refine h39 _ _ <| seq fun _ h45 => mv <| mv <| stp (v := .pointer (some ⟨b4, k, none⟩)) (o_idxa rfl rfl (by omega) (v_ptr (by first | (rw [Int.toNat_natCast, Nat.mul_one]; done) | (simp; done) | omega))) <| ld (v := .int .i64 (cntW l k : Nat)) rfl (((hM26.at (i := 1) (j := 0) rfl rfl).cell k).trans (many_16 (by omega) (by omega))) <| stp (v := .int .i64 ((firstW l k : Nat) + (cntW l k : Nat))) (o_bin rfl rfl (v_add64 (by omega))) <| mv <| h45 _ _ <| mv <| mv <| stp (v := .pointer (some ⟨b4, k, none⟩)) (o_idxa rfl rfl (by omega) (v_ptr (by first | (rw [Int.toNat_natCast, Nat.mul_one]; done) | (simp; done) | omega))) <| ld (v := .int .i64 (cntW l k : Nat)) rfl (((hM26.at (i := 1) (j := 0) rfl rfl).cell k).trans (many_16 (by omega) (by omega))) <| stp (v := .int .i64 ((ordB l k).length : Nat)) (o_bin rfl rfl ((v_add64 (by omega)).trans (v_int (by omega)))) <| mv <| h28 _ _ <| mv <| stp (v := .int .i64 ((k : Nat) + 1)) (o_bin rfl rfl (v_add64 (by omega))) <| mv <| h27 (2 * W + bitW bs q, k + 1, q + 1) _ _ ⟨rfl, vi, vi, vi, vi, vi, rfl, rfl, rfl, vi, vi, hM26, hd.no (by omega) (by omega) (by omega)⟩ (by (try dsimp only); omega)
 refine h16 _ _ <| seq fun _ h46 => seq fun _ h47 => ?_
 have hpp := hD.p
 refine mv <| stp (v := .int .i64 ((p : Nat) + 7)) (o_bin rfl rfl (v_add64 (by omega))) <| stp (v := .int .i64 (((p : Nat) + 7) / 8)) (o_quo rfl rfl (by omega) (v_quo (by omega) (by omega) (by simp only [inK]; omega))) <| mv <| stp (v := .int .i64 (bs.length : Nat)) (o_lenR (hy.upd hM18.upd) rfl rfl) <| bneq rfl rfl <| mv <| splitP rfl (fun c48 => ?_) (fun c48 => ?_)
 ·refine gx rfl <| gx rfl <| gx rfl <| gx rfl <| splitU rfl <| gnou rfl <| gnou rfl <| gnou rfl <| gnou rfl <| gnolu rfl <| gnou rfl <| gnou rfl <| gnou rfl <| gnou rfl ?_
  refine gx rfl <| pkT rfl <| h47 _ _ <| cndT rfl <| seq fun _ h49 => mv <| mv <| h49 _ _ <| ⟨(.tuple [.slice none 0 0, .bool false].toArray), rfl, ⟨_, _, [], [], rfl, (Sl.nil 1 5 : SlE byteV 5 _ [] []), by rw [wordsF_some (by omega) (hD.done (by omega))]; exact (if_neg (fun h => by have := h.1; omega)).symm, hM18.keep (by simp)⟩⟩
 refine gmv rfl <| stg rfl (v := .int .i64 ((p : Nat) % 8)) (o_rem rfl rfl (by omega) (v_rem (by omega))) <| gbneq rfl rfl rfl <| gmv rfl <| splitP rfl (fun c50 => ?_) (fun c50 => ?_)
 ·refine gmv rfl <| gmv rfl <| stg rfl (v := .int .i64 ((p : Nat) / 8)) (o_quo rfl rfl (by omega) (v_quo (by omega) (by omega) (by simp only [inK]; omega))) <| gyes rfl rfl (m_idxE 0 (j := (p / 8)) (hy.upd hM18.upd) rfl (v_int (by omega)) (by omega) fun b51 o51 hp51 => gyesl rfl <| ld (v := byteV (bs.getD (p / 8) 0)) rfl (hp51) <| gmv rfl <| stg rfl (v := .int .i64 ((p : Nat) % 8)) (o_rem rfl rfl (by omega) (v_rem (by omega))) <| stg rfl (v := .int .u8 ((bs.getD (p / 8) 0).toNat / 2 ^ (p % 8) : Nat)) (o_shr rfl rfl (by omega) (shr_bit (by omega))) <| gbneq rfl rfl rfl <| gpkT rfl rfl <| pkF rfl <| h47 _ _ <| cndP rfl (fun c52 => ?_) (fun c52 => ?_))
  ·refine seq fun _ h53 => mv <| mv <| h53 _ _ <| ⟨(.tuple [.slice none 0 0, .bool false].toArray), rfl, ⟨_, _, [], [], rfl, (Sl.nil 1 5 : SlE byteV 5 _ [] []), by rw [wordsF_some (by omega) (hD.done (by omega))]; exact (if_neg (fun h => by have := (tail_byte (w := bs) (e := p) (by omega) (by omega)).1 h.2; omega)).symm, hM18.keep (by simp)⟩⟩
  refine h46 _ _ <| seq fun _ h54 => mv <| mv <| mv <| h54 _ _ <| ⟨(.tuple [y11_, .bool true].toArray), rfl, ⟨_, _, T, _, rfl, hy11_, by rw [wordsF_some (by omega) (hD.done (by omega))]; exact (if_pos ⟨by omega, (tail_byte (w := bs) (e := p) (by omega) (by omega)).2 (by omega)⟩).symm, hM18.keep (by simp)⟩⟩
 refine gx rfl <| gx rfl <| gx rfl <| gx rfl <| gxl rfl <| gx rfl <| gx rfl <| gx rfl <| gx rfl <| gpkF rfl rfl <| pkF rfl <| h47 _ _ <| cndF rfl <| h46 _ _ <| seq fun _ h55 => mv <| mv <| mv <| h55 _ _ <| ⟨(.tuple [y11_, .bool true].toArray), rfl, ⟨_, _, T, _, rfl, hy11_, by rw [wordsF_some (by omega) (hD.done (by omega))]; exact (if_pos ⟨by omega, tail_none (by omega) (by omega)⟩).symm, hM18.keep (by simp)⟩⟩
end Go.Proofs.YtifnmbmijljhfaaGreat.E.Hf
namespace Go.Proofs.YtifnmbmijljhfaaGreat.E.Hf
open Go
theorem huffD_arg {b : List UInt8} {n : Int} (h : n < 0 ∨ 65536 < n) : huffD b n = ([], 3) := by unfold huffD; rw [if_pos h]
theorem huffD_hdr {b : List UInt8} {n : Int} (h : ¬ (n < 0 ∨ 65536 < n)) (h1 : hdr b 0 [] = none) : huffD b n = ([], 40) := by unfold huffD; rw [if_neg h, h1]
theorem huffD_none {b : List UInt8} {n : Int} {l : List Int} {a : Nat} (h : ¬ (n < 0 ∨ 65536 < n)) (h1 : hdr b 0 [] = some (l, a)) (h2 : wordsF l (b.drop a) n.toNat = none) : huffD b n = ([], 40) := by unfold huffD; rw [if_neg h, h1]; simp only []; rw [h2]
theorem huffD_some {b : List UInt8} {n : Int} {l : List Int} {a : Nat} {t : List UInt8} (h : ¬ (n < 0 ∨ 65536 < n)) (h1 : hdr b 0 [] = some (l, a)) (h2 : wordsF l (b.drop a) n.toNat = some t) : huffD b n = (t, 0) := by unfold huffD; rw [if_neg h, h1]; simp only []; rw [h2]
def DecS (l : List Int) (w : List UInt8) (p0 k W : Nat) (s : Int) (q : Nat) : Prop := (s = -1 ∧ Dec l w p0 k W q) ∨ (0 ≤ s ∧ s ≤ 255 ∧ dec1 l w 15 1 0 p0 = some (s.toNat, q))
theorem DecS.neg {l : List Int} {w : List UInt8} {p0 k W : Nat} {s : Int} {q : Nat} (h : DecS l w p0 k W s q) (hs : s < 0) : Dec l w p0 k W q := by
 rcases h with h | h
 ·exact h.2
 omega
theorem DecS.pos {l : List Int} {w : List UInt8} {p0 k W : Nat} {s : Int} {q : Nat} (h : DecS l w p0 k W s q) (hs : ¬ s < 0) : s ≤ 255 ∧ dec1 l w 15 1 0 p0 = some (s.toNat, q) := by
 rcases h with h | h
 ·omega
 exact h.2
theorem DecS.step {l : List Int} {w : List UInt8} {p0 k W q : Nat} (hl : l.length ≤ 256) (h : Dec l w p0 k W q) (hk : k ≤ 15) (hq : q < 8 * w.length) : DecS l w p0 (k + 1) (2 * W + bitW w q) (findV l k (2 * W + bitW w q)) (q + 1) := by
 by_cases c : 2 * W + bitW w q < firstW l k + cntW l k
 ·refine .inr ?_
  have h1 := h.yes hk hq c
  have hlo := h.low
  have hr : 2 * W + bitW w q - firstW l k < (symN l k l.length).length := by rw [cntW_pos h.k1] at c; omega
  have := sym_lt hl hr
  rw [findV_yes h c]
  exact ⟨by omega, by omega, by rw [Int.toNat_natCast]; exact h1⟩
 exact .inl ⟨findV_no c, h.no hk hq c⟩
theorem s_byte {s : Int} (h : ¬ s < 0) (h2 : s ≤ 255) : Value.int .u8 (s % 256) = byteV s.toNat.toUInt8 := by
 rw [byteV_of (by omega) (by omega)]; congr 2; omega
theorem codes_hdr {b : List UInt8} {l : List Int} {a : Nat} (h : hdr b 0 [] = some (l, a)) : (¬ (codes l).2 = 0 → 32768 < usedB l 15) ∧ ((codes l).2 = 0 → ¬ 32768 < usedB l 15 ∧ (codes l).1 = codesL l) := by
 obtain ⟨h1, h2, _⟩ := hdr_ok h
 by_cases c : 32768 < usedB l 15
 ·rw [codes_much (by omega) h2 c]; exact ⟨fun _ => c, fun h => by simp at h⟩
 rw [codes_ok (by omega) h2 c]; exact ⟨fun h => absurd rfl h, fun _ => ⟨c, rfl⟩⟩
theorem take_rest {b : List UInt8} {a : Nat} (h : a ≤ b.length) : cTk b a 0 (restV b a 0) = b.drop a := by
 unfold restV
 rw [if_pos rfl]
 have hf := tk_fine (l := b.drop a) (n := ((b.length - a : Nat) : Int)) (by omega) (by rw [List.length_drop]; omega)
 unfold cTk
 rw [if_pos rfl, hf.2, Int.toNat_natCast, List.take_of_length_le (by rw [List.length_drop]; omega)]
def zeros (w : List UInt8) (p q : Nat) : Prop := ∀ i, i < 8 * w.length → p ≤ i → i < q → bitW w i = 0
theorem zeros_none {w : List UInt8} {p : Nat} : zeros w p p := fun i _ h1 h2 => by omega
theorem zeros_succ {w : List UInt8} {p q : Nat} (h : zeros w p q) (hz : bitW w q = 0) : zeros w p (q + 1) := fun i h1 h2 h3 => by
 by_cases e : i = q
 ·subst e; exact hz
 exact h i h1 h2 (by omega)
theorem zeros_all {w : List UInt8} {p q : Nat} (h : zeros w p q) (hq : 8 * w.length ≤ q) : tailZ w p := fun i h1 h2 => h i h1 h2 (by omega)
theorem mul_u32 {a : Nat} (h : a ≤ 1000000) : binI .mul .u32 ((a : Nat) : Int) 2 = .int .u32 ((2 * a : Nat) : Int) := by
 have : IntKind.u32.wrap ((a : Int) * 2) = ((2 * a : Nat) : Int) := by rw [wrap_u32]; omega
 simp [binI, this]
theorem add_u32 {a b : Nat} (h : a + b ≤ 1000000) : binI .add .u32 ((a : Nat) : Int) ((b : Nat) : Int) = .int .u32 ((a + b : Nat) : Int) := by
 have : IntKind.u32.wrap ((a : Int) + (b : Int)) = ((a + b : Nat) : Int) := by rw [wrap_u32]; omega
 simp [binI, this]
theorem words_okD (x y : Value) (b m : List UInt8) (L : List Int) (aq : Nat) (n : Int) (w : World) (hx : RdE i64V w x L) (hy : RdE byteV w y m) (he : m = b.drop aq) (hl : L.length ≤ 256) (hb : b.length ≤ 140737488355328) (h0 : 0 ≤ n) (hn : n ≤ 65536) : Calls Tryz.prog 91 [x, y, .int .i64 n].toArray w (Rt fun r w' => ∃ v ok T rs, r = .tuple [v, .bool ok].toArray ∧ SlE byteV 5 v T rs ∧ (if ok then some T else none) = wordsF L (b.drop aq) n.toNat ∧ Mem w [] w' [rs]) := by
 subst he
 have hw := words_ok x y L (b.drop aq) n.toNat w hx hy hl (by rw [List.length_drop]; omega) (by omega)
 rw [Int.toNat_of_nonneg h0] at hw
 exact hw
theorem find_okD (x : Value) (l : List Int) (cs : List (Int × Int)) (n W : Nat) (w : World) (hx : RdS codeC w x cs) (he : cs = codesL l) (hl : l.length ≤ 256) (hn : 1 ≤ n ∧ n ≤ 15) (hW : W ≤ 4294967295) : Calls Tryz.prog 108 [x, .int .i64 ((n : Nat) : Int), .int .u32 ((W : Nat) : Int)].toArray w (Rt fun r w' => r = .int .i64 (findV l n W) ∧ Upd [] w w') := by
 subst he
 exact find_ok x l n W w hx hl hn hW
theorem Decode_ok (x : Value) (b : List UInt8) (n : Int) (w : World) (hx : RdE byteV w x b) (hl : b.length ≤ 140737488355328) (hn : inK .i64 n) : Calls Tryz.prog 56 [x, .int .i64 n].toArray w (Rt fun r w' => ∃ v rs, r = .tuple [v, .int .i64 (huffD b n).2].toArray ∧ SlE byteV 5 v (huffD b n).1 rs ∧ Mem w [] w' [rs]) := by
 have hM0 : Mem w [] w [] := Mem.nil w []
 simp only [inK] at hn
 refine calls_vc mixed Tryz.func56 rfl C56 (by simp [Tryz.ntmps56]) <| seq fun _ h1 => mv <| mv <| h1 _ _ <| seq fun _ h2 => seq fun _ h3 => mv <| bn rfl rfl <| mv <| splitP rfl (fun c4 => ?_) (fun c4 => ?_)
 ·refine gx rfl <| gx rfl <| pkT rfl <| h3 _ _ <| cndT rfl <| seq fun _ h5 => mv <| mv <| h5 _ _ <| ⟨(.tuple [.slice none 0 0, .int .i64 3].toArray), rfl, ⟨.slice none 0 0, [], by rw [huffD_arg (by omega)], by rw [huffD_arg (by omega)]; exact Sl.nil 1 5, hM0.keep (by simp)⟩⟩
 refine gmv rfl <| gbn rfl rfl rfl <| pkF rfl <| h3 _ _ <| cndP rfl (fun c6 => ?_) (fun c6 => ?_)
 ·refine seq fun _ h7 => mv <| mv <| h7 _ _ <| ⟨(.tuple [.slice none 0 0, .int .i64 3].toArray), rfl, ⟨.slice none 0 0, [], by rw [huffD_arg (by omega)], by rw [huffD_arg (by omega)]; exact Sl.nil 1 5, hM0.keep (by simp)⟩⟩
 refine h2 _ _ <| seq fun _ h8 => mv <| m_call (NewCursor_ok _ b w (hx.upd hM0.upd) (by first | omega | (simp; done) | (simp; omega))) rfl fun v9 w9 ⟨bc9, rs9, hr9, hc9, hm9⟩ => ?_
 have hM9 : Mem _ _ w9 [rs9] := hM0.add hm9
 subst hr9
 refine mv <| h8 _ _ <| seq fun _ h10 => mv <| m_call (lengths_ok _ b rs9 w9 hc9 (hM9.res (i := 0) rfl) (by omega)) rfl fun v11 w11 ⟨y11, okq, L, aq, eq, r'11, rs11, hr11, hs11, hc11, hq, hez, hm11⟩ => ?_
 have hM11 : Mem _ _ w11 [r'11, rs11] := hM9.stepAdd 0 rfl hm11
 subst hr11
 refine mv <| ext rfl rfl <| ext rfl rfl <| mv <| mv <| h10 _ _ <| seq fun _ h12 => seq fun _ h13 => mv <| stp (v := .bool (!okq)) (o_not rfl rfl) <| h13 _ _ <| cnd rfl (fun hkT => ?_) (fun hkF => ?_)
 ·refine seq fun _ h15 => mv <| mv <| h15 _ _ <| ⟨(.tuple [.slice none 0 0, .int .i64 40].toArray), rfl, ?_⟩
  have hok : okq = false := by simpa using hkT
  rw [hok] at hq
  exact ⟨.slice none 0 0, [], by rw [huffD_hdr (by omega) hq.symm], by rw [huffD_hdr (by omega) hq.symm]; exact Sl.nil 1 5, hM11.keep (by simp)⟩
 refine h12 _ _ <| seq fun _ h16 => ?_
 have hok : okq = true := by simpa using hkF
 rw [if_pos hok] at hq
 have hqs := hq.symm
 have hkk := hdr_ok hqs
 have htk : cTk b aq eq (restV b aq eq) = b.drop aq := by rw [hez hok]; exact take_rest hkk.2.2
 refine mv <| mv <| mv <| m_call (Rest_ok _ b aq eq r'11 w11 hc11 (hM11.res (i := 0) rfl) (by first | omega | (simp; done) | (simp; omega))) rfl fun v17 w17 ⟨hr17, hm17⟩ => ?_
 have hM17 : Mem _ _ w17 [_, _] := hM11.step 0 rfl hm17
 subst hr17
 refine m_call (Take_ok _ b aq eq (restV b aq eq) r'11 w17 hc11 (hM17.res (i := 0) rfl) (by first | omega | (simp; done) | (simp; omega))) rfl fun v18 w18 ⟨r'18, rs18, hc18, hs18, hm18⟩ => ?_
 have hM18 : Mem _ _ w18 [r'18, _, rs18] := hM17.stepAdd 0 rfl hm18
 refine mv <| m_call (words_okD _ _ b _ L aq n w18 (hs11.rd hM18 (i := 1) rfl) (hs18.rd hM18 (i := 2) rfl) htk (by omega) (by omega) (by omega) (by omega)) rfl fun v19 w19 ⟨y19, okw, T, rs19, hr19, hs19, hw, hm19⟩ => ?_
 have hM19 : Mem _ _ w19 [_, _, _, rs19] := hM18.add hm19
 subst hr19
 refine mv <| ext rfl rfl <| ext rfl rfl <| mv <| mv <| h16 _ _ <| seq fun _ h20 => seq fun _ h21 => mv <| stp (v := .bool (!okw)) (o_not rfl rfl) <| h21 _ _ <| cnd rfl (fun hwT => ?_) (fun hwF => ?_)
 ·refine seq fun _ h23 => mv <| mv <| h23 _ _ <| ⟨(.tuple [.slice none 0 0, .int .i64 40].toArray), rfl, ?_⟩
  have hok2 : okw = false := by simpa using hwT
  rw [hok2] at hw
  exact ⟨.slice none 0 0, [], by rw [huffD_none (by omega) hqs hw.symm], by rw [huffD_none (by omega) hqs hw.symm]; exact Sl.nil 1 5, hM19.keep (by simp)⟩
 refine h20 _ _ <| seq fun _ h24 => mv <| mv <| mv <| h24 _ _ <| ⟨(.tuple [y19, .int .i64 0].toArray), rfl, ?_⟩
 have hok2 : okw = true := by simpa using hwF
 rw [hok2, if_pos rfl] at hw
 have hr := huffD_some (n := n) (by omega) hqs hw.symm
 rw [hr]
 exact ⟨_, _, rfl, hs19, hM19.keep (by simp only [List.flatten_cons, List.flatten_nil, List.append_nil, ← List.append_assoc]; exact List.sublist_append_right _ _)⟩
theorem refDecode_ok (x : Value) (b : List UInt8) (n : Int) (w : World) (hx : RdE byteV w x b) (hl : b.length ≤ 140737488355328) (hn : inK .i64 n) : Calls Tryz.prog 74 [x, .int .i64 n].toArray w (Rt fun r w' => ∃ v rs, r = .tuple [v, .int .i64 (huffD b n).2].toArray ∧ SlE byteV 5 v (huffD b n).1 rs ∧ Mem w [] w' [rs]) := by
 have hM0 : Mem w [] w [] := Mem.nil w []
 simp only [inK] at hn
 refine calls_vc mixed Tryz.func74 rfl C74 (by simp [Tryz.ntmps74]) <| seq fun _ h1 => mv <| mv <| h1 _ _ <| seq fun _ h2 => seq fun _ h3 => mv <| bn rfl rfl <| mv <| splitP rfl (fun c4 => ?_) (fun c4 => ?_)
 ·refine gx rfl <| gx rfl <| pkT rfl <| h3 _ _ <| cndT rfl <| seq fun _ h5 => mv <| mv <| h5 _ _ <| ⟨(.tuple [.slice none 0 0, .int .i64 3].toArray), rfl, ⟨.slice none 0 0, [], by rw [huffD_arg (by omega)], by rw [huffD_arg (by omega)]; exact Sl.nil 1 5, hM0.keep (by simp)⟩⟩
 refine gmv rfl <| gbn rfl rfl rfl <| pkF rfl <| h3 _ _ <| cndP rfl (fun c6 => ?_) (fun c6 => ?_)
 ·refine seq fun _ h7 => mv <| mv <| h7 _ _ <| ⟨(.tuple [.slice none 0 0, .int .i64 3].toArray), rfl, ⟨.slice none 0 0, [], by rw [huffD_arg (by omega)], by rw [huffD_arg (by omega)]; exact Sl.nil 1 5, hM0.keep (by simp)⟩⟩
 refine h2 _ _ <| seq fun _ h8 => mv <| m_call (readLens_ok _ b w (hx.upd hM0.upd) (by omega)) rfl fun v9 w9 ⟨y9, okq, L, aq, rs9, hr9, hs9, hq, hm9⟩ => ?_
 have hM9 : Mem _ _ w9 [rs9] := hM0.add hm9
 subst hr9
 refine mv <| ext rfl rfl <| ext rfl rfl <| ext rfl rfl <| mv <| mv <| mv <| h8 _ _ <| seq fun _ h10 => seq fun _ h11 => mv <| stp (v := .bool (!okq)) (o_not rfl rfl) <| h11 _ _ <| cnd rfl (fun hkT => ?_) (fun hkF => ?_)
 ·refine seq fun _ h13 => mv <| mv <| h13 _ _ <| ⟨(.tuple [.slice none 0 0, .int .i64 40].toArray), rfl, ?_⟩
  have hok : okq = false := by simpa using hkT
  rw [hok] at hq
  exact ⟨.slice none 0 0, [], by rw [huffD_hdr (by omega) hq.symm], by rw [huffD_hdr (by omega) hq.symm]; exact Sl.nil 1 5, hM9.keep (by simp)⟩
 refine h10 _ _ <| seq fun _ h14 => ?_
 have hok : okq = true := by simpa using hkF
 rw [if_pos hok] at hq
 have hqs := hq.symm
 have hkk := hdr_ok hqs
 refine mv <| m_call (refCodes_ok _ L w9 (hs9.rd hM9 (i := 0) rfl) (by first | omega | (simp; done) | (simp; omega))) rfl fun v15 w15 ⟨y15, rs15, hr15, hs15, hm15⟩ => ?_
 have hM15 : Mem _ _ w15 [_, rs15] := hM9.add hm15
 subst hr15
 refine mv <| ext rfl rfl <| ext rfl rfl <| mv <| mv <| h14 _ _ <| seq fun _ h16 => seq fun _ h17 => mv <| bneq rfl rfl <| h17 _ _ <| cndP rfl (fun c18 => ?_) (fun c18 => ?_)
 ·refine seq fun _ h19 => mv <| mv <| h19 _ _ <| ⟨(.tuple [.slice none 0 0, .int .i64 40].toArray), rfl, ⟨.slice none 0 0, [], by rw [huffD_none (by omega) hqs (wordsF_none (.inl ((codes_hdr hqs).1 (by omega))))], by rw [huffD_none (by omega) hqs (wordsF_none (.inl ((codes_hdr hqs).1 (by omega))))]; exact Sl.nil 1 5, hM15.keep (by simp)⟩⟩
 refine h16 _ _ <| seq fun _ h20 => ?_
 have hcu := ((codes_hdr hqs).2 (by omega)).1
 have hcd := ((codes_hdr hqs).2 (by omega)).2
 have hbl : (b.drop aq).length ≤ 140737488355328 := by rw [List.length_drop]; omega
 refine mv <| mv <| m_slcE aq b.length (hx) rfl (by omega) (by omega) rfl ⟨_, v_int (by omega)⟩ fun u21 hu21 => ?_
 have hu21' : RdE byteV w u21 (b.drop aq) := by
  have e : (b.take b.length).drop aq = (b.drop aq) := by rw [List.take_length]
  rw [e] at hu21; exact hu21
 refine mv <| h20 _ _ <| seq fun _ h22 => mv <| h22 _ _ <| seq fun _ h23 => mv <| h23 _ _ <| seq fun _ h24 => ?_
 have hM25 : Mem _ _ w15 [_, _, []] := hM15.addNil
 have hs25 : SlE byteV 5 (.slice none 0 0) [] [] := Sl.nil 1 5
 refine lp (n := fun _ _ => False) (ι := (List UInt8) × (Nat) × (Value) × (List Ent)) (fun ⟨T, p, y13_, r13_⟩ f w' => f 12 = .int .i64 (p : Nat) ∧ f 13 = y13_ ∧ f 1 = .int .i64 n ∧ f 9 = y15 ∧ f 11 = u21 ∧ Mem w [] w' [rs9, rs15, r13_] ∧ (Dcs L (b.drop aq) n.toNat T p) ∧ (SlE byteV 5 y13_ (T) r13_)) (fun ⟨T, p, y13_, r13_⟩ => n.toNat - T.length) ([], 0, ((.slice none 0 0)), ([])) ?_ ?_
 ·exact ⟨vi, rfl, vi, rfl, rfl, hM25, Dcs.init, by first | exact hs25 | simpa using hs25⟩
 rintro ⟨T, p, y13_, r13_⟩ f w26 ⟨e26_12, e26_13, e26_1, e26_9, e26_11, hM26, hD, hy13_⟩ K27 h27
 obtain ⟨frm, rfl⟩ := re5 e26_12 e26_13 e26_1 e26_9 e26_11
 refine seq fun _ h28 => seq fun _ h29 => mv <| stp (v := .int .i64 (T.length : Nat)) (o_lenR (hy13_.rd hM26 (i := 2) rfl) rfl rfl) <| mv <| bn rfl rfl <| h29 _ _ <| cndP rfl (fun c30 => ?_) (fun c30 => ?_)
 ·refine h28 _ _ <| seq fun _ h31 => mv <| h31 _ _ <| seq fun _ h32 => mv <| h32 _ _ <| seq fun _ h33 => seq fun _ h34 => mv <| h34 _ _ <| lp (n := fun _ _ => False) (ι := (Nat) × (Nat) × (Int) × (Nat)) (fun ⟨W, k, s, q⟩ f w' => f 12 = .int .i64 (q : Nat) ∧ f 14 = .int .u32 (W : Nat) ∧ f 15 = .int .i64 s ∧ f 16 = .int .i64 (k : Nat) ∧ f 1 = .int .i64 n ∧ f 9 = y15 ∧ f 11 = u21 ∧ f 13 = y13_ ∧ Mem w [] w' [rs9, rs15, r13_] ∧ (DecS L (b.drop aq) p k W s q) ∧ (1 ≤ k ∧ k ≤ 16) ∧ (q ≤ 8 * (b.drop aq).length)) (fun ⟨W, k, s, q⟩ => 16 - k) (0, 1, -1, p) ?_ ?_
  ·exact ⟨vi, vi, vi, vi, vi, rfl, rfl, rfl, hM26, .inl ⟨rfl, Dec.init hD.p⟩, by omega, hD.p⟩
  rintro ⟨W, k, s, q⟩ f w35 ⟨e35_12, e35_14, e35_15, e35_16, e35_1, e35_9, e35_11, e35_13, hM35, hd, hk, hqb⟩ K36 h36
  obtain ⟨frm, rfl⟩ := re8 e35_12 e35_14 e35_15 e35_16 e35_1 e35_9 e35_11 e35_13
  refine seq fun _ h37 => seq fun _ h38 => mv <| bn rfl rfl <| mv <| splitP rfl (fun c39 => ?_) (fun c39 => ?_)
  ·refine gmv rfl <| gbn rfl rfl rfl <| pkT rfl <| h38 _ _ <| cndP rfl (fun c40 => ?_) (fun c40 => ?_)
   ·refine h37 _ _ <| seq fun _ h41 => seq fun _ h42 => seq fun _ h43 => mv <| mv <| stp (v := .int .i64 ((b.drop aq).length : Nat)) (o_lenR ((hu21'.upd hM35.upd)) rfl rfl) <| stp (v := .int .i64 (8 * ((b.drop aq).length : Nat))) (o_bin rfl rfl (v_mul64 (by omega))) <| bn rfl rfl <| h43 _ _ <| cndP rfl (fun c44 => ?_) (fun c44 => ?_)
    ·refine seq fun _ h45 => mv <| mv <| h45 _ _ <| ⟨(.tuple [.slice none 0 0, .int .i64 40].toArray), rfl, ⟨.slice none 0 0, [], by rw [huffD_none (by omega) hqs (wordsF_none (.inr (hD.fail (by omega) ((hd.neg (by omega)).out (.inr (by omega))))))], by rw [huffD_none (by omega) hqs (wordsF_none (.inr (hD.fail (by omega) ((hd.neg (by omega)).out (.inr (by omega))))))]; exact Sl.nil 1 5, hM35.keep (by simp)⟩⟩
    refine h42 _ _ <| seq fun _ h46 => ?_
    have hWb := (hd.neg (by omega)).bd
    have hbw := bitW_le (b.drop aq) q
    refine mv <| stp (v := .int .u32 (2 * W : Nat)) (o_bin rfl rfl (mul_u32 (by omega))) <| mv <| mv <| m_call (bit_ok _ (b.drop aq) q w35 ((hu21'.upd hM35.upd)) (by omega) (by omega)) rfl fun v47 w47 ⟨hr47, hu47⟩ => ?_
    have hM47 : Mem w [] w47 [rs9, rs15, r13_] := hM35.pure hu47
    subst hr47
    refine stp (v := .int .u32 (2 * W + bitW (b.drop aq) q : Nat)) (o_bin rfl rfl (add_u32 (by omega))) <| mv <| h46 _ _ <| seq fun _ h48 => mv <| stp (v := .int .i64 ((q : Nat) + 1)) (o_bin rfl rfl (v_add64 (by omega))) <| mv <| h48 _ _ <| mv <| mv <| mv <| m_call (find_okD _ L _ k (2 * W + bitW (b.drop aq) q) w47 (hs15.rd hM47 (i := 1) rfl) hcd (by omega) (by omega) (by omega)) rfl fun v49 w49 ⟨hr49, hu49⟩ => ?_
    have hM49 : Mem _ _ w49 [_, _, _] := hM47.pure hu49
    subst hr49
    refine mv <| h41 _ _ <| mv <| stp (v := .int .i64 ((k : Nat) + 1)) (o_bin rfl rfl (v_add64 (by omega))) <| mv <| h36 (2 * W + bitW (b.drop aq) q, k + 1, findV L k (2 * W + bitW (b.drop aq) q), q + 1) _ _ ⟨vi, vi, vi, vi, vi, rfl, rfl, rfl, hM49, DecS.step (by omega) (hd.neg (by omega)) (by omega) (by omega), by omega, by omega⟩ (by (try dsimp only); omega)
   refine h33 _ _ <| seq fun _ h50 => seq fun _ h51 => mv <| bn rfl rfl <| h51 _ _ <| cndP rfl (fun c52 => ?_) (fun c52 => ?_)
   ·refine seq fun _ h53 => mv <| mv <| h53 _ _ <| ⟨(.tuple [.slice none 0 0, .int .i64 40].toArray), rfl, ?_⟩
    exfalso
    omega
   refine h50 _ _ ?_
   have hsb := (hd.pos (by omega)).1
   refine mv <| mv <| stp (v := .int .u8 (s % 256)) (o_conv rfl (v_u8 _)) <| m_app1 (E := byteV) (q := s.toNat.toUInt8) hM35 (i := 2) rfl hy13_ rfl (by simp) (s_byte (by omega) hsb) (by omega) (by omega) fun v54 w54 r54 u54 (hs54 : SlE byteV 5 v54 (T ++ [s.toNat.toUInt8]) r54) (hM54 : Mem w [] w54 [rs9, rs15, r54]) => mv <| h27 (T ++ [s.toNat.toUInt8], q, v54, r54) _ _ ⟨vi, rfl, vi, rfl, rfl, hM54, hD.step (by omega) (hd.pos (by omega)).2, by first | exact hs54 | simpa using hs54⟩ (by dsimp only; rw [List.length_append, List.length_singleton]; omega)
  refine gx rfl <| gx rfl <| pkF rfl <| h38 _ _ <| cndF rfl <| h33 _ _ <| seq fun _ h55 => seq fun _ h56 => mv <| bn rfl rfl <| h56 _ _ <| cndP rfl (fun c57 => ?_) (fun c57 => ?_)
  ·refine seq fun _ h58 => mv <| mv <| h58 _ _ <| ⟨(.tuple [.slice none 0 0, .int .i64 40].toArray), rfl, ⟨.slice none 0 0, [], by rw [huffD_none (by omega) hqs (wordsF_none (.inr (hD.fail (by omega) ((hd.neg (by omega)).out (.inl (by omega))))))], by rw [huffD_none (by omega) hqs (wordsF_none (.inr (hD.fail (by omega) ((hd.neg (by omega)).out (.inl (by omega))))))]; exact Sl.nil 1 5, hM35.keep (by simp)⟩⟩
  refine h55 _ _ ?_
  have hsb := (hd.pos (by omega)).1
  refine mv <| mv <| stp (v := .int .u8 (s % 256)) (o_conv rfl (v_u8 _)) <| m_app1 (E := byteV) (q := s.toNat.toUInt8) hM35 (i := 2) rfl hy13_ rfl (by simp) (s_byte (by omega) hsb) (by omega) (by omega) fun v59 w59 r59 u59 (hs59 : SlE byteV 5 v59 (T ++ [s.toNat.toUInt8]) r59) (hM59 : Mem w [] w59 [rs9, rs15, r59]) => mv <| h27 (T ++ [s.toNat.toUInt8], q, v59, r59) _ _ ⟨vi, rfl, vi, rfl, rfl, hM59, hD.step (by omega) (hd.pos (by omega)).2, by first | exact hs59 | simpa using hs59⟩ (by dsimp only; rw [List.length_append, List.length_singleton]; omega)
 refine h24 _ _ <| seq fun _ h60 => seq fun _ h61 => ?_
 have hpp := hD.p
 refine mv <| stp (v := .int .i64 ((b.drop aq).length : Nat)) (o_lenR ((hu21'.upd hM26.upd)) rfl rfl) <| mv <| stp (v := .int .i64 ((p : Nat) + 7)) (o_bin rfl rfl (v_add64 (by omega))) <| stp (v := .int .i64 (((p : Nat) + 7) / 8)) (o_quo rfl rfl (by omega) (v_quo (by omega) (by omega) (by simp only [inK]; omega))) <| bneq rfl rfl <| h61 _ _ <| cndP rfl (fun c62 => ?_) (fun c62 => ?_)
 ·refine seq fun _ h63 => mv <| mv <| h63 _ _ <| ⟨(.tuple [.slice none 0 0, .int .i64 40].toArray), rfl, ⟨.slice none 0 0, [], by rw [huffD_none (by omega) hqs ((wordsF_some hcu (hD.done (by omega))).trans (if_neg (fun h => by have := h.1; omega)))], by rw [huffD_none (by omega) hqs ((wordsF_some hcu (hD.done (by omega))).trans (if_neg (fun h => by have := h.1; omega)))]; exact Sl.nil 1 5, hM26.keep (by simp)⟩⟩
 refine h60 _ _ <| seq fun _ h64 => lp (n := fun _ _ => False) (ι := (Nat)) (fun q f w' => f 12 = .int .i64 (q : Nat) ∧ f 11 = u21 ∧ f 13 = y13_ ∧ Mem w [] w' [rs9, rs15, r13_] ∧ (zeros (b.drop aq) p q) ∧ (p ≤ q ∧ q ≤ 8 * (b.drop aq).length)) (fun q => 8 * (b.drop aq).length - q) (p) ?_ ?_
 ·exact ⟨vi, rfl, rfl, hM26, zeros_none, by omega⟩
 rintro q f w65 ⟨e65_12, e65_11, e65_13, hM65, hz, hq⟩ K66 h66
 obtain ⟨frm, rfl⟩ := re3 e65_12 e65_11 e65_13
 refine seq fun _ h67 => seq fun _ h68 => mv <| mv <| stp (v := .int .i64 ((b.drop aq).length : Nat)) (o_lenR ((hu21'.upd hM65.upd)) rfl rfl) <| stp (v := .int .i64 (8 * ((b.drop aq).length : Nat))) (o_bin rfl rfl (v_mul64 (by omega))) <| bn rfl rfl <| h68 _ _ <| cndP rfl (fun c69 => ?_) (fun c69 => ?_)
 ·refine h67 _ _ <| seq fun _ h70 => seq fun _ h71 => mv <| mv <| m_call (bit_ok _ (b.drop aq) q w65 ((hu21'.upd hM65.upd)) (by omega) (by omega)) rfl fun v72 w72 ⟨hr72, hu72⟩ => ?_
  have hM72 : Mem w [] w72 [rs9, rs15, r13_] := hM65.pure hu72
  subst hr72
  refine bneq rfl rfl <| h71 _ _ <| cndP rfl (fun c73 => ?_) (fun c73 => ?_)
  ·refine seq fun _ h74 => mv <| mv <| h74 _ _ <| ⟨(.tuple [.slice none 0 0, .int .i64 40].toArray), rfl, ⟨.slice none 0 0, [], by rw [huffD_none (by omega) hqs ((wordsF_some hcu (hD.done (by omega))).trans (if_neg (fun h => by have := h.2 q (by omega) (by omega); omega)))], by rw [huffD_none (by omega) hqs ((wordsF_some hcu (hD.done (by omega))).trans (if_neg (fun h => by have := h.2 q (by omega) (by omega); omega)))]; exact Sl.nil 1 5, hM72.keep (by simp)⟩⟩
  refine h70 _ _ <| mv <| stp (v := .int .i64 ((q : Nat) + 1)) (o_bin rfl rfl (v_add64 (by omega))) <| mv <| h66 (q + 1) _ _ ⟨vi, rfl, rfl, hM72, zeros_succ hz (by omega), by omega⟩ (by (try dsimp only); omega)
 refine h64 _ _ <| seq fun _ h75 => mv <| mv <| mv <| h75 _ _ <| ⟨(.tuple [y13_, .int .i64 0].toArray), rfl, ?_⟩
 have hw := (wordsF_some hcu (hD.done (by omega))).trans (if_pos ⟨by omega, zeros_all hz (by omega)⟩)
 exact ⟨_, _, by rw [huffD_some (by omega) hqs hw], by rw [huffD_some (by omega) hqs hw]; exact hy13_, hM65.keep (by simp)⟩
end Go.Proofs.YtifnmbmijljhfaaGreat.E.Hf
namespace Go.Proofs.YtifnmbmijljhfaaGreat.E
open Go
theorem decF_len (b : List UInt8) (n : Int) : (Lz.decF b n).1.length ≤ 65536 := by
 by_cases h : n < 0 ∨ 65536 < n
 ·rw [Lz.decF_arg h]; simp
 cases hr : Lz.rdF b n.toNat with
 | none => rw [Lz.decF_none h hr]; simp
 | some ps =>
  have e := Lz.exp_rd (by omega) hr
  rw [Lz.decF_some h hr]
  show (Lz.textP ps).length ≤ _
  rw [Lz.textP_len]
  have := e.2.1
  omega
open Hf in
theorem huffD_len (b : List UInt8) (n : Int) : (huffD b n).1.length ≤ 65536 := by
 unfold huffD
 split
 ·simp
 split
 ·simp
 rename_i l a _
 split
 ·simp
 rename_i t h
 have hw : t.length ≤ 65536 := by
  unfold wordsF at h
  split at h
  ·cases h
  split at h
  ·cases h
  rename_i t' e hd
  split at h
  ·injection h with h; subst h
   have := decA_bd hd (by omega); omega
  cases h
 exact hw
def dcode (fl : Nat) (p : List UInt8) (n : Int) : List UInt8 × Int := if fl = 0 then (if (p.length : Int) = n then (p, 0) else ([], 60)) else if fl = 1 then Lz.decF p n else Hf.huffD p n
def textF (tile : List UInt8) (n : Int) : Option (List UInt8) := if (openF tile).2 = 0 ∧ 0 < (openF tile).1.length ∧ ((openF tile).1.getD ((openF tile).1.length - 1) 0).toNat < 3 ∧ n ≤ 64 * (((openF tile).1.length - 1 : Nat) : Int) ∧ (dcode ((openF tile).1.getD ((openF tile).1.length - 1) 0).toNat ((openF tile).1.take ((openF tile).1.length - 1)) n).2 = 0 then some (dcode ((openF tile).1.getD ((openF tile).1.length - 1) 0).toNat ((openF tile).1.take ((openF tile).1.length - 1)) n).1 else none
theorem txt {tile T : List UInt8} {n : Int} {fl : Nat} (h1 : (openF tile).2 = 0) (h2 : 0 < (openF tile).1.length) (hfl : fl = ((openF tile).1.getD ((openF tile).1.length - 1) 0).toNat) (h3 : fl < 3) (h4 : n ≤ 64 * (((openF tile).1.length - 1 : Nat) : Int)) (h5 : dcode fl ((openF tile).1.take ((openF tile).1.length - 1)) n = (T, 0)) : textF tile n = some T := by
 unfold textF
 rw [← hfl, h5, if_pos ⟨h1, h2, h3, h4, rfl⟩]
theorem txt_no {tile T : List UInt8} {n : Int} {fl : Nat} (hfl : fl = ((openF tile).1.getD ((openF tile).1.length - 1) 0).toNat) (h : ¬ (0 < (openF tile).1.length ∧ fl < 3 ∧ n ≤ 64 * (((openF tile).1.length - 1 : Nat) : Int) ∧ (dcode fl ((openF tile).1.take ((openF tile).1.length - 1)) n).2 = 0)) : ¬ textF tile n = some T := by
 unfold textF
 rw [← hfl, if_neg (fun q => h q.2)]
 exact fun q => by cases q
theorem dc_0 {p : List UInt8} {n : Int} (h : (p.length : Int) = n) : dcode 0 p n = (p, 0) := by unfold dcode; rw [if_pos rfl, if_pos h]
theorem dc_1 {p : List UInt8} {n : Int} (h : (Lz.decF p n).2 = 0) : dcode 1 p n = ((Lz.decF p n).1, 0) := by unfold dcode; rw [if_neg (by decide), if_pos rfl, ← h]
theorem dc_2 {p : List UInt8} {n : Int} (h : (Hf.huffD p n).2 = 0) : dcode 2 p n = ((Hf.huffD p n).1, 0) := by unfold dcode; rw [if_neg (by decide), if_neg (by decide), ← h]
theorem dn_0 {p : List UInt8} {n : Int} (h : ¬ (p.length : Int) = n) : ¬ (dcode 0 p n).2 = 0 := by unfold dcode; rw [if_pos rfl, if_neg h]; decide
theorem dn_1 {p : List UInt8} {n : Int} (h : ¬ (Lz.decF p n).2 = 0) : ¬ (dcode 1 p n).2 = 0 := by unfold dcode; rw [if_neg (by decide), if_pos rfl]; exact h
theorem dn_2 {p : List UInt8} {n : Int} (h : ¬ (Hf.huffD p n).2 = 0) : ¬ (dcode 2 p n).2 = 0 := by unfold dcode; rw [if_neg (by decide), if_neg (by decide)]; exact h
def OpnQ (tile : List UInt8) (n : Int) (r : Value) (rs : List Ent) : Prop :=
 (∃ e, r = .tuple [.pointer none, .int .i64 e].toArray ∧ ((e = 3 ∧ (n < 1 ∨ 65536 < n)) ∨ ((1 ≤ n ∧ n ≤ 65536) ∧ ¬ (openF tile).2 = 0 ∧ e = (openF tile).2) ∨ ((1 ≤ n ∧ n ≤ 65536) ∧ (openF tile).2 = 0 ∧ e = 60 ∧ ∀ t, textF tile n = some t → ∀ R es, ¬ Blk R es t))) ∨
 (∃ br R es t, r = .tuple [.pointer (some ⟨br, 0, none⟩), .int .i64 0].toArray ∧ (1 ≤ n ∧ n ≤ 65536) ∧ textF tile n = some t ∧ Blk R es t ∧ RdrS br R es rs ∧ ∀ R' es', Blk R' es' t → R' = R ∧ es' = es)
theorem BOpen_ok (x : Value) (tile : List UInt8) (n : Int) (w : World) (hx : RdE byteV w x tile) (hl : tile.length ≤ 140737488355328) (hn : inK .i64 n) : Calls Tryz.prog 18 [x, .int .i64 n].toArray w (Rt fun r w' => ∃ rs, OpnQ tile n r rs ∧ Mem w [] w' [rs]) := by
 have hM0 : Mem w [] w [] := Mem.nil w []
 simp only [inK] at hn
 refine calls_vc mixed Tryz.func18 rfl C18 (by simp [Tryz.ntmps18]) <| seq fun _ h1 => stp (v := .pointer none) (o_mv rfl) <| stp (v := .int .i64 0) (o_mv rfl) <| h1 _ _ <| seq fun _ h2 => seq fun _ h3 => stp (v := .int .i64 n) (o_mv rfl) <| stp (v := .bool (decide (n < 1))) (o_bin rfl rfl rfl) <| stp (v := .bool (decide (n < 1))) (o_mv rfl) <| splitP rfl (fun c4 => ?_) (fun c4 => ?_)
 ·refine gx rfl <| gx rfl <| stp (v := .bool true) (o_pickT rfl rfl) <| h3 _ _ <| cndT rfl <| seq fun _ h5 => stp (v := .pointer none) (o_mv rfl) <| stp (v := .int .i64 3) (o_mv rfl) <| h5 _ _ <| ⟨(.tuple [.pointer none, .int .i64 3].toArray), rfl, ⟨[], .inl ⟨_, rfl, .inl ⟨rfl, by omega⟩⟩, hM0.keep (by simp)⟩⟩
 refine stg rfl (v := .int .i64 n) (o_mv rfl) <| stg rfl (v := .bool (decide ((65536 : Int) < n))) (o_bin rfl rfl rfl) <| stp (v := .bool (decide ((65536 : Int) < n))) (o_pickF rfl rfl) <| h3 _ _ <| cndP rfl (fun c6 => ?_) (fun c6 => ?_)
 ·refine seq fun _ h7 => stp (v := .pointer none) (o_mv rfl) <| stp (v := .int .i64 3) (o_mv rfl) <| h7 _ _ <| ⟨(.tuple [.pointer none, .int .i64 3].toArray), rfl, ⟨[], .inl ⟨_, rfl, .inl ⟨rfl, by omega⟩⟩, hM0.keep (by simp)⟩⟩
 refine h2 _ _ <| seq fun _ h8 => stp (v := x) (o_mv rfl) <| m_call (Open_ok _ tile w (hx.upd hM0.upd) (by first | omega | (simp; done) | (simp; omega))) rfl fun v9 w9 ⟨v9_, rs9, hr9, hs9, hm9⟩ => ?_
 have hM9 : Mem w [] w9 [rs9] := hM0.add hm9
 subst hr9
 have hol9 := openF_len tile
 refine stp (v := .tuple [v9_, .int .i64 ((openF tile).2)].toArray) (o_mv rfl) <| stp (v := v9_) (o_ext rfl rfl) <| stp (v := .int .i64 ((openF tile).2)) (o_ext rfl rfl) <| stp (v := v9_) (o_mv rfl) <| stp (v := .int .i64 ((openF tile).2)) (o_mv rfl) <| h8 _ _ <| seq fun _ h10 => seq fun _ h11 => stp (v := .int .i64 ((openF tile).2)) (o_mv rfl) <| stp (v := .bool (decide (¬ ((openF tile).2) = 0))) (o_bin rfl rfl v_neq) <| h11 _ _ <| cndP rfl (fun c12 => ?_) (fun c12 => ?_)
 ·refine seq fun _ h13 => stp (v := .int .i64 ((openF tile).2)) (o_mv rfl) <| stp (v := .pointer none) (o_mv rfl) <| stp (v := .int .i64 ((openF tile).2)) (o_mv rfl) <| h13 _ _ <| ⟨(.tuple [.pointer none, .int .i64 ((openF tile).2)].toArray), rfl, ⟨[], .inl ⟨_, rfl, .inr (.inl ⟨by omega, by omega, rfl⟩)⟩, hM9.keep (by simp)⟩⟩
 refine h10 _ _ <| seq fun _ h14 => seq fun _ h15 => stp (v := v9_) (o_mv rfl) <| stp (v := .int .i64 (((openF tile).1).length : Nat)) (o_lenR (hs9.rd hM9 (i := 0) rfl) rfl rfl) <| stp (v := .bool (decide (((((openF tile).1).length : Nat) : Int) = 0))) (o_bin rfl rfl rfl) <| h15 _ _ <| cndP rfl (fun c16 => ?_) (fun c16 => ?_)
 ·refine seq fun _ h17 => stp (v := .pointer none) (o_mv rfl) <| stp (v := .int .i64 60) (o_mv rfl) <| h17 _ _ <| ⟨(.tuple [.pointer none, .int .i64 60].toArray), rfl, ⟨[], .inl ⟨_, rfl, .inr (.inr ⟨by omega, by omega, rfl, fun t ht => absurd ht (txt_no rfl (fun q => by have q1 := q.1; have q2 := q.2.1; have q3 := q.2.2.1; have q4 := q.2.2.2; omega))⟩)⟩, hM9.keep (by simp)⟩⟩
 refine h14 _ _ <| seq fun _ h18 => ?_
 intro wd e1 e2 e3 e4
 have hd := Upd.same e1 e2 e3 e4 []
 have hM19 := hM9.pure hd
 clear e1 e2 e3 e4
 refine ⟨none, ?_⟩
 show vd _ _ _ _ _ _ _
 refine dq (v := v9_) (o_mv rfl) <| dq (v := v9_) (o_mv rfl) <| dq (v := .int .i64 (((openF tile).1).length : Nat)) (o_lenR (hs9.rd hM19 (i := 0) rfl) rfl rfl) <| dq (v := .int .i64 ((((openF tile).1).length : Nat) - 1)) (o_bin rfl rfl (v_sub64 (by omega))) <| dqp (m_slcO ((openF tile).1.length - 1) (hs9) rfl (by omega) (⟨_, v_int (by omega)⟩) trivial fun u20 hu20 => ?_)
 show vd _ _ _ _ _ _ _
 refine dq (v := v9_) (o_mv rfl) <| dq (v := v9_) (o_mv rfl) <| dq (v := .int .i64 (((openF tile).1).length : Nat)) (o_lenR (hs9.rd hM19 (i := 0) rfl) rfl rfl) <| dq (v := .int .i64 ((((openF tile).1).length : Nat) - 1)) (o_bin rfl rfl (v_sub64 (by omega))) <| dqp (m_idxE 0 (j := ((openF tile).1.length - 1)) (hs9.rd hM19 (i := 0) rfl) rfl (v_int (by omega)) (by omega) fun b21 o21 hp21 => ?_)
 show vd _ _ _ _ _ _ _
 refine dq (v := u20) (o_mv rfl) <| dl (ld (v := byteV (((openF tile).1).getD ((openF tile).1.length - 1) 0)) rfl (hp21) <| ⟨rfl, ?_⟩)
 have htl : ((openF tile).1.take ((openF tile).1.length - 1)).length = (openF tile).1.length - 1 := by rw [List.length_take]; omega
 obtain ⟨fl, hfl⟩ : ∃ f, f = ((openF tile).1.getD ((openF tile).1.length - 1) 0).toNat := ⟨_, rfl⟩
 refine dq (v := .int .i64 (fl : Nat)) (o_conv rfl (by rw [hfl]; exact v_byteTo (by decide))) <| dq (v := .int .i64 (fl : Nat)) (o_mv rfl) <| h18 _ _ <| seq fun _ h22 => seq fun _ h23 => stp (v := .int .i64 (fl : Nat)) (o_mv rfl) <| m_call (codes_ok wd) rfl fun v24 w24 ⟨hr24, hu24⟩ => ?_
 have hM24 : Mem w [] w24 [rs9] := hM19.pure hu24
 subst hr24
 refine stp (v := .int .i64 3) (o_mv rfl) <| stp (v := .bool (decide ((3 : Int) ≤ ((fl : Nat) : Int)))) (o_bin rfl rfl rfl) <| stp (v := .bool (decide ((3 : Int) ≤ ((fl : Nat) : Int)))) (o_mv rfl) <| splitP rfl (fun c25 => ?_) (fun c25 => ?_)
 ·refine gx rfl <| gx rfl <| gx rfl <| gx rfl <| gx rfl <| stp (v := .bool true) (o_pickT rfl rfl) <| h23 _ _ <| cndT rfl <| seq fun _ h26 => stp (v := .pointer none) (o_mv rfl) <| stp (v := .int .i64 60) (o_mv rfl) <| h26 _ _ <| ⟨(.tuple [.pointer none, .int .i64 60].toArray), rfl, ⟨[], .inl ⟨_, rfl, .inr (.inr ⟨by omega, by omega, rfl, fun t ht => absurd ht (txt_no hfl (fun q => by have q1 := q.1; have q2 := q.2.1; have q3 := q.2.2.1; have q4 := q.2.2.2; omega))⟩)⟩, hM24.keep (by simp)⟩⟩
 refine stg rfl (v := u20) (o_mv rfl) <| stg rfl (v := .int .i64 ((((openF tile).1).take ((openF tile).1.length - 1)).length : Nat)) (o_lenR (hu20.rd hM24 (i := 0) rfl) rfl rfl) <| stg rfl (v := .int .i64 (64 * ((((openF tile).1).take ((openF tile).1.length - 1)).length : Nat))) (o_bin rfl rfl (v_mul64 (by omega))) <| stg rfl (v := .int .i64 n) (o_mv rfl) <| stg rfl (v := .bool (decide ((64 * ((((openF tile).1).take ((openF tile).1.length - 1)).length : Nat) : Int) < n))) (o_bin rfl rfl rfl) <| stp (v := .bool (decide ((64 * ((((openF tile).1).take ((openF tile).1.length - 1)).length : Nat) : Int) < n))) (o_pickF rfl rfl) <| h23 _ _ <| cndP rfl (fun c27 => ?_) (fun c27 => ?_)
 ·refine seq fun _ h28 => stp (v := .pointer none) (o_mv rfl) <| stp (v := .int .i64 60) (o_mv rfl) <| h28 _ _ <| ⟨(.tuple [.pointer none, .int .i64 60].toArray), rfl, ⟨[], .inl ⟨_, rfl, .inr (.inr ⟨by omega, by omega, rfl, fun t ht => absurd ht (txt_no hfl (fun q => by have q1 := q.1; have q2 := q.2.1; have q3 := q.2.2.1; have q4 := q.2.2.2; omega))⟩)⟩, hM24.keep (by simp)⟩⟩
 refine h22 _ _ <| seq fun _ h29 => m_call (codes_ok w24) rfl fun v30 w30 ⟨hr30, hu30⟩ => ?_
 have hM30 : Mem w [] w30 [rs9] := hM24.pure hu30
 subst hr30
 rcases (by omega : (fl = 0 ∧ (((openF tile).1.take ((openF tile).1.length - 1)).length : Int) = n) ∨ (fl = 0 ∧ ¬ (((openF tile).1.take ((openF tile).1.length - 1)).length : Int) = n) ∨ fl = 1 ∨ fl = 2) with ⟨rfl, hq⟩ | ⟨rfl, hq⟩ | rfl | rfl
 ·refine stp (v := .int .i64 (0 : Nat)) (o_mv rfl) <| stp (v := .agg ([.func (.func 51) [].toArray [].toArray, .func (.func 52) [].toArray [].toArray] : List Value).toArray) (o_idxv rfl rfl (by omega) rfl) <| stp (v := .func (.func 52) [].toArray [].toArray) (o_fld rfl rfl) <| stp (v := u20) (o_mv rfl) <| stp (v := .int .i64 n) (o_mv rfl) <| m_callv rfl (by kernel_rfl) (code2_ok u20 ((openF tile).1.take ((openF tile).1.length - 1)) n w30 (hu20.rd hM30 (i := 0) rfl) (by first | omega | (simp; done) | (simp; omega))) rfl fun v31 w31 ⟨hr31, hu31⟩ => ?_
  have hM31 : Mem w [] w31 [rs9] := hM30.pure hu31
  rw [if_pos hq, if_pos hq] at hr31
  subst hr31
  refine stp (v := .tuple [u20, .int .i64 0].toArray) (o_mv rfl) <| stp (v := u20) (o_ext rfl rfl) <| stp (v := .int .i64 0) (o_ext rfl rfl) <| stp (v := u20) (o_mv rfl) <| stp (v := .int .i64 0) (o_mv rfl) <| h29 _ _ <| seq fun _ h32 => seq fun _ h33 => stp (v := .int .i64 0) (o_mv rfl) <| stp (v := .bool false) (o_bin rfl rfl v_neF) <| h33 _ _ <| cndF rfl <| h32 _ _ <| seq fun _ h34 => ?_
  refine seq fun _ h35 => stp (v := u20) (o_mv rfl) <| m_call (parsed_ok _ (((openF tile).1).take ((openF tile).1.length - 1)) w31 (hu20.rd hM31 (i := 0) rfl) (by first | omega | (rw [htl]; omega))) rfl fun v36 w36 ⟨rsq, hmq, hpq⟩ => ?_
  have hM36 : Mem w [] w36 [rs9, rsq] := hM31.add hmq
  refine stp (v := v36) (o_mv rfl) <| h35 _ _ <| seq fun _ h37 => ?_
  rcases hpq with ⟨rfl, hno⟩ | ⟨br, R, es, rfl, hblk, hrd, hun⟩
  ·refine stp (v := .pointer none) (o_mv rfl) <| stp (v := .bool false) (o_isnil rfl rfl) <| h37 _ _ <| cndF rfl <| h34 _ _ <| seq fun _ h38 => stp (v := .pointer none) (o_mv rfl) <| stp (v := .int .i64 60) (o_mv rfl) <| h38 _ _ <| ⟨(.tuple [.pointer none, .int .i64 60].toArray), rfl, ⟨[], .inl ⟨_, rfl, .inr (.inr ⟨by omega, by omega, rfl, fun t ht => by rw [(txt (by omega) (by omega) hfl (by omega) (by omega) (dc_0 hq))] at ht; cases ht; exact hno⟩)⟩, hM36.keep (by simp)⟩⟩
  refine stp (v := .pointer (some ⟨br, 0, none⟩)) (o_mv rfl) <| stp (v := .bool true) (o_isnil rfl rfl) <| h37 _ _ <| cndT rfl <| seq fun _ h39 => stp (v := .pointer (some ⟨br, 0, none⟩)) (o_mv rfl) <| stp (v := .pointer (some ⟨br, 0, none⟩)) (o_mv rfl) <| stp (v := .int .i64 0) (o_mv rfl) <| h39 _ _ <| ⟨(.tuple [.pointer (some ⟨br, 0, none⟩), .int .i64 0].toArray), rfl, ⟨_, .inr ⟨br, R, es, _, rfl, by omega, (txt (by omega) (by omega) hfl (by omega) (by omega) (dc_0 hq)), hblk, hrd, hun⟩, hM36.keep (by simp; repeat first | exact List.Sublist.refl _ | refine List.Sublist.trans ?_ (List.sublist_append_right _ _))⟩⟩
 ·refine stp (v := .int .i64 (0 : Nat)) (o_mv rfl) <| stp (v := .agg ([.func (.func 51) [].toArray [].toArray, .func (.func 52) [].toArray [].toArray] : List Value).toArray) (o_idxv rfl rfl (by omega) rfl) <| stp (v := .func (.func 52) [].toArray [].toArray) (o_fld rfl rfl) <| stp (v := u20) (o_mv rfl) <| stp (v := .int .i64 n) (o_mv rfl) <| m_callv rfl (by kernel_rfl) (code2_ok u20 ((openF tile).1.take ((openF tile).1.length - 1)) n w30 (hu20.rd hM30 (i := 0) rfl) (by first | omega | (simp; done) | (simp; omega))) rfl fun v40 w40 ⟨hr40, hu40⟩ => ?_
  have hM40 : Mem w [] w40 [rs9] := hM30.pure hu40
  rw [if_neg hq, if_neg hq] at hr40
  subst hr40
  refine stp (v := .tuple [.slice none 0 0, .int .i64 60].toArray) (o_mv rfl) <| stp (v := .slice none 0 0) (o_ext rfl rfl) <| stp (v := .int .i64 60) (o_ext rfl rfl) <| stp (v := .slice none 0 0) (o_mv rfl) <| stp (v := .int .i64 60) (o_mv rfl) <| h29 _ _ <| seq fun _ h41 => seq fun _ h42 => stp (v := .int .i64 60) (o_mv rfl) <| stp (v := .bool (decide (¬ (60 : Int) = 0))) (o_bin rfl rfl v_neq) <| h42 _ _ <| cndP rfl (fun c43 => ?_) (fun c43 => (c43 (by omega)).elim)
  refine seq fun _ h44 => stp (v := .pointer none) (o_mv rfl) <| stp (v := .int .i64 60) (o_mv rfl) <| h44 _ _ <| ⟨(.tuple [.pointer none, .int .i64 60].toArray), rfl, ⟨[], .inl ⟨_, rfl, .inr (.inr ⟨by omega, by omega, rfl, fun t ht => absurd ht (txt_no hfl (fun q => by have q1 := q.1; have q2 := q.2.1; have q3 := q.2.2.1; have q4 := q.2.2.2; exact dn_0 hq q4))⟩)⟩, hM40.keep (by simp)⟩⟩
 ·refine stp (v := .int .i64 (1 : Nat)) (o_mv rfl) <| stp (v := .agg ([.func (.func 53) [].toArray [].toArray, .func (.func 54) [].toArray [].toArray] : List Value).toArray) (o_idxv rfl rfl (by omega) rfl) <| stp (v := .func (.func 54) [].toArray [].toArray) (o_fld rfl rfl) <| stp (v := u20) (o_mv rfl) <| stp (v := .int .i64 n) (o_mv rfl) <| m_callv rfl (by kernel_rfl) (Lz.Decode_ok _ ((openF tile).1.take ((openF tile).1.length - 1)) n w30 (hu20.rd hM30 (i := 0) rfl) (by first | omega | (simp; done) | (simp; omega)) (by simp only [inK]; omega)) rfl fun v45 w45 ⟨y45, rs45, hr45, hs45, hm45⟩ => ?_
  have hM45 : Mem w [] w45 [rs9, rs45] := hM30.add hm45
  subst hr45
  have hcl45 := decF_len ((openF tile).1.take ((openF tile).1.length - 1)) n
  refine stp (v := .tuple [y45, .int .i64 ((Lz.decF ((openF tile).1.take ((openF tile).1.length - 1)) n).2)].toArray) (o_mv rfl) <| stp (v := y45) (o_ext rfl rfl) <| stp (v := .int .i64 ((Lz.decF ((openF tile).1.take ((openF tile).1.length - 1)) n).2)) (o_ext rfl rfl) <| stp (v := y45) (o_mv rfl) <| stp (v := .int .i64 ((Lz.decF ((openF tile).1.take ((openF tile).1.length - 1)) n).2)) (o_mv rfl) <| h29 _ _ <| seq fun _ h46 => seq fun _ h47 => stp (v := .int .i64 ((Lz.decF ((openF tile).1.take ((openF tile).1.length - 1)) n).2)) (o_mv rfl) <| stp (v := .bool (decide (¬ ((Lz.decF ((openF tile).1.take ((openF tile).1.length - 1)) n).2) = 0))) (o_bin rfl rfl v_neq) <| h47 _ _ <| cndP rfl (fun c48 => ?_) (fun c48 => ?_)
  ·refine seq fun _ h49 => stp (v := .pointer none) (o_mv rfl) <| stp (v := .int .i64 60) (o_mv rfl) <| h49 _ _ <| ⟨(.tuple [.pointer none, .int .i64 60].toArray), rfl, ⟨[], .inl ⟨_, rfl, .inr (.inr ⟨by omega, by omega, rfl, fun t ht => absurd ht (txt_no hfl (fun q => by have q1 := q.1; have q2 := q.2.1; have q3 := q.2.2.1; have q4 := q.2.2.2; exact dn_1 (by omega) q4))⟩)⟩, hM45.keep (by simp)⟩⟩
  refine h46 _ _ <| seq fun _ h50 => seq fun _ h51 => stp (v := y45) (o_mv rfl) <| m_call (parsed_ok _ ((Lz.decF ((openF tile).1.take ((openF tile).1.length - 1)) n).1) w45 (hs45.rd hM45 (i := 1) rfl) (by first | omega | (rw [htl]; omega))) rfl fun v52 w52 ⟨rsq, hmq, hpq⟩ => ?_
  have hM52 : Mem w [] w52 [rs9, rs45, rsq] := hM45.add hmq
  refine stp (v := v52) (o_mv rfl) <| h51 _ _ <| seq fun _ h53 => ?_
  rcases hpq with ⟨rfl, hno⟩ | ⟨br, R, es, rfl, hblk, hrd, hun⟩
  ·refine stp (v := .pointer none) (o_mv rfl) <| stp (v := .bool false) (o_isnil rfl rfl) <| h53 _ _ <| cndF rfl <| h50 _ _ <| seq fun _ h54 => stp (v := .pointer none) (o_mv rfl) <| stp (v := .int .i64 60) (o_mv rfl) <| h54 _ _ <| ⟨(.tuple [.pointer none, .int .i64 60].toArray), rfl, ⟨[], .inl ⟨_, rfl, .inr (.inr ⟨by omega, by omega, rfl, fun t ht => by rw [(txt (by omega) (by omega) hfl (by omega) (by omega) (dc_1 (by omega)))] at ht; cases ht; exact hno⟩)⟩, hM52.keep (by simp)⟩⟩
  refine stp (v := .pointer (some ⟨br, 0, none⟩)) (o_mv rfl) <| stp (v := .bool true) (o_isnil rfl rfl) <| h53 _ _ <| cndT rfl <| seq fun _ h55 => stp (v := .pointer (some ⟨br, 0, none⟩)) (o_mv rfl) <| stp (v := .pointer (some ⟨br, 0, none⟩)) (o_mv rfl) <| stp (v := .int .i64 0) (o_mv rfl) <| h55 _ _ <| ⟨(.tuple [.pointer (some ⟨br, 0, none⟩), .int .i64 0].toArray), rfl, ⟨_, .inr ⟨br, R, es, _, rfl, by omega, (txt (by omega) (by omega) hfl (by omega) (by omega) (dc_1 (by omega))), hblk, hrd, hun⟩, hM52.keep (by simp; repeat first | exact List.Sublist.refl _ | refine List.Sublist.trans ?_ (List.sublist_append_right _ _))⟩⟩
 refine stp (v := .int .i64 (2 : Nat)) (o_mv rfl) <| stp (v := .agg ([.func (.func 55) [].toArray [].toArray, .func (.func 56) [].toArray [].toArray] : List Value).toArray) (o_idxv rfl rfl (by omega) rfl) <| stp (v := .func (.func 56) [].toArray [].toArray) (o_fld rfl rfl) <| stp (v := u20) (o_mv rfl) <| stp (v := .int .i64 n) (o_mv rfl) <| m_callv rfl (by kernel_rfl) (Hf.Decode_ok _ ((openF tile).1.take ((openF tile).1.length - 1)) n w30 (hu20.rd hM30 (i := 0) rfl) (by first | omega | (simp; done) | (simp; omega)) (by simp only [inK]; omega)) rfl fun v56 w56 ⟨y56, rs56, hr56, hs56, hm56⟩ => ?_
 have hM56 : Mem w [] w56 [rs9, rs56] := hM30.add hm56
 subst hr56
 have hcl56 := huffD_len ((openF tile).1.take ((openF tile).1.length - 1)) n
 refine stp (v := .tuple [y56, .int .i64 ((Hf.huffD ((openF tile).1.take ((openF tile).1.length - 1)) n).2)].toArray) (o_mv rfl) <| stp (v := y56) (o_ext rfl rfl) <| stp (v := .int .i64 ((Hf.huffD ((openF tile).1.take ((openF tile).1.length - 1)) n).2)) (o_ext rfl rfl) <| stp (v := y56) (o_mv rfl) <| stp (v := .int .i64 ((Hf.huffD ((openF tile).1.take ((openF tile).1.length - 1)) n).2)) (o_mv rfl) <| h29 _ _ <| seq fun _ h57 => seq fun _ h58 => stp (v := .int .i64 ((Hf.huffD ((openF tile).1.take ((openF tile).1.length - 1)) n).2)) (o_mv rfl) <| stp (v := .bool (decide (¬ ((Hf.huffD ((openF tile).1.take ((openF tile).1.length - 1)) n).2) = 0))) (o_bin rfl rfl v_neq) <| h58 _ _ <| cndP rfl (fun c59 => ?_) (fun c59 => ?_)
 ·refine seq fun _ h60 => stp (v := .pointer none) (o_mv rfl) <| stp (v := .int .i64 60) (o_mv rfl) <| h60 _ _ <| ⟨(.tuple [.pointer none, .int .i64 60].toArray), rfl, ⟨[], .inl ⟨_, rfl, .inr (.inr ⟨by omega, by omega, rfl, fun t ht => absurd ht (txt_no hfl (fun q => by have q1 := q.1; have q2 := q.2.1; have q3 := q.2.2.1; have q4 := q.2.2.2; exact dn_2 (by omega) q4))⟩)⟩, hM56.keep (by simp)⟩⟩
 refine h57 _ _ <| seq fun _ h61 => seq fun _ h62 => stp (v := y56) (o_mv rfl) <| m_call (parsed_ok _ ((Hf.huffD ((openF tile).1.take ((openF tile).1.length - 1)) n).1) w56 (hs56.rd hM56 (i := 1) rfl) (by first | omega | (rw [htl]; omega))) rfl fun v63 w63 ⟨rsq, hmq, hpq⟩ => ?_
 have hM63 : Mem w [] w63 [rs9, rs56, rsq] := hM56.add hmq
 refine stp (v := v63) (o_mv rfl) <| h62 _ _ <| seq fun _ h64 => ?_
 rcases hpq with ⟨rfl, hno⟩ | ⟨br, R, es, rfl, hblk, hrd, hun⟩
 ·refine stp (v := .pointer none) (o_mv rfl) <| stp (v := .bool false) (o_isnil rfl rfl) <| h64 _ _ <| cndF rfl <| h61 _ _ <| seq fun _ h65 => stp (v := .pointer none) (o_mv rfl) <| stp (v := .int .i64 60) (o_mv rfl) <| h65 _ _ <| ⟨(.tuple [.pointer none, .int .i64 60].toArray), rfl, ⟨[], .inl ⟨_, rfl, .inr (.inr ⟨by omega, by omega, rfl, fun t ht => by rw [(txt (by omega) (by omega) hfl (by omega) (by omega) (dc_2 (by omega)))] at ht; cases ht; exact hno⟩)⟩, hM63.keep (by simp)⟩⟩
 refine stp (v := .pointer (some ⟨br, 0, none⟩)) (o_mv rfl) <| stp (v := .bool true) (o_isnil rfl rfl) <| h64 _ _ <| cndT rfl <| seq fun _ h66 => stp (v := .pointer (some ⟨br, 0, none⟩)) (o_mv rfl) <| stp (v := .pointer (some ⟨br, 0, none⟩)) (o_mv rfl) <| stp (v := .int .i64 0) (o_mv rfl) <| h66 _ _ <| ⟨(.tuple [.pointer (some ⟨br, 0, none⟩), .int .i64 0].toArray), rfl, ⟨_, .inr ⟨br, R, es, _, rfl, by omega, (txt (by omega) (by omega) hfl (by omega) (by omega) (dc_2 (by omega))), hblk, hrd, hun⟩, hM63.keep (by simp; repeat first | exact List.Sublist.refl _ | refine List.Sublist.trans ?_ (List.sublist_append_right _ _))⟩⟩
end Go.Proofs.YtifnmbmijljhfaaGreat.E
namespace Go.Proofs.YtifnmbmijljhfaaGreat.E
open Go
theorem par_no {b : List UInt8} {Rq nq E : Nat} (hl : b.length ≤ 65536) (hE : E = b.length - 8) (hRe : Rq = word ((b.take (E + 4)).drop E)) (hne : nq = word (b.drop (E + 4))) (h : entF (b.take E) nq = none) : ∀ R es, ¬ Blk R es b := fun R es hB => by
 have hh := blk_here hB hl hE hRe hne
 have := ent_all (t := b) (b := b.take E) hB (by rw [hE])
 rw [hh.2.1, h] at this
 cases this
theorem par_same {b : List UInt8} {Rq nq E a : Nat} {es : List Pr2} (hl : b.length ≤ 65536) (hE : E = b.length - 8) (hRe : Rq = word ((b.take (E + 4)).drop E)) (hne : nq = word (b.drop (E + 4))) (h : entF (b.take E) nq = some (es, a)) {R : Nat} {es2 : List Pr2} (hB : Blk R es2 b) : R = Rq ∧ es2 = es := by
 have hh := blk_here hB hl hE hRe hne
 have q := ent_all (t := b) (b := b.take E) hB (by rw [hE])
 rw [hh.2.1, h] at q
 refine ⟨hh.1, ?_⟩
 injection q with q
 exact (congrArg Prod.fst q).symm
theorem par_yes {b : List UInt8} {Rq : Nat} {es : List Pr2} (hR : 1 ≤ Rq ∧ Rq ≤ 64) (h0 : 0 < es.length) (hs : shortE es) (ho : ∀ j, 0 < j → j < es.length → 0 ≤ cmp (es.getD j ([], [])).1 (es.getD (j - 1) ([], [])).1) (hq : rawB Rq (bldF Rq es).raw (bldF Rq es).st es.length = b) : Blk Rq es b :=
 ⟨hR, h0, fun i hi => ⟨(hs i).1, (hs i).2, fun q => ho i q hi⟩, hq.symm⟩
theorem refCompare_ok (a b : List UInt8) (w : World) (hla : a.length ≤ 1152921504606846976) (hlb : b.length ≤ 1152921504606846976) : Calls Tryz.prog 25 [.string (str a), .string (str b)].toArray w (Rt fun r w' => r = .int .i64 (cmp a b) ∧ Upd [] w w') := by
 have hM0 : Mem w [] w [] := Mem.nil w []
 obtain ⟨n1, n2, n3, n4⟩ := common_le a b
 refine calls_vc mixed Tryz.func25 rfl C25 (by simp [Tryz.ntmps25]) <| seq fun _ h1 => stp (v := .int .i64 0) (o_mv rfl) <| h1 _ _ <| seq fun _ h2 => stp (v := .string (str a)) (o_mv rfl) <| stp (v := .string (str b)) (o_mv rfl) <| m_call (refCommon_ok a b w (by first | omega | (simp; done) | (simp; omega)) (by first | omega | (simp; done) | (simp; omega))) rfl fun v3 w3 ⟨hr3, hu3⟩ => ?_
 have hM3 : Mem w [] w3 [] := hM0.pure hu3
 subst hr3
 refine stp (v := .int .i64 (common a b : Nat)) (o_mv rfl) <| h2 _ _ <| seq fun _ h4 => seq fun _ h5 => stp (v := .int .i64 (common a b : Nat)) (o_mv rfl) <| stp (v := .string (str a)) (o_mv rfl) <| stp (v := .int .i64 (a.length : Nat)) (o_lens rfl rfl) <| stp (v := .bool (decide (((common a b : Nat) : Int) = (a.length : Nat)))) (o_bin rfl rfl rfl) <| stp (v := .bool (decide (((common a b : Nat) : Int) = (a.length : Nat)))) (o_mv rfl) <| splitP rfl (fun c6 => ?_) (fun c6 => ?_)
 ·refine stg rfl (v := .int .i64 (common a b : Nat)) (o_mv rfl) <| stg rfl (v := .string (str b)) (o_mv rfl) <| stg rfl (v := .int .i64 (b.length : Nat)) (o_lens rfl rfl) <| stg rfl (v := .bool (decide (((common a b : Nat) : Int) = (b.length : Nat)))) (o_bin rfl rfl rfl) <| stp (v := .bool (decide (((common a b : Nat) : Int) = (b.length : Nat)))) (o_pickT rfl rfl) <| stp (v := .bool (decide (((common a b : Nat) : Int) = (b.length : Nat)))) (o_mv rfl) <| h5 _ _ <| cndP rfl (fun c7 => ?_) (fun c7 => ?_)
  ·refine seq fun _ h8 => stp (v := .int .i64 0) (o_mv rfl) <| h8 _ _ <| ⟨(.int .i64 0), rfl, ⟨by rw [cmp_same n3 (by omega) (by omega)], hM3.upd⟩⟩
  refine seq fun _ h9 => stp (v := .int .i64 (common a b : Nat)) (o_mv rfl) <| stp (v := .string (str a)) (o_mv rfl) <| stp (v := .int .i64 (a.length : Nat)) (o_lens rfl rfl) <| stp (v := .bool (decide (((common a b : Nat) : Int) = (a.length : Nat)))) (o_bin rfl rfl rfl) <| stp (v := .bool (decide (((common a b : Nat) : Int) = (a.length : Nat)))) (o_mv rfl) <| h9 _ _ <| cndP rfl (fun c10 => ?_) (fun c10 => (c10 (by omega)).elim)
  refine seq fun _ h11 => stp (v := .int .i64 (-1)) (o_mv rfl) <| h11 _ _ <| ⟨(.int .i64 (-1)), rfl, ⟨by rw [cmp_short n3 (by omega) (by omega)], hM3.upd⟩⟩
 refine gx rfl <| gx rfl <| gx rfl <| gx rfl <| stp (v := .bool false) (o_pickF rfl rfl) <| stp (v := .bool false) (o_mv rfl) <| h5 _ _ <| cndF rfl <| seq fun _ h12 => stp (v := .int .i64 (common a b : Nat)) (o_mv rfl) <| stp (v := .string (str a)) (o_mv rfl) <| stp (v := .int .i64 (a.length : Nat)) (o_lens rfl rfl) <| stp (v := .bool (decide (((common a b : Nat) : Int) = (a.length : Nat)))) (o_bin rfl rfl rfl) <| stp (v := .bool (decide (((common a b : Nat) : Int) = (a.length : Nat)))) (o_mv rfl) <| h12 _ _ <| cndP rfl (fun c13 => absurd c13 (by omega)) (fun c13 => seq fun _ h14 => stp (v := .int .i64 (common a b : Nat)) (o_mv rfl) <| stp (v := .string (str b)) (o_mv rfl) <| stp (v := .int .i64 (b.length : Nat)) (o_lens rfl rfl) <| stp (v := .bool (decide (((common a b : Nat) : Int) = (b.length : Nat)))) (o_bin rfl rfl rfl) <| stp (v := .bool (decide (((common a b : Nat) : Int) = (b.length : Nat)))) (o_mv rfl) <| h14 _ _ <| cndP rfl (fun c15 => ?_) (fun c15 => ?_))
 ·refine seq fun _ h16 => stp (v := .int .i64 1) (o_mv rfl) <| h16 _ _ <| ⟨(.int .i64 1), rfl, ⟨by rw [cmp_long n3 (by omega) (by omega)], hM3.upd⟩⟩
 refine seq fun _ h17 => ?_
 intro wd e1 e2 e3 e4
 have hd := Upd.same e1 e2 e3 e4 []
 have hM18 := hM3.pure hd
 clear e1 e2 e3 e4
 refine ⟨none, ?_⟩
 show vd _ _ _ _ _ _ _
 refine dq (v := .string (str a)) (o_mv rfl) <| dq (v := .int .i64 (common a b : Nat)) (o_mv rfl) <| dq (v := byteV (a.getD (common a b) 0)) (o_idxs rfl rfl (by omega) rfl) <| dq (v := .string (str b)) (o_mv rfl) <| dq (v := .int .i64 (common a b : Nat)) (o_mv rfl) <| dq (v := byteV (b.getD (common a b) 0)) (o_idxs rfl rfl (by omega) rfl) <| dq (v := .bool (decide (((a.getD (common a b) 0).toNat : Int) < ((b.getD (common a b) 0).toNat : Int)))) (o_bin rfl rfl rfl) <| dq (v := .bool (decide (((a.getD (common a b) 0).toNat : Int) < ((b.getD (common a b) 0).toNat : Int)))) (o_mv rfl) <| h17 _ _ <| cndP rfl (fun c19 => ?_) (fun c19 => ?_)
 ·refine seq fun _ h20 => stp (v := .int .i64 (-1)) (o_mv rfl) <| h20 _ _ <| ⟨(.int .i64 (-1)), rfl, ⟨by rw [cmp_lt n3 (by omega) (by omega) (by omega)], hM18.upd⟩⟩
 refine h4 _ _ <| seq fun _ h21 => stp (v := .int .i64 1) (o_mv rfl) <| h21 _ _ <| ⟨(.int .i64 1), rfl, ⟨by rw [cmp_gt n3 (by omega) (by omega) (gt_of n4 (by omega) (by omega) (by omega))], hM18.upd⟩⟩
theorem parse_ok (x : Value) (b : List UInt8) (w : World) (hx : RdE byteV w x b) (hl : b.length ≤ 65536) : Calls Tryz.prog 39 [x].toArray w (Rt fun r w' => ∃ v ok es re, r = .tuple [v, .bool ok].toArray ∧ (ok = true → (∃ R, Blk R es b) ∧ SlS pairC 2 35 v es re) ∧ (ok = false → ∀ R es, ¬ Blk R es b) ∧ Mem w [] w' [re]) := by
 have hM0 : Mem w [] w [] := Mem.nil w []
 obtain ⟨E, hE⟩ : ∃ E, E = b.length - 8 := ⟨_, rfl⟩
 refine calls_vc mixed Tryz.func39 rfl C39 (by simp [Tryz.ntmps39]) <| seq fun _ h1 => stp (v := .slice none 0 0) (o_mv rfl) <| stp (v := .bool false) (o_mv rfl) <| h1 _ _ <| seq fun _ h2 => seq fun _ h3 => stp (v := x) (o_mv rfl) <| stp (v := .int .i64 (b.length : Nat)) (o_lenR (hx.upd hM0.upd) rfl rfl) <| stp (v := .bool (decide (((b.length : Nat) : Int) < 8))) (o_bin rfl rfl rfl) <| h3 _ _ <| cndP rfl (fun c4 => ?_) (fun c4 => ?_)
 ·refine seq fun _ h5 => stp (v := .slice none 0 0) (o_mv rfl) <| stp (v := .bool false) (o_mv rfl) <| h5 _ _ <| ⟨(.tuple [.slice none 0 0, .bool false].toArray), rfl, ⟨_, false, [], [], rfl, fun h => absurd h (by decide), fun _ => fun R es2 hB => by have := blk_len hB; omega, hM0.keep (by simp)⟩⟩
 refine h2 _ _ <| seq fun _ h6 => stp (v := x) (o_mv rfl) <| stp (v := x) (o_mv rfl) <| stp (v := .int .i64 (b.length : Nat)) (o_lenR (hx.upd hM0.upd) rfl rfl) <| stp (v := .int .i64 ((b.length : Nat) - 8)) (o_bin rfl rfl (v_sub64 (by omega))) <| stp (v := x) (o_mv rfl) <| stp (v := .int .i64 (b.length : Nat)) (o_lenR (hx.upd hM0.upd) rfl rfl) <| stp (v := .int .i64 ((b.length : Nat) - 4)) (o_bin rfl rfl (v_sub64 (by omega))) <| m_slcE E (E + 4) (hx) rfl (by omega) (by omega) ⟨_, v_int (by omega)⟩ ⟨_, v_int (by omega)⟩ fun u7 hu7 => m_call (refWord_ok _ ((b.take (E + 4)).drop E) w ((hu7.upd hM0.upd)) (by first | omega | (simp; done) | (simp; omega))) rfl fun v8 w8 ⟨hr8, hu8⟩ => ?_
 have hM8 : Mem w [] w8 [] := hM0.pure hu8
 subst hr8
 refine stp (v := .int .u64 (word ((b.take (E + 4)).drop E) : Nat)) (o_mv rfl) <| h6 _ _ <| seq fun _ h9 => stp (v := x) (o_mv rfl) <| stp (v := x) (o_mv rfl) <| stp (v := .int .i64 (b.length : Nat)) (o_lenR (hx.upd hM8.upd) rfl rfl) <| stp (v := .int .i64 ((b.length : Nat) - 4)) (o_bin rfl rfl (v_sub64 (by omega))) <| m_slcE (E + 4) b.length (hx) rfl (by omega) (by omega) rfl ⟨_, v_int (by omega)⟩ fun u10 hu10 => ?_
 have hu10' : RdE byteV w u10 (b.drop (E + 4)) := by
  have e : (b.take b.length).drop (E + 4) = (b.drop (E + 4)) := by rw [List.take_of_length_le (Nat.le_refl _)]
  rw [e] at hu10; exact hu10
 refine m_call (refWord_ok _ (b.drop (E + 4)) w8 ((hu10'.upd hM8.upd)) (by first | omega | (simp; done) | (simp; omega))) rfl fun v11 w11 ⟨hr11, hu11⟩ => ?_
 have hM11 : Mem w [] w11 [] := hM8.pure hu11
 subst hr11
 refine stp (v := .int .u64 (word (b.drop (E + 4)) : Nat)) (o_mv rfl) <| h9 _ _ <| seq fun _ h12 => seq fun _ h13 => ?_
 obtain ⟨Rq, hRe⟩ : ∃ R, R = word ((b.take (E + 4)).drop E) := ⟨_, rfl⟩
 rw [← hRe]
 have hReb : Rq < 4294967296 := by rw [hRe]; exact word_lt4 (by first | (rw [List.length_drop, List.length_take]; omega) | (rw [List.length_drop]; omega))
 obtain ⟨nq, hne⟩ : ∃ R, R = word (b.drop (E + 4)) := ⟨_, rfl⟩
 rw [← hne]
 have hneb : nq < 4294967296 := by rw [hne]; exact word_lt4 (by first | (rw [List.length_drop, List.length_take]; omega) | (rw [List.length_drop]; omega))
 refine stp (v := .int .u64 (Rq : Nat)) (o_mv rfl) <| stp (v := .bool (decide (((Rq : Nat) : Int) < 1))) (o_bin rfl rfl rfl) <| stp (v := .bool (decide (((Rq : Nat) : Int) < 1))) (o_mv rfl) <| splitP rfl (fun c14 => ?_) (fun c14 => ?_)
 ·refine gx rfl <| gx rfl <| stp (v := .bool true) (o_pickT rfl rfl) <| stp (v := .bool true) (o_mv rfl) <| splitT rfl <| gx rfl <| gx rfl <| stp (v := .bool true) (o_pickT rfl rfl) <| stp (v := .bool true) (o_mv rfl) <| splitT rfl <| gx rfl <| gx rfl <| gx rfl <| gx rfl ?_
  refine gx rfl <| stp (v := .bool true) (o_pickT rfl rfl) <| h13 _ _ <| cndT rfl <| seq fun _ h15 => stp (v := .slice none 0 0) (o_mv rfl) <| stp (v := .bool false) (o_mv rfl) <| h15 _ _ <| ⟨(.tuple [.slice none 0 0, .bool false].toArray), rfl, ⟨_, false, [], [], rfl, fun h => absurd h (by decide), fun _ => fun R es2 hB => by have hh := blk_here hB hl hE hRe hne; omega, hM11.keep (by simp)⟩⟩
 refine stg rfl (v := .int .u64 (Rq : Nat)) (o_mv rfl) <| stg rfl (v := .bool (decide ((64 : Int) < ((Rq : Nat) : Int)))) (o_bin rfl rfl rfl) <| stp (v := .bool (decide ((64 : Int) < ((Rq : Nat) : Int)))) (o_pickF rfl rfl) <| stp (v := .bool (decide ((64 : Int) < ((Rq : Nat) : Int)))) (o_mv rfl) <| splitP rfl (fun c16 => ?_) (fun c16 => ?_)
 ·refine gx rfl <| gx rfl <| stp (v := .bool true) (o_pickT rfl rfl) <| stp (v := .bool true) (o_mv rfl) <| splitT rfl <| gx rfl <| gx rfl <| gx rfl <| gx rfl <| gx rfl <| stp (v := .bool true) (o_pickT rfl rfl) <| h13 _ _ <| cndT rfl <| seq fun _ h17 => ?_
  refine stp (v := .slice none 0 0) (o_mv rfl) <| stp (v := .bool false) (o_mv rfl) <| h17 _ _ <| ⟨(.tuple [.slice none 0 0, .bool false].toArray), rfl, ⟨_, false, [], [], rfl, fun h => absurd h (by decide), fun _ => fun R es2 hB => by have hh := blk_here hB hl hE hRe hne; omega, hM11.keep (by simp)⟩⟩
 refine stg rfl (v := .int .u64 (nq : Nat)) (o_mv rfl) <| stg rfl (v := .bool (decide (((nq : Nat) : Int) < 1))) (o_bin rfl rfl rfl) <| stp (v := .bool (decide (((nq : Nat) : Int) < 1))) (o_pickF rfl rfl) <| stp (v := .bool (decide (((nq : Nat) : Int) < 1))) (o_mv rfl) <| splitP rfl (fun c18 => ?_) (fun c18 => ?_)
 ·refine gx rfl <| gx rfl <| gx rfl <| gx rfl <| gx rfl <| stp (v := .bool true) (o_pickT rfl rfl) <| h13 _ _ <| cndT rfl <| seq fun _ h19 => stp (v := .slice none 0 0) (o_mv rfl) <| stp (v := .bool false) (o_mv rfl) <| h19 _ _ <| ⟨(.tuple [.slice none 0 0, .bool false].toArray), rfl, ⟨_, false, [], [], rfl, fun h => absurd h (by decide), fun _ => fun R es2 hB => by have hh := blk_here hB hl hE hRe hne; omega, hM11.keep (by simp)⟩⟩
 refine stg rfl (v := .int .u64 (nq : Nat)) (o_mv rfl) <| stg rfl (v := x) (o_mv rfl) <| stg rfl (v := .int .i64 (b.length : Nat)) (o_lenR (hx.upd hM11.upd) rfl rfl) <| stg rfl (v := .int .u64 (b.length : Nat)) (o_conv rfl (conv_u64 (by omega) (by omega))) <| stg rfl (v := .bool (decide (((b.length : Nat) : Int) < ((nq : Nat) : Int)))) (o_bin rfl rfl rfl) <| stp (v := .bool (decide (((b.length : Nat) : Int) < ((nq : Nat) : Int)))) (o_pickF rfl rfl) <| h13 _ _ <| cndP rfl (fun c20 => ?_) (fun c20 => ?_)
 ·refine seq fun _ h21 => stp (v := .slice none 0 0) (o_mv rfl) <| stp (v := .bool false) (o_mv rfl) <| h21 _ _ <| ⟨(.tuple [.slice none 0 0, .bool false].toArray), rfl, ⟨_, false, [], [], rfl, fun h => absurd h (by decide), fun _ => fun R es2 hB => by have hh := blk_here hB hl hE hRe hne; omega, hM11.keep (by simp)⟩⟩
 refine h12 _ _ <| seq fun _ h22 => stp (v := x) (o_mv rfl) <| stp (v := x) (o_mv rfl) <| stp (v := .int .i64 (b.length : Nat)) (o_lenR (hx.upd hM11.upd) rfl rfl) <| stp (v := .int .i64 ((b.length : Nat) - 8)) (o_bin rfl rfl (v_sub64 (by omega))) <| m_slcE 0 E (hx) rfl (by omega) (by omega) ⟨_, v_int (by omega)⟩ rfl fun u23 hu23 => ?_
 have hu23' : RdE byteV w u23 (b.take E) := by
  have e : (b.take E).drop 0 = (b.take E) := by simp
  rw [e] at hu23; exact hu23
 refine stp (v := .int .u64 (nq : Nat)) (o_mv rfl) <| stp (v := .int .i64 (nq : Nat)) (o_conv rfl (conv_i64 (by omega))) <| m_call (entries_ok _ (b.take E) nq w11 ((hu23'.upd hM11.upd)) (by rw [List.length_take]; omega) (by omega)) rfl fun v24 w24 ⟨vq, okq, es, req, hr24, hokq, hnoq, hm24⟩ => ?_
 have hM24 : Mem w [] w24 [req] := hM11.add hm24
 subst hr24
 refine stp (v := .tuple [vq, .bool okq].toArray) (o_mv rfl) ?_
 rcases okq with _ | _
 ·refine stp (v := vq) (o_ext rfl rfl) <| stp (v := .bool false) (o_ext rfl rfl) <| stp (v := vq) (o_mv rfl) <| stp (v := .bool false) (o_mv rfl) <| h22 _ _ <| seq fun _ h25 => seq fun _ h26 => stp (v := .bool false) (o_mv rfl) <| stp (v := .bool true) (o_not rfl rfl) <| h26 _ _ <| cndT rfl <| seq fun _ h27 => stp (v := .slice none 0 0) (o_mv rfl) <| stp (v := .bool false) (o_mv rfl) ?_
  refine h27 _ _ <| ⟨(.tuple [.slice none 0 0, .bool false].toArray), rfl, ⟨_, false, [], [], rfl, fun h => absurd h (by decide), fun _ => par_no hl hE hRe hne (hnoq rfl), hM24.keep (by simp)⟩⟩
 obtain ⟨⟨aq, hea⟩, hel, hsh, hvs⟩ := hokq rfl
 refine stp (v := vq) (o_ext rfl rfl) <| stp (v := .bool true) (o_ext rfl rfl) <| stp (v := vq) (o_mv rfl) <| stp (v := .bool true) (o_mv rfl) <| h22 _ _ <| seq fun _ h28 => seq fun _ h29 => stp (v := .bool true) (o_mv rfl) <| stp (v := .bool false) (o_not rfl rfl) <| h29 _ _ <| cndF rfl <| h28 _ _ <| seq fun _ h30 => seq fun _ h31 => stp (v := .int .i64 1) (o_mv rfl) <| h31 _ _ <| lp (n := fun _ _ => False) (ι := (Nat)) (fun i f w' => f 8 = .int .i64 (i : Nat) ∧ f 0 = x ∧ f 4 = .int .u64 (Rq : Nat) ∧ f 6 = vq ∧ Mem w [] w' [req] ∧ (1 ≤ i ∧ i ≤ es.length) ∧ (∀ j, 0 < j → j < i → 0 ≤ cmp (es.getD j ([], [])).1 (es.getD (j - 1) ([], [])).1)) (fun i => es.length - i) (1) ?_ ?_
 ·exact ⟨vi, rfl, vi, rfl, hM24, by omega, fun j h1 h2 => by omega⟩
 rintro i f w32 ⟨e32_8, e32_0, e32_4, e32_6, hM32, hi, hor⟩ K33 h33
 obtain ⟨frm, rfl⟩ := re4 e32_8 e32_0 e32_4 e32_6
 refine seq fun _ h34 => seq fun _ h35 => stp (v := .int .i64 (i : Nat)) (o_mv rfl) <| stp (v := vq) (o_mv rfl) <| stp (v := .int .i64 (es.length : Nat)) (o_lenR (hvs.rd hM32 (i := 0) rfl) rfl rfl) <| stp (v := .bool (decide (((i : Nat) : Int) < (es.length : Nat)))) (o_bin rfl rfl rfl) <| h35 _ _ <| cndP rfl (fun c36 => ?_) (fun c36 => ?_)
 ·refine h34 _ _ <| seq fun _ h37 => seq fun _ h38 => ?_
  intro wd e1 e2 e3 e4
  have hd := Upd.same e1 e2 e3 e4 []
  have hM39 := hM32.pure hd
  clear e1 e2 e3 e4
  refine ⟨(some [(blkV vq)]), ?_⟩
  show vd _ _ _ _ _ _ _
  refine dq (v := vq) (o_mv rfl) <| dq (v := .int .i64 (i : Nat)) (o_mv rfl) ?_
  have hki := (hsh i).1
  have hkj := (hsh (i - 1)).1
  refine dqp (m_idxS3 ([], []) (j := i) (hvs.rd hM39 (i := 0) rfl) (hvs.rd hM39 (i := 0) rfl) rfl rfl (by omega) fun b40 o40 hp40 hbb40 => ?_)
  show vd _ _ _ _ _ _ _
  subst hbb40
  refine dq (v := .pointer (some ⟨(blkV vq), o40, none⟩)) (o_fa rfl rfl) <| dq (v := vq) (o_mv rfl) <| dq (v := .int .i64 (i : Nat)) (o_mv rfl) <| dq (v := .int .i64 ((i : Nat) - 1)) (o_bin rfl rfl (v_sub64 (by omega))) <| dqp (m_idxS3 ([], []) (j := (i - 1)) (hvs.rd hM39 (i := 0) rfl) (hvs.rd hM39 (i := 0) rfl) rfl (v_int (by omega)) (by omega) fun b41 o41 hp41 hbb41 => ?_)
  show vd _ _ _ _ _ _ _
  subst hbb41
  refine dq (v := .pointer (some ⟨(blkV vq), o41, none⟩)) (o_fa rfl rfl) <| dqld rfl (by simp [isHeld]) (v := .string (str ((es.getD (i - 1) ([], [])).1))) (hp41.get 0 rfl) <| dl (ld (v := .string (str ((es.getD i ([], [])).1))) rfl (hp40.get 0 rfl) <| ⟨(fun b hb => rfl), dl (m_call (refCompare_ok ((es.getD i ([], [])).1) ((es.getD (i - 1) ([], [])).1) wd (by first | omega | (simp; done) | (simp; omega)) (by first | omega | (simp; done) | (simp; omega))) rfl fun v42 w42 ⟨hr42, hu42⟩ => ?_)⟩)
  have hM42 : Mem w [] w42 [req] := hM39.pure hu42
  subst hr42
  have hh42 := held_upd (wr := wd) (bs := [(blkV vq)]) hu42 (fun b hb => by
   simp only [List.mem_cons, List.not_mem_nil, or_false] at hb
   rw [hb]; exact ⟨Rd.blkV_ltS (hvs.rd hM39 (i := 0) rfl) (by omega), by simp⟩) (fun b hb => rfl)
  refine ⟨hh42, dq (v := .bool (decide ((cmp ((es.getD i ([], [])).1) ((es.getD (i - 1) ([], [])).1)) < 0))) (o_bin rfl rfl rfl) <| h38 _ _ <| cndP rfl (fun c43 => ?_) (fun c43 => ?_)⟩
  ·refine seq fun _ h44 => stp (v := .slice none 0 0) (o_mv rfl) <| stp (v := .bool false) (o_mv rfl) <| h44 _ _ <| ⟨(.tuple [.slice none 0 0, .bool false].toArray), rfl, ⟨_, false, [], [], rfl, fun h => absurd h (by decide), fun _ => fun R es2 hB => by obtain ⟨rfl, rfl⟩ := par_same hl hE hRe hne hea hB; have := (hB.2.2.1 i (by omega)).2.2 (by omega); omega, hM42.keep (by simp)⟩⟩
  refine h37 _ _ <| stp (v := .int .i64 (i : Nat)) (o_mv rfl) <| stp (v := .int .i64 ((i : Nat) + 1)) (o_bin rfl rfl (v_add64 (by omega))) <| stp (v := .int .i64 ((i : Nat) + 1)) (o_mv rfl) ?_
  refine h33 (i + 1) _ _ ⟨vi, rfl, vi, rfl, hM42, by omega, fun j h1 h2 => by
   by_cases e : j = i
   ·subst e; omega
   exact hor j h1 (by omega)⟩ (by (try dsimp only); omega)
 refine h30 _ _ <| seq fun _ h45 => ?_
 intro wd e1 e2 e3 e4
 have hd := Upd.same e1 e2 e3 e4 []
 have hM46 := hM32.pure hd
 clear e1 e2 e3 e4
 refine ⟨(some []), ?_⟩
 show vd _ _ _ _ _ _ _
 refine dq (v := vq) (o_mv rfl) <| dq (v := vq) (o_mv rfl) <| dq (v := .int .u64 (Rq : Nat)) (o_mv rfl) <| dq (v := .int .i64 (Rq : Nat)) (o_conv rfl (conv_i64 (by omega))) <| dq (v := x) (o_mv rfl) ?_
 show _ ∧ _
 refine ⟨?_, ?_⟩
 ·show vd _ _ _ _ _ _ _
  refine dl (m_call (RRaw_ok _ Rq es wd (hvs.rd hM46 (i := 0) rfl) ⟨by omega, by omega⟩ (by omega) hsh) rfl fun v47 w47 ⟨rs47, hs47, hm47⟩ => ?_)
  have hM47 : Mem w [] w47 [req, rs47] := hM46.add hm47
  refine ⟨(fun b hb => by cases hb), dq (v := vq) (o_mv rfl) ?_⟩
  show _ ∧ _
  refine ⟨?_, ?_⟩
  ·show vd _ _ _ _ _ _ _
   refine dl (m_b2s rfl (hs47.rd hM47 (i := 1) rfl) <| ⟨(fun b hb => by cases hb), dl (m_b2s rfl (hx.upd hM47.upd) <| ⟨(fun b hb => by cases hb), dq (v := .bool (decide ((rawB Rq (bldF Rq es).raw (bldF Rq es).st es.length) = b))) (o_seq rfl rfl rfl) <| dq (v := .bool (decide ((rawB Rq (bldF Rq es).raw (bldF Rq es).st es.length) = b))) (o_mv rfl) <| h45 _ _ <| ⟨(.tuple [vq, .bool (decide ((rawB Rq (bldF Rq es).raw (bldF Rq es).st es.length) = b))].toArray), rfl, ?_⟩⟩)⟩)
   by_cases hq : rawB Rq (bldF Rq es).raw (bldF Rq es).st es.length = b
   ·exact ⟨_, true, es, _, by rw [decide_eq_true hq], fun _ => ⟨⟨Rq, par_yes ⟨by omega, by omega⟩ (by omega) hsh (fun j h1 h2 => hor j h1 (by omega)) hq⟩, hvs⟩, fun h => absurd h (by decide), hM47.keep (by simp)⟩
   exact ⟨_, false, [], [], by rw [decide_eq_false hq], fun h => absurd h (by decide), fun _ R es2 hB => hq (by obtain ⟨rfl, rfl⟩ := par_same hl hE hRe hne hea hB; exact hB.2.2.2.symm), hM47.keep (by simp)⟩
  show vd _ _ _ _ _ _ _
  refine dl (m_b2s rfl (hx.upd hM47.upd) <| ⟨(fun b hb => by cases hb), dl (m_b2s rfl (hs47.rd hM47 (i := 1) rfl) <| ⟨(fun b hb => by cases hb), dq (v := .bool (decide ((rawB Rq (bldF Rq es).raw (bldF Rq es).st es.length) = b))) (o_seq rfl rfl rfl) <| dq (v := .bool (decide ((rawB Rq (bldF Rq es).raw (bldF Rq es).st es.length) = b))) (o_mv rfl) <| h45 _ _ <| ⟨(.tuple [vq, .bool (decide ((rawB Rq (bldF Rq es).raw (bldF Rq es).st es.length) = b))].toArray), rfl, ?_⟩⟩)⟩)
  by_cases hq : rawB Rq (bldF Rq es).raw (bldF Rq es).st es.length = b
  ·exact ⟨_, true, es, _, by rw [decide_eq_true hq], fun _ => ⟨⟨Rq, par_yes ⟨by omega, by omega⟩ (by omega) hsh (fun j h1 h2 => hor j h1 (by omega)) hq⟩, hvs⟩, fun h => absurd h (by decide), hM47.keep (by simp)⟩
  exact ⟨_, false, [], [], by rw [decide_eq_false hq], fun h => absurd h (by decide), fun _ R es2 hB => hq (by obtain ⟨rfl, rfl⟩ := par_same hl hE hRe hne hea hB; exact hB.2.2.2.symm), hM47.keep (by simp)⟩
 show vd _ _ _ _ _ _ _
 refine dl (m_b2s rfl (hx.upd hM46.upd) <| ⟨(fun b hb => by cases hb), dl (m_call (RRaw_ok _ Rq es wd (hvs.rd hM46 (i := 0) rfl) ⟨by omega, by omega⟩ (by omega) hsh) rfl fun v48 w48 ⟨rs48, hs48, hm48⟩ => ?_)⟩)
 have hM48 : Mem w [] w48 [req, rs48] := hM46.add hm48
 refine ⟨(fun b hb => by cases hb), dq (v := vq) (o_mv rfl) <| dl (m_b2s rfl (hs48.rd hM48 (i := 1) rfl) <| ⟨(fun b hb => by cases hb), dq (v := .bool (decide ((rawB Rq (bldF Rq es).raw (bldF Rq es).st es.length) = b))) (o_seq rfl rfl rfl) <| dq (v := .bool (decide ((rawB Rq (bldF Rq es).raw (bldF Rq es).st es.length) = b))) (o_mv rfl) <| h45 _ _ <| ⟨(.tuple [vq, .bool (decide ((rawB Rq (bldF Rq es).raw (bldF Rq es).st es.length) = b))].toArray), rfl, ?_⟩⟩)⟩
 by_cases hq : rawB Rq (bldF Rq es).raw (bldF Rq es).st es.length = b
 ·exact ⟨_, true, es, _, by rw [decide_eq_true hq], fun _ => ⟨⟨Rq, par_yes ⟨by omega, by omega⟩ (by omega) hsh (fun j h1 h2 => hor j h1 (by omega)) hq⟩, hvs⟩, fun h => absurd h (by decide), hM48.keep (by simp)⟩
 exact ⟨_, false, [], [], by rw [decide_eq_false hq], fun h => absurd h (by decide), fun _ R es2 hB => hq (by obtain ⟨rfl, rfl⟩ := par_same hl hE hRe hne hea hB; exact hB.2.2.2.symm), hM48.keep (by simp)⟩
end Go.Proofs.YtifnmbmijljhfaaGreat.E
namespace Go.Proofs.YtifnmbmijljhfaaGreat.E
open Go
def RfS (br : Nat) (es : List Pr2) (r : List Ent) : Prop := ∃ v re, r = ⟨br, 75, [v]⟩ :: re ∧ SlS pairC 2 35 v es re
def OpnR (tile : List UInt8) (n : Int) (r : Value) (rs : List Ent) : Prop :=
 (∃ e, r = .tuple [.pointer none, .int .i64 e].toArray ∧ ((e = 3 ∧ (n < 1 ∨ 65536 < n)) ∨ ((1 ≤ n ∧ n ≤ 65536) ∧ ¬ (openF tile).2 = 0 ∧ e = (openF tile).2) ∨ ((1 ≤ n ∧ n ≤ 65536) ∧ (openF tile).2 = 0 ∧ e = 60 ∧ ∀ t, textF tile n = some t → ∀ R es, ¬ Blk R es t))) ∨
 (∃ br R es t, r = .tuple [.pointer (some ⟨br, 0, none⟩), .int .i64 0].toArray ∧ (1 ≤ n ∧ n ≤ 65536) ∧ textF tile n = some t ∧ Blk R es t ∧ RfS br es rs)
theorem dc_yes {fl : Nat} {p : List UInt8} {n : Int} (h : (dcode fl p n).2 = 0) : dcode fl p n = ((dcode fl p n).1, 0) := by rw [← h]
theorem dcode_bd {fl : Nat} {p : List UInt8} {n : Int} (hn : n ≤ 65536) (h : (dcode fl p n).2 = 0) (hf : fl < 3) : (dcode fl p n).1.length ≤ 65536 := by
 rcases (by omega : fl = 0 ∨ fl = 1 ∨ fl = 2) with rfl | rfl | rfl
 ·unfold dcode at h ⊢
  rw [if_pos rfl] at h ⊢
  split at h
  ·rename_i q; rw [if_pos q]; dsimp only; omega
  cases h
 ·exact decF_len p n
 exact huffD_len p n
theorem Seal_ok (x : Value) (b : List UInt8) (w : World) (hx : RdE byteV w x b) (hl : b.length ≤ 140737488355328) : Calls Tryz.prog 34 [x].toArray w (Rt fun r w' => ∃ rs, SlE byteV 5 r (sealF b) rs ∧ Mem w [] w' [rs]) := by
 have hM0 : Mem w [] w [] := Mem.nil w []
 refine calls_vc mixed Tryz.func34 rfl C34 (by simp [Tryz.ntmps34]) <| seq fun _ h1 => mv <| h1 _ _ <| seq fun _ h2 => m_bs hM0 rfl fun b3 w4 (hM4 : Mem _ _ w4 [[⟨b3, 5, []⟩]]) => mv ?_
 have hs5 : SlE byteV 5 (.slice (some ⟨b3, 0, none⟩) 0 0) [] [⟨b3, 5, []⟩] := SlE.lit (l := []) rfl
 refine m_appE hM4 (i := 0) rfl hs5 rfl rfl (hx.upd hM4.upd) (by first | omega | (simp; omega)) (by omega) fun v6 w6 r6 (hs6 : SlE byteV 5 v6 (b) r6) (hM6 : Mem _ _ w6 [r6]) => mv <| h2 _ _ <| seq fun _ h7 => mv <| m_call (refSum_ok _ b w6 (hx.upd hM6.upd) (by first | omega | (simp; done) | (simp; omega))) rfl fun v8 w8 ⟨hr8, hu8⟩ => ?_
 have hM8 : Mem _ _ w8 [_] := hM6.pure hu8
 subst hr8
 have hcl8 := crcN_lt 0 b
 refine mv <| h7 _ _ <| seq fun _ h9 => mv <| mv <| stp (v := byteV (((crcN 0 b) % 256).toUInt8)) (o_conv rfl (byte4 _)) <| mv <| stp (v := .int .u32 ((crcN 0 b) / 256 : Nat)) (o_shr rfl rfl (by omega) (shr32 (j := 8) (by omega) rfl)) <| stp (v := byteV ((((crcN 0 b) / 256) % 256).toUInt8)) (o_conv rfl (byte4 _)) <| mv <| stp (v := .int .u32 ((crcN 0 b) / 65536 : Nat)) (o_shr rfl rfl (by omega) (shr32 (j := 16) (by omega) rfl)) <| stp (v := byteV ((((crcN 0 b) / 65536) % 256).toUInt8)) (o_conv rfl (byte4 _)) <| mv <| stp (v := .int .u32 ((crcN 0 b) / 16777216 : Nat)) (o_shr rfl rfl (by omega) (shr32 (j := 24) (by omega) rfl)) ?_
 refine stp (v := byteV ((((crcN 0 b) / 16777216) % 256).toUInt8)) (o_conv rfl (byte4 _)) <| m_bs hM8 rfl fun b10 w11 (hM11 : Mem _ _ w11 [_, [⟨b10, 5, [byteV (((crcN 0 b) % 256).toUInt8), byteV ((((crcN 0 b) / 256) % 256).toUInt8), byteV ((((crcN 0 b) / 65536) % 256).toUInt8), byteV ((((crcN 0 b) / 16777216) % 256).toUInt8)]⟩]]) => m_appE hM11 (i := 0) rfl hs6 rfl rfl (own_rdE (E := byteV) (l := [((crcN 0 b) % 256).toUInt8, (((crcN 0 b) / 256) % 256).toUInt8, (((crcN 0 b) / 65536) % 256).toUInt8, (((crcN 0 b) / 16777216) % 256).toUInt8]) (hM11.at (i := 1) (j := 0) rfl rfl) rfl) (by first | omega | (simp; omega)) (by omega) fun v12 w12 r12 (hs12 : SlE byteV 5 v12 (b ++ ([((crcN 0 b) % 256).toUInt8, (((crcN 0 b) / 256) % 256).toUInt8, (((crcN 0 b) / 65536) % 256).toUInt8, (((crcN 0 b) / 16777216) % 256).toUInt8])) r12) (hM12 : Mem _ _ w12 [r12, _]) => mv <| h9 _ _ <| ⟨v12, rfl, ⟨_, by unfold sealF; rw [fixed4]; simpa using hs12, hM12.keep (by simp)⟩⟩
theorem same1_ok (x y : Value) (a b : List UInt8) (w : World) (hx : RdE byteV w x a) (hy : RdE byteV w y b) (hla : a.length ≤ 9223372036854775807) : Calls Tryz.prog 72 [x, y].toArray w (Rt fun r w' => r = .bool (decide (a = b)) ∧ Upd [] w w') := by
 have hM0 : Mem w [] w [] := Mem.nil w []
 refine calls_vc mixed Tryz.func72 rfl C72 (by simp [Tryz.ntmps72]) <| seq fun _ h1 => mv <| h1 _ _ <| seq fun _ h2 => seq fun _ h3 => mv <| stp (v := .int .i64 (a.length : Nat)) (o_lenR (hx.upd hM0.upd) rfl rfl) <| mv <| stp (v := .int .i64 (b.length : Nat)) (o_lenR (hy.upd hM0.upd) rfl rfl) <| bneq rfl rfl <| h3 _ _ <| cndP rfl (fun c4 => ?_) (fun c4 => ?_)
 ·refine seq fun _ h5 => mv <| h5 _ _ <| ⟨(.bool false), rfl, ⟨by rw [decide_eq_false (fun e => c4 (by rw [e]))], hM0.upd⟩⟩
 refine h2 _ _ <| seq fun _ h6 => seq fun _ h7 => mv <| h7 _ _ <| lp (n := fun _ _ => False) (ι := (Nat)) (fun i f w' => f 0 = x ∧ f 1 = y ∧ f 5 = .int .i64 (i : Nat) ∧ Mem w [] w' [] ∧ (i ≤ a.length) ∧ (a.take i = b.take i)) (fun i => a.length - i) (0) ?_ ?_
 ·exact ⟨rfl, rfl, vi, hM0, by omega, by simp⟩
 rintro i f w8 ⟨e8_0, e8_1, e8_5, hM8, hi, hp⟩ K9 h9
 obtain ⟨frm, rfl⟩ := re3 e8_0 e8_1 e8_5
 refine seq fun _ h10 => seq fun _ h11 => mv <| mv <| stp (v := .int .i64 (a.length : Nat)) (o_lenR (hx.upd hM8.upd) rfl rfl) <| bn rfl rfl <| h11 _ _ <| cndP rfl (fun c12 => ?_) (fun c12 => ?_)
 ·refine h10 _ _ <| seq fun _ h13 => seq fun _ h14 => ?_
  intro wd e1 e2 e3 e4
  have hd := Upd.same e1 e2 e3 e4 []
  have hM15 := hM8.pure hd
  clear e1 e2 e3 e4
  refine ⟨none, ?_⟩
  show vd _ _ _ _ _ _ _
  refine dmv <| dmv <| dqp (m_idxE 0 (j := i) (hx.upd hM15.upd) rfl rfl (by omega) fun b16 o16 hp16 => ?_)
  show vd _ _ _ _ _ _ _
  refine dmv <| dmv <| dqp (m_idxE 0 (j := i) (hy.upd hM15.upd) rfl rfl (by omega) fun b17 o17 hp17 => ?_)
  show vd _ _ _ _ _ _ _
  refine dqld rfl (trivial) (v := byteV (b.getD i 0)) (hp17) <| dl (ld (v := byteV (a.getD i 0)) rfl (hp16) <| ⟨rfl, dq (v := .bool (decide (¬ ((a.getD i 0).toNat : Int) = ((b.getD i 0).toNat : Int)))) (o_bin rfl rfl v_neq) <| h14 _ _ <| cndP rfl (fun c18 => ?_) (fun c18 => ?_)⟩)
  ·refine seq fun _ h19 => mv <| h19 _ _ <| ⟨(.bool false), rfl, ⟨by rw [decide_eq_false (ne_atG 0 i (nat_neG (by assumption)))], hM15.upd⟩⟩
  refine h13 _ _ <| mv <| stp (v := .int .i64 ((i : Nat) + 1)) (o_bin rfl rfl (v_add64 (by omega))) <| mv <| h9 (i + 1) _ _ ⟨rfl, rfl, vi, hM15, by omega, take_eqG 0 hp (by omega) (by omega) (u8_eq (by omega))⟩ (by (try dsimp only); omega)
 refine h6 _ _ <| seq fun _ h20 => mv <| h20 _ _ <| ⟨(.bool true), rfl, ⟨by rw [decide_eq_true]; rw [← List.take_of_length_le (l := a) (i := i) (by omega), ← List.take_of_length_le (l := b) (i := i) (by omega), hp], hM8.upd⟩⟩
theorem refOpen_ok (x : Value) (b : List UInt8) (w : World) (hx : RdE byteV w x b) (hl : b.length ≤ 140737488355328) : Calls Tryz.prog 37 [x].toArray w (Rt fun r w' => ∃ v rs, r = .tuple #[v, .int .i64 (openF b).2] ∧ SlE byteV 5 v (openF b).1 rs ∧ Mem w [] w' [rs]) := by
 have hM0 : Mem w [] w [] := Mem.nil w []
 refine calls_vc mixed Tryz.func37 rfl C37 (by simp [Tryz.ntmps37]) <| seq fun _ h1 => mv <| mv <| h1 _ _ <| seq fun _ h2 => seq fun _ h3 => mv <| stp (v := .int .i64 (b.length : Nat)) (o_lenR (hx.upd hM0.upd) rfl rfl) <| bn rfl rfl <| h3 _ _ <| cndP rfl (fun c4 => ?_) (fun c4 => ?_)
 ·refine seq fun _ h5 => mv <| mv <| h5 _ _ <| ⟨(.tuple [.slice none 0 0, .int .i64 11].toArray), rfl, ?_⟩
  have je := open_short (b := b) (by omega)
  exact ⟨_, [], by rw [je], by rw [je]; exact Sl.nil 1 5, (hM0.addNil).keep (by simp)⟩
 refine h2 _ _ <| seq fun _ h6 => m_bs hM0 rfl fun b7 w8 (hM8 : Mem _ _ w8 [[⟨b7, 5, []⟩]]) => mv <| mv <| stp (v := .int .i64 (b.length : Nat)) (o_lenR (hx.upd hM8.upd) rfl rfl) <| stp (v := .int .i64 ((b.length : Nat) - 4)) (o_bin rfl rfl (v_sub64 (by omega))) <| m_slcE 0 (b.length - 4) (hx) rfl (by omega) (by omega) ⟨_, v_int (by omega)⟩ rfl fun u9 hu9 => ?_
 have hs10 : SlE byteV 5 (.slice (some ⟨b7, 0, none⟩) 0 0) [] [⟨b7, 5, []⟩] := SlE.lit (l := []) rfl
 refine m_appE hM8 (i := 0) rfl hs10 rfl rfl ((hu9.upd hM8.upd)) (by first | omega | (simp; omega)) (by omega) fun v11 w11 r11 (hs11 : SlE byteV 5 v11 ((b.take (b.length - 4)).drop 0) r11) (hM11 : Mem _ _ w11 [r11]) => mv <| h6 _ _ <| seq fun _ h12 => mv <| m_call (Seal_ok _ ((b.take (b.length - 4)).drop 0) w11 (hs11.rd hM11 (i := 0) rfl) (by first | omega | (simp; done) | (simp; omega))) rfl fun v13 w13 ⟨rs13, hs13, hm13⟩ => ?_
 have hM13 : Mem _ _ w13 [_, rs13] := hM11.add hm13
 have hcq13 : (sealF ((b.take (b.length - 4)).drop 0)).length ≤ 140737488355332 := by unfold sealF; rw [List.length_append, fixed_length]; simp only [List.length_drop, List.length_take]; omega
 refine mv <| h12 _ _ <| seq fun _ h14 => seq fun _ h15 => mv <| mv <| m_call (same1_ok _ _ (sealF ((b.take (b.length - 4)).drop 0)) b w13 (hs13.rd hM13 (i := 1) rfl) (hx.upd hM13.upd) (by first | omega | (simp; done) | (simp; omega))) rfl fun v16 w16 ⟨hr16, hu16⟩ => ?_
 have hM16 : Mem _ _ w16 [_, _] := hM13.pure hu16
 subst hr16
 refine stp (v := .bool (decide (¬ ((sealF ((b.take (b.length - 4)).drop 0)) = b)))) (o_not rfl v_not) <| h15 _ _ <| cndP rfl (fun hsT => ?_) (fun hsF => ?_)
 ·refine seq fun _ h18 => mv <| mv <| h18 _ _ <| ⟨(.tuple [.slice none 0 0, .int .i64 10].toArray), rfl, ?_⟩
  have je := open_sum (b := b) (by omega) (fun q => hsT (by simpa using (seal_eq (b := b) (by omega)).2 q))
  exact ⟨_, [], by rw [je], by rw [je]; exact Sl.nil 1 5, (hM16.addNil).keep (by simp)⟩
 refine h14 _ _ <| seq fun _ h19 => mv <| mv <| mv <| h19 _ _ <| ⟨(.tuple [v11, .int .i64 0].toArray), rfl, ?_⟩
 have je := open_ok (b := b) (by omega) ((seal_eq (by omega)).1 (by simpa using hsF))
 exact ⟨_, _, by rw [je], by rw [je]; simpa using hs11, hM16.keep (by simp)⟩
theorem plain_ok (x : Value) (p : List UInt8) (c : UInt8) (n : Int) (w : World) (hn : inK .i64 n) (hx : RdE byteV w x p) (hl : p.length ≤ 140737488351232) : Calls Tryz.prog 38 [x, byteV c, .int .i64 n].toArray w (Rt fun r w' => ∃ v ok rs, r = .tuple [v, .bool ok].toArray ∧ (ok = true → c.toNat < 3 ∧ (dcode c.toNat p n).2 = 0 ∧ ∀ w2, (∀ e ∈ rs, Own w2 e) → RdE byteV w2 x p → RdE byteV w2 v (dcode c.toNat p n).1) ∧ (ok = false → ¬ (c.toNat < 3 ∧ (dcode c.toNat p n).2 = 0)) ∧ Mem w [] w' [rs]) := by
 have hM0 : Mem w [] w [] := Mem.nil w []
 simp only [inK] at hn
 refine calls_vc mixed Tryz.func38 rfl C38 (by simp [Tryz.ntmps38]) <| seq fun _ h1 => mv <| mv <| h1 _ _ <| seq fun _ h2 => seq fun _ h3 => mv <| h3 _ _ <| seq fun _ h4 => bn rfl rfl <| mv <| h4 _ _ <| cndP rfl (fun c5 => ?_) (fun c5 => ?_)
 ·refine seq fun _ h6 => mv <| mv <| stp (v := .int .i64 (p.length : Nat)) (o_lenR (hx.upd hM0.upd) rfl rfl) <| mv <| bn rfl rfl <| mv <| mv <| h6 _ _ <| ⟨(.tuple [x, .bool (decide (((p.length : Nat) : Int) = n))].toArray), rfl, ?_⟩
  have hck : c.toNat = 0 := by omega
  by_cases hq : (p.length : Int) = n
  ·exact ⟨_, true, [], by rw [decide_eq_true hq], fun _ => by rw [hck, dc_0 hq]; exact ⟨by omega, rfl, fun w2 _ h => h⟩, fun h => absurd h (by decide), hM0.keep (by simp)⟩
  exact ⟨_, false, [], by rw [decide_eq_false hq], fun h => absurd h (by decide), fun _ q => by rw [hck] at q; exact dn_0 hq q.2, hM0.keep (by simp)⟩
 refine seq fun _ h7 => bn rfl rfl <| mv <| h7 _ _ <| cndP rfl (fun c8 => ?_) (fun c8 => ?_)
 ·refine seq fun _ h9 => mv <| mv <| m_call (Lz.refDecode_ok _ p n w (hx.upd hM0.upd) (by first | omega | (simp; done) | (simp; omega)) (by simp only [inK]; omega)) rfl fun v10 w10 ⟨y10, rs10, hr10, hs10, hm10⟩ => ?_
  have hM10 : Mem _ _ w10 [rs10] := hM0.add hm10
  subst hr10
  refine mv <| ext rfl rfl <| ext rfl rfl <| mv <| mv <| h9 _ _ <| seq fun _ h11 => mv <| mv <| bn rfl rfl <| mv <| mv <| h11 _ _ <| ⟨(.tuple [y10, .bool (decide (((Lz.decF p n).2) = 0))].toArray), rfl, ?_⟩
  have hck : c.toNat = 1 := by omega
  by_cases hq : (Lz.decF p n).2 = 0
  ·exact ⟨_, true, _, by rw [decide_eq_true hq], fun _ => by rw [hck, dc_1 hq]; exact ⟨by omega, rfl, fun w2 ho _ => (hs10).rdOwn ho⟩, fun h => absurd h (by decide), hM10.keep (by simp)⟩
  exact ⟨_, false, [], by rw [decide_eq_false hq], fun h => absurd h (by decide), fun _ q => by rw [hck] at q; exact dn_1 hq q.2, hM10.keep (by simp)⟩
 refine seq fun _ h12 => bn rfl rfl <| mv <| h12 _ _ <| cndP rfl (fun c13 => ?_) (fun c13 => ?_)
 ·refine seq fun _ h14 => mv <| mv <| m_call (Hf.refDecode_ok _ p n w (hx.upd hM0.upd) (by first | omega | (simp; done) | (simp; omega)) (by simp only [inK]; omega)) rfl fun v15 w15 ⟨y15, rs15, hr15, hs15, hm15⟩ => ?_
  have hM15 : Mem _ _ w15 [rs15] := hM0.add hm15
  subst hr15
  refine mv <| ext rfl rfl <| ext rfl rfl <| mv <| mv <| h14 _ _ <| seq fun _ h16 => mv <| mv <| bn rfl rfl <| mv <| mv <| h16 _ _ <| ⟨(.tuple [y15, .bool (decide (((Hf.huffD p n).2) = 0))].toArray), rfl, ?_⟩
  have hck : c.toNat = 2 := by omega
  by_cases hq : (Hf.huffD p n).2 = 0
  ·exact ⟨_, true, _, by rw [decide_eq_true hq], fun _ => by rw [hck, dc_2 hq]; exact ⟨by omega, rfl, fun w2 ho _ => (hs15).rdOwn ho⟩, fun h => absurd h (by decide), hM15.keep (by simp)⟩
  exact ⟨_, false, [], by rw [decide_eq_false hq], fun h => absurd h (by decide), fun _ q => by rw [hck] at q; exact dn_2 hq q.2, hM15.keep (by simp)⟩
 refine h2 _ _ <| seq fun _ h17 => mv <| mv <| h17 _ _ <| ⟨(.tuple [.slice none 0 0, .bool false].toArray), rfl, ⟨_, false, [], rfl, fun h => absurd h (by decide), fun _ q => by omega, hM0.keep (by simp)⟩⟩
end Go.Proofs.YtifnmbmijljhfaaGreat.E
