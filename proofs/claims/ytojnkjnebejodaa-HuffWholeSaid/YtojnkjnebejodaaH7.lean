/- Decoding: what bytes tell. -/
import Derived.Test.YtojnkjnebejodaaH5
import Derived.Test.YtojnkjnebejodaaK2
namespace Go.Proofs.Ytojnkjnebejodaa.E
open Go
/-- the last of the lengths so far -/
def lastI (l : List Int) : Int := l.getLast?.getD (-1)
theorem lastI_app {l : List Int} {n : Nat} {x : Int} (h : 1 ≤ n) : lastI (l ++ List.replicate n x) = x := by
  unfold lastI
  obtain ⟨m, rfl⟩ : ∃ m, n = m + 1 := ⟨n - 1, by omega⟩
  rw [List.replicate_succ', ← List.append_assoc, List.getLast?_append]; simp
theorem get_nz {b : List UInt8} {a : Nat} (ha : a < b.length) (h0 : ¬ b.getD a 0 = 0) (h : (get (b.drop a)).2.2 = 0) : 1 ≤ (get (b.drop a)).1 := by
  apply Decidable.byContradiction; intro k
  have hg := get_ok h
  rw [show (get (b.drop a)).1 = 0 by omega] at hg
  have e : putI ((0 : Nat) : Int) = [0] := by decide +kernel
  rw [e, dropG 0 ha] at hg
  have h3 := hg.2.2
  cases hk : (get (b.getD a 0 :: b.drop (a + 1))).2.1 with
  | zero => rw [hk] at h3; simp at h3
  | succ m => rw [hk, List.take_succ_cons] at h3; injection h3 with h4 _; exact h0 h4.symm
theorem get_z {b : List UInt8} {a : Nat} (ha : a < b.length) (h0 : b.getD a 0 = 0) : get (b.drop a) = (0, 1, 0) := by
  rw [dropG 0 ha, h0]
  have := get_put (v := 0) (by omega) (by omega) (b.drop (a + 1))
  have e : putI 0 = [0] := by decide +kernel
  rw [e] at this
  exact this
/-- may this pair of the header be? -/
def hdrP (b : List UInt8) (a : Nat) (l : List Int) : Prop := (get (b.drop a)).2.2 = 0 ∧ l.length + (get (b.drop a)).1 ≤ 256 ∧ a + (get (b.drop a)).2.1 < b.length ∧ ((b.getD (a + (get (b.drop a)).2.1) 0).toNat : Int) ≤ 15 ∧ ¬ lastI l = ((b.getD (a + (get (b.drop a)).2.1) 0).toNat : Int)
instance (b : List UInt8) (a : Nat) (l : List Int) : Decidable (hdrP b a l) := by unfold hdrP; infer_instance
def hdrL (b : List UInt8) (a : Nat) (l : List Int) : List Int := l ++ List.replicate (get (b.drop a)).1 ((b.getD (a + (get (b.drop a)).2.1) 0).toNat : Int)
/-- the lengths that bytes begin with, and where the words begin -/
def hdr (b : List UInt8) (a : Nat) (l : List Int) : Option (List Int × Nat) :=
  if _h : a < b.length then
    if b.getD a 0 = 0 then (if lastI l = 0 then none else some (l, a + 1))
    else if hdrP b a l then hdr b (a + (get (b.drop a)).2.1 + 1) (hdrL b a l) else none
  else none
termination_by b.length - a
theorem hdr_end {b : List UInt8} {a : Nat} {l : List Int} (h : ¬ a < b.length) : hdr b a l = none := by rw [hdr, dif_neg h]
theorem hdr_z0 {b : List UInt8} {a : Nat} {l : List Int} (h : a < b.length) (h0 : b.getD a 0 = 0) (h1 : lastI l = 0) : hdr b a l = none := by rw [hdr, dif_pos h, if_pos h0, if_pos h1]
theorem hdr_z1 {b : List UInt8} {a : Nat} {l : List Int} (h : a < b.length) (h0 : b.getD a 0 = 0) (h1 : ¬ lastI l = 0) : hdr b a l = some (l, a + 1) := by rw [hdr, dif_pos h, if_pos h0, if_neg h1]
theorem hdr_no {b : List UInt8} {a : Nat} {l : List Int} (h : a < b.length) (h0 : ¬ b.getD a 0 = 0) (h1 : ¬ hdrP b a l) : hdr b a l = none := by rw [hdr, dif_pos h, if_neg h0, if_neg h1]
theorem hdr_more {b : List UInt8} {a : Nat} {l : List Int} (h : a < b.length) (h0 : ¬ b.getD a 0 = 0) (h1 : hdrP b a l) : hdr b a l = hdr b (a + (get (b.drop a)).2.1 + 1) (hdrL b a l) := by conv => lhs; rw [hdr, dif_pos h, if_neg h0, if_pos h1]
/-- the bit number i -/
def bitW (w : List UInt8) (i : Nat) : Nat := (w.getD (i / 8) 0).toNat / 2 ^ (i % 8) % 2
theorem bitW_le (w : List UInt8) (i : Nat) : bitW w i ≤ 1 := by unfold bitW; omega
/-- one symbol out of bits: k sizes are left, from n on -/
def dec1 (l : List Int) (w : List UInt8) : Nat → Nat → Nat → Nat → Option (Nat × Nat)
  | 0, _, _, _ => none
  | k + 1, n, word, p => if p < 8 * w.length then (if 2 * word + bitW w p < firstW l n + cntW l n then some ((symN l n l.length).getD (2 * word + bitW w p - firstW l n) 0, p + 1) else dec1 l w k (n + 1) (2 * word + bitW w p) (p + 1)) else none
theorem dec1_zero (l : List Int) (w : List UInt8) (n word p : Nat) : dec1 l w 0 n word p = none := rfl
theorem dec1_end {l : List Int} {w : List UInt8} {k n word p : Nat} (h : ¬ p < 8 * w.length) : dec1 l w k n word p = none := by cases k with
  | zero => rfl
  | succ k => rw [dec1, if_neg h]
theorem dec1_yes {l : List Int} {w : List UInt8} {k n word p : Nat} (h : p < 8 * w.length) (h2 : 2 * word + bitW w p < firstW l n + cntW l n) : dec1 l w (k + 1) n word p = some ((symN l n l.length).getD (2 * word + bitW w p - firstW l n) 0, p + 1) := by rw [dec1, if_pos h, if_pos h2]
theorem dec1_no {l : List Int} {w : List UInt8} {k n word p : Nat} (h : p < 8 * w.length) (h2 : ¬ 2 * word + bitW w p < firstW l n + cntW l n) : dec1 l w (k + 1) n word p = dec1 l w k (n + 1) (2 * word + bitW w p) (p + 1) := by rw [dec1, if_pos h, if_neg h2]
theorem dec1_bd {l : List Int} {w : List UInt8} : ∀ {k n word p s e : Nat}, dec1 l w k n word p = some (s, e) → p < e ∧ e ≤ 8 * w.length
  | 0, _, _, _, _, _, h => by cases h
  | k + 1, n, word, p, s, e, h => by
    by_cases c : p < 8 * w.length
    · by_cases c2 : 2 * word + bitW w p < firstW l n + cntW l n
      · rw [dec1_yes c c2] at h; injection h with h; injection h with _ h; omega
      · rw [dec1_no c c2] at h
        have := dec1_bd h; omega
    · rw [dec1_end c] at h; cases h
/-- m symbols out of bits -/
def decA (l : List Int) (w : List UInt8) : Nat → Nat → Option (List UInt8 × Nat)
  | 0, p => some ([], p)
  | m + 1, p => match dec1 l w 15 1 0 p with
    | none => none
    | some (s, e) => match decA l w m e with
      | none => none
      | some (t, e2) => some (s.toUInt8 :: t, e2)
def pre (t : List UInt8) : Option (List UInt8 × Nat) → Option (List UInt8 × Nat)
  | none => none
  | some (u, e) => some (t ++ u, e)
theorem pre_nil (o : Option (List UInt8 × Nat)) : pre [] o = o := by cases o <;> rfl
theorem pre_step {l : List Int} {w : List UInt8} {m p s e : Nat} {t : List UInt8} (h : dec1 l w 15 1 0 p = some (s, e)) : pre t (decA l w (m + 1) p) = pre (t ++ [s.toUInt8]) (decA l w m e) := by
  rw [decA, h]
  simp only []
  cases decA l w m e with
  | none => rfl
  | some x => obtain ⟨u, e2⟩ := x; simp [pre]
theorem pre_fail {l : List Int} {w : List UInt8} {m p : Nat} {t : List UInt8} (h : dec1 l w 15 1 0 p = none) : pre t (decA l w (m + 1) p) = none := by rw [decA, h]; rfl
theorem decA_bd {l : List Int} {w : List UInt8} : ∀ {m p : Nat} {t : List UInt8} {e : Nat}, decA l w m p = some (t, e) → p ≤ 8 * w.length → p + m ≤ e ∧ e ≤ 8 * w.length ∧ t.length = m
  | 0, p, t, e, h, hp => by injection h with h; injection h with h1 h2; subst h1 h2; exact ⟨by omega, hp, rfl⟩
  | m + 1, p, t, e, h, hp => by
    rw [decA] at h
    split at h
    · cases h
    · rename_i s e1 h1
      have hb := dec1_bd h1
      split at h
      · cases h
      · rename_i u e2 h2
        injection h with h; injection h with h3 h4
        subst h3 h4
        have := decA_bd h2 (by omega)
        simp only [List.length_cons]; omega
def tailZ (w : List UInt8) (e : Nat) : Prop := ∀ i, i < 8 * w.length → e ≤ i → bitW w i = 0
instance (w : List UInt8) (e : Nat) : Decidable (tailZ w e) := by unfold tailZ; infer_instance
/-- the text of n bytes that bits tell -/
def wordsF (l : List Int) (w : List UInt8) (n : Nat) : Option (List UInt8) :=
  if 32768 < usedB l 15 then none else match decA l w n 0 with
    | none => none
    | some (t, e) => if (e + 7) / 8 = w.length ∧ tailZ w e then some t else none
/-- what Decode tells -/
def huffD (b : List UInt8) (n : Int) : List UInt8 × Int := if n < 0 ∨ 65536 < n then ([], 3) else match hdr b 0 [] with
  | none => ([], 40)
  | some (l, a) => match wordsF l (b.drop a) n.toNat with
    | none => ([], 40)
    | some t => (t, 0)
theorem bits_zero {x : UInt8} {k : Nat} (hk : k < 8) : (x.toNat / 2 ^ k = 0) ↔ ∀ i, k ≤ i → i < 8 → x.toNat / 2 ^ i % 2 = 0 := by
  have hx := x.toNat_lt
  constructor
  · intro h i hi h8
    obtain ⟨j, rfl⟩ : ∃ j, i = k + j := ⟨i - k, by omega⟩
    rw [Nat.pow_add, ← Nat.div_div_eq_div_mul, h]; simp
  · intro h
    apply Nat.eq_of_testBit_eq
    intro i
    rw [Nat.zero_testBit, Nat.testBit_div_two_pow]
    by_cases c : k + i < 8
    · have := h (k + i) (by omega) c
      rw [Nat.testBit_eq_decide_div_mod_eq, Nat.add_comm i k, this]; rfl
    · exact Nat.testBit_lt_two_pow (by
        have : 2 ^ 8 ≤ 2 ^ (i + k) := Nat.pow_le_pow_right (by omega) (by omega)
        omega)
theorem tail_byte {w : List UInt8} {e : Nat} (h : (e + 7) / 8 = w.length) (h8 : ¬ e % 8 = 0) : tailZ w e ↔ (w.getD (e / 8) 0).toNat / 2 ^ (e % 8) = 0 := by
  rw [bits_zero (by omega)]
  unfold tailZ bitW
  constructor
  · intro hz i hi h8'
    have := hz (8 * (e / 8) + i) (by omega) (by omega)
    rwa [show (8 * (e / 8) + i) / 8 = e / 8 by omega, show (8 * (e / 8) + i) % 8 = i by omega] at this
  · intro hz i hi he
    have h1 : i / 8 = e / 8 := by omega
    rw [h1]
    exact hz (i % 8) (by omega) (by omega)
theorem tail_none {w : List UInt8} {e : Nat} (h : (e + 7) / 8 = w.length) (h8 : e % 8 = 0) : tailZ w e := fun i hi he => by omega
