/- Decoding: one symbol out of bits; the program's words. -/
import Derived.Test.YtojnkjnebejodaaH9
namespace Go.Proofs.Ytojnkjnebejodaa.E
open Go
theorem symN_mono {l : List Int} {n a : Nat} : ∀ {b : Nat}, a ≤ b → (symN l n a).length ≤ (symN l n b).length
  | 0, h => by obtain rfl : a = 0 := by omega
               exact Nat.le_refl _
  | b + 1, h => by
    by_cases e : a = b + 1
    · subst e; exact Nat.le_refl _
    · have := symN_mono (l := l) (n := n) (a := a) (b := b) (by omega)
      rw [symN_succ, List.length_append]; omega
theorem symN_at {l : List Int} {n i : Nat} (hi : l.getD i 0 = (n : Int)) : ∀ {L : Nat}, i < L → (symN l n L).getD (symN l n i).length 0 = i ∧ (symN l n i).length < (symN l n L).length
  | 0, h => by omega
  | L + 1, h => by
    by_cases e : i = L
    · subst e
      rw [symN_yes hi, List.length_append, List.length_singleton]
      exact ⟨by rw [appG2 0 (Nat.le_refl _), Nat.sub_self]; rfl, by omega⟩
    · have ih := symN_at hi (L := L) (by omega)
      rw [symN_succ, List.length_append]
      exact ⟨by rw [appG1 0 ih.2]; exact ih.1, by omega⟩
/-- the symbol with the word W of length n; -1: there is none -/
def findV (l : List Int) (n W : Nat) : Int := if firstW l n ≤ W ∧ W < firstW l n + cntW l n then (((symN l n l.length).getD (W - firstW l n) 0 : Nat) : Int) else -1
theorem cntW_pos {l : List Int} {n : Nat} (h : 1 ≤ n) : cntW l n = (symN l n l.length).length := by unfold cntW; rw [if_neg (by omega)]
theorem find_hit {l : List Int} {n W i : Nat} (hi : i < l.length) (hn : 1 ≤ n) (h1 : (codeAt l i).1 = (n : Int)) (h2 : (codeAt l i).2 = (W : Int)) : findV l n W = (i : Int) := by
  have hp : ¬ l.getD i 0 ≤ 0 := by
    intro h; unfold codeAt at h1; rw [if_pos h] at h1; simp at h1; omega
  have he : l.getD i 0 = (n : Int) := by unfold codeAt at h1; rw [if_neg hp] at h1; exact h1
  have hw : firstW l n + (symN l n i).length = W := by
    unfold codeAt at h2; rw [if_neg hp, he, Int.toNat_natCast] at h2; simp only at h2; omega
  have ha := symN_at he hi
  unfold findV
  rw [cntW_pos hn, if_pos (by omega), show W - firstW l n = (symN l n i).length by omega, ha.1]
theorem find_none {l : List Int} {n W : Nat} (hn : 1 ≤ n) (h : ∀ j, j < l.length → ¬ ((codeAt l j).1 = (n : Int) ∧ (codeAt l j).2 = (W : Int))) : findV l n W = -1 := by
  unfold findV
  rw [cntW_pos hn]
  by_cases c : firstW l n ≤ W ∧ W < firstW l n + (symN l n l.length).length
  · exfalso
    have hr : W - firstW l n < (symN l n l.length).length := by omega
    have hp := code_pos hn hr
    have hm := (mem_symN.1 (getD_mem hr)).1
    exact h _ hm ⟨by rw [hp.2], by rw [hp.2]; show ((firstW l n + (W - firstW l n) : Nat) : Int) = W; omega⟩
  · rw [if_neg c]
theorem findV_ge (l : List Int) (n W : Nat) : -1 ≤ findV l n W := by unfold findV; split <;> omega
/-- behind k - 1 bits of a symbol's word -/
structure Dec (l : List Int) (w : List UInt8) (p0 k W p : Nat) : Prop where
  d : dec1 l w (16 - k) k W p = dec1 l w 15 1 0 p0
  lo : firstW l (k - 1) + cntW l (k - 1) ≤ W
  hi : W + 1 ≤ 2 ^ (k - 1)
  k1 : 1 ≤ k
  k2 : k ≤ 16
  p : p ≤ 8 * w.length
theorem Dec.init {l : List Int} {w : List UInt8} {p : Nat} (h : p ≤ 8 * w.length) : Dec l w p 1 0 p := ⟨rfl, by show 0 + 0 ≤ 0; omega, by simp, by omega, by omega, h⟩
theorem Dec.bd {l : List Int} {w : List UInt8} {p0 k W p : Nat} (h : Dec l w p0 k W p) : W ≤ 32767 := by
  have h1 := h.hi; have := h.k2
  have h2 : 2 ^ (k - 1) ≤ 2 ^ 15 := Nat.pow_le_pow_right (by omega) (by omega)
  have h3 : 2 ^ 15 = 32768 := by decide
  omega
theorem Dec.first {l : List Int} {w : List UInt8} {p0 k W p : Nat} (h : Dec l w p0 k W p) : firstW l k = 2 * (firstW l (k - 1) + cntW l (k - 1)) := by
  obtain ⟨j, rfl⟩ : ∃ j, k = j + 1 := ⟨k - 1, by have := h.k1; omega⟩
  rfl
theorem Dec.out {l : List Int} {w : List UInt8} {p0 k W p : Nat} (h : Dec l w p0 k W p) (hk : 15 < k ∨ 8 * w.length ≤ p) : dec1 l w 15 1 0 p0 = none := by
  rw [← h.d]
  rcases hk with hk | hk
  · have : k = 16 := by have := h.k2; omega
    subst this; rfl
  · exact dec1_end (by omega)
theorem Dec.yes {l : List Int} {w : List UInt8} {p0 k W p : Nat} (h : Dec l w p0 k W p) (hk : k ≤ 15) (hp : p < 8 * w.length) (hf : 2 * W + bitW w p < firstW l k + cntW l k) : dec1 l w 15 1 0 p0 = some ((symN l k l.length).getD (2 * W + bitW w p - firstW l k) 0, p + 1) := by
  rw [← h.d, show 16 - k = (16 - (k + 1)) + 1 by omega, dec1_yes hp hf]
theorem Dec.no {l : List Int} {w : List UInt8} {p0 k W p : Nat} (h : Dec l w p0 k W p) (hk : k ≤ 15) (hp : p < 8 * w.length) (hf : ¬ 2 * W + bitW w p < firstW l k + cntW l k) : Dec l w p0 (k + 1) (2 * W + bitW w p) (p + 1) := by
  have hb := bitW_le w p
  have h1 := h.hi; have h2 := h.k1
  refine ⟨?_, by rw [Nat.add_sub_cancel]; omega, ?_, by omega, by omega, by omega⟩
  · rw [← h.d, show 16 - k = (16 - (k + 1)) + 1 by omega, dec1_no hp hf]
  · rw [Nat.add_sub_cancel]
    have : 2 ^ k = 2 * 2 ^ (k - 1) := by rw [← Nat.pow_succ', show (k - 1).succ = k by omega]
    omega
theorem Dec.low {l : List Int} {w : List UInt8} {p0 k W p : Nat} (h : Dec l w p0 k W p) : firstW l k ≤ 2 * W + bitW w p := by
  have := h.first; have := h.lo; omega
theorem findV_yes {l : List Int} {w : List UInt8} {p0 k W p : Nat} (h : Dec l w p0 k W p) (hf : 2 * W + bitW w p < firstW l k + cntW l k) : findV l k (2 * W + bitW w p) = (((symN l k l.length).getD (2 * W + bitW w p - firstW l k) 0 : Nat) : Int) := by
  unfold findV; rw [if_pos ⟨h.low, hf⟩]
theorem findV_no {l : List Int} {n W : Nat} (hf : ¬ W < firstW l n + cntW l n) : findV l n W = -1 := by
  unfold findV; rw [if_neg (by omega)]
theorem codesL_len (l : List Int) : (codesL l).length = l.length := by simp [codesL]
theorem codesL_get {l : List Int} {i : Nat} (h : i < l.length) : (codesL l).getD i (0, 0) = codeAt l i := by
  unfold codesL; rw [List.getD_eq_getElem?_getD, List.getElem?_map, List.getElem?_range h]; rfl

theorem wordsF_none {l : List Int} {w : List UInt8} {n : Nat} (h : 32768 < usedB l 15 ∨ decA l w n 0 = none) : wordsF l w n = none := by
  unfold wordsF
  by_cases c : 32768 < usedB l 15
  · rw [if_pos c]
  · rw [if_neg c]
    rcases h with h | h
    · exact absurd h c
    · rw [h]
theorem wordsF_some {l : List Int} {w : List UInt8} {n e : Nat} {t : List UInt8} (hu : ¬ 32768 < usedB l 15) (h : decA l w n 0 = some (t, e)) : wordsF l w n = if (e + 7) / 8 = w.length ∧ tailZ w e then some t else none := by
  unfold wordsF; rw [if_neg hu, h]
theorem decA_long {l : List Int} {w : List UInt8} {n : Nat} (h : 8 * w.length < n) : decA l w n 0 = none := by
  cases hd : decA l w n 0 with
  | none => rfl
  | some x =>
    obtain ⟨t, e⟩ := x
    have := decA_bd hd (by omega)
    omega
/-- the symbols so far -/
structure Dcs (l : List Int) (w : List UInt8) (n : Nat) (T : List UInt8) (p : Nat) : Prop where
  d : pre T (decA l w (n - T.length) p) = decA l w n 0
  m : T.length ≤ n
  p : p ≤ 8 * w.length
theorem Dcs.init {l : List Int} {w : List UInt8} {n : Nat} : Dcs l w n [] 0 := ⟨pre_nil _, by simp, by omega⟩
theorem Dcs.fail {l : List Int} {w : List UInt8} {n : Nat} {T : List UInt8} {p : Nat} (h : Dcs l w n T p) (hm : T.length < n) (h1 : dec1 l w 15 1 0 p = none) : decA l w n 0 = none := by
  rw [← h.d, show n - T.length = (n - T.length - 1) + 1 by omega, pre_fail h1]
theorem Dcs.step {l : List Int} {w : List UInt8} {n : Nat} {T : List UInt8} {p s e : Nat} (h : Dcs l w n T p) (hm : T.length < n) (h1 : dec1 l w 15 1 0 p = some (s, e)) : Dcs l w n (T ++ [s.toUInt8]) e := by
  refine ⟨?_, by rw [List.length_append, List.length_singleton]; omega, (dec1_bd h1).2⟩
  rw [← h.d, show n - T.length = (n - (T ++ [s.toUInt8]).length) + 1 by rw [List.length_append, List.length_singleton]; omega, pre_step h1]
theorem Dcs.done {l : List Int} {w : List UInt8} {n : Nat} {T : List UInt8} {p : Nat} (h : Dcs l w n T p) (hm : n ≤ T.length) : decA l w n 0 = some (T, p) := by
  have := h.m
  rw [← h.d, show n - T.length = 0 by omega]
  simp [decA, pre]

def NoC (l : List Int) (n W i : Nat) : Prop := ∀ j, j < i → ¬ ((codeAt l j).1 = (n : Int) ∧ (codeAt l j).2 = (W : Int))
theorem noC_zero {l : List Int} {n W : Nat} : NoC l n W 0 := fun j h => by omega
theorem noC_succ {l : List Int} {n W i : Nat} (h : NoC l n W i) (hi : i < l.length) (hx : ¬ ((codesL l).getD i (0, 0)).1 = (n : Int) ∨ ¬ ((codesL l).getD i (0, 0)).2 = (W : Int)) : NoC l n W (i + 1) := by
  intro j hj hc
  rw [codesL_get hi] at hx
  by_cases e : j = i
  · subst e; rcases hx with hx | hx
    · exact hx hc.1
    · exact hx hc.2
  · exact h j (by omega) hc
