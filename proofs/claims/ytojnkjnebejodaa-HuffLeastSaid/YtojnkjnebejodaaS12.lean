/- Lengths: their widths fill the room. -/
import Derived.Test.YtojnkjnebejodaaS11
import Derived.Test.YtojnkjnebejodaaH5
namespace Go.Proofs.Ytojnkjnebejodaa.E
open Go
theorem sumU_more {g h : Nat → Nat} {k : Nat} : ∀ {n}, (∀ i, i < n → h i ≤ g i) → k < n → sumU n h + (g k - h k) ≤ sumU n g
  | n + 1, e, hk => by
    rw [sumU, sumU]
    by_cases c : n = k
    · subst c
      have h1 := sumU_le (n := n) fun i hi => e i (by omega)
      have h2 := e n (by omega)
      omega
    · have h1 := sumU_more (g := g) (h := h) (k := k) (n := n) (fun i hi => e i (by omega)) (by omega)
      have h2 := e n (by omega)
      omega
theorem thF_count (cs : List Int) : sumU cs.length (fun i => if 0 < cs.getD i 0 then 1 else 0) = (thF cs).length := by
  rw [← ones_sum (thF_ones cs)]
  exact sumU_congr fun i hi => by
    rw [thF_tot]
    by_cases c : 0 < cs.getD i 0
    · rw [if_pos c, if_pos ⟨hi, c⟩]
    · rw [if_neg c, if_neg (fun k => c k.2)]
/-- how long the word of a symbol is -/
def dF (cs : List Int) (lim i : Nat) : Nat := tot i (takeF cs lim)
theorem dF_le {cs : List Int} {lim : Nat} (h : 1 ≤ lim) (i : Nat) : dF cs lim i ≤ lim := by
  have := row_tot_le (cs := cs) (lim - 1) (max (2 * (thF cs).length - 2) 1) i
  unfold dF takeF; omega
theorem dF_absent {cs : List Int} {lim i : Nat} (h : ¬ (i < cs.length ∧ 0 < cs.getD i 0)) : dF cs lim i = 0 := tot_absent h _ _
theorem lens_get {cs : List Int} {lim i : Nat} (h : i < cs.length) : (lensF cs lim).getD i 0 = (dF cs lim i : Nat) := mapR_get h
theorem takeF_eq {cs : List Int} {lim : Nat} (h : 2 ≤ (thF cs).length) : takeF cs lim = (rowF (thF cs) (lim - 1)).take (2 * (thF cs).length - 2) := by
  unfold takeF; rw [show max (2 * (thF cs).length - 2) 1 = 2 * (thF cs).length - 2 by omega]
theorem wid_pow {j d : Nat} (h : d ≤ j + 1) : wid j d + 2 ^ (j + 1 - d) = 2 ^ (j + 1) := by
  unfold wid
  have : 2 ^ (j + 1 - d) ≤ 2 ^ (j + 1) := Nat.pow_le_pow_right (by omega) (by omega)
  omega
/-- the room that the words of all symbols take -/
theorem lens_sum {cs : List Int} (hl : cs.length ≤ 256) (h0 : ∀ i, 0 ≤ cs.getD i 0) {lim : Nat} (h1 : 1 ≤ lim) (hk : (thF cs).length ≤ 2 ^ lim) (h2 : 2 ≤ (thF cs).length) : sumU cs.length (fun i => if 0 < cs.getD i 0 then 2 ^ (lim - dF cs lim i) else 0) = 2 ^ lim := by
  obtain ⟨j, rfl⟩ : ∃ j, lim = j + 1 := ⟨lim - 1, by omega⟩
  have hb := row_big (thF cs) h1 hk
  rw [Nat.add_sub_cancel] at hb
  have hw := kraft_row hl h0 j (2 * (thF cs).length - 2) hb
  have hd : ∀ i, tot i ((rowF (thF cs) j).take (2 * (thF cs).length - 2)) = dF cs (j + 1) i := fun i => by
    unfold dF; rw [takeF_eq h2, Nat.add_sub_cancel]
  have hs : sumU cs.length (fun i => wid j (dF cs (j + 1) i) + if 0 < cs.getD i 0 then 2 ^ (j + 1 - dF cs (j + 1) i) else 0) = sumU cs.length (fun i => (if 0 < cs.getD i 0 then 1 else 0) * 2 ^ (j + 1)) := sumU_congr fun i hi => by
    by_cases c : 0 < cs.getD i 0
    · rw [if_pos c, if_pos c, Nat.one_mul, wid_pow (dF_le h1 i)]
    · rw [if_neg c, if_neg c, dF_absent (fun k => c k.2), wid_zero, Nat.zero_mul]
  rw [sumU_add, sumU_mul, thF_count] at hs
  rw [sumU_congr (h := fun i => wid j (dF cs (j + 1) i)) fun i _ => by rw [hd i]] at hw
  rw [hw] at hs
  have e1 : 2 ^ (j + 1) = 2 * 2 ^ j := by rw [Nat.pow_succ]; omega
  have e2 : (thF cs).length * 2 ^ (j + 1) = (2 * (thF cs).length - 2) * 2 ^ j + 2 ^ (j + 1) := by
    rw [e1, ← Nat.mul_assoc, ← Nat.add_mul]
    congr 1; omega
  omega
theorem dF_pos {cs : List Int} (hl : cs.length ≤ 256) (h0 : ∀ i, 0 ≤ cs.getD i 0) {lim : Nat} (h1 : 1 ≤ lim) (hk : (thF cs).length ≤ 2 ^ lim) (h2 : 2 ≤ (thF cs).length) {i : Nat} (hi : i < cs.length) (hc : 0 < cs.getD i 0) : 1 ≤ dF cs lim i := by
  have hs := lens_sum hl h0 h1 hk h2
  rcases Nat.lt_or_ge (dF cs lim i) 1 with c | c
  · exfalso
    have hm := sumU_more (g := fun i => if 0 < cs.getD i 0 then 2 ^ (lim - dF cs lim i) else 0) (h := fun i => if 0 < cs.getD i 0 then 1 else 0) (k := i) (n := cs.length) (fun k _ => by
      by_cases c : 0 < cs.getD k 0
      · rw [if_pos c, if_pos c]; exact Nat.one_le_two_pow
      · rw [if_neg c, if_neg c]; exact Nat.le_refl _) hi
    rw [thF_count, hs] at hm
    rw [if_pos hc, if_pos hc, show lim - dF cs lim i = lim by omega] at hm
    have : 1 ≤ 2 ^ lim := Nat.one_le_two_pow
    omega
  · exact c
theorem kr_sum (l : List Int) : ∀ s, kr l s = sumU s fun i => if 0 < l.getD i 0 then pw (l.getD i 0).toNat else 0
  | 0 => rfl
  | s + 1 => by rw [kr, sumU, kr_sum l s]
theorem lens_kr {cs : List Int} (hl : cs.length ≤ 256) (h0 : ∀ i, 0 ≤ cs.getD i 0) {lim : Nat} (h1 : 1 ≤ lim) (h15 : lim ≤ 15) (hk : (thF cs).length ≤ 2 ^ lim) (h2 : 2 ≤ (thF cs).length) : kr (lensF cs lim) cs.length = 32768 := by
  rw [kr_sum, sumU_congr (h := fun i => (if 0 < cs.getD i 0 then 2 ^ (lim - dF cs lim i) else 0) * 2 ^ (15 - lim)) fun i hi => ?_, sumU_mul, lens_sum hl h0 h1 hk h2, ← Nat.pow_add, show lim + (15 - lim) = 15 by omega]
  rw [lens_get hi]
  by_cases c : 0 < cs.getD i 0
  · have hd := dF_pos hl h0 h1 hk h2 hi c
    have hd2 := dF_le (cs := cs) h1 i
    rw [if_pos (by omega), if_pos c, Int.toNat_natCast]
    unfold pw
    rw [← Nat.pow_add]; congr 1; omega
  · rw [dF_absent (fun k => c k.2), if_neg (by omega), if_neg c, Nat.zero_mul]
theorem lens_kr1 {cs : List Int} {lim : Nat} (h : (thF cs).length = 1) : kr (lensF cs lim) cs.length = 16384 := by
  rw [lens_one h, kr_sum, sumU_congr (h := fun i => (if 0 < cs.getD i 0 then 1 else 0) * 16384) fun i hi => ?_, sumU_mul, thF_count, h]
  rw [mapR_get hi]
  by_cases c : 0 < cs.getD i 0
  · rw [if_pos c, if_pos c]; rfl
  · rw [if_neg c, if_neg c]; rfl
theorem lens_kr0 {cs : List Int} {lim : Nat} (h : (thF cs).length = 0) : kr (lensF cs lim) cs.length = 0 := by
  rw [lens_none h, kr_sum, sumU_congr (h := fun _ => 0) fun i hi => ?_, sumU_zero]
  rw [mapR_get hi]; rfl
theorem lens_len (cs : List Int) (lim : Nat) : (lensF cs lim).length = cs.length := mapR_len _ _
theorem lens_inB {cs : List Int} {lim : Nat} (h1 : 1 ≤ lim) (h15 : lim ≤ 15) : inB 0 15 (lensF cs lim) = true := inB_iff.2 fun i hi => by
  rw [lens_len] at hi
  rw [lens_get hi]
  have := dF_le (cs := cs) h1 i
  omega
/-- the words of the lengths are there -/
theorem lens_codes {cs : List Int} (hl : cs.length ≤ 256) (h0 : ∀ i, 0 ≤ cs.getD i 0) {lim : Nat} (h1 : 1 ≤ lim) (h15 : lim ≤ 15) (hk : (thF cs).length ≤ 2 ^ lim) : usedB (lensF cs lim) 15 ≤ 32768 ∧ codes (lensF cs lim) = (codesL (lensF cs lim), 0) := by
  have hu : usedB (lensF cs lim) 15 ≤ 32768 := by
    have e := kr_used (lens_inB (cs := cs) h1 h15)
    rw [lens_len] at e
    rw [← e]
    rcases Nat.lt_or_ge (thF cs).length 2 with c | c
    · rcases Nat.lt_or_ge (thF cs).length 1 with d | d
      · rw [lens_kr0 (by omega)]; omega
      · rw [lens_kr1 (by omega)]; omega
    · rw [lens_kr hl h0 h1 h15 hk c]; exact Nat.le_refl _
  exact ⟨hu, codes_ok (by rw [lens_len]; omega) (lens_inB h1 h15) (by omega)⟩
