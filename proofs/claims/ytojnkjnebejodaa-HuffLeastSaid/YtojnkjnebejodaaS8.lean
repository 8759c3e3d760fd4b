/- Lengths, in plain lists. -/
import Derived.Test.YtojnkjnebejodaaS7
namespace Go.Proofs.Ytojnkjnebejodaa.E
open Go
theorem thsA_tot (cs : List Int) (k : Nat) : ∀ j, j ≤ cs.length → tot k (thsA cs j) = if cs.length - j ≤ k ∧ k < cs.length ∧ 0 < cs.getD k 0 then 1 else 0
  | 0, _ => by rw [if_neg (by omega)]; rfl
  | j + 1, hj => by
    have ih := thsA_tot cs k j (by omega)
    by_cases c : 0 < cs.getD (cs.length - 1 - j) 0
    · rw [thsA_yes c, tot_append, ih]
      have ho : tot k [one (cs.getD (cs.length - 1 - j) 0) (cs.length - 1 - j)] = if k = cs.length - 1 - j then 1 else 0 := by simp [tot, one]
      rw [ho]
      by_cases e : k = cs.length - 1 - j
      · rw [if_neg (by omega), if_pos e, if_pos (by rw [← e] at c; omega)]
      · rw [if_neg (c := k = _) e]
        by_cases d : cs.length - j ≤ k ∧ k < cs.length ∧ 0 < cs.getD k 0
        · rw [if_pos d, if_pos (by omega)]
        · rw [if_neg d, if_neg (by omega)]
    · rw [thsA_no c, ih]
      by_cases e : k = cs.length - 1 - j
      · rw [← e] at c
        rw [if_neg (by omega), if_neg (by omega)]
      · by_cases d : cs.length - j ≤ k ∧ k < cs.length ∧ 0 < cs.getD k 0
        · rw [if_pos d, if_pos (by omega)]
        · rw [if_neg d, if_neg (by omega)]
theorem thF_tot (cs : List Int) (k : Nat) : tot k (thF cs) = if k < cs.length ∧ 0 < cs.getD k 0 then 1 else 0 := by
  rw [tot_perm (thF_perm cs), thsA_tot cs k _ (Nat.le_refl _)]
  by_cases d : k < cs.length ∧ 0 < cs.getD k 0
  · rw [if_pos d, if_pos (by omega)]
  · rw [if_neg d, if_neg (by omega)]
theorem thF_len (cs : List Int) : (thF cs).length ≤ cs.length := by rw [(thF_perm cs).length_eq]; exact thsA_len cs _
theorem thF_w {cs : List Int} {W : Int} (h : ∀ i, i < cs.length → cs.getD i 0 ≤ W) : wB W (thF cs) := fun t ht => by
  obtain ⟨i, rfl, h2, h3, h4⟩ := thsA_mem cs _ (Nat.le_refl _) t ((thF_perm cs).subset ht)
  exact ⟨Int.le_of_lt h4, h i h3⟩
theorem row_ok {cs : List Int} (hl : cs.length ≤ 256) (hB : inB 0 1099511627776 cs = true) {j : Nat} (hj : j ≤ 14) : (rowF (thF cs) j).length ≤ 512 ∧ wB 18014398509481984 (rowF (thF cs) j) ∧ ∀ k, tot k (rowF (thF cs) j) ≤ 15 := by
  have h1 := row_le (thF cs) j
  have h2 := thF_len cs
  refine ⟨by omega, fun t ht => ?_, fun k => ?_⟩
  · have h3 := row_w (thF_w fun i hi => (inB_iff.1 hB i hi).2) (by omega) j t ht
    have h4 : 2 ^ j ≤ 16384 := Nat.le_trans (Nat.pow_le_pow_right (n := 2) (by omega) hj) (by decide)
    have e : (2 : Int) ^ j = ((2 ^ j : Nat) : Int) := by simp
    rw [e] at h3
    omega
  · have h3 := row_tot (thF cs) k j
    have h4 := thF_tot cs k
    have h5 : tot k (thF cs) ≤ 1 := by rw [h4]; split <;> omega
    have h6 := Nat.mul_le_mul_left (j + 1) h5
    omega
theorem row_def (fs : List Th) : ∀ j, 2 ^ j * (2 * fs.length - (rowF fs j).length) + 1 ≤ fs.length + 2 ^ j
  | 0 => by rw [rowF]; omega
  | j + 1 => by
    have ih := row_def fs j
    have h1 := row_le fs j
    rw [row_len, Nat.pow_succ]
    obtain ⟨d, hd⟩ : ∃ d, d = 2 * fs.length - (rowF fs j).length := ⟨_, rfl⟩
    have h2 : 2 * (2 * fs.length - (fs.length + (rowF fs j).length / 2)) ≤ d + 1 := by omega
    rw [← hd] at ih
    have h3 := Nat.mul_le_mul_left (2 ^ j) h2
    rw [← Nat.mul_assoc, Nat.mul_add] at h3
    omega
theorem row_big (fs : List Th) {lim : Nat} (h1 : 1 ≤ lim) (h : fs.length ≤ 2 ^ lim) : 2 * fs.length - 2 ≤ (rowF fs (lim - 1)).length := by
  have hd := row_def fs (lim - 1)
  have hp : 2 ^ lim = 2 ^ (lim - 1) * 2 := by rw [← Nat.pow_succ]; congr 1; omega
  have h0 : 0 < 2 ^ (lim - 1) := Nat.pow_pos (by omega)
  rcases Nat.lt_or_ge 2 (2 * fs.length - (rowF fs (lim - 1)).length) with c | c
  · have := Nat.mul_le_mul_left (2 ^ (lim - 1)) c
    omega
  · omega
def mapR (n : Nat) (g : Nat → Int) : List Int := (List.range n).map g
@[simp] theorem mapR_len (n : Nat) (g : Nat → Int) : (mapR n g).length = n := by simp [mapR]
theorem mapR_get {n i : Nat} {g : Nat → Int} (h : i < n) : (mapR n g).getD i 0 = g i := by
  unfold mapR
  rw [List.getD_eq_getElem?_getD, List.getElem?_map, List.getElem?_range h]; rfl
theorem mapR_ext {n : Nat} {g g' : Nat → Int} (h : ∀ s, s < n → g s = g' s) : mapR n g = mapR n g' := List.map_congr_left fun s hs => h s (List.mem_range.1 hs)
theorem mapR_set {n i : Nat} {v : Int} {g : Nat → Int} : (mapR n g).set i v = mapR n fun s => if s = i then v else g s := by
  apply List.ext_getElem (by simp)
  intro k h1 h2
  simp only [mapR, List.getElem_set, List.getElem_map, List.getElem_range]
  by_cases c : i = k
  · rw [if_pos c, if_pos c.symm]
  · rw [if_neg c, if_neg (fun e => c e.symm)]
theorem mapR_rep (n : Nat) : List.replicate n (0 : Int) = mapR n fun _ => 0 := by
  apply List.ext_getElem (by simp)
  intro k h1 h2
  simp [mapR]
/-- the lengths: how often each symbol is in the first packages of the last row -/
def takeF (cs : List Int) (lim : Nat) : List Th := (rowF (thF cs) (lim - 1)).take (max (2 * (thF cs).length - 2) 1)
def lensF (cs : List Int) (lim : Nat) : List Int := mapR cs.length fun s => ((tot s (takeF cs lim) : Nat) : Int)
def lenF (cs : List Int) (lim : Int) : List Int × Int :=
  if 256 < cs.length then ([], 2) else if ¬ (inB 0 1099511627776 cs = true ∧ 1 ≤ lim ∧ lim ≤ 15) then ([], 3) else if 2 ^ lim.toNat < (thF cs).length then ([], 41) else (lensF cs lim.toNat, 0)
theorem lenF_long {cs : List Int} {lim : Int} (h : 256 < cs.length) : lenF cs lim = ([], 2) := by unfold lenF; rw [if_pos h]
theorem lenF_arg {cs : List Int} {lim : Int} (h : ¬ 256 < cs.length) (h2 : ¬ (inB 0 1099511627776 cs = true ∧ 1 ≤ lim ∧ lim ≤ 15)) : lenF cs lim = ([], 3) := by unfold lenF; rw [if_neg h, if_pos h2]
theorem lenF_lim {cs : List Int} {lim : Int} (h : ¬ 256 < cs.length) (h2 : inB 0 1099511627776 cs = true ∧ 1 ≤ lim ∧ lim ≤ 15) (h3 : 2 ^ lim.toNat < (thF cs).length) : lenF cs lim = ([], 41) := by unfold lenF; rw [if_neg h, if_neg (fun k => k h2), if_pos h3]
theorem lenF_ok {cs : List Int} {lim : Int} (h : ¬ 256 < cs.length) (h2 : inB 0 1099511627776 cs = true ∧ 1 ≤ lim ∧ lim ≤ 15) (h3 : ¬ 2 ^ lim.toNat < (thF cs).length) : lenF cs lim = (lensF cs lim.toNat, 0) := by unfold lenF; rw [if_neg h, if_neg (fun k => k h2), if_neg h3]
theorem lenF_len (cs : List Int) (lim : Int) : (lenF cs lim).1.length ≤ cs.length := by
  unfold lenF
  split
  · simp
  · split
    · simp
    · split
      · simp
      · show (mapR _ _).length ≤ _
        rw [mapR_len]; exact Nat.le_refl _
theorem row_one {fs : List Th} (h : fs.length = 1) : ∀ j, rowF fs j = fs
  | 0 => rfl
  | j + 1 => by
    match fs, h with
    | [x], _ => rw [rowF, row_one (fs := [x]) rfl j, pairsL, mergeL_nilR]; intro a b r h; cases h
theorem lens_one {cs : List Int} {lim : Nat} (h : (thF cs).length = 1) : lensF cs lim = mapR cs.length fun s => if 0 < cs.getD s 0 then 1 else 0 := by
  unfold lensF takeF
  refine mapR_ext fun s hs => ?_
  rw [row_one h, List.take_of_length_le (by omega), thF_tot]
  by_cases c : 0 < cs.getD s 0
  · rw [if_pos ⟨hs, c⟩, if_pos c]; rfl
  · rw [if_neg (fun k => c k.2), if_neg c]; rfl
theorem row_none {fs : List Th} (h : fs.length = 0) : ∀ j, rowF fs j = []
  | 0 => List.length_eq_zero_iff.1 h
  | j + 1 => by rw [rowF, row_none h j, List.length_eq_zero_iff.1 h, show pairsL [] = [] from rfl, mergeL_nilR]
theorem lens_none {cs : List Int} {lim : Nat} (h : (thF cs).length = 0) : lensF cs lim = mapR cs.length fun _ => 0 := by
  unfold lensF takeF
  refine mapR_ext fun s hs => ?_
  rw [row_none h]; simp [tot]
/-- gathered: q packages, and of the next one the first i symbols -/
def gatR (n : Nat) (R : List Th) (q i : Nat) : List Int := mapR n fun s => ((tot s (R.take q) + (if s < i then (R.getD q th0).f s else 0) : Nat) : Int)
@[simp] theorem gat_len (n : Nat) (R : List Th) (q i : Nat) : (gatR n R q i).length = n := mapR_len _ _
theorem gat_zero (n : Nat) (R : List Th) : List.replicate n (0 : Int) = gatR n R 0 0 := by
  rw [mapR_rep]; exact mapR_ext fun s _ => by simp [tot]
theorem gat_get {n i : Nat} {R : List Th} {q : Nat} (h : i < n) : (gatR n R q i).getD i 0 = ((tot i (R.take q) : Nat) : Int) := by
  unfold gatR; rw [mapR_get h, if_neg (by omega), Nat.add_zero]
theorem gat_set {n i : Nat} {R : List Th} {q : Nat} : (gatR n R q i).set i ((tot i (R.take q) + (R.getD q th0).f i : Nat) : Int) = gatR n R q (i + 1) := by
  unfold gatR
  rw [mapR_set]
  refine mapR_ext fun s _ => ?_
  by_cases c : s = i
  · subst c; rw [if_pos rfl, if_pos (by omega)]
  · rw [if_neg c]
    by_cases d : s < i
    · rw [if_pos d, if_pos (by omega)]
    · rw [if_neg d, if_neg (by omega)]
theorem gat_next {n : Nat} {R : List Th} {q : Nat} (h : q < R.length) : gatR n R q n = gatR n R (q + 1) 0 := by
  refine mapR_ext fun s hs => ?_
  have : R.take (q + 1) = R.take q ++ [R.getD q th0] := by
    rw [List.take_add_one, List.getElem?_eq_getElem h, List.getD_eq_getElem?_getD, List.getElem?_eq_getElem h]; rfl
  rw [if_pos hs, if_neg (by omega), this, tot_append]
  simp [tot]
theorem gat_end {cs : List Int} {lim : Nat} {R : List Th} {q : Nat} (hR : R = takeF cs lim) (hq : R.length ≤ q) : gatR cs.length R q 0 = lensF cs lim := by
  subst hR
  refine mapR_ext fun s _ => ?_
  rw [List.take_of_length_le hq]; simp
theorem gat_room {cs : List Int} {lim : Nat} (hl : cs.length ≤ 256) (hB : inB 0 1099511627776 cs = true) (hlim : lim ≤ 15) {q i : Nat} (h : q < (takeF cs lim).length) : tot i ((takeF cs lim).take q) + ((takeF cs lim).getD q th0).f i ≤ 15 := by
  have h1 := (row_ok hl hB (j := lim - 1) (by omega)).2.2 i
  have h2 := tot_take i (max (2 * (thF cs).length - 2) 1) (rowF (thF cs) (lim - 1))
  have h3 := tot_append i ((takeF cs lim).take q) ((takeF cs lim).drop q)
  rw [List.take_append_drop] at h3
  have h4 := tot_mem (k := i) (l := (takeF cs lim).drop q) (t := (takeF cs lim).getD q th0) (by rw [dropG th0 h]; exact List.mem_cons_self)
  unfold takeF at *
  omega
