/- HuffCodes: canonical words: what they are. -/
import Derived.Test.YtojnkjnebejodaaH3
namespace Go.Proofs.Ytojnkjnebejodaa.E
open Go

def cntW (l : List Int) (n : Nat) : Nat := if n = 0 then 0 else (symN l n l.length).length
/-- the first word of length n -/
def firstW (l : List Int) : Nat → Nat
  | 0 => 0
  | n + 1 => 2 * (firstW l n + cntW l n)
theorem word_used (l : List Int) : ∀ n, n ≤ 15 → (firstW l n + cntW l n) * 2 ^ (15 - n) = usedB l n := by
  intro n
  induction n with
  | zero => intro _; simp [firstW, cntW, usedB]
  | succ n ih =>
    intro hn
    have h1 := ih (by omega)
    have h2 : 2 ^ (15 - n) = 2 * 2 ^ (15 - (n + 1)) := by
      rw [← Nat.pow_succ']; congr 1; omega
    have h3 : cntW l (n + 1) = (symN l (n + 1) l.length).length := by unfold cntW; rw [if_neg (by omega)]
    show (2 * (firstW l n + cntW l n) + cntW l (n + 1)) * 2 ^ (15 - (n + 1)) = usedB l n + (symN l (n + 1) l.length).length * 2 ^ (15 - (n + 1))
    rw [Nat.add_mul, h3, ← h1, h2, Nat.mul_comm 2, Nat.mul_assoc]
theorem word_le {l : List Int} (h : usedB l 15 ≤ 32768) {n : Nat} (hn : n ≤ 15) : firstW l n + cntW l n ≤ 32768 := by
  have h1 := word_used l n hn
  have h2 : usedB l n ≤ usedB l 15 := by
    have mono : ∀ a b, usedB l a ≤ usedB l (a + b) := by
      intro a b
      induction b with
      | zero => exact Nat.le_refl _
      | succ b ih => exact Nat.le_trans ih (Nat.le_add_right _ _)
    have := mono n (15 - n)
    rwa [show n + (15 - n) = 15 by omega] at this
  have h3 : 1 ≤ 2 ^ (15 - n) := Nat.one_le_two_pow
  have h4 : (firstW l n + cntW l n) * 1 ≤ (firstW l n + cntW l n) * 2 ^ (15 - n) := Nat.mul_le_mul_left _ h3
  omega
/-- the word of symbol i -/
def codeAt (l : List Int) (i : Nat) : Int × Int := if l.getD i 0 ≤ 0 then (0, 0) else (l.getD i 0, ((firstW l (l.getD i 0).toNat + (symN l (l.getD i 0).toNat i).length : Nat) : Int))
def codesL (l : List Int) : List (Int × Int) := (List.range l.length).map (codeAt l)
/-- the words of the lengths below n, and of length n of the first i symbols -/
def partC (l : List Int) (n i : Nat) : List (Int × Int) := (List.range l.length).map fun j => if 0 < l.getD j 0 ∧ (l.getD j 0 < n ∨ l.getD j 0 = n ∧ j < i) then codeAt l j else (0, 0)
def codeC (c : Int × Int) : List Value := [.int .i64 c.1, .int .u32 c.2]
instance : Enc codeC 2 := ⟨fun _ => rfl, by omega, fun c => by intro v hv; simp only [codeC, List.mem_cons, List.not_mem_nil, or_false] at hv; rcases hv with rfl | rfl <;> rfl⟩

/-- what Codes tells: the words, the error -/
def codes (l : List Int) : List (Int × Int) × Int := if 256 < l.length then ([], 2) else if inB 0 15 l then (if 32768 < usedB l 15 then ([], 41) else (codesL l, 0)) else ([], 3)
theorem codes_long {l : List Int} (h : 256 < l.length) : codes l = ([], 2) := by unfold codes; rw [if_pos h]
theorem codes_bad {l : List Int} (h : ¬ 256 < l.length) (hb : inB 0 15 l = false) : codes l = ([], 3) := by unfold codes; rw [if_neg h, hb]; rfl
theorem codes_much {l : List Int} (h : ¬ 256 < l.length) (hb : inB 0 15 l = true) (hk : 32768 < usedB l 15) : codes l = ([], 41) := by unfold codes; rw [if_neg h, hb, if_pos rfl, if_pos hk]
theorem codes_ok {l : List Int} (h : ¬ 256 < l.length) (hb : inB 0 15 l = true) (hk : ¬ 32768 < usedB l 15) : codes l = (codesL l, 0) := by unfold codes; rw [if_neg h, hb, if_pos rfl, if_neg hk]

theorem part_init (l : List Int) : partC l 1 0 = List.replicate l.length (0, 0) := by
  apply List.ext_getElem (by simp [partC])
  intro j h1 h2
  simp only [partC, List.getElem_map, List.getElem_range, List.getElem_replicate]
  rw [if_neg (by omega)]
theorem partC_length (l : List Int) (n i : Nat) : (partC l n i).length = l.length := by simp [partC]
theorem cntW_le (l : List Int) (n : Nat) : cntW l n ≤ l.length := by
  unfold cntW; split
  · omega
  · exact symN_le l n l.length

theorem part_set {l : List Int} {n i : Nat} (hi : i < l.length) (h : l.getD i 0 = (n : Int)) (hn : 1 ≤ n) : (partC l n i).set i (codeAt l i) = partC l n (i + 1) := by
  apply List.ext_getElem (by simp [partC])
  intro j h1 h2
  rw [List.getElem_set]
  simp only [partC, List.getElem_map, List.getElem_range]
  by_cases e : i = j
  · subst e; rw [if_pos rfl, if_pos (by omega)]
  · rw [if_neg e]
    by_cases c : 0 < l.getD j 0 ∧ (l.getD j 0 < n ∨ l.getD j 0 = n ∧ j < i)
    · rw [if_pos c, if_pos (by omega)]
    · rw [if_neg c, if_neg (by omega)]
theorem part_skip {l : List Int} {n i : Nat} (h : ¬ l.getD i 0 = (n : Int)) : partC l n (i + 1) = partC l n i := by
  unfold partC
  apply List.map_congr_left
  intro j _
  by_cases c : 0 < l.getD j 0 ∧ (l.getD j 0 < n ∨ l.getD j 0 = n ∧ j < i)
  · rw [if_pos c, if_pos (by omega)]
  · rw [if_neg c, if_neg (by
      intro k; apply c
      by_cases e : j = i
      · subst e; omega
      · omega)]
theorem part_next (l : List Int) (n : Nat) : partC l (n + 1) 0 = partC l n l.length := by
  unfold partC
  apply List.map_congr_left
  intro j hj
  have := List.mem_range.1 hj
  by_cases c : 0 < l.getD j 0 ∧ (l.getD j 0 < n ∨ l.getD j 0 = n ∧ j < l.length)
  · rw [if_pos c, if_pos (by omega)]
  · rw [if_neg c, if_neg (by omega)]
theorem part_end {l : List Int} (h : inB 0 15 l = true) : partC l 16 0 = codesL l := by
  unfold partC codesL
  apply List.map_congr_left
  intro j hj
  have := inB_iff.1 h j (List.mem_range.1 hj)
  by_cases c : 0 < l.getD j 0
  · rw [if_pos (by omega)]
  · rw [if_neg (by omega)]; unfold codeAt; rw [if_pos (by omega)]

theorem first_mul {l : List Int} {n : Nat} (h1 : 1 ≤ n) (h2 : n ≤ 15) (h : usedB l 15 ≤ 32768) : binI .mul .u32 ((firstW l (n - 1) + cntW l (n - 1) : Nat) : Int) 2 = .int .u32 ((firstW l n : Nat) : Int) := by
  obtain ⟨k, rfl⟩ : ∃ k, n = k + 1 := ⟨n - 1, by omega⟩
  have := word_le h (n := k) (by omega)
  show Value.int .u32 (IntKind.u32.wrap _) = .int .u32 ((2 * (firstW l k + cntW l k) : Nat) : Int)
  rw [Nat.add_sub_cancel]
  exact (v_same (by simp only [inK]; omega)).trans (v_int (by omega))
theorem code_cells {l : List Int} {n i : Nat} (h : l.getD i 0 = (n : Int)) (hn : 1 ≤ n) : (.agg [.int .i64 (n : Int), .int .u32 ((firstW l n + (symN l n i).length : Nat) : Int)].toArray : Value) = .agg (codeC (codeAt l i)).toArray := by
  unfold codeAt
  rw [if_neg (by omega), h, Int.toNat_natCast]; rfl
theorem word_add {l : List Int} {n i : Nat} (h : l.getD i 0 = (n : Int)) (hn : n ≤ 15) (hu : usedB l 15 ≤ 32768) (hi : i ≤ 256) : binI .add .u32 ((firstW l n + (symN l n i).length : Nat) : Int) 1 = .int .u32 ((firstW l n + (symN l n (i + 1)).length : Nat) : Int) := by
  have h1 := word_le hu hn
  have h2 := symN_le l n i
  rw [symN_yes h, List.length_append, List.length_singleton]
  exact (v_same (by simp only [inK]; omega)).trans (v_int (by omega))
