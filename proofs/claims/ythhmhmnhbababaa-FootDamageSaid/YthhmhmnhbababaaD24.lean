/- Footers: pages with turned bits. -/
import Derived.Test.YthhmhmnhbababaaD23
namespace Go.Proofs.Ythhmhmnhbababaa.E
open Go
theorem pages_cut {b : List UInt8} (c : ¬ b.length = 0) : (pagesF b).take 4100 = sealF (b.take 4096) ∧ (pagesF b).drop 4100 = pagesF (b.drop 4096) := by
  have hp := pages_cons c
  have hsl := seal_len (b.take 4096)
  rw [List.length_take] at hsl
  rcases Nat.lt_or_ge b.length 4096 with k | k
  · have e0 : b.drop 4096 = [] := List.drop_eq_nil_of_le (by omega)
    rw [hp, e0, pages_nil (b := []) rfl, List.append_nil]
    exact ⟨List.take_of_length_le (by omega), List.drop_eq_nil_of_le (by omega)⟩
  · rw [hp]
    exact ⟨List.take_left' (by omega), List.drop_left' (by omega)⟩
/-- what a burst leaves of a sealed text -/
def Hit (old new : List UInt8) : Prop := ∃ q B : Nat, (0 < B ∧ B < 4294967296) ∧ 2 ^ q * B < 256 ^ old.length ∧ new = xorL old (fixed old.length (2 ^ q * B))
theorem hit_open {x new : List UInt8} (h : Hit (sealF x) new) : ¬ (openF new).2 = 0 := by
  obtain ⟨q, B, hB, hl, rfl⟩ := h
  exact burst (p := q) (B := B) (fixed_length _ _) (by rw [le_fixed, Nat.mod_eq_of_lt hl]) hB
theorem unp_hit : ∀ (k : Nat) (b P : List UInt8), P.length = (pagesF b).length → 4100 * k < (pagesF b).length → Hit (((pagesF b).drop (4100 * k)).take 4100) ((P.drop (4100 * k)).take 4100) → unpF P = none
  | 0, b, P, hl, hk, h => by
    have c : ¬ b.length = 0 := fun k => by rw [pages_nil k] at hk; simp at hk
    rw [Nat.mul_zero, List.drop_zero, List.drop_zero, (pages_cut c).1] at h
    exact unp_bad (by omega) (hit_open h)
  | k + 1, b, P, hl, hk, h => by
    have c : ¬ b.length = 0 := fun k => by rw [pages_nil k] at hk; simp at hk
    have hc := (pages_cut c).2
    by_cases ho : (openF (P.take 4100)).2 = 0
    · rw [unp_cons (by omega) ho, unp_hit k (b.drop 4096) (P.drop 4100) (by rw [← hc, List.length_drop, List.length_drop, hl]) (by rw [← hc, List.length_drop]; omega) (by
        rw [← hc, List.drop_drop, List.drop_drop, show 4100 + 4100 * k = 4100 * (k + 1) by omega]; exact h)]
      rfl
    · exact unp_bad (by omega) ho
