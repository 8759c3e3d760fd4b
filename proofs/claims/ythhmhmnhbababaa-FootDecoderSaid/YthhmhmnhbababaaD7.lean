/- Footers as bytes: Encode. -/
import Derived.Test.YthhmhmnhbababaaD6
import Derived.Test.YthhmhmnhbababaaE23
namespace Go.Proofs.Ythhmhmnhbababaa.E
open Go
theorem fixI_len (v : Int) : (fixedI v 8).length = 8 := by rw [fixedI_some (by omega), fixed_length]; rfl
theorem trF_len (sp : Int) (n : Nat) : (trF sp n).length = 24 := by
 unfold trF
 rw [seal_len, List.length_append, List.length_append, fixI_len, fixI_len]; rfl
theorem spB_nn : ∀ (bs : List Bi) (k : List UInt8), blsOk k bs → 0 ≤ spB bs
 | [], _, _ => by simp [spB]
 | b :: bs, k, h => by
  have ih := spB_nn bs b.cut h.2
  have hb := h.1.1
  unfold blkOk at hb
  have e : spB (b :: bs) = b.st + 5 + spB bs := by unfold spB; rw [List.map_cons, List.sum_cons]
  rw [e]; omega
theorem sp_nn (parts : Int) : ∀ (ps : List Pp) (last : Int) (n : Nat), infOk parts last n ps → 0 ≤ spaceF ps
 | [], _, _, _ => by simp [spaceF]
 | p :: ps, last, n, h => by
  have ih := sp_nn parts ps _ _ h.2
  have hb := spB_nn p.bl [] h.1.1.2.2.2.2
  have e : spaceF (p :: ps) = spB p.bl + spaceF ps := by unfold spaceF; rw [List.map_cons, List.sum_cons]
  rw [e]; omega
theorem drop_min {α : Type} (l : List α) (n : Nat) : l.drop (min l.length n) = l.drop n := by
 rcases Nat.lt_or_ge n l.length with h | h
 ·rw [Nat.min_eq_right (by omega)]
 rw [Nat.min_eq_left h, List.drop_length, List.drop_eq_nil_of_le h]
theorem encT_len (parts : Int) (ps : List Pp) : (encT parts ps).1.length ≤ 16793624 := by
 by_cases h : ftOk parts ps
 ·by_cases h2 : 16777216 < (bodyF parts ps).length ∨ 268435456 < spaceF ps
  ·rw [encT_full h h2]; simp
  rw [encT_ok h h2]
  show (_ ++ _ : List UInt8).length ≤ _
  rw [List.length_append, trF_len, pages_len _ _ (Nat.le_refl _)]; omega
 rw [encT_no h]; simp
