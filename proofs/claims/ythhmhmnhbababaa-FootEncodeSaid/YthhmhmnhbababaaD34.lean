/- What Encode tells (slim claims: in place of D18's). -/
import Derived.Test.YthhmhmnhbababaaD33
namespace Go.Proofs.Ythhmhmnhbababaa.E
open Go
theorem putAll_cons (n : Int) (ns : List Int) : putAll (n :: ns) = putI n ++ putAll ns := by unfold putAll; rw [List.flatMap_cons]
theorem enc_may {parts : Int} {ps : List Pp} (h : ftOk parts ps) (h2 : ¬ (16777216 < (bodyF parts ps).length ∨ 268435456 < spaceF ps)) : mayT (spaceF ps) ((pagesF (bodyF parts ps)).length : Nat) := by
  have hs := sp_nn parts ps _ _ h.2
  have hp := pages_len _ (bodyF parts ps) (Nat.le_refl _)
  have hb : 2 ≤ (bodyF parts ps).length := by
    unfold bodyF
    have a1 := putI_pos (v := parts) (by have := h.1; omega)
    have a2 := putI_pos (v := ((ps.length : Nat) : Int)) (by omega)
    rw [List.length_append, putAll_cons, putAll_cons, List.length_append, List.length_append]; omega
  unfold mayT
  rw [hp]
  omega
theorem enc_0 {parts : Int} {ps : List Pp} (h : (encT parts ps).2 = 0) : ftOk parts ps ∧ mayT (spaceF ps) ((pagesF (bodyF parts ps)).length : Nat) ∧ encT parts ps = (pagesF (bodyF parts ps) ++ trF (spaceF ps) (pagesF (bodyF parts ps)).length, 0) := by
  by_cases h1 : ftOk parts ps
  · by_cases h2 : 16777216 < (bodyF parts ps).length ∨ 268435456 < spaceF ps
    · rw [encT_full h1 h2] at h; simp at h
    · exact ⟨h1, enc_may h1 h2, encT_ok h1 h2⟩
  · rw [encT_no h1] at h; simp at h
