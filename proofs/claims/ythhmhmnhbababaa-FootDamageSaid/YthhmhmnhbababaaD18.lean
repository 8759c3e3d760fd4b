/- Footers there and back. -/
import Derived.Test.YthhmhmnhbababaaD17
namespace Go.Proofs.Ythhmhmnhbababaa.E
open Go
theorem enc_err {parts : Int} {ps : List Pp} (h : ¬ (encT parts ps).2 = 0) : (encT parts ps).1.length = 0 ∧ ((encT parts ps).2 = 80 ↔ chkF parts ps = 80) := by
  by_cases h1 : ftOk parts ps
  · by_cases h2 : 16777216 < (bodyF parts ps).length ∨ 268435456 < spaceF ps
    · rw [encT_full h1 h2, chkF_0 h1]; simp
    · rw [encT_ok h1 h2] at h; simp at h
  · rw [encT_no h1, chkF_80 h1]; simp
theorem enc_0 {parts : Int} {ps : List Pp} (h : (encT parts ps).2 = 0) : ftOk parts ps ∧ mayT (spaceF ps) ((pagesF (bodyF parts ps)).length : Nat) ∧ encT parts ps = (pagesF (bodyF parts ps) ++ trF (spaceF ps) (pagesF (bodyF parts ps)).length, 0) := by
  by_cases h1 : ftOk parts ps
  · by_cases h2 : 16777216 < (bodyF parts ps).length ∨ 268435456 < spaceF ps
    · rw [encT_full h1 h2] at h; simp at h
    · exact ⟨h1, enc_may h1 h2, encT_ok h1 h2⟩
  · rw [encT_no h1] at h; simp at h
theorem dc_back {parts P e : Int} {QS PS : List Pp} (hf : ftOk parts QS) (hm : mayT (spaceF QS) ((pagesF (bodyF parts QS)).length : Nat)) (h : DcSpec (pagesF (bodyF parts QS)) (spaceF QS) ((pagesF (bodyF parts QS)).length : Nat) P PS e) : e = 0 ∧ P = parts ∧ PS = QS := by
  rcases h with ⟨h0, h1, h2, h3, h4, h5, h6⟩ | ⟨h0, h1, h2, h3⟩
  · obtain ⟨rfl, rfl⟩ := h6 parts QS hf rfl
    exact ⟨h0, rfl, rfl⟩
  · exact absurd rfl (h3 parts QS hm rfl hf rfl)
theorem trail_cases {sp : Int} {n : Nat} (hm : mayT sp (n : Nat)) (size : Int) : (sp + (n : Nat) + 24 = size ∧ (trailF (trF sp n) size).2.2 = 0) ∨ (¬ sp + (n : Nat) + 24 = size ∧ (trailF (trF sp n) size).2.2 = 82) := by
  rw [trail_tr hm]
  by_cases h : sp + (n : Nat) + 24 = size
  · rw [if_pos h]; exact .inl ⟨h, rfl⟩
  · rw [if_neg h]; exact .inr ⟨h, rfl⟩
