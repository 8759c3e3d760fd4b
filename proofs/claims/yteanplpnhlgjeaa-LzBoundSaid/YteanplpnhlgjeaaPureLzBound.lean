/- For every whole number n, Bound tells what the document tells. No condition. -/
import Derived.Test.YteanplpnhlgjeaaPLzBoundx1
namespace Go.Proofs.Yteanplpnhlgjeaa.Pure
open Go.RowKit Go.Proofs.Yteanplpnhlgjeaa.PLzBound Go.Proofs.YteanplpnhlgjeaaW.PrintWords Go.Proofs.YteanplpnhlgjeaaW.PrintLast

theorem LzBound : winnowlaw3_LzBound.Pure := by
  intro n _
  refine ⟨1, ?_⟩
  unfold winnowlaw3_LzBound.f lz_Bound.f winnowref3_Bound.f
  by_cases h : n < 1
  · rw [if_pos h, if_pos h]; simp [lz_Bound.j0, winnowref3_Bound.j0]
  · rw [if_neg h, if_neg h]
    simp only [lz_Bound.j0, winnowref3_Bound.j0]
    by_cases h2 : n > 65536
    · simp [h2]
    · by_cases h3 : n < 128
      · simp [h2, h3]
      · by_cases h4 : n < 16384 <;> simp [h2, h3, h4]


end Go.Proofs.Yteanplpnhlgjeaa.Pure
