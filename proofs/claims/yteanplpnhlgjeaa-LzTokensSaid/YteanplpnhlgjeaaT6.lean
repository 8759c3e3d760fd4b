/- Tokens among a row's arguments. -/
import Derived.Test.YteanplpnhlgjeaaT1
namespace Go.Proofs.Yteanplpnhlgjeaa.E
open Go
theorem open_tok {W : World} {cs : List Value} (h : Arg Try.prog W 31 cs) : ∃ t : Tk, cs = tokC t ∧ t.ok W := by
  obtain ⟨hl, hf⟩ := h.struct Try.underlying31
  have c25 : Try.prog.cellsOf 25 = 1 := by kernel_rfl
  have c3 : Try.prog.cellsOf 3 = 1 := by kernel_rfl
  rw [show Try.prog.cellsOf 31 = 3 by kernel_rfl] at hl
  match cs, hl with
  | [a0, a1, a2], _ =>
    obtain ⟨v, l, e0, k0, k00⟩ := (hf 0 _ rfl).bytes Try.underlying25 Try.underlying5 (by kernel_rfl)
    obtain rfl : a0 = v := by simpa [c25] using e0
    obtain ⟨n1, e1, k1⟩ := (hf 1 _ rfl).int Try.underlying3
    obtain rfl : a1 = .int .i64 n1 := by simpa [c3] using e1
    obtain ⟨n2, e2, k2⟩ := (hf 2 _ rfl).int Try.underlying3
    obtain rfl : a2 = .int .i64 n2 := by simpa [c3] using e2
    obtain ⟨ad, ln, cp, rfl⟩ := k0.isSlice
    exact ⟨⟨ad, ln, cp, l, n1, n2⟩, rfl, k0, k1, k2, k00⟩
theorem open_toks {W : World} {cs : List Value} (h : Arg Try.prog W 24 cs) : ∃ (v : Value) (l : List Tk), cs = [v] ∧ RdS tokC W v l ∧ (∀ x ∈ l, x.ok W) ∧ l.length * 40 ≤ 140737488351232 := by
  have := h.slices Try.underlying24 (fun c hc _ => open_tok hc)
  rwa [show Try.prog.bytesOf 31 = 40 by kernel_rfl] at this
