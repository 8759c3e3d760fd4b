/- Steps among a row's arguments. -/
import Derived.Test.YtdjdhplacfemfaaQ5
import Derived.Test.YtdjdhplacfemfaaE16
import Derived.Test.YtdjdhplacfemfaaE17
namespace Go.Proofs.Ytdjdhplacfemfaa.E
open Go

theorem open_st {W : World} {cs : List Value} (h : Arg Try.prog W 59 cs) : ∃ f : Stp, cs = stC f ∧ f.ok := by
  obtain ⟨hl, hf⟩ := h.struct Try.underlying59
  have c2 : Try.prog.cellsOf 2 = 1 := by kernel_rfl
  have c3 : Try.prog.cellsOf 3 = 1 := by kernel_rfl
  rw [show Try.prog.cellsOf 59 = 2 by kernel_rfl] at hl
  match cs, hl with
  | [a0, a1], _ =>
    obtain ⟨n0, e0, k0⟩ := (hf 0 _ rfl).int Try.underlying3
    obtain rfl : a0 = .int .i64 n0 := by simpa [c3] using e0
    obtain ⟨n1, e1, k1⟩ := (hf 1 _ rfl).int Try.underlying2
    obtain rfl : a1 = .int .i64 n1 := by simpa [c2] using e1
    exact ⟨⟨n0, n1⟩, rfl, k0, k1⟩

theorem open_sts {W : World} {cs : List Value} (h : Arg Try.prog W 40 cs) : ∃ (v : Value) (l : List Stp), cs = [v] ∧ RdS stC W v l ∧ (∀ x ∈ l, x.ok) ∧ l.length * 16 ≤ 140737488351232 := by
  have := h.slices Try.underlying40 (fun c hc _ => open_st hc)
  rwa [show Try.prog.bytesOf 59 = 16 by kernel_rfl] at this

theorem rds_len {α : Type} {enc : α → List Value} {w : World} {a : Option Addr} {n c : Nat} {l : List α} (h : RdS enc w (.slice a n c) l) : n = l.length := by
  obtain ⟨a', c', e, _⟩ := h.form
  injection e
theorem NumsCursor_row (x : Value) (b : List UInt8) (y : Value) (steps : List Stp) (w : World) (hx : RdE byteV w x b) (hl : b.length ≤ 140737488351232) (hy : RdS stC w y steps) (hok : ∀ s ∈ steps, s.ok) (_ : steps.length * 16 ≤ 140737488351232) (hsl : steps.length ≤ 1048576) : Calls Try.prog 9 [x, y].toArray w (Rt fun r w' => r = .bool true ∧ Upd [] w w') :=
  NumsCursor_ok x b y steps w hx hl hy hok hsl
