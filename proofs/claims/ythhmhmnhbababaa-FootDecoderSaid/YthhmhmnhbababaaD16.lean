/- Trails, footers among a row's arguments. -/
import Derived.Test.YthhmhmnhbababaaD2
import Derived.Test.YthhmhmnhbababaaE23
namespace Go.Proofs.Ythhmhmnhbababaa.E
open Go
theorem len2 {l : List Value} (h : l.length = 2) : ∃ a0 a1, l = [a0, a1] := by
 match l, h with
 | [a0, a1], _ => exact ⟨a0, a1, rfl⟩
theorem len3 {l : List Value} (h : l.length = 3) : ∃ a0 a1 a2, l = [a0, a1, a2] := by
 match l, h with
 | [a0, a1, a2], _ => exact ⟨a0, a1, a2, rfl⟩
theorem len4 {l : List Value} (h : l.length = 4) : ∃ a0 a1 a2 a3, l = [a0, a1, a2, a3] := by
 match l, h with
 | [a0, a1, a2, a3], _ => exact ⟨a0, a1, a2, a3, rfl⟩
theorem len5 {l : List Value} (h : l.length = 5) : ∃ a0 a1 a2 a3 a4, l = [a0, a1, a2, a3, a4] := by
 match l, h with
 | [a0, a1, a2, a3, a4], _ => exact ⟨a0, a1, a2, a3, a4, rfl⟩
structure Tr where
 bk : Int
 pg : Int
def trC (t : Tr) : List Value := [.int .i64 t.bk, .int .i64 t.pg]
structure Tr.ok (t : Tr) (w : World) : Prop where
 kb : inK .i64 t.bk
 kp : inK .i64 t.pg
theorem open_tr {W : World} {cs : List Value} (h : Arg Try.prog W 36 cs) : ∃ t : Tr, cs = trC t ∧ t.ok W := by
 obtain ⟨hl, hf⟩ := h.struct Try.underlying36
 have c2 : Try.prog.cellsOf 2 = 1 := by kernel_rfl
 replace hl : cs.length = 2 := hl.trans (by kernel_rfl)
 obtain ⟨a0, a1, rfl⟩ := len2 hl
 obtain ⟨n0, e0, k0⟩ := (hf 0 _ rfl).int Try.underlying2
 obtain rfl : a0 = .int .i64 n0 := by simpa [c2] using e0
 obtain ⟨n1, e1, k1⟩ := (hf 1 _ rfl).int Try.underlying2
 obtain rfl : a1 = .int .i64 n1 := by simpa [c2] using e1
 exact ⟨⟨n0, n1⟩, rfl, k0, k1⟩
theorem open_bi {W : World} {cs : List Value} (h : Arg Try.prog W 74 cs) : ∃ b : Bi, cs = biC b ∧ b.ok := by
 obtain ⟨hl, hf⟩ := h.struct Try.underlying74
 have c3 : Try.prog.cellsOf 3 = 1 := by kernel_rfl
 have c9 : Try.prog.cellsOf 9 = 1 := by kernel_rfl
 replace hl : cs.length = 4 := hl.trans (by kernel_rfl)
 obtain ⟨a0, a1, a2, a3, rfl⟩ := len4 hl
 obtain ⟨n0, e0, k0⟩ := (hf 0 _ rfl).int Try.underlying3
 obtain rfl : a0 = .int .i64 n0 := by simpa [c3] using e0
 obtain ⟨n1, e1, k1⟩ := (hf 1 _ rfl).int Try.underlying3
 obtain rfl : a1 = .int .i64 n1 := by simpa [c3] using e1
 obtain ⟨n2, e2, k2⟩ := (hf 2 _ rfl).int Try.underlying3
 obtain rfl : a2 = .int .i64 n2 := by simpa [c3] using e2
 obtain ⟨l, e3, k3⟩ := (hf 3 _ rfl).str Try.underlying9
 obtain rfl : a3 = .string (str l) := by simpa [c9] using e3
 exact ⟨⟨n0, n1, n2, l⟩, rfl, k0, k1, k2, by omega⟩
theorem open_bls {W : World} {cs : List Value} (h : Arg Try.prog W 67 cs) : ∃ (v : Value) (l : List Bi), cs = [v] ∧ RdS biC W v l ∧ (∀ x ∈ l, x.ok) ∧ l.length * 40 ≤ 140737488351232 := by
 have := h.slices Try.underlying67 (fun c hc _ => open_bi hc)
 rwa [show Try.prog.bytesOf 74 = 40 by kernel_rfl] at this
theorem open_fil {W : World} {cs : List Value} (h : Arg Try.prog W 69 cs) : ∃ (a : Bool) (n : Int) (v : Value) (l : List UInt8), cs = [.bool a, .int .i64 n, v] ∧ RdE byteV W v l ∧ inK .i64 n ∧ l.length ≤ 140737488351232 := by
 obtain ⟨hl, hf⟩ := h.struct Try.underlying69
 have c4 : Try.prog.cellsOf 4 = 1 := by kernel_rfl
 have c3 : Try.prog.cellsOf 3 = 1 := by kernel_rfl
 have c34 : Try.prog.cellsOf 34 = 1 := by kernel_rfl
 replace hl : cs.length = 3 := hl.trans (by kernel_rfl)
 obtain ⟨a0, a1, a2, rfl⟩ := len3 hl
 obtain ⟨n0, e0⟩ := (hf 0 _ rfl).bool Try.underlying4
 obtain rfl : a0 = .bool n0 := by simpa [c4] using e0
 obtain ⟨n1, e1, k1⟩ := (hf 1 _ rfl).int Try.underlying3
 obtain rfl : a1 = .int .i64 n1 := by simpa [c3] using e1
 obtain ⟨v2, l2, e2, k2, q2⟩ := (hf 2 _ rfl).bytes Try.underlying34 Try.underlying5 (by kernel_rfl)
 obtain rfl : a2 = v2 := by simpa [c34] using e2
 exact ⟨n0, n1, a2, l2, rfl, k2, k1, q2⟩
theorem open_pr {W : World} {cs : List Value} (h : Arg Try.prog W 71 cs) : ∃ p : Pr, cs = prC p ∧ p.ok W := by
 obtain ⟨hl, hf⟩ := h.struct Try.underlying71
 have c3 : Try.prog.cellsOf 3 = 1 := by kernel_rfl
 have c67 : Try.prog.cellsOf 67 = 1 := by kernel_rfl
 have c69 : Try.prog.cellsOf 69 = 3 := by kernel_rfl
 replace hl : cs.length = 5 := hl.trans (by kernel_rfl)
 obtain ⟨a0, a1, a2, a3, a4, rfl⟩ := len5 hl
 obtain ⟨n0, e0, k0⟩ := (hf 0 _ rfl).int Try.underlying3
 obtain rfl : a0 = .int .i64 n0 := by simpa [c3] using e0
 obtain ⟨v1, l1, e1, k1, q1, z1⟩ := open_bls (hf 1 _ rfl)
 obtain rfl : a1 = v1 := by simpa [c67] using e1
 obtain ⟨b2, n2, v2, l2, e2, k2, q2, z2⟩ := open_fil (hf 2 _ rfl)
 have e2' : [a2, a3, a4] = [.bool b2, .int .i64 n2, v2] := by simpa [c69] using e2
 obtain ⟨rfl, rfl, rfl⟩ : a2 = .bool b2 ∧ a3 = .int .i64 n2 ∧ a4 = v2 := by simpa using e2'
 obtain ⟨ba, bn, bc, rfl⟩ := k1.isSlice
 obtain ⟨da, dn, dc, rfl⟩ := k2.isSlice
 exact ⟨⟨n0, ba, bn, bc, l1, b2, n2, da, dn, dc, l2⟩, rfl, k1, k2, k0, q2, z2, by dsimp only; omega, q1⟩
theorem open_prs {W : World} {cs : List Value} (h : Arg Try.prog W 22 cs) : ∃ (v : Value) (l : List Pr), cs = [v] ∧ RdS prC W v l ∧ (∀ x ∈ l, x.ok W) ∧ l.length * 72 ≤ 140737488351232 := by
 have := h.slices Try.underlying22 (fun c hc _ => open_pr hc)
 rwa [show Try.prog.bytesOf 71 = 72 by kernel_rfl] at this
structure Ft where
 parts : Int
 x : Value
 ps : List Pr
def ftC (f : Ft) : List Value := [.int .i64 f.parts, f.x]
structure Ft.ok (f : Ft) (w : World) : Prop where
 rd : RdS prC w f.x f.ps
 ok : ∀ p ∈ f.ps, p.ok w
 hl : f.ps.length ≤ 1954687338211
 kp : inK .i64 f.parts
theorem open_ft {W : World} {cs : List Value} (h : Arg Try.prog W 24 cs) : ∃ f : Ft, cs = ftC f ∧ f.ok W := by
 obtain ⟨hl, hf⟩ := h.struct Try.underlying24
 have c3 : Try.prog.cellsOf 3 = 1 := by kernel_rfl
 have c22 : Try.prog.cellsOf 22 = 1 := by kernel_rfl
 replace hl : cs.length = 2 := hl.trans (by kernel_rfl)
 obtain ⟨a0, a1, rfl⟩ := len2 hl
 obtain ⟨n0, e0, k0⟩ := (hf 0 _ rfl).int Try.underlying3
 obtain rfl : a0 = .int .i64 n0 := by simpa [c3] using e0
 obtain ⟨v1, l1, e1, k1, q1, z1⟩ := open_prs (hf 1 _ rfl)
 obtain rfl : a1 = v1 := by simpa [c22] using e1
 exact ⟨⟨n0, a1, l1⟩, rfl, k1, q1, by dsimp only; omega, k0⟩
