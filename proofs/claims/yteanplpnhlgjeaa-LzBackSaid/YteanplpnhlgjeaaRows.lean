/-
  No cell of these rows narrows 'for every input' (looked for: loops, veiled, ifaces, maps, wideKeys, modest, calm, conditions, laid).
  DERIVED. THE GIVEN ROWS OF THIS SEAT. 8 by the template 'for every input the law returns true; each argument reads behind the call as it read before'; 0 by the template 'total and deterministic' (their statements: YteanplpnhlgjeaaTotals.lean).
  GIVEN WITH THE SEED: the statements are not yours to turn. If you find one false, say at which input.
  Laid BY PROGRAM, IN A SANDBOX (cutbox-rows.mjs): the forced cells as the released guide's own fill.sh prints them over the translation 02082b551f80157a… (all of the seat's roots in one cut). By AI agents, Wed Nov 11 2026. No macro, syntax, notation, axiom, sorry.
-/
import Derived.Test.YteanplpnhlgjeaaChecked
import GoSem.Claim
import GoSem.ClaimJoined
import GoSem.ClaimMapViews
import Derived.JoinedTies
import Derived.KernelRfl
namespace Go.Proofs.Yteanplpnhlgjeaa
/- THE CELL 'sum', in the pinned program and in every row, IS THE sha256 OF THE DUMP (.gsa) THAT YteanplpnhlgjeaaProg.lean LOADS. Nothing in Lean hashes anything: it is a label: what it is worth is what the hold of that sum in a sandbox is worth. -/
noncomputable def Try.pinned : Pinned := { name := "yteanplpnhlgjeaa", sum := "02082b551f80157a569b6c8aeb469b621e10513b1c97173ff106d723665f919f", checked := Try.checked }
namespace Rows
def none {H : Type} : Left H := { results := [], args := [] }

/-- 'winnowlaw3.LzBound': WHATEVER THE INPUT: true; the input reads as it did. -/
def lzBoundSpec : ChangeSpec := { name := "lzBound", fn := fun _ => fun
  | [d] => { results := [.lit (.bool true)], args := [d] }
  | _ => none }
def lzBoundRow : OpenClaim := { program := "yteanplpnhlgjeaa", sum := "02082b551f80157a569b6c8aeb469b621e10513b1c97173ff106d723665f919f", func := "winnow/winnowlaw3.LzBound", spec := "lzBound", apart := false }
def LzBoundSaid : Prop := lzBoundRow.holds Try.pinned (OpenSpec.ofChange lzBoundSpec)

/-- ITS FALSE NEIGHBOUR: 'it returns false'. Refute it at one input. -/
def lzBoundWrong : ChangeSpec := { name := "lzBound", fn := fun _ => fun
  | [d] => { results := [.lit (.bool false)], args := [d] }
  | _ => none }
def LzBoundWrongFalsely : Prop := lzBoundRow.holds Try.pinned (OpenSpec.ofChange lzBoundWrong)

/-- 'winnowlaw3.LzTokens': WHATEVER THE INPUT: true; the input reads as it did. -/
def lzTokensSpec : ChangeSpec := { name := "lzTokens", fn := fun _ => fun
  | [d] => { results := [.lit (.bool true)], args := [d] }
  | _ => none }
def lzTokensRow : OpenClaim := { program := "yteanplpnhlgjeaa", sum := "02082b551f80157a569b6c8aeb469b621e10513b1c97173ff106d723665f919f", func := "winnow/winnowlaw3.LzTokens", spec := "lzTokens", apart := false }
def LzTokensSaid : Prop := lzTokensRow.holds Try.pinned (OpenSpec.ofChange lzTokensSpec)

/-- ITS FALSE NEIGHBOUR: 'it returns false'. Refute it at one input. -/
def lzTokensWrong : ChangeSpec := { name := "lzTokens", fn := fun _ => fun
  | [d] => { results := [.lit (.bool false)], args := [d] }
  | _ => none }
def LzTokensWrongFalsely : Prop := lzTokensRow.holds Try.pinned (OpenSpec.ofChange lzTokensWrong)

/-- 'winnowlaw3.LzEncodes': WHATEVER THE INPUT: true; the input reads as it did. -/
def lzEncodesSpec : ChangeSpec := { name := "lzEncodes", fn := fun _ => fun
  | [d] => { results := [.lit (.bool true)], args := [d] }
  | _ => none }
def lzEncodesRow : OpenClaim := { program := "yteanplpnhlgjeaa", sum := "02082b551f80157a569b6c8aeb469b621e10513b1c97173ff106d723665f919f", func := "winnow/winnowlaw3.LzEncodes", spec := "lzEncodes", apart := false }
def LzEncodesSaid : Prop := lzEncodesRow.holds Try.pinned (OpenSpec.ofChange lzEncodesSpec)

/-- ITS FALSE NEIGHBOUR: 'it returns false'. Refute it at one input. -/
def lzEncodesWrong : ChangeSpec := { name := "lzEncodes", fn := fun _ => fun
  | [d] => { results := [.lit (.bool false)], args := [d] }
  | _ => none }
def LzEncodesWrongFalsely : Prop := lzEncodesRow.holds Try.pinned (OpenSpec.ofChange lzEncodesWrong)

/-- 'winnowlaw3.LzDecodes': WHATEVER THE INPUT: true; the input reads as it did. -/
def lzDecodesSpec : ChangeSpec := { name := "lzDecodes", fn := fun _ => fun
  | [d1, d2] => { results := [.lit (.bool true)], args := [d1, d2] }
  | _ => none }
def lzDecodesRow : OpenClaim := { program := "yteanplpnhlgjeaa", sum := "02082b551f80157a569b6c8aeb469b621e10513b1c97173ff106d723665f919f", func := "winnow/winnowlaw3.LzDecodes", spec := "lzDecodes", unfollowed := true, recurses := true, apart := false }
def LzDecodesSaid : Prop := lzDecodesRow.holds Try.pinned (OpenSpec.ofChange lzDecodesSpec)

/-- ITS FALSE NEIGHBOUR: 'it returns false'. Refute it at one input. -/
def lzDecodesWrong : ChangeSpec := { name := "lzDecodes", fn := fun _ => fun
  | [d1, d2] => { results := [.lit (.bool false)], args := [d1, d2] }
  | _ => none }
def LzDecodesWrongFalsely : Prop := lzDecodesRow.holds Try.pinned (OpenSpec.ofChange lzDecodesWrong)

/-- 'winnowlaw3.LzRuns': WHATEVER THE INPUT: true; the input reads as it did. -/
def lzRunsSpec : ChangeSpec := { name := "lzRuns", fn := fun _ => fun
  | [d1, d2] => { results := [.lit (.bool true)], args := [d1, d2] }
  | _ => none }
def lzRunsRow : OpenClaim := { program := "yteanplpnhlgjeaa", sum := "02082b551f80157a569b6c8aeb469b621e10513b1c97173ff106d723665f919f", func := "winnow/winnowlaw3.LzRuns", spec := "lzRuns", unfollowed := true, recurses := true, apart := false }
def LzRunsSaid : Prop := lzRunsRow.holds Try.pinned (OpenSpec.ofChange lzRunsSpec)

/-- ITS FALSE NEIGHBOUR: 'it returns false'. Refute it at one input. -/
def lzRunsWrong : ChangeSpec := { name := "lzRuns", fn := fun _ => fun
  | [d1, d2] => { results := [.lit (.bool false)], args := [d1, d2] }
  | _ => none }
def LzRunsWrongFalsely : Prop := lzRunsRow.holds Try.pinned (OpenSpec.ofChange lzRunsWrong)

/-- 'winnowlaw3.LzLiterals': WHATEVER THE INPUT: true; the input reads as it did. -/
def lzLiteralsSpec : ChangeSpec := { name := "lzLiterals", fn := fun _ => fun
  | [d] => { results := [.lit (.bool true)], args := [d] }
  | _ => none }
def lzLiteralsRow : OpenClaim := { program := "yteanplpnhlgjeaa", sum := "02082b551f80157a569b6c8aeb469b621e10513b1c97173ff106d723665f919f", func := "winnow/winnowlaw3.LzLiterals", spec := "lzLiterals", unfollowed := true, recurses := true, apart := false }
def LzLiteralsSaid : Prop := lzLiteralsRow.holds Try.pinned (OpenSpec.ofChange lzLiteralsSpec)

/-- ITS FALSE NEIGHBOUR: 'it returns false'. Refute it at one input. -/
def lzLiteralsWrong : ChangeSpec := { name := "lzLiterals", fn := fun _ => fun
  | [d] => { results := [.lit (.bool false)], args := [d] }
  | _ => none }
def LzLiteralsWrongFalsely : Prop := lzLiteralsRow.holds Try.pinned (OpenSpec.ofChange lzLiteralsWrong)

/-- 'winnowlaw3.LzTotal': WHATEVER THE INPUT: true; the input reads as it did. -/
def lzTotalSpec : ChangeSpec := { name := "lzTotal", fn := fun _ => fun
  | [d1, d2, d3] => { results := [.lit (.bool true)], args := [d1, d2, d3] }
  | _ => none }
def lzTotalRow : OpenClaim := { program := "yteanplpnhlgjeaa", sum := "02082b551f80157a569b6c8aeb469b621e10513b1c97173ff106d723665f919f", func := "winnow/winnowlaw3.LzTotal", spec := "lzTotal", unfollowed := true, recurses := true, apart := false }
def LzTotalSaid : Prop := lzTotalRow.holds Try.pinned (OpenSpec.ofChange lzTotalSpec)

/-- ITS FALSE NEIGHBOUR: 'it returns false'. Refute it at one input. -/
def lzTotalWrong : ChangeSpec := { name := "lzTotal", fn := fun _ => fun
  | [d1, d2, d3] => { results := [.lit (.bool false)], args := [d1, d2, d3] }
  | _ => none }
def LzTotalWrongFalsely : Prop := lzTotalRow.holds Try.pinned (OpenSpec.ofChange lzTotalWrong)

/-- 'winnowlaw3.LzBack': WHATEVER THE INPUT: true; the input reads as it did. -/
def lzBackSpec : ChangeSpec := { name := "lzBack", fn := fun _ => fun
  | [d1, d2] => { results := [.lit (.bool true)], args := [d1, d2] }
  | _ => none }
def lzBackRow : OpenClaim := { program := "yteanplpnhlgjeaa", sum := "02082b551f80157a569b6c8aeb469b621e10513b1c97173ff106d723665f919f", func := "winnow/winnowlaw3.LzBack", spec := "lzBack", unfollowed := true, recurses := true, apart := false }
def LzBackSaid : Prop := lzBackRow.holds Try.pinned (OpenSpec.ofChange lzBackSpec)

/-- ITS FALSE NEIGHBOUR: 'it returns false'. Refute it at one input. -/
def lzBackWrong : ChangeSpec := { name := "lzBack", fn := fun _ => fun
  | [d1, d2] => { results := [.lit (.bool false)], args := [d1, d2] }
  | _ => none }
def LzBackWrongFalsely : Prop := lzBackRow.holds Try.pinned (OpenSpec.ofChange lzBackWrong)

/- THE SECOND FORM. 'bulk': how many values and letters a reading holds, each counted each time it is reached (what is shared counts as often as it is met; a slice's spare places count too). A statement '..UptoSaid' is the law's where the arguments, and the package variables that the reading takes, are together of bulk at most 1048576: NARROWER than '..Said'. Prove '..Said' where nothing that the law and all that it calls make is longer than what came in: it says more and counts as full. Else prove '..UptoSaid'. A law counts once. -/
mutual
def uptoBulk {H : Type} : DataW H → Nat
  | .lit (.string bytes) => bytes.length + 1
  | .lit _ => 1
  | .nil => 1
  | .ptr d => uptoBulk d + 1
  | .slice elems spare => uptoBulkAll elems + uptoBulkAll spare + 1
  | .agg parts => uptoBulkAll parts + 1
  | .iface _ d => uptoBulk d + 1
  | .map entries => uptoBulkEntries entries + 1
  | .held _ => 1
def uptoBulkAll {H : Type} : List (DataW H) → Nat
  | [] => 0
  | d :: r => uptoBulk d + uptoBulkAll r
def uptoBulkEntries {H : Type} : List (Lit × DataW H) → Nat
  | [] => 0
  | x :: r => uptoBulkEntry x + uptoBulkEntries r
def uptoBulkEntry {H : Type} : Lit × DataW H → Nat
  | (.string bytes, d) => bytes.length + uptoBulk d + 1
  | (_, d) => uptoBulk d + 1
 end
def uptoSmall : (H : Type) → List (DataW H) → Bool := fun _ ds => decide (uptoBulkAll ds ≤ 1048576)
def OpenSpec.upto (s : _root_.Go.ChangeSpec) : _root_.Go.OpenSpec := { _root_.Go.OpenSpec.ofChange s with cond := some uptoSmall }

/-- 'winnowlaw3.LzBound', WHERE WHAT IT READS IS OF BULK AT MOST 1048576: true; the input reads as it did. -/
def lzBoundUptoRow : OpenClaim := { program := "yteanplpnhlgjeaa", sum := "02082b551f80157a569b6c8aeb469b621e10513b1c97173ff106d723665f919f", func := "winnow/winnowlaw3.LzBound", spec := "lzBound", apart := false, narrowed := true }
def LzBoundUptoSaid : Prop := lzBoundUptoRow.holds Try.pinned (OpenSpec.upto lzBoundSpec)

/-- 'winnowlaw3.LzTokens', WHERE WHAT IT READS IS OF BULK AT MOST 1048576: true; the input reads as it did. -/
def lzTokensUptoRow : OpenClaim := { program := "yteanplpnhlgjeaa", sum := "02082b551f80157a569b6c8aeb469b621e10513b1c97173ff106d723665f919f", func := "winnow/winnowlaw3.LzTokens", spec := "lzTokens", apart := false, narrowed := true }
def LzTokensUptoSaid : Prop := lzTokensUptoRow.holds Try.pinned (OpenSpec.upto lzTokensSpec)

/-- 'winnowlaw3.LzEncodes', WHERE WHAT IT READS IS OF BULK AT MOST 1048576: true; the input reads as it did. -/
def lzEncodesUptoRow : OpenClaim := { program := "yteanplpnhlgjeaa", sum := "02082b551f80157a569b6c8aeb469b621e10513b1c97173ff106d723665f919f", func := "winnow/winnowlaw3.LzEncodes", spec := "lzEncodes", apart := false, narrowed := true }
def LzEncodesUptoSaid : Prop := lzEncodesUptoRow.holds Try.pinned (OpenSpec.upto lzEncodesSpec)

/-- 'winnowlaw3.LzDecodes', WHERE WHAT IT READS IS OF BULK AT MOST 1048576: true; the input reads as it did. -/
def lzDecodesUptoRow : OpenClaim := { program := "yteanplpnhlgjeaa", sum := "02082b551f80157a569b6c8aeb469b621e10513b1c97173ff106d723665f919f", func := "winnow/winnowlaw3.LzDecodes", spec := "lzDecodes", unfollowed := true, recurses := true, apart := false, narrowed := true }
def LzDecodesUptoSaid : Prop := lzDecodesUptoRow.holds Try.pinned (OpenSpec.upto lzDecodesSpec)

/-- 'winnowlaw3.LzRuns', WHERE WHAT IT READS IS OF BULK AT MOST 1048576: true; the input reads as it did. -/
def lzRunsUptoRow : OpenClaim := { program := "yteanplpnhlgjeaa", sum := "02082b551f80157a569b6c8aeb469b621e10513b1c97173ff106d723665f919f", func := "winnow/winnowlaw3.LzRuns", spec := "lzRuns", unfollowed := true, recurses := true, apart := false, narrowed := true }
def LzRunsUptoSaid : Prop := lzRunsUptoRow.holds Try.pinned (OpenSpec.upto lzRunsSpec)

/-- 'winnowlaw3.LzLiterals', WHERE WHAT IT READS IS OF BULK AT MOST 1048576: true; the input reads as it did. -/
def lzLiteralsUptoRow : OpenClaim := { program := "yteanplpnhlgjeaa", sum := "02082b551f80157a569b6c8aeb469b621e10513b1c97173ff106d723665f919f", func := "winnow/winnowlaw3.LzLiterals", spec := "lzLiterals", unfollowed := true, recurses := true, apart := false, narrowed := true }
def LzLiteralsUptoSaid : Prop := lzLiteralsUptoRow.holds Try.pinned (OpenSpec.upto lzLiteralsSpec)

/-- 'winnowlaw3.LzTotal', WHERE WHAT IT READS IS OF BULK AT MOST 1048576: true; the input reads as it did. -/
def lzTotalUptoRow : OpenClaim := { program := "yteanplpnhlgjeaa", sum := "02082b551f80157a569b6c8aeb469b621e10513b1c97173ff106d723665f919f", func := "winnow/winnowlaw3.LzTotal", spec := "lzTotal", unfollowed := true, recurses := true, apart := false, narrowed := true }
def LzTotalUptoSaid : Prop := lzTotalUptoRow.holds Try.pinned (OpenSpec.upto lzTotalSpec)

/-- 'winnowlaw3.LzBack', WHERE WHAT IT READS IS OF BULK AT MOST 1048576: true; the input reads as it did. -/
def lzBackUptoRow : OpenClaim := { program := "yteanplpnhlgjeaa", sum := "02082b551f80157a569b6c8aeb469b621e10513b1c97173ff106d723665f919f", func := "winnow/winnowlaw3.LzBack", spec := "lzBack", unfollowed := true, recurses := true, apart := false, narrowed := true }
def LzBackUptoSaid : Prop := lzBackUptoRow.holds Try.pinned (OpenSpec.upto lzBackSpec)

end Rows
end Go.Proofs.Yteanplpnhlgjeaa
