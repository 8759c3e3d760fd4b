/-
  No cell of these rows narrows 'for every input' (looked for: loops, veiled, ifaces, maps, wideKeys, modest, calm, conditions, laid).
  DERIVED. THE GIVEN ROWS OF THIS SEAT. 4 by the template 'for every input the law returns true; each argument reads behind the call as it read before'; 0 by the template 'total and deterministic' (their statements: YtifnmbmijljhfaaTotals.lean).
  GIVEN WITH THE SEED: the statements are not yours to turn. If you find one false, say at which input.
  Laid BY PROGRAM, IN A SANDBOX (cutbox-rows.mjs): the forced cells as the released guide's own fill.sh prints them over the translation d2353c06ccc52852… (all of the seat's roots in one cut). By AI agents, Wed Nov 11 2026. No macro, syntax, notation, axiom, sorry.
-/
import Derived.Test.YtifnmbmijljhfaaChecked
import GoSem.Claim
import GoSem.ClaimJoined
import GoSem.ClaimMapViews
import Derived.JoinedTies
import Derived.KernelRfl
namespace Go.Proofs.Ytifnmbmijljhfaa
/- THE CELL 'sum', in the pinned program and in every row, IS THE sha256 OF THE DUMP (.gsa) THAT YtifnmbmijljhfaaProg.lean LOADS. Nothing in Lean hashes anything: it is a label: what it is worth is what the hold of that sum in a sandbox is worth. -/
noncomputable def Try.pinned : Pinned := { name := "ytifnmbmijljhfaa", sum := "d2353c06ccc528529e0dee8166b57209daaae13891150e9e975fe7a3d86e35f4", checked := Try.checked }
namespace Rows
def none {H : Type} : Left H := { results := [], args := [] }

/-- 'winnowlaw6.BlockBurst': WHATEVER THE INPUT: true; the input reads as it did. -/
def blockBurstSpec : ChangeSpec := { name := "blockBurst", fn := fun _ => fun
  | [d1, d2, d3, d4, d5] => { results := [.lit (.bool true)], args := [d1, d2, d3, d4, d5] }
  | _ => none }
def blockBurstRow : OpenClaim := { program := "ytifnmbmijljhfaa", sum := "d2353c06ccc528529e0dee8166b57209daaae13891150e9e975fe7a3d86e35f4", func := "winnow/winnowlaw6.BlockBurst", spec := "blockBurst", unfollowed := true, recurses := true, apart := false }
def BlockBurstSaid : Prop := blockBurstRow.holds Try.pinned (OpenSpec.ofChange blockBurstSpec)

/-- ITS FALSE NEIGHBOUR: 'it returns false'. Refute it at one input. -/
def blockBurstWrong : ChangeSpec := { name := "blockBurst", fn := fun _ => fun
  | [d1, d2, d3, d4, d5] => { results := [.lit (.bool false)], args := [d1, d2, d3, d4, d5] }
  | _ => none }
def BlockBurstWrongFalsely : Prop := blockBurstRow.holds Try.pinned (OpenSpec.ofChange blockBurstWrong)

/-- 'winnowlaw6.BlockCodes': WHATEVER THE INPUT: true; the input reads as it did. -/
def blockCodesSpec : ChangeSpec := { name := "blockCodes", fn := fun _ => fun
  | [d1, d2, d3] => { results := [.lit (.bool true)], args := [d1, d2, d3] }
  | _ => none }
def blockCodesRow : OpenClaim := { program := "ytifnmbmijljhfaa", sum := "d2353c06ccc528529e0dee8166b57209daaae13891150e9e975fe7a3d86e35f4", func := "winnow/winnowlaw6.BlockCodes", spec := "blockCodes", unfollowed := true, recurses := true, apart := false }
def BlockCodesSaid : Prop := blockCodesRow.holds Try.pinned (OpenSpec.ofChange blockCodesSpec)

/-- ITS FALSE NEIGHBOUR: 'it returns false'. Refute it at one input. -/
def blockCodesWrong : ChangeSpec := { name := "blockCodes", fn := fun _ => fun
  | [d1, d2, d3] => { results := [.lit (.bool false)], args := [d1, d2, d3] }
  | _ => none }
def BlockCodesWrongFalsely : Prop := blockCodesRow.holds Try.pinned (OpenSpec.ofChange blockCodesWrong)

/-- 'winnowlaw6.BlockTotal': WHATEVER THE INPUT: true; the input reads as it did. -/
def blockTotalSpec : ChangeSpec := { name := "blockTotal", fn := fun _ => fun
  | [d1, d2, d3] => { results := [.lit (.bool true)], args := [d1, d2, d3] }
  | _ => none }
def blockTotalRow : OpenClaim := { program := "ytifnmbmijljhfaa", sum := "d2353c06ccc528529e0dee8166b57209daaae13891150e9e975fe7a3d86e35f4", func := "winnow/winnowlaw6.BlockTotal", spec := "blockTotal", unfollowed := true, recurses := true, apart := false }
def BlockTotalSaid : Prop := blockTotalRow.holds Try.pinned (OpenSpec.ofChange blockTotalSpec)

/-- ITS FALSE NEIGHBOUR: 'it returns false'. Refute it at one input. -/
def blockTotalWrong : ChangeSpec := { name := "blockTotal", fn := fun _ => fun
  | [d1, d2, d3] => { results := [.lit (.bool false)], args := [d1, d2, d3] }
  | _ => none }
def BlockTotalWrongFalsely : Prop := blockTotalRow.holds Try.pinned (OpenSpec.ofChange blockTotalWrong)

/-- 'winnowlaw6.BlockBack': WHATEVER THE INPUT: true; the input reads as it did. -/
def blockBackSpec : ChangeSpec := { name := "blockBack", fn := fun _ => fun
  | [d1, d2, d3, d4] => { results := [.lit (.bool true)], args := [d1, d2, d3, d4] }
  | _ => none }
def blockBackRow : OpenClaim := { program := "ytifnmbmijljhfaa", sum := "d2353c06ccc528529e0dee8166b57209daaae13891150e9e975fe7a3d86e35f4", func := "winnow/winnowlaw6.BlockBack", spec := "blockBack", unfollowed := true, recurses := true, apart := false }
def BlockBackSaid : Prop := blockBackRow.holds Try.pinned (OpenSpec.ofChange blockBackSpec)

/-- ITS FALSE NEIGHBOUR: 'it returns false'. Refute it at one input. -/
def blockBackWrong : ChangeSpec := { name := "blockBack", fn := fun _ => fun
  | [d1, d2, d3, d4] => { results := [.lit (.bool false)], args := [d1, d2, d3, d4] }
  | _ => none }
def BlockBackWrongFalsely : Prop := blockBackRow.holds Try.pinned (OpenSpec.ofChange blockBackWrong)

/- THE SECOND FORM. 'bulk': how many values and letters a reading holds, each counted each time it is reached (what is shared counts as often as it is met; a slice's spare places count too). A statement '..UptoSaid' is the law's where the arguments, and the package variables that the reading takes, are together of bulk at most 1048576: NARROWER than '..Said'. Prove '..Said' where nothing that the law and all that it calls make is longer than what came in: it says more and counts as full. Else prove '..UptoSaid'. A law counts once. -/
mutual
def uptoBulk {H : Type} : DataW H → Nat
  | .lit (.string bytes) => bytes.length + 1
  | .lit _ => 1
  | .nil => 1
  | .ptr d => uptoBulk d + 1
  | .slice elems spare => uptoBulkAll elems + uptoBulkAll spare + 1
  | .agg parts => uptoBulkAll parts + 1
  | .iface _ d => uptoBulk d + 1
  | .map entries => uptoBulkEntries entries + 1
  | .held _ => 1
def uptoBulkAll {H : Type} : List (DataW H) → Nat
  | [] => 0
  | d :: r => uptoBulk d + uptoBulkAll r
def uptoBulkEntries {H : Type} : List (Lit × DataW H) → Nat
  | [] => 0
  | x :: r => uptoBulkEntry x + uptoBulkEntries r
def uptoBulkEntry {H : Type} : Lit × DataW H → Nat
  | (.string bytes, d) => bytes.length + uptoBulk d + 1
  | (_, d) => uptoBulk d + 1
 end
def uptoSmall : (H : Type) → List (DataW H) → Bool := fun _ ds => decide (uptoBulkAll ds ≤ 1048576)
def OpenSpec.upto (s : _root_.Go.ChangeSpec) : _root_.Go.OpenSpec := { _root_.Go.OpenSpec.ofChange s with cond := some uptoSmall }

/-- 'winnowlaw6.BlockBurst', WHERE WHAT IT READS IS OF BULK AT MOST 1048576: true; the input reads as it did. -/
def blockBurstUptoRow : OpenClaim := { program := "ytifnmbmijljhfaa", sum := "d2353c06ccc528529e0dee8166b57209daaae13891150e9e975fe7a3d86e35f4", func := "winnow/winnowlaw6.BlockBurst", spec := "blockBurst", unfollowed := true, recurses := true, apart := false, narrowed := true }
def BlockBurstUptoSaid : Prop := blockBurstUptoRow.holds Try.pinned (OpenSpec.upto blockBurstSpec)

/-- 'winnowlaw6.BlockCodes', WHERE WHAT IT READS IS OF BULK AT MOST 1048576: true; the input reads as it did. -/
def blockCodesUptoRow : OpenClaim := { program := "ytifnmbmijljhfaa", sum := "d2353c06ccc528529e0dee8166b57209daaae13891150e9e975fe7a3d86e35f4", func := "winnow/winnowlaw6.BlockCodes", spec := "blockCodes", unfollowed := true, recurses := true, apart := false, narrowed := true }
def BlockCodesUptoSaid : Prop := blockCodesUptoRow.holds Try.pinned (OpenSpec.upto blockCodesSpec)

/-- 'winnowlaw6.BlockTotal', WHERE WHAT IT READS IS OF BULK AT MOST 1048576: true; the input reads as it did. -/
def blockTotalUptoRow : OpenClaim := { program := "ytifnmbmijljhfaa", sum := "d2353c06ccc528529e0dee8166b57209daaae13891150e9e975fe7a3d86e35f4", func := "winnow/winnowlaw6.BlockTotal", spec := "blockTotal", unfollowed := true, recurses := true, apart := false, narrowed := true }
def BlockTotalUptoSaid : Prop := blockTotalUptoRow.holds Try.pinned (OpenSpec.upto blockTotalSpec)

/-- 'winnowlaw6.BlockBack', WHERE WHAT IT READS IS OF BULK AT MOST 1048576: true; the input reads as it did. -/
def blockBackUptoRow : OpenClaim := { program := "ytifnmbmijljhfaa", sum := "d2353c06ccc528529e0dee8166b57209daaae13891150e9e975fe7a3d86e35f4", func := "winnow/winnowlaw6.BlockBack", spec := "blockBack", unfollowed := true, recurses := true, apart := false, narrowed := true }
def BlockBackUptoSaid : Prop := blockBackUptoRow.holds Try.pinned (OpenSpec.upto blockBackSpec)

end Rows
end Go.Proofs.Ytifnmbmijljhfaa
