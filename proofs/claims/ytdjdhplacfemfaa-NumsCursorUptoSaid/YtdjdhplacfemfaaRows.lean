/-
  No cell of these rows narrows 'for every input' (looked for: loops, veiled, ifaces, maps, wideKeys, modest, calm, conditions, laid).
  DERIVED. THE GIVEN ROWS OF THIS SEAT. 8 by the template 'for every input the law returns true; each argument reads behind the call as it read before'; 0 by the template 'total and deterministic' (their statements: YtdjdhplacfemfaaTotals.lean).
  GIVEN WITH THE SEED: the statements are not yours to turn. If you find one false, say at which input.
  Laid BY PROGRAM, IN A SANDBOX (cutbox-rows.mjs): the forced cells as the released guide's own fill.sh prints them over the translation 34a77902289931e5… (all of the seat's roots in one cut). By AI agents, Wed Nov 11 2026. No macro, syntax, notation, axiom, sorry.
-/
import Derived.Test.YtdjdhplacfemfaaChecked
import GoSem.Claim
import GoSem.ClaimJoined
import GoSem.ClaimMapViews
import Derived.JoinedTies
import Derived.KernelRfl
namespace Go.Proofs.Ytdjdhplacfemfaa
/- THE CELL 'sum', in the pinned program and in every row, IS THE sha256 OF THE DUMP (.gsa) THAT YtdjdhplacfemfaaProg.lean LOADS. Nothing in Lean hashes anything: it is a label: what it is worth is what the hold of that sum in a sandbox is worth. -/
noncomputable def Try.pinned : Pinned := { name := "ytdjdhplacfemfaa", sum := "34a77902289931e550a28daf78c02723a211cfbcb8cd36dd0d085ca03ad25b46", checked := Try.checked }
namespace Rows
def none {H : Type} : Left H := { results := [], args := [] }

/-- 'winnowlaw2.NumsPut': WHATEVER THE INPUT: true; the input reads as it did. -/
def numsPutSpec : ChangeSpec := { name := "numsPut", fn := fun _ => fun
  | [d1, d2] => { results := [.lit (.bool true)], args := [d1, d2] }
  | _ => none }
def numsPutRow : OpenClaim := { program := "ytdjdhplacfemfaa", sum := "34a77902289931e550a28daf78c02723a211cfbcb8cd36dd0d085ca03ad25b46", func := "winnow/winnowlaw2.NumsPut", spec := "numsPut", apart := false }
def NumsPutSaid : Prop := numsPutRow.holds Try.pinned (OpenSpec.ofChange numsPutSpec)

/-- ITS FALSE NEIGHBOUR: 'it returns false'. Refute it at one input. -/
def numsPutWrong : ChangeSpec := { name := "numsPut", fn := fun _ => fun
  | [d1, d2] => { results := [.lit (.bool false)], args := [d1, d2] }
  | _ => none }
def NumsPutWrongFalsely : Prop := numsPutRow.holds Try.pinned (OpenSpec.ofChange numsPutWrong)

/-- 'winnowlaw2.NumsGet': WHATEVER THE INPUT: true; the input reads as it did. -/
def numsGetSpec : ChangeSpec := { name := "numsGet", fn := fun _ => fun
  | [d] => { results := [.lit (.bool true)], args := [d] }
  | _ => none }
def numsGetRow : OpenClaim := { program := "ytdjdhplacfemfaa", sum := "34a77902289931e550a28daf78c02723a211cfbcb8cd36dd0d085ca03ad25b46", func := "winnow/winnowlaw2.NumsGet", spec := "numsGet", apart := false }
def NumsGetSaid : Prop := numsGetRow.holds Try.pinned (OpenSpec.ofChange numsGetSpec)

/-- ITS FALSE NEIGHBOUR: 'it returns false'. Refute it at one input. -/
def numsGetWrong : ChangeSpec := { name := "numsGet", fn := fun _ => fun
  | [d] => { results := [.lit (.bool false)], args := [d] }
  | _ => none }
def NumsGetWrongFalsely : Prop := numsGetRow.holds Try.pinned (OpenSpec.ofChange numsGetWrong)

/-- 'winnowlaw2.NumsCompare': WHATEVER THE INPUT: true; the input reads as it did. -/
def numsCompareSpec : ChangeSpec := { name := "numsCompare", fn := fun _ => fun
  | [d1, d2] => { results := [.lit (.bool true)], args := [d1, d2] }
  | _ => none }
def numsCompareRow : OpenClaim := { program := "ytdjdhplacfemfaa", sum := "34a77902289931e550a28daf78c02723a211cfbcb8cd36dd0d085ca03ad25b46", func := "winnow/winnowlaw2.NumsCompare", spec := "numsCompare", apart := false }
def NumsCompareSaid : Prop := numsCompareRow.holds Try.pinned (OpenSpec.ofChange numsCompareSpec)

/-- ITS FALSE NEIGHBOUR: 'it returns false'. Refute it at one input. -/
def numsCompareWrong : ChangeSpec := { name := "numsCompare", fn := fun _ => fun
  | [d1, d2] => { results := [.lit (.bool false)], args := [d1, d2] }
  | _ => none }
def NumsCompareWrongFalsely : Prop := numsCompareRow.holds Try.pinned (OpenSpec.ofChange numsCompareWrong)

/-- 'winnowlaw2.NumsOneToOne': WHATEVER THE INPUT: true; the input reads as it did. -/
def numsOneToOneSpec : ChangeSpec := { name := "numsOneToOne", fn := fun _ => fun
  | [d1, d2, d3] => { results := [.lit (.bool true)], args := [d1, d2, d3] }
  | _ => none }
def numsOneToOneRow : OpenClaim := { program := "ytdjdhplacfemfaa", sum := "34a77902289931e550a28daf78c02723a211cfbcb8cd36dd0d085ca03ad25b46", func := "winnow/winnowlaw2.NumsOneToOne", spec := "numsOneToOne", apart := false }
def NumsOneToOneSaid : Prop := numsOneToOneRow.holds Try.pinned (OpenSpec.ofChange numsOneToOneSpec)

/-- ITS FALSE NEIGHBOUR: 'it returns false'. Refute it at one input. -/
def numsOneToOneWrong : ChangeSpec := { name := "numsOneToOne", fn := fun _ => fun
  | [d1, d2, d3] => { results := [.lit (.bool false)], args := [d1, d2, d3] }
  | _ => none }
def NumsOneToOneWrongFalsely : Prop := numsOneToOneRow.holds Try.pinned (OpenSpec.ofChange numsOneToOneWrong)

/-- 'winnowlaw2.NumsWords': WHATEVER THE INPUT: true; the input reads as it did. -/
def numsWordsSpec : ChangeSpec := { name := "numsWords", fn := fun _ => fun
  | [d1, d2] => { results := [.lit (.bool true)], args := [d1, d2] }
  | _ => none }
def numsWordsRow : OpenClaim := { program := "ytdjdhplacfemfaa", sum := "34a77902289931e550a28daf78c02723a211cfbcb8cd36dd0d085ca03ad25b46", func := "winnow/winnowlaw2.NumsWords", spec := "numsWords", apart := false }
def NumsWordsSaid : Prop := numsWordsRow.holds Try.pinned (OpenSpec.ofChange numsWordsSpec)

/-- ITS FALSE NEIGHBOUR: 'it returns false'. Refute it at one input. -/
def numsWordsWrong : ChangeSpec := { name := "numsWords", fn := fun _ => fun
  | [d1, d2] => { results := [.lit (.bool false)], args := [d1, d2] }
  | _ => none }
def NumsWordsWrongFalsely : Prop := numsWordsRow.holds Try.pinned (OpenSpec.ofChange numsWordsWrong)

/-- 'winnowlaw2.NumsOrder': WHATEVER THE INPUT: true; the input reads as it did. -/
def numsOrderSpec : ChangeSpec := { name := "numsOrder", fn := fun _ => fun
  | [d1, d2, d3] => { results := [.lit (.bool true)], args := [d1, d2, d3] }
  | _ => none }
def numsOrderRow : OpenClaim := { program := "ytdjdhplacfemfaa", sum := "34a77902289931e550a28daf78c02723a211cfbcb8cd36dd0d085ca03ad25b46", func := "winnow/winnowlaw2.NumsOrder", spec := "numsOrder", apart := false }
def NumsOrderSaid : Prop := numsOrderRow.holds Try.pinned (OpenSpec.ofChange numsOrderSpec)

/-- ITS FALSE NEIGHBOUR: 'it returns false'. Refute it at one input. -/
def numsOrderWrong : ChangeSpec := { name := "numsOrder", fn := fun _ => fun
  | [d1, d2, d3] => { results := [.lit (.bool false)], args := [d1, d2, d3] }
  | _ => none }
def NumsOrderWrongFalsely : Prop := numsOrderRow.holds Try.pinned (OpenSpec.ofChange numsOrderWrong)

/-- 'winnowlaw2.NumsCursor': WHATEVER THE INPUT: true; the input reads as it did. -/
def numsCursorSpec : ChangeSpec := { name := "numsCursor", fn := fun _ => fun
  | [d1, d2] => { results := [.lit (.bool true)], args := [d1, d2] }
  | _ => none }
def numsCursorRow : OpenClaim := { program := "ytdjdhplacfemfaa", sum := "34a77902289931e550a28daf78c02723a211cfbcb8cd36dd0d085ca03ad25b46", func := "winnow/winnowlaw2.NumsCursor", spec := "numsCursor", unfollowed := true, recurses := true, apart := false }
def NumsCursorSaid : Prop := numsCursorRow.holds Try.pinned (OpenSpec.ofChange numsCursorSpec)

/-- ITS FALSE NEIGHBOUR: 'it returns false'. Refute it at one input. -/
def numsCursorWrong : ChangeSpec := { name := "numsCursor", fn := fun _ => fun
  | [d1, d2] => { results := [.lit (.bool false)], args := [d1, d2] }
  | _ => none }
def NumsCursorWrongFalsely : Prop := numsCursorRow.holds Try.pinned (OpenSpec.ofChange numsCursorWrong)

/-- 'winnowlaw2.NumsRows': WHATEVER THE INPUT: true; the input reads as it did. -/
def numsRowsSpec : ChangeSpec := { name := "numsRows", fn := fun _ => fun
  | [d] => { results := [.lit (.bool true)], args := [d] }
  | _ => none }
def numsRowsRow : OpenClaim := { program := "ytdjdhplacfemfaa", sum := "34a77902289931e550a28daf78c02723a211cfbcb8cd36dd0d085ca03ad25b46", func := "winnow/winnowlaw2.NumsRows", spec := "numsRows", unfollowed := true, recurses := true, apart := false }
def NumsRowsSaid : Prop := numsRowsRow.holds Try.pinned (OpenSpec.ofChange numsRowsSpec)

/-- ITS FALSE NEIGHBOUR: 'it returns false'. Refute it at one input. -/
def numsRowsWrong : ChangeSpec := { name := "numsRows", fn := fun _ => fun
  | [d] => { results := [.lit (.bool false)], args := [d] }
  | _ => none }
def NumsRowsWrongFalsely : Prop := numsRowsRow.holds Try.pinned (OpenSpec.ofChange numsRowsWrong)

/- THE SECOND FORM. 'bulk': how many values and letters a reading holds, each counted each time it is reached (what is shared counts as often as it is met; a slice's spare places count too). A statement '..UptoSaid' is the law's where the arguments, and the package variables that the reading takes, are together of bulk at most 1048576: NARROWER than '..Said'. Prove '..Said' where nothing that the law and all that it calls make is longer than what came in: it says more and counts as full. Else prove '..UptoSaid'. A law counts once. -/
mutual
def uptoBulk {H : Type} : DataW H → Nat
  | .lit (.string bytes) => bytes.length + 1
  | .lit _ => 1
  | .nil => 1
  | .ptr d => uptoBulk d + 1
  | .slice elems spare => uptoBulkAll elems + uptoBulkAll spare + 1
  | .agg parts => uptoBulkAll parts + 1
  | .iface _ d => uptoBulk d + 1
  | .map entries => uptoBulkEntries entries + 1
  | .held _ => 1
def uptoBulkAll {H : Type} : List (DataW H) → Nat
  | [] => 0
  | d :: r => uptoBulk d + uptoBulkAll r
def uptoBulkEntries {H : Type} : List (Lit × DataW H) → Nat
  | [] => 0
  | x :: r => uptoBulkEntry x + uptoBulkEntries r
def uptoBulkEntry {H : Type} : Lit × DataW H → Nat
  | (.string bytes, d) => bytes.length + uptoBulk d + 1
  | (_, d) => uptoBulk d + 1
 end
def uptoSmall : (H : Type) → List (DataW H) → Bool := fun _ ds => decide (uptoBulkAll ds ≤ 1048576)
def OpenSpec.upto (s : _root_.Go.ChangeSpec) : _root_.Go.OpenSpec := { _root_.Go.OpenSpec.ofChange s with cond := some uptoSmall }

/-- 'winnowlaw2.NumsPut', WHERE WHAT IT READS IS OF BULK AT MOST 1048576: true; the input reads as it did. -/
def numsPutUptoRow : OpenClaim := { program := "ytdjdhplacfemfaa", sum := "34a77902289931e550a28daf78c02723a211cfbcb8cd36dd0d085ca03ad25b46", func := "winnow/winnowlaw2.NumsPut", spec := "numsPut", apart := false, narrowed := true }
def NumsPutUptoSaid : Prop := numsPutUptoRow.holds Try.pinned (OpenSpec.upto numsPutSpec)

/-- 'winnowlaw2.NumsGet', WHERE WHAT IT READS IS OF BULK AT MOST 1048576: true; the input reads as it did. -/
def numsGetUptoRow : OpenClaim := { program := "ytdjdhplacfemfaa", sum := "34a77902289931e550a28daf78c02723a211cfbcb8cd36dd0d085ca03ad25b46", func := "winnow/winnowlaw2.NumsGet", spec := "numsGet", apart := false, narrowed := true }
def NumsGetUptoSaid : Prop := numsGetUptoRow.holds Try.pinned (OpenSpec.upto numsGetSpec)

/-- 'winnowlaw2.NumsCompare', WHERE WHAT IT READS IS OF BULK AT MOST 1048576: true; the input reads as it did. -/
def numsCompareUptoRow : OpenClaim := { program := "ytdjdhplacfemfaa", sum := "34a77902289931e550a28daf78c02723a211cfbcb8cd36dd0d085ca03ad25b46", func := "winnow/winnowlaw2.NumsCompare", spec := "numsCompare", apart := false, narrowed := true }
def NumsCompareUptoSaid : Prop := numsCompareUptoRow.holds Try.pinned (OpenSpec.upto numsCompareSpec)

/-- 'winnowlaw2.NumsOneToOne', WHERE WHAT IT READS IS OF BULK AT MOST 1048576: true; the input reads as it did. -/
def numsOneToOneUptoRow : OpenClaim := { program := "ytdjdhplacfemfaa", sum := "34a77902289931e550a28daf78c02723a211cfbcb8cd36dd0d085ca03ad25b46", func := "winnow/winnowlaw2.NumsOneToOne", spec := "numsOneToOne", apart := false, narrowed := true }
def NumsOneToOneUptoSaid : Prop := numsOneToOneUptoRow.holds Try.pinned (OpenSpec.upto numsOneToOneSpec)

/-- 'winnowlaw2.NumsWords', WHERE WHAT IT READS IS OF BULK AT MOST 1048576: true; the input reads as it did. -/
def numsWordsUptoRow : OpenClaim := { program := "ytdjdhplacfemfaa", sum := "34a77902289931e550a28daf78c02723a211cfbcb8cd36dd0d085ca03ad25b46", func := "winnow/winnowlaw2.NumsWords", spec := "numsWords", apart := false, narrowed := true }
def NumsWordsUptoSaid : Prop := numsWordsUptoRow.holds Try.pinned (OpenSpec.upto numsWordsSpec)

/-- 'winnowlaw2.NumsOrder', WHERE WHAT IT READS IS OF BULK AT MOST 1048576: true; the input reads as it did. -/
def numsOrderUptoRow : OpenClaim := { program := "ytdjdhplacfemfaa", sum := "34a77902289931e550a28daf78c02723a211cfbcb8cd36dd0d085ca03ad25b46", func := "winnow/winnowlaw2.NumsOrder", spec := "numsOrder", apart := false, narrowed := true }
def NumsOrderUptoSaid : Prop := numsOrderUptoRow.holds Try.pinned (OpenSpec.upto numsOrderSpec)

/-- 'winnowlaw2.NumsCursor', WHERE WHAT IT READS IS OF BULK AT MOST 1048576: true; the input reads as it did. -/
def numsCursorUptoRow : OpenClaim := { program := "ytdjdhplacfemfaa", sum := "34a77902289931e550a28daf78c02723a211cfbcb8cd36dd0d085ca03ad25b46", func := "winnow/winnowlaw2.NumsCursor", spec := "numsCursor", unfollowed := true, recurses := true, apart := false, narrowed := true }
def NumsCursorUptoSaid : Prop := numsCursorUptoRow.holds Try.pinned (OpenSpec.upto numsCursorSpec)

/-- 'winnowlaw2.NumsRows', WHERE WHAT IT READS IS OF BULK AT MOST 1048576: true; the input reads as it did. -/
def numsRowsUptoRow : OpenClaim := { program := "ytdjdhplacfemfaa", sum := "34a77902289931e550a28daf78c02723a211cfbcb8cd36dd0d085ca03ad25b46", func := "winnow/winnowlaw2.NumsRows", spec := "numsRows", unfollowed := true, recurses := true, apart := false, narrowed := true }
def NumsRowsUptoSaid : Prop := numsRowsUptoRow.holds Try.pinned (OpenSpec.upto numsRowsSpec)

end Rows
end Go.Proofs.Ytdjdhplacfemfaa
