/-
  No cell of these rows narrows 'for every input' (looked for: loops, veiled, ifaces, maps, wideKeys, modest, calm, conditions, laid).
  DERIVED. THE GIVEN ROWS OF THIS SEAT. 7 by the template 'for every input the law returns true; each argument reads behind the call as it read before'; 0 by the template 'total and deterministic' (their statements: YtnkilhmkegmenaaTotals.lean).
  GIVEN WITH THE SEED: the statements are not yours to turn. If you find one false, say at which input.
  Laid BY PROGRAM, IN A SANDBOX (cutbox-rows.mjs): the forced cells as the released guide's own fill.sh prints them over the translation fc4a80c9d1496dfa… (all of the seat's roots in one cut). By AI agents, Wed Nov 11 2026. No macro, syntax, notation, axiom, sorry.
-/
import Derived.Test.YtnkilhmkegmenaaChecked
import GoSem.Claim
import GoSem.ClaimJoined
import GoSem.ClaimMapViews
import Derived.JoinedTies
import Derived.KernelRfl
namespace Go.Proofs.Ytnkilhmkegmenaa
/- THE CELL 'sum', in the pinned program and in every row, IS THE sha256 OF THE DUMP (.gsa) THAT YtnkilhmkegmenaaProg.lean LOADS. Nothing in Lean hashes anything: it is a label: what it is worth is what the hold of that sum in a sandbox is worth. -/
noncomputable def Try.pinned : Pinned := { name := "ytnkilhmkegmenaa", sum := "fc4a80c9d1496dfab1e678a10c5c50543358362ceb03c371f2b71db6a5b7c040", checked := Try.checked }
namespace Rows
def none {H : Type} : Left H := { results := [], args := [] }

/-- 'winnowlaw16.FaultDamages': WHATEVER THE INPUT: true; the input reads as it did. -/
def faultDamagesSpec : ChangeSpec := { name := "faultDamages", fn := fun _ => fun
  | [d1, d2] => { results := [.lit (.bool true)], args := [d1, d2] }
  | _ => none }
def faultDamagesRow : OpenClaim := { program := "ytnkilhmkegmenaa", sum := "fc4a80c9d1496dfab1e678a10c5c50543358362ceb03c371f2b71db6a5b7c040", func := "winnow/winnowlaw16.FaultDamages", spec := "faultDamages", unfollowed := true, recurses := true, plainKeys := false, apart := false }
def FaultDamagesSaid : Prop := faultDamagesRow.holds Try.pinned (OpenSpec.ofChange faultDamagesSpec)

/-- ITS FALSE NEIGHBOUR: 'it returns false'. Refute it at one input. -/
def faultDamagesWrong : ChangeSpec := { name := "faultDamages", fn := fun _ => fun
  | [d1, d2] => { results := [.lit (.bool false)], args := [d1, d2] }
  | _ => none }
def FaultDamagesWrongFalsely : Prop := faultDamagesRow.holds Try.pinned (OpenSpec.ofChange faultDamagesWrong)

/-- 'winnowlaw16.FaultPlans': WHATEVER THE INPUT: true; the input reads as it did. -/
def faultPlansSpec : ChangeSpec := { name := "faultPlans", fn := fun _ => fun
  | [d1, d2] => { results := [.lit (.bool true)], args := [d1, d2] }
  | _ => none }
def faultPlansRow : OpenClaim := { program := "ytnkilhmkegmenaa", sum := "fc4a80c9d1496dfab1e678a10c5c50543358362ceb03c371f2b71db6a5b7c040", func := "winnow/winnowlaw16.FaultPlans", spec := "faultPlans", unfollowed := true, recurses := true, plainKeys := false, apart := false }
def FaultPlansSaid : Prop := faultPlansRow.holds Try.pinned (OpenSpec.ofChange faultPlansSpec)

/-- ITS FALSE NEIGHBOUR: 'it returns false'. Refute it at one input. -/
def faultPlansWrong : ChangeSpec := { name := "faultPlans", fn := fun _ => fun
  | [d1, d2] => { results := [.lit (.bool false)], args := [d1, d2] }
  | _ => none }
def FaultPlansWrongFalsely : Prop := faultPlansRow.holds Try.pinned (OpenSpec.ofChange faultPlansWrong)

/-- 'winnowlaw16.FaultClass': WHATEVER THE INPUT: true; the input reads as it did. -/
def faultClassSpec : ChangeSpec := { name := "faultClass", fn := fun _ => fun
  | [d1, d2] => { results := [.lit (.bool true)], args := [d1, d2] }
  | _ => none }
def faultClassRow : OpenClaim := { program := "ytnkilhmkegmenaa", sum := "fc4a80c9d1496dfab1e678a10c5c50543358362ceb03c371f2b71db6a5b7c040", func := "winnow/winnowlaw16.FaultClass", spec := "faultClass", unfollowed := true, recurses := true, plainKeys := false, apart := false }
def FaultClassSaid : Prop := faultClassRow.holds Try.pinned (OpenSpec.ofChange faultClassSpec)

/-- ITS FALSE NEIGHBOUR: 'it returns false'. Refute it at one input. -/
def faultClassWrong : ChangeSpec := { name := "faultClass", fn := fun _ => fun
  | [d1, d2] => { results := [.lit (.bool false)], args := [d1, d2] }
  | _ => none }
def FaultClassWrongFalsely : Prop := faultClassRow.holds Try.pinned (OpenSpec.ofChange faultClassWrong)

/-- 'winnowlaw16.FaultOnce': WHATEVER THE INPUT: true; the input reads as it did. -/
def faultOnceSpec : ChangeSpec := { name := "faultOnce", fn := fun _ => fun
  | [d1, d2] => { results := [.lit (.bool true)], args := [d1, d2] }
  | _ => none }
def faultOnceRow : OpenClaim := { program := "ytnkilhmkegmenaa", sum := "fc4a80c9d1496dfab1e678a10c5c50543358362ceb03c371f2b71db6a5b7c040", func := "winnow/winnowlaw16.FaultOnce", spec := "faultOnce", unfollowed := true, recurses := true, plainKeys := false, apart := false }
def FaultOnceSaid : Prop := faultOnceRow.holds Try.pinned (OpenSpec.ofChange faultOnceSpec)

/-- ITS FALSE NEIGHBOUR: 'it returns false'. Refute it at one input. -/
def faultOnceWrong : ChangeSpec := { name := "faultOnce", fn := fun _ => fun
  | [d1, d2] => { results := [.lit (.bool false)], args := [d1, d2] }
  | _ => none }
def FaultOnceWrongFalsely : Prop := faultOnceRow.holds Try.pinned (OpenSpec.ofChange faultOnceWrong)

/-- 'winnowlaw16.FaultComes': WHATEVER THE INPUT: true; the input reads as it did. -/
def faultComesSpec : ChangeSpec := { name := "faultComes", fn := fun _ => fun
  | [d] => { results := [.lit (.bool true)], args := [d] }
  | _ => none }
def faultComesRow : OpenClaim := { program := "ytnkilhmkegmenaa", sum := "fc4a80c9d1496dfab1e678a10c5c50543358362ceb03c371f2b71db6a5b7c040", func := "winnow/winnowlaw16.FaultComes", spec := "faultComes", unfollowed := true, recurses := true, plainKeys := false, apart := false }
def FaultComesSaid : Prop := faultComesRow.holds Try.pinned (OpenSpec.ofChange faultComesSpec)

/-- ITS FALSE NEIGHBOUR: 'it returns false'. Refute it at one input. -/
def faultComesWrong : ChangeSpec := { name := "faultComes", fn := fun _ => fun
  | [d] => { results := [.lit (.bool false)], args := [d] }
  | _ => none }
def FaultComesWrongFalsely : Prop := faultComesRow.holds Try.pinned (OpenSpec.ofChange faultComesWrong)

/-- 'winnowlaw16.FaultCodes': WHATEVER THE INPUT: true; the input reads as it did. -/
def faultCodesSpec : ChangeSpec := { name := "faultCodes", fn := fun _ => fun
  | [d1, d2] => { results := [.lit (.bool true)], args := [d1, d2] }
  | _ => none }
def faultCodesRow : OpenClaim := { program := "ytnkilhmkegmenaa", sum := "fc4a80c9d1496dfab1e678a10c5c50543358362ceb03c371f2b71db6a5b7c040", func := "winnow/winnowlaw16.FaultCodes", spec := "faultCodes", unfollowed := true, recurses := true, plainKeys := false, apart := false }
def FaultCodesSaid : Prop := faultCodesRow.holds Try.pinned (OpenSpec.ofChange faultCodesSpec)

/-- ITS FALSE NEIGHBOUR: 'it returns false'. Refute it at one input. -/
def faultCodesWrong : ChangeSpec := { name := "faultCodes", fn := fun _ => fun
  | [d1, d2] => { results := [.lit (.bool false)], args := [d1, d2] }
  | _ => none }
def FaultCodesWrongFalsely : Prop := faultCodesRow.holds Try.pinned (OpenSpec.ofChange faultCodesWrong)

/-- 'winnowlaw16.FaultRound': WHATEVER THE INPUT: true; the input reads as it did. -/
def faultRoundSpec : ChangeSpec := { name := "faultRound", fn := fun _ => fun
  | [d1, d2, d3] => { results := [.lit (.bool true)], args := [d1, d2, d3] }
  | _ => none }
def faultRoundRow : OpenClaim := { program := "ytnkilhmkegmenaa", sum := "fc4a80c9d1496dfab1e678a10c5c50543358362ceb03c371f2b71db6a5b7c040", func := "winnow/winnowlaw16.FaultRound", spec := "faultRound", unfollowed := true, recurses := true, plainKeys := false, apart := false }
def FaultRoundSaid : Prop := faultRoundRow.holds Try.pinned (OpenSpec.ofChange faultRoundSpec)

/-- ITS FALSE NEIGHBOUR: 'it returns false'. Refute it at one input. -/
def faultRoundWrong : ChangeSpec := { name := "faultRound", fn := fun _ => fun
  | [d1, d2, d3] => { results := [.lit (.bool false)], args := [d1, d2, d3] }
  | _ => none }
def FaultRoundWrongFalsely : Prop := faultRoundRow.holds Try.pinned (OpenSpec.ofChange faultRoundWrong)

/- THE SECOND FORM. 'bulk': how many values and letters a reading holds, each counted each time it is reached (what is shared counts as often as it is met; a slice's spare places count too). A statement '..UptoSaid' is the law's where the arguments, and the package variables that the reading takes, are together of bulk at most 1048576: NARROWER than '..Said'. Prove '..Said' where nothing that the law and all that it calls make is longer than what came in: it says more and counts as full. Else prove '..UptoSaid'. A law counts once. -/
mutual
def uptoBulk {H : Type} : DataW H → Nat
  | .lit (.string bytes) => bytes.length + 1
  | .lit _ => 1
  | .nil => 1
  | .ptr d => uptoBulk d + 1
  | .slice elems spare => uptoBulkAll elems + uptoBulkAll spare + 1
  | .agg parts => uptoBulkAll parts + 1
  | .iface _ d => uptoBulk d + 1
  | .map entries => uptoBulkEntries entries + 1
  | .held _ => 1
def uptoBulkAll {H : Type} : List (DataW H) → Nat
  | [] => 0
  | d :: r => uptoBulk d + uptoBulkAll r
def uptoBulkEntries {H : Type} : List (Lit × DataW H) → Nat
  | [] => 0
  | x :: r => uptoBulkEntry x + uptoBulkEntries r
def uptoBulkEntry {H : Type} : Lit × DataW H → Nat
  | (.string bytes, d) => bytes.length + uptoBulk d + 1
  | (_, d) => uptoBulk d + 1
 end
def uptoSmall : (H : Type) → List (DataW H) → Bool := fun _ ds => decide (uptoBulkAll ds ≤ 1048576)
def OpenSpec.upto (s : _root_.Go.ChangeSpec) : _root_.Go.OpenSpec := { _root_.Go.OpenSpec.ofChange s with cond := some uptoSmall }

/-- 'winnowlaw16.FaultDamages', WHERE WHAT IT READS IS OF BULK AT MOST 1048576: true; the input reads as it did. -/
def faultDamagesUptoRow : OpenClaim := { program := "ytnkilhmkegmenaa", sum := "fc4a80c9d1496dfab1e678a10c5c50543358362ceb03c371f2b71db6a5b7c040", func := "winnow/winnowlaw16.FaultDamages", spec := "faultDamages", unfollowed := true, recurses := true, plainKeys := false, apart := false, narrowed := true }
def FaultDamagesUptoSaid : Prop := faultDamagesUptoRow.holds Try.pinned (OpenSpec.upto faultDamagesSpec)

/-- 'winnowlaw16.FaultPlans', WHERE WHAT IT READS IS OF BULK AT MOST 1048576: true; the input reads as it did. -/
def faultPlansUptoRow : OpenClaim := { program := "ytnkilhmkegmenaa", sum := "fc4a80c9d1496dfab1e678a10c5c50543358362ceb03c371f2b71db6a5b7c040", func := "winnow/winnowlaw16.FaultPlans", spec := "faultPlans", unfollowed := true, recurses := true, plainKeys := false, apart := false, narrowed := true }
def FaultPlansUptoSaid : Prop := faultPlansUptoRow.holds Try.pinned (OpenSpec.upto faultPlansSpec)

/-- 'winnowlaw16.FaultClass', WHERE WHAT IT READS IS OF BULK AT MOST 1048576: true; the input reads as it did. -/
def faultClassUptoRow : OpenClaim := { program := "ytnkilhmkegmenaa", sum := "fc4a80c9d1496dfab1e678a10c5c50543358362ceb03c371f2b71db6a5b7c040", func := "winnow/winnowlaw16.FaultClass", spec := "faultClass", unfollowed := true, recurses := true, plainKeys := false, apart := false, narrowed := true }
def FaultClassUptoSaid : Prop := faultClassUptoRow.holds Try.pinned (OpenSpec.upto faultClassSpec)

/-- 'winnowlaw16.FaultOnce', WHERE WHAT IT READS IS OF BULK AT MOST 1048576: true; the input reads as it did. -/
def faultOnceUptoRow : OpenClaim := { program := "ytnkilhmkegmenaa", sum := "fc4a80c9d1496dfab1e678a10c5c50543358362ceb03c371f2b71db6a5b7c040", func := "winnow/winnowlaw16.FaultOnce", spec := "faultOnce", unfollowed := true, recurses := true, plainKeys := false, apart := false, narrowed := true }
def FaultOnceUptoSaid : Prop := faultOnceUptoRow.holds Try.pinned (OpenSpec.upto faultOnceSpec)

/-- 'winnowlaw16.FaultComes', WHERE WHAT IT READS IS OF BULK AT MOST 1048576: true; the input reads as it did. -/
def faultComesUptoRow : OpenClaim := { program := "ytnkilhmkegmenaa", sum := "fc4a80c9d1496dfab1e678a10c5c50543358362ceb03c371f2b71db6a5b7c040", func := "winnow/winnowlaw16.FaultComes", spec := "faultComes", unfollowed := true, recurses := true, plainKeys := false, apart := false, narrowed := true }
def FaultComesUptoSaid : Prop := faultComesUptoRow.holds Try.pinned (OpenSpec.upto faultComesSpec)

/-- 'winnowlaw16.FaultCodes', WHERE WHAT IT READS IS OF BULK AT MOST 1048576: true; the input reads as it did. -/
def faultCodesUptoRow : OpenClaim := { program := "ytnkilhmkegmenaa", sum := "fc4a80c9d1496dfab1e678a10c5c50543358362ceb03c371f2b71db6a5b7c040", func := "winnow/winnowlaw16.FaultCodes", spec := "faultCodes", unfollowed := true, recurses := true, plainKeys := false, apart := false, narrowed := true }
def FaultCodesUptoSaid : Prop := faultCodesUptoRow.holds Try.pinned (OpenSpec.upto faultCodesSpec)

/-- 'winnowlaw16.FaultRound', WHERE WHAT IT READS IS OF BULK AT MOST 1048576: true; the input reads as it did. -/
def faultRoundUptoRow : OpenClaim := { program := "ytnkilhmkegmenaa", sum := "fc4a80c9d1496dfab1e678a10c5c50543358362ceb03c371f2b71db6a5b7c040", func := "winnow/winnowlaw16.FaultRound", spec := "faultRound", unfollowed := true, recurses := true, plainKeys := false, apart := false, narrowed := true }
def FaultRoundUptoSaid : Prop := faultRoundUptoRow.holds Try.pinned (OpenSpec.upto faultRoundSpec)

end Rows
end Go.Proofs.Ytnkilhmkegmenaa
