/-
  NARROWER THAN 'FOR EVERY INPUT', by the rows' own cells (each row's printed sentence says how): FilterJoins: laid · FilterFew: laid · FilterNever: laid.
  DERIVED. THE GIVEN ROWS OF THIS SEAT. 3 by the template 'for every input the law returns true; each argument reads behind the call as it read before'; 0 by the template 'total and deterministic' (their statements: YtjockanmmfmidaaDoorTotals.lean).
  GIVEN WITH THE SEED: the statements are not yours to turn. If you find one false, say at which input.
  Laid BY PROGRAM, IN A SANDBOX (cutbox-rows.mjs): the forced cells as the released guide's own fill.sh prints them over the translation 9c15b28a54b0b083… (all of the seat's roots in one cut). By AI agents, Wed Nov 11 2026. No macro, syntax, notation, axiom, sorry.
-/
import Derived.Test.YtjockanmmfmidaaDoorChecked
import GoSem.Claim
import GoSem.ClaimJoined
import GoSem.ClaimMapViews
import Derived.JoinedTies
import Derived.KernelRfl
namespace Go.Proofs.YtjockanmmfmidaaDoor
/- THE CELL 'sum', in the pinned program and in every row, IS THE sha256 OF THE DUMP (.gsa) THAT YtjockanmmfmidaaDoorProg.lean LOADS. Nothing in Lean hashes anything: it is a label: what it is worth is what the hold of that sum in a sandbox is worth. -/
noncomputable def Tryd.pinned : Pinned := { name := "ytjockanmmfmidaadoor", sum := "9c15b28a54b0b083f03686c66d18a3b6d1991ffd7f364aa98420fea239fbeb25", checked := Tryd.checked }
namespace Rows
def none {H : Type} : Left H := { results := [], args := [] }

/- WHAT THE LISTED PACKAGE-LEVEL VARIABLES READ AS WHEN THE CALL BEGINS. Each datum BY PROGRAM (the guide's laid-datum.mjs) off the statement by which the dump's own 'gosem.cut.vars' lays the variable. In a bare row this is a premise. The card (YtjockanmmfmidaaDoorCards.lean) ties it to the program's text. -/
def laid_winnow_filter_joins {H : Type} : DataW H := .agg [.agg [.lit (.int .i64 0), .lit (.int .i64 0), .lit (.int .i64 0), .lit (.int .i64 0)], .agg [.lit (.int .i64 0), .lit (.int .i64 0), .lit (.int .i64 0), .lit (.int .i64 0)], .agg [.lit (.int .i64 0), .lit (.int .i64 0), .lit (.int .i64 2), .lit (.int .i64 2)], .agg [.lit (.int .i64 0), .lit (.int .i64 0), .lit (.int .i64 1), .lit (.int .i64 3)]]

/-- 'winnowlaw7.FilterJoins': WHATEVER THE INPUT: true; the input reads as it did. -/
def filterJoinsSpec : ChangeSpec := { name := "filterJoins", fn := fun _ => fun
  | [d1, d2] => { results := [.lit (.bool true)], args := [d1, d2] }
  | _ => none }
def filterJoinsRow : OpenClaim := { program := "ytjockanmmfmidaadoor", sum := "9c15b28a54b0b083f03686c66d18a3b6d1991ffd7f364aa98420fea239fbeb25", func := "winnow/winnowlaw7.FilterJoins", spec := "filterJoins", named := ["winnow/filter.joins"], apart := false, laid := [("winnow/filter.joins", laid_winnow_filter_joins)] }
def FilterJoinsSaid : Prop := filterJoinsRow.holds Tryd.pinned (OpenSpec.ofChange filterJoinsSpec)

/-- ITS FALSE NEIGHBOUR: 'it returns false'. Refute it at one input. -/
def filterJoinsWrong : ChangeSpec := { name := "filterJoins", fn := fun _ => fun
  | [d1, d2] => { results := [.lit (.bool false)], args := [d1, d2] }
  | _ => none }
def FilterJoinsWrongFalsely : Prop := filterJoinsRow.holds Tryd.pinned (OpenSpec.ofChange filterJoinsWrong)

/-- 'winnowlaw7.FilterFew': WHATEVER THE INPUT: true; the input reads as it did. -/
def filterFewSpec : ChangeSpec := { name := "filterFew", fn := fun _ => fun
  | [d1, d2, d3] => { results := [.lit (.bool true)], args := [d1, d2, d3] }
  | _ => none }
def filterFewRow : OpenClaim := { program := "ytjockanmmfmidaadoor", sum := "9c15b28a54b0b083f03686c66d18a3b6d1991ffd7f364aa98420fea239fbeb25", func := "winnow/winnowlaw7.FilterFew", spec := "filterFew", unfollowed := true, recurses := true, named := ["winnow/filter.joins"], apart := false, laid := [("winnow/filter.joins", laid_winnow_filter_joins)] }
def FilterFewSaid : Prop := filterFewRow.holds Tryd.pinned (OpenSpec.ofChange filterFewSpec)

/-- ITS FALSE NEIGHBOUR: 'it returns false'. Refute it at one input. -/
def filterFewWrong : ChangeSpec := { name := "filterFew", fn := fun _ => fun
  | [d1, d2, d3] => { results := [.lit (.bool false)], args := [d1, d2, d3] }
  | _ => none }
def FilterFewWrongFalsely : Prop := filterFewRow.holds Tryd.pinned (OpenSpec.ofChange filterFewWrong)

/-- 'winnowlaw7.FilterNever': WHATEVER THE INPUT: true; the input reads as it did. -/
def filterNeverSpec : ChangeSpec := { name := "filterNever", fn := fun _ => fun
  | [d1, d2, d3, d4] => { results := [.lit (.bool true)], args := [d1, d2, d3, d4] }
  | _ => none }
def filterNeverRow : OpenClaim := { program := "ytjockanmmfmidaadoor", sum := "9c15b28a54b0b083f03686c66d18a3b6d1991ffd7f364aa98420fea239fbeb25", func := "winnow/winnowlaw7.FilterNever", spec := "filterNever", unfollowed := true, recurses := true, named := ["winnow/filter.joins"], apart := false, laid := [("winnow/filter.joins", laid_winnow_filter_joins)] }
def FilterNeverSaid : Prop := filterNeverRow.holds Tryd.pinned (OpenSpec.ofChange filterNeverSpec)

/-- ITS FALSE NEIGHBOUR: 'it returns false'. Refute it at one input. -/
def filterNeverWrong : ChangeSpec := { name := "filterNever", fn := fun _ => fun
  | [d1, d2, d3, d4] => { results := [.lit (.bool false)], args := [d1, d2, d3, d4] }
  | _ => none }
def FilterNeverWrongFalsely : Prop := filterNeverRow.holds Tryd.pinned (OpenSpec.ofChange filterNeverWrong)

/- THE SECOND FORM. 'bulk': how many values and letters a reading holds, each counted each time it is reached (what is shared counts as often as it is met; a slice's spare places count too). A statement '..UptoSaid' is the law's where the arguments, and the package variables that the reading takes, are together of bulk at most 1048576: NARROWER than '..Said'. Prove '..Said' where nothing that the law and all that it calls make is longer than what came in: it says more and counts as full. Else prove '..UptoSaid'. A law counts once. -/
mutual
def uptoBulk {H : Type} : DataW H → Nat
  | .lit (.string bytes) => bytes.length + 1
  | .lit _ => 1
  | .nil => 1
  | .ptr d => uptoBulk d + 1
  | .slice elems spare => uptoBulkAll elems + uptoBulkAll spare + 1
  | .agg parts => uptoBulkAll parts + 1
  | .iface _ d => uptoBulk d + 1
  | .map entries => uptoBulkEntries entries + 1
  | .held _ => 1
def uptoBulkAll {H : Type} : List (DataW H) → Nat
  | [] => 0
  | d :: r => uptoBulk d + uptoBulkAll r
def uptoBulkEntries {H : Type} : List (Lit × DataW H) → Nat
  | [] => 0
  | x :: r => uptoBulkEntry x + uptoBulkEntries r
def uptoBulkEntry {H : Type} : Lit × DataW H → Nat
  | (.string bytes, d) => bytes.length + uptoBulk d + 1
  | (_, d) => uptoBulk d + 1
 end
def uptoSmall : (H : Type) → List (DataW H) → Bool := fun _ ds => decide (uptoBulkAll ds ≤ 1048576)
def OpenSpec.upto (s : _root_.Go.ChangeSpec) : _root_.Go.OpenSpec := { _root_.Go.OpenSpec.ofChange s with cond := some uptoSmall }

/-- 'winnowlaw7.FilterJoins', WHERE WHAT IT READS IS OF BULK AT MOST 1048576: true; the input reads as it did. -/
def filterJoinsUptoRow : OpenClaim := { program := "ytjockanmmfmidaadoor", sum := "9c15b28a54b0b083f03686c66d18a3b6d1991ffd7f364aa98420fea239fbeb25", func := "winnow/winnowlaw7.FilterJoins", spec := "filterJoins", named := ["winnow/filter.joins"], apart := false, laid := [("winnow/filter.joins", laid_winnow_filter_joins)], narrowed := true }
def FilterJoinsUptoSaid : Prop := filterJoinsUptoRow.holds Tryd.pinned (OpenSpec.upto filterJoinsSpec)

/-- 'winnowlaw7.FilterFew', WHERE WHAT IT READS IS OF BULK AT MOST 1048576: true; the input reads as it did. -/
def filterFewUptoRow : OpenClaim := { program := "ytjockanmmfmidaadoor", sum := "9c15b28a54b0b083f03686c66d18a3b6d1991ffd7f364aa98420fea239fbeb25", func := "winnow/winnowlaw7.FilterFew", spec := "filterFew", unfollowed := true, recurses := true, named := ["winnow/filter.joins"], apart := false, laid := [("winnow/filter.joins", laid_winnow_filter_joins)], narrowed := true }
def FilterFewUptoSaid : Prop := filterFewUptoRow.holds Tryd.pinned (OpenSpec.upto filterFewSpec)

/-- 'winnowlaw7.FilterNever', WHERE WHAT IT READS IS OF BULK AT MOST 1048576: true; the input reads as it did. -/
def filterNeverUptoRow : OpenClaim := { program := "ytjockanmmfmidaadoor", sum := "9c15b28a54b0b083f03686c66d18a3b6d1991ffd7f364aa98420fea239fbeb25", func := "winnow/winnowlaw7.FilterNever", spec := "filterNever", unfollowed := true, recurses := true, named := ["winnow/filter.joins"], apart := false, laid := [("winnow/filter.joins", laid_winnow_filter_joins)], narrowed := true }
def FilterNeverUptoSaid : Prop := filterNeverUptoRow.holds Tryd.pinned (OpenSpec.upto filterNeverSpec)

end Rows
end Go.Proofs.YtjockanmmfmidaaDoor
