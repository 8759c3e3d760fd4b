/-
  No cell of these rows narrows 'for every input' (looked for: loops, veiled, ifaces, maps, wideKeys, modest, calm, conditions, laid).
  DERIVED. THE GIVEN ROWS OF THIS SEAT. 4 by the template 'for every input the law returns true; each argument reads behind the call as it read before'; 0 by the template 'total and deterministic' (their statements: YtjockanmmfmidaaTotals.lean).
  GIVEN WITH THE SEED: the statements are not yours to turn. If you find one false, say at which input.
  Laid BY PROGRAM, IN A SANDBOX (cutbox-rows.mjs): the forced cells as the released guide's own fill.sh prints them over the translation e9302763c0a7497b… (all of the seat's roots in one cut). By AI agents, Wed Nov 11 2026. No macro, syntax, notation, axiom, sorry.
-/
import Derived.Test.YtjockanmmfmidaaChecked
import GoSem.Claim
import GoSem.ClaimJoined
import GoSem.ClaimMapViews
import Derived.JoinedTies
import Derived.KernelRfl
namespace Go.Proofs.Ytjockanmmfmidaa
/- THE CELL 'sum', in the pinned program and in every row, IS THE sha256 OF THE DUMP (.gsa) THAT YtjockanmmfmidaaProg.lean LOADS. Nothing in Lean hashes anything: it is a label: what it is worth is what the hold of that sum in a sandbox is worth. -/
noncomputable def Try.pinned : Pinned := { name := "ytjockanmmfmidaa", sum := "e9302763c0a7497b8b9d4b50a808f00fcc6de6ecc6b609750fd38bb815c396e7", checked := Try.checked }
namespace Rows
def none {H : Type} : Left H := { results := [], args := [] }

/-- 'winnowlaw7.FilterHashes': WHATEVER THE INPUT: true; the input reads as it did. -/
def filterHashesSpec : ChangeSpec := { name := "filterHashes", fn := fun _ => fun
  | [d] => { results := [.lit (.bool true)], args := [d] }
  | _ => none }
def filterHashesRow : OpenClaim := { program := "ytjockanmmfmidaa", sum := "e9302763c0a7497b8b9d4b50a808f00fcc6de6ecc6b609750fd38bb815c396e7", func := "winnow/winnowlaw7.FilterHashes", spec := "filterHashes", apart := false }
def FilterHashesSaid : Prop := filterHashesRow.holds Try.pinned (OpenSpec.ofChange filterHashesSpec)

/-- ITS FALSE NEIGHBOUR: 'it returns false'. Refute it at one input. -/
def filterHashesWrong : ChangeSpec := { name := "filterHashes", fn := fun _ => fun
  | [d] => { results := [.lit (.bool false)], args := [d] }
  | _ => none }
def FilterHashesWrongFalsely : Prop := filterHashesRow.holds Try.pinned (OpenSpec.ofChange filterHashesWrong)

/-- 'winnowlaw7.FilterBuilds': WHATEVER THE INPUT: true; the input reads as it did. -/
def filterBuildsSpec : ChangeSpec := { name := "filterBuilds", fn := fun _ => fun
  | [d1, d2, d3] => { results := [.lit (.bool true)], args := [d1, d2, d3] }
  | _ => none }
def filterBuildsRow : OpenClaim := { program := "ytjockanmmfmidaa", sum := "e9302763c0a7497b8b9d4b50a808f00fcc6de6ecc6b609750fd38bb815c396e7", func := "winnow/winnowlaw7.FilterBuilds", spec := "filterBuilds", unfollowed := true, recurses := true, apart := false }
def FilterBuildsSaid : Prop := filterBuildsRow.holds Try.pinned (OpenSpec.ofChange filterBuildsSpec)

/-- ITS FALSE NEIGHBOUR: 'it returns false'. Refute it at one input. -/
def filterBuildsWrong : ChangeSpec := { name := "filterBuilds", fn := fun _ => fun
  | [d1, d2, d3] => { results := [.lit (.bool false)], args := [d1, d2, d3] }
  | _ => none }
def FilterBuildsWrongFalsely : Prop := filterBuildsRow.holds Try.pinned (OpenSpec.ofChange filterBuildsWrong)

/-- 'winnowlaw7.FilterCodes': WHATEVER THE INPUT: true; the input reads as it did. -/
def filterCodesSpec : ChangeSpec := { name := "filterCodes", fn := fun _ => fun
  | [d1, d2, d3] => { results := [.lit (.bool true)], args := [d1, d2, d3] }
  | _ => none }
def filterCodesRow : OpenClaim := { program := "ytjockanmmfmidaa", sum := "e9302763c0a7497b8b9d4b50a808f00fcc6de6ecc6b609750fd38bb815c396e7", func := "winnow/winnowlaw7.FilterCodes", spec := "filterCodes", unfollowed := true, recurses := true, apart := false }
def FilterCodesSaid : Prop := filterCodesRow.holds Try.pinned (OpenSpec.ofChange filterCodesSpec)

/-- ITS FALSE NEIGHBOUR: 'it returns false'. Refute it at one input. -/
def filterCodesWrong : ChangeSpec := { name := "filterCodes", fn := fun _ => fun
  | [d1, d2, d3] => { results := [.lit (.bool false)], args := [d1, d2, d3] }
  | _ => none }
def FilterCodesWrongFalsely : Prop := filterCodesRow.holds Try.pinned (OpenSpec.ofChange filterCodesWrong)

/-- 'winnowlaw7.FilterRound': WHATEVER THE INPUT: true; the input reads as it did. -/
def filterRoundSpec : ChangeSpec := { name := "filterRound", fn := fun _ => fun
  | [d1, d2] => { results := [.lit (.bool true)], args := [d1, d2] }
  | _ => none }
def filterRoundRow : OpenClaim := { program := "ytjockanmmfmidaa", sum := "e9302763c0a7497b8b9d4b50a808f00fcc6de6ecc6b609750fd38bb815c396e7", func := "winnow/winnowlaw7.FilterRound", spec := "filterRound", unfollowed := true, recurses := true, apart := false }
def FilterRoundSaid : Prop := filterRoundRow.holds Try.pinned (OpenSpec.ofChange filterRoundSpec)

/-- ITS FALSE NEIGHBOUR: 'it returns false'. Refute it at one input. -/
def filterRoundWrong : ChangeSpec := { name := "filterRound", fn := fun _ => fun
  | [d1, d2] => { results := [.lit (.bool false)], args := [d1, d2] }
  | _ => none }
def FilterRoundWrongFalsely : Prop := filterRoundRow.holds Try.pinned (OpenSpec.ofChange filterRoundWrong)

/- THE SECOND FORM. 'bulk': how many values and letters a reading holds, each counted each time it is reached (what is shared counts as often as it is met; a slice's spare places count too). A statement '..UptoSaid' is the law's where the arguments, and the package variables that the reading takes, are together of bulk at most 1048576: NARROWER than '..Said'. Prove '..Said' where nothing that the law and all that it calls make is longer than what came in: it says more and counts as full. Else prove '..UptoSaid'. A law counts once. -/
mutual
def uptoBulk {H : Type} : DataW H → Nat
  | .lit (.string bytes) => bytes.length + 1
  | .lit _ => 1
  | .nil => 1
  | .ptr d => uptoBulk d + 1
  | .slice elems spare => uptoBulkAll elems + uptoBulkAll spare + 1
  | .agg parts => uptoBulkAll parts + 1
  | .iface _ d => uptoBulk d + 1
  | .map entries => uptoBulkEntries entries + 1
  | .held _ => 1
def uptoBulkAll {H : Type} : List (DataW H) → Nat
  | [] => 0
  | d :: r => uptoBulk d + uptoBulkAll r
def uptoBulkEntries {H : Type} : List (Lit × DataW H) → Nat
  | [] => 0
  | x :: r => uptoBulkEntry x + uptoBulkEntries r
def uptoBulkEntry {H : Type} : Lit × DataW H → Nat
  | (.string bytes, d) => bytes.length + uptoBulk d + 1
  | (_, d) => uptoBulk d + 1
 end
def uptoSmall : (H : Type) → List (DataW H) → Bool := fun _ ds => decide (uptoBulkAll ds ≤ 1048576)
def OpenSpec.upto (s : _root_.Go.ChangeSpec) : _root_.Go.OpenSpec := { _root_.Go.OpenSpec.ofChange s with cond := some uptoSmall }

/-- 'winnowlaw7.FilterHashes', WHERE WHAT IT READS IS OF BULK AT MOST 1048576: true; the input reads as it did. -/
def filterHashesUptoRow : OpenClaim := { program := "ytjockanmmfmidaa", sum := "e9302763c0a7497b8b9d4b50a808f00fcc6de6ecc6b609750fd38bb815c396e7", func := "winnow/winnowlaw7.FilterHashes", spec := "filterHashes", apart := false, narrowed := true }
def FilterHashesUptoSaid : Prop := filterHashesUptoRow.holds Try.pinned (OpenSpec.upto filterHashesSpec)

/-- 'winnowlaw7.FilterBuilds', WHERE WHAT IT READS IS OF BULK AT MOST 1048576: true; the input reads as it did. -/
def filterBuildsUptoRow : OpenClaim := { program := "ytjockanmmfmidaa", sum := "e9302763c0a7497b8b9d4b50a808f00fcc6de6ecc6b609750fd38bb815c396e7", func := "winnow/winnowlaw7.FilterBuilds", spec := "filterBuilds", unfollowed := true, recurses := true, apart := false, narrowed := true }
def FilterBuildsUptoSaid : Prop := filterBuildsUptoRow.holds Try.pinned (OpenSpec.upto filterBuildsSpec)

/-- 'winnowlaw7.FilterCodes', WHERE WHAT IT READS IS OF BULK AT MOST 1048576: true; the input reads as it did. -/
def filterCodesUptoRow : OpenClaim := { program := "ytjockanmmfmidaa", sum := "e9302763c0a7497b8b9d4b50a808f00fcc6de6ecc6b609750fd38bb815c396e7", func := "winnow/winnowlaw7.FilterCodes", spec := "filterCodes", unfollowed := true, recurses := true, apart := false, narrowed := true }
def FilterCodesUptoSaid : Prop := filterCodesUptoRow.holds Try.pinned (OpenSpec.upto filterCodesSpec)

/-- 'winnowlaw7.FilterRound', WHERE WHAT IT READS IS OF BULK AT MOST 1048576: true; the input reads as it did. -/
def filterRoundUptoRow : OpenClaim := { program := "ytjockanmmfmidaa", sum := "e9302763c0a7497b8b9d4b50a808f00fcc6de6ecc6b609750fd38bb815c396e7", func := "winnow/winnowlaw7.FilterRound", spec := "filterRound", unfollowed := true, recurses := true, apart := false, narrowed := true }
def FilterRoundUptoSaid : Prop := filterRoundUptoRow.holds Try.pinned (OpenSpec.upto filterRoundSpec)

end Rows
end Go.Proofs.Ytjockanmmfmidaa
