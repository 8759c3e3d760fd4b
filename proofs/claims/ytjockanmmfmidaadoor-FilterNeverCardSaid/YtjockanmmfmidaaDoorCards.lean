/-
  DERIVED. GIVEN WITH THE SEED: THE CARDS: each row of YtjockanmmfmidaaDoorRows.lean that lists a variable, with what it lists TIED to the program's text (the seventh form; the later family's looks); each row that meets fmt, with fmt's text TOLD by the authors' own Lean function (tested against real Go, not proved from fmt's source: count such statements apart). THE CARD IS WHAT COUNTS. Prove the row's statement (the work); the ties are given (YtjockanmmfmidaaDoorTie.lean); close each card by the builder's one call (the guide's Derived/Test/ToyasCard.lean, 'card_holds'). Laid BY PROGRAM, IN A SANDBOX (cutbox-door.mjs). By AI agents, Wed Nov 11 2026. No macro, syntax, notation, axiom, sorry.
-/
import Derived.Test.YtjockanmmfmidaaDoorRows
import GoSem.ClaimSeven
namespace Go.Proofs.YtjockanmmfmidaaDoor
namespace Rows

/-- THE TIED CARD OF 'winnowlaw7.FilterJoins'. -/
def filterJoinsCard : Claim7 := { stood := { row := filterJoinsRow, standIns := [], harness := (true, "127ef1506f1eaaa5922940ed6e30db83cea9ba52905d236fd57c6a6dcbbf015b"), looks := false }, kinds := [], alts := [], laidByText := true, laidKinds := [.data], laidTests := true, laidLooks := .later }
def FilterJoinsCardSaid : Prop := Claim7.holds Tryd.pinned (.plain (OpenSpec.ofChange filterJoinsSpec)) filterJoinsCard

/-- THE TIED CARD OF 'winnowlaw7.FilterFew'. -/
def filterFewCard : Claim7 := { stood := { row := filterFewRow, standIns := [], harness := (true, "127ef1506f1eaaa5922940ed6e30db83cea9ba52905d236fd57c6a6dcbbf015b"), looks := false }, kinds := [], alts := [], laidByText := true, laidKinds := [.data], laidTests := true, laidLooks := .later }
def FilterFewCardSaid : Prop := Claim7.holds Tryd.pinned (.plain (OpenSpec.ofChange filterFewSpec)) filterFewCard

/-- THE TIED CARD OF 'winnowlaw7.FilterNever'. -/
def filterNeverCard : Claim7 := { stood := { row := filterNeverRow, standIns := [], harness := (true, "127ef1506f1eaaa5922940ed6e30db83cea9ba52905d236fd57c6a6dcbbf015b"), looks := false }, kinds := [], alts := [], laidByText := true, laidKinds := [.data], laidTests := true, laidLooks := .later }
def FilterNeverCardSaid : Prop := Claim7.holds Tryd.pinned (.plain (OpenSpec.ofChange filterNeverSpec)) filterNeverCard

/-- THE SECOND FORM's CARD OF 'winnowlaw7.FilterJoins'. -/
def filterJoinsUptoCard : Claim7 := { stood := { row := filterJoinsUptoRow, standIns := [], harness := (true, "127ef1506f1eaaa5922940ed6e30db83cea9ba52905d236fd57c6a6dcbbf015b"), looks := false }, kinds := [], alts := [], laidByText := true, laidKinds := [.data], laidTests := true, laidLooks := .later }
def FilterJoinsUptoCardSaid : Prop := Claim7.holds Tryd.pinned (.plain (OpenSpec.upto filterJoinsSpec)) filterJoinsUptoCard

/-- THE SECOND FORM's CARD OF 'winnowlaw7.FilterFew'. -/
def filterFewUptoCard : Claim7 := { stood := { row := filterFewUptoRow, standIns := [], harness := (true, "127ef1506f1eaaa5922940ed6e30db83cea9ba52905d236fd57c6a6dcbbf015b"), looks := false }, kinds := [], alts := [], laidByText := true, laidKinds := [.data], laidTests := true, laidLooks := .later }
def FilterFewUptoCardSaid : Prop := Claim7.holds Tryd.pinned (.plain (OpenSpec.upto filterFewSpec)) filterFewUptoCard

/-- THE SECOND FORM's CARD OF 'winnowlaw7.FilterNever'. -/
def filterNeverUptoCard : Claim7 := { stood := { row := filterNeverUptoRow, standIns := [], harness := (true, "127ef1506f1eaaa5922940ed6e30db83cea9ba52905d236fd57c6a6dcbbf015b"), looks := false }, kinds := [], alts := [], laidByText := true, laidKinds := [.data], laidTests := true, laidLooks := .later }
def FilterNeverUptoCardSaid : Prop := Claim7.holds Tryd.pinned (.plain (OpenSpec.upto filterNeverSpec)) filterNeverUptoCard
end Rows
end Go.Proofs.YtjockanmmfmidaaDoor
