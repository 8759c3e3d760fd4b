/-
  No cell of these rows narrows 'for every input' (looked for: loops, veiled, ifaces, maps, wideKeys, modest, calm, conditions, laid).
  DERIVED. THE GIVEN ROWS OF THIS SEAT. 10 by the template 'for every input the law returns true; each argument reads behind the call as it read before'; 0 by the template 'total and deterministic' (their statements: YthhmhmnhbababaaTotals.lean).
  GIVEN WITH THE SEED: the statements are not yours to turn. If you find one false, say at which input.
  Laid BY PROGRAM, IN A SANDBOX (cutbox-rows.mjs): the forced cells as the released guide's own fill.sh prints them over the translation e2d123a279c878c3… (all of the seat's roots in one cut). By AI agents, Wed Nov 11 2026. No macro, syntax, notation, axiom, sorry.
-/
import Derived.Test.YthhmhmnhbababaaChecked
import GoSem.Claim
import GoSem.ClaimJoined
import GoSem.ClaimMapViews
import Derived.JoinedTies
import Derived.KernelRfl
namespace Go.Proofs.Ythhmhmnhbababaa
/- THE CELL 'sum', in the pinned program and in every row, IS THE sha256 OF THE DUMP (.gsa) THAT YthhmhmnhbababaaProg.lean LOADS. Nothing in Lean hashes anything: it is a label: what it is worth is what the hold of that sum in a sandbox is worth. -/
noncomputable def Try.pinned : Pinned := { name := "ythhmhmnhbababaa", sum := "e2d123a279c878c32e9f21a9e9f8251382090e1ab4c5c37119d905d2905df3ae", checked := Try.checked }
namespace Rows
def none {H : Type} : Left H := { results := [], args := [] }

/-- 'winnowlaw8.FootFind': WHATEVER THE INPUT: true; the input reads as it did. -/
def footFindSpec : ChangeSpec := { name := "footFind", fn := fun _ => fun
  | [d1, d2, d3] => { results := [.lit (.bool true)], args := [d1, d2, d3] }
  | _ => none }
def footFindRow : OpenClaim := { program := "ythhmhmnhbababaa", sum := "e2d123a279c878c32e9f21a9e9f8251382090e1ab4c5c37119d905d2905df3ae", func := "winnow/winnowlaw8.FootFind", spec := "footFind", apart := false }
def FootFindSaid : Prop := footFindRow.holds Try.pinned (OpenSpec.ofChange footFindSpec)

/-- ITS FALSE NEIGHBOUR: 'it returns false'. Refute it at one input. -/
def footFindWrong : ChangeSpec := { name := "footFind", fn := fun _ => fun
  | [d1, d2, d3] => { results := [.lit (.bool false)], args := [d1, d2, d3] }
  | _ => none }
def FootFindWrongFalsely : Prop := footFindRow.holds Try.pinned (OpenSpec.ofChange footFindWrong)

/-- 'winnowlaw8.FootTrailer': WHATEVER THE INPUT: true; the input reads as it did. -/
def footTrailerSpec : ChangeSpec := { name := "footTrailer", fn := fun _ => fun
  | [d1, d2] => { results := [.lit (.bool true)], args := [d1, d2] }
  | _ => none }
def footTrailerRow : OpenClaim := { program := "ythhmhmnhbababaa", sum := "e2d123a279c878c32e9f21a9e9f8251382090e1ab4c5c37119d905d2905df3ae", func := "winnow/winnowlaw8.FootTrailer", spec := "footTrailer", apart := false }
def FootTrailerSaid : Prop := footTrailerRow.holds Try.pinned (OpenSpec.ofChange footTrailerSpec)

/-- ITS FALSE NEIGHBOUR: 'it returns false'. Refute it at one input. -/
def footTrailerWrong : ChangeSpec := { name := "footTrailer", fn := fun _ => fun
  | [d1, d2] => { results := [.lit (.bool false)], args := [d1, d2] }
  | _ => none }
def FootTrailerWrongFalsely : Prop := footTrailerRow.holds Try.pinned (OpenSpec.ofChange footTrailerWrong)

/-- 'winnowlaw8.FootEncode': WHATEVER THE INPUT: true; the input reads as it did. -/
def footEncodeSpec : ChangeSpec := { name := "footEncode", fn := fun _ => fun
  | [d] => { results := [.lit (.bool true)], args := [d] }
  | _ => none }
def footEncodeRow : OpenClaim := { program := "ythhmhmnhbababaa", sum := "e2d123a279c878c32e9f21a9e9f8251382090e1ab4c5c37119d905d2905df3ae", func := "winnow/winnowlaw8.FootEncode", spec := "footEncode", unfollowed := true, recurses := true, apart := false }
def FootEncodeSaid : Prop := footEncodeRow.holds Try.pinned (OpenSpec.ofChange footEncodeSpec)

/-- ITS FALSE NEIGHBOUR: 'it returns false'. Refute it at one input. -/
def footEncodeWrong : ChangeSpec := { name := "footEncode", fn := fun _ => fun
  | [d] => { results := [.lit (.bool false)], args := [d] }
  | _ => none }
def FootEncodeWrongFalsely : Prop := footEncodeRow.holds Try.pinned (OpenSpec.ofChange footEncodeWrong)

/-- 'winnowlaw8.FootDecoder': WHATEVER THE INPUT: true; the input reads as it did. -/
def footDecoderSpec : ChangeSpec := { name := "footDecoder", fn := fun _ => fun
  | [d1, d2] => { results := [.lit (.bool true)], args := [d1, d2] }
  | _ => none }
def footDecoderRow : OpenClaim := { program := "ythhmhmnhbababaa", sum := "e2d123a279c878c32e9f21a9e9f8251382090e1ab4c5c37119d905d2905df3ae", func := "winnow/winnowlaw8.FootDecoder", spec := "footDecoder", unfollowed := true, recurses := true, apart := false }
def FootDecoderSaid : Prop := footDecoderRow.holds Try.pinned (OpenSpec.ofChange footDecoderSpec)

/-- ITS FALSE NEIGHBOUR: 'it returns false'. Refute it at one input. -/
def footDecoderWrong : ChangeSpec := { name := "footDecoder", fn := fun _ => fun
  | [d1, d2] => { results := [.lit (.bool false)], args := [d1, d2] }
  | _ => none }
def FootDecoderWrongFalsely : Prop := footDecoderRow.holds Try.pinned (OpenSpec.ofChange footDecoderWrong)

/-- 'winnowlaw8.FootDecode': WHATEVER THE INPUT: true; the input reads as it did. -/
def footDecodeSpec : ChangeSpec := { name := "footDecode", fn := fun _ => fun
  | [d1, d2] => { results := [.lit (.bool true)], args := [d1, d2] }
  | _ => none }
def footDecodeRow : OpenClaim := { program := "ythhmhmnhbababaa", sum := "e2d123a279c878c32e9f21a9e9f8251382090e1ab4c5c37119d905d2905df3ae", func := "winnow/winnowlaw8.FootDecode", spec := "footDecode", unfollowed := true, recurses := true, apart := false }
def FootDecodeSaid : Prop := footDecodeRow.holds Try.pinned (OpenSpec.ofChange footDecodeSpec)

/-- ITS FALSE NEIGHBOUR: 'it returns false'. Refute it at one input. -/
def footDecodeWrong : ChangeSpec := { name := "footDecode", fn := fun _ => fun
  | [d1, d2] => { results := [.lit (.bool false)], args := [d1, d2] }
  | _ => none }
def FootDecodeWrongFalsely : Prop := footDecodeRow.holds Try.pinned (OpenSpec.ofChange footDecodeWrong)

/-- 'winnowlaw8.FootBack': WHATEVER THE INPUT: true; the input reads as it did. -/
def footBackSpec : ChangeSpec := { name := "footBack", fn := fun _ => fun
  | [d1, d2] => { results := [.lit (.bool true)], args := [d1, d2] }
  | _ => none }
def footBackRow : OpenClaim := { program := "ythhmhmnhbababaa", sum := "e2d123a279c878c32e9f21a9e9f8251382090e1ab4c5c37119d905d2905df3ae", func := "winnow/winnowlaw8.FootBack", spec := "footBack", unfollowed := true, recurses := true, apart := false }
def FootBackSaid : Prop := footBackRow.holds Try.pinned (OpenSpec.ofChange footBackSpec)

/-- ITS FALSE NEIGHBOUR: 'it returns false'. Refute it at one input. -/
def footBackWrong : ChangeSpec := { name := "footBack", fn := fun _ => fun
  | [d1, d2] => { results := [.lit (.bool false)], args := [d1, d2] }
  | _ => none }
def FootBackWrongFalsely : Prop := footBackRow.holds Try.pinned (OpenSpec.ofChange footBackWrong)

/-- 'winnowlaw8.FootOnly': WHATEVER THE INPUT: true; the input reads as it did. -/
def footOnlySpec : ChangeSpec := { name := "footOnly", fn := fun _ => fun
  | [d1, d2] => { results := [.lit (.bool true)], args := [d1, d2] }
  | _ => none }
def footOnlyRow : OpenClaim := { program := "ythhmhmnhbababaa", sum := "e2d123a279c878c32e9f21a9e9f8251382090e1ab4c5c37119d905d2905df3ae", func := "winnow/winnowlaw8.FootOnly", spec := "footOnly", unfollowed := true, recurses := true, apart := false }
def FootOnlySaid : Prop := footOnlyRow.holds Try.pinned (OpenSpec.ofChange footOnlySpec)

/-- ITS FALSE NEIGHBOUR: 'it returns false'. Refute it at one input. -/
def footOnlyWrong : ChangeSpec := { name := "footOnly", fn := fun _ => fun
  | [d1, d2] => { results := [.lit (.bool false)], args := [d1, d2] }
  | _ => none }
def FootOnlyWrongFalsely : Prop := footOnlyRow.holds Try.pinned (OpenSpec.ofChange footOnlyWrong)

/-- 'winnowlaw8.FootSearch': WHATEVER THE INPUT: true; the input reads as it did. -/
def footSearchSpec : ChangeSpec := { name := "footSearch", fn := fun _ => fun
  | [d1, d2] => { results := [.lit (.bool true)], args := [d1, d2] }
  | _ => none }
def footSearchRow : OpenClaim := { program := "ythhmhmnhbababaa", sum := "e2d123a279c878c32e9f21a9e9f8251382090e1ab4c5c37119d905d2905df3ae", func := "winnow/winnowlaw8.FootSearch", spec := "footSearch", unfollowed := true, recurses := true, apart := false }
def FootSearchSaid : Prop := footSearchRow.holds Try.pinned (OpenSpec.ofChange footSearchSpec)

/-- ITS FALSE NEIGHBOUR: 'it returns false'. Refute it at one input. -/
def footSearchWrong : ChangeSpec := { name := "footSearch", fn := fun _ => fun
  | [d1, d2] => { results := [.lit (.bool false)], args := [d1, d2] }
  | _ => none }
def FootSearchWrongFalsely : Prop := footSearchRow.holds Try.pinned (OpenSpec.ofChange footSearchWrong)

/-- 'winnowlaw8.FootTiles': WHATEVER THE INPUT: true; the input reads as it did. -/
def footTilesSpec : ChangeSpec := { name := "footTiles", fn := fun _ => fun
  | [d] => { results := [.lit (.bool true)], args := [d] }
  | _ => none }
def footTilesRow : OpenClaim := { program := "ythhmhmnhbababaa", sum := "e2d123a279c878c32e9f21a9e9f8251382090e1ab4c5c37119d905d2905df3ae", func := "winnow/winnowlaw8.FootTiles", spec := "footTiles", unfollowed := true, recurses := true, apart := false }
def FootTilesSaid : Prop := footTilesRow.holds Try.pinned (OpenSpec.ofChange footTilesSpec)

/-- ITS FALSE NEIGHBOUR: 'it returns false'. Refute it at one input. -/
def footTilesWrong : ChangeSpec := { name := "footTiles", fn := fun _ => fun
  | [d] => { results := [.lit (.bool false)], args := [d] }
  | _ => none }
def FootTilesWrongFalsely : Prop := footTilesRow.holds Try.pinned (OpenSpec.ofChange footTilesWrong)

/-- 'winnowlaw8.FootDamage': WHATEVER THE INPUT: true; the input reads as it did. -/
def footDamageSpec : ChangeSpec := { name := "footDamage", fn := fun _ => fun
  | [d1, d2] => { results := [.lit (.bool true)], args := [d1, d2] }
  | _ => none }
def footDamageRow : OpenClaim := { program := "ythhmhmnhbababaa", sum := "e2d123a279c878c32e9f21a9e9f8251382090e1ab4c5c37119d905d2905df3ae", func := "winnow/winnowlaw8.FootDamage", spec := "footDamage", unfollowed := true, recurses := true, apart := false }
def FootDamageSaid : Prop := footDamageRow.holds Try.pinned (OpenSpec.ofChange footDamageSpec)

/-- ITS FALSE NEIGHBOUR: 'it returns false'. Refute it at one input. -/
def footDamageWrong : ChangeSpec := { name := "footDamage", fn := fun _ => fun
  | [d1, d2] => { results := [.lit (.bool false)], args := [d1, d2] }
  | _ => none }
def FootDamageWrongFalsely : Prop := footDamageRow.holds Try.pinned (OpenSpec.ofChange footDamageWrong)

/- THE SECOND FORM. 'bulk': how many values and letters a reading holds, each counted each time it is reached (what is shared counts as often as it is met; a slice's spare places count too). A statement '..UptoSaid' is the law's where the arguments, and the package variables that the reading takes, are together of bulk at most 1048576: NARROWER than '..Said'. Prove '..Said' where nothing that the law and all that it calls make is longer than what came in: it says more and counts as full. Else prove '..UptoSaid'. A law counts once. -/
mutual
def uptoBulk {H : Type} : DataW H → Nat
  | .lit (.string bytes) => bytes.length + 1
  | .lit _ => 1
  | .nil => 1
  | .ptr d => uptoBulk d + 1
  | .slice elems spare => uptoBulkAll elems + uptoBulkAll spare + 1
  | .agg parts => uptoBulkAll parts + 1
  | .iface _ d => uptoBulk d + 1
  | .map entries => uptoBulkEntries entries + 1
  | .held _ => 1
def uptoBulkAll {H : Type} : List (DataW H) → Nat
  | [] => 0
  | d :: r => uptoBulk d + uptoBulkAll r
def uptoBulkEntries {H : Type} : List (Lit × DataW H) → Nat
  | [] => 0
  | x :: r => uptoBulkEntry x + uptoBulkEntries r
def uptoBulkEntry {H : Type} : Lit × DataW H → Nat
  | (.string bytes, d) => bytes.length + uptoBulk d + 1
  | (_, d) => uptoBulk d + 1
 end
def uptoSmall : (H : Type) → List (DataW H) → Bool := fun _ ds => decide (uptoBulkAll ds ≤ 1048576)
def OpenSpec.upto (s : _root_.Go.ChangeSpec) : _root_.Go.OpenSpec := { _root_.Go.OpenSpec.ofChange s with cond := some uptoSmall }

/-- 'winnowlaw8.FootFind', WHERE WHAT IT READS IS OF BULK AT MOST 1048576: true; the input reads as it did. -/
def footFindUptoRow : OpenClaim := { program := "ythhmhmnhbababaa", sum := "e2d123a279c878c32e9f21a9e9f8251382090e1ab4c5c37119d905d2905df3ae", func := "winnow/winnowlaw8.FootFind", spec := "footFind", apart := false, narrowed := true }
def FootFindUptoSaid : Prop := footFindUptoRow.holds Try.pinned (OpenSpec.upto footFindSpec)

/-- 'winnowlaw8.FootTrailer', WHERE WHAT IT READS IS OF BULK AT MOST 1048576: true; the input reads as it did. -/
def footTrailerUptoRow : OpenClaim := { program := "ythhmhmnhbababaa", sum := "e2d123a279c878c32e9f21a9e9f8251382090e1ab4c5c37119d905d2905df3ae", func := "winnow/winnowlaw8.FootTrailer", spec := "footTrailer", apart := false, narrowed := true }
def FootTrailerUptoSaid : Prop := footTrailerUptoRow.holds Try.pinned (OpenSpec.upto footTrailerSpec)

/-- 'winnowlaw8.FootEncode', WHERE WHAT IT READS IS OF BULK AT MOST 1048576: true; the input reads as it did. -/
def footEncodeUptoRow : OpenClaim := { program := "ythhmhmnhbababaa", sum := "e2d123a279c878c32e9f21a9e9f8251382090e1ab4c5c37119d905d2905df3ae", func := "winnow/winnowlaw8.FootEncode", spec := "footEncode", unfollowed := true, recurses := true, apart := false, narrowed := true }
def FootEncodeUptoSaid : Prop := footEncodeUptoRow.holds Try.pinned (OpenSpec.upto footEncodeSpec)

/-- 'winnowlaw8.FootDecoder', WHERE WHAT IT READS IS OF BULK AT MOST 1048576: true; the input reads as it did. -/
def footDecoderUptoRow : OpenClaim := { program := "ythhmhmnhbababaa", sum := "e2d123a279c878c32e9f21a9e9f8251382090e1ab4c5c37119d905d2905df3ae", func := "winnow/winnowlaw8.FootDecoder", spec := "footDecoder", unfollowed := true, recurses := true, apart := false, narrowed := true }
def FootDecoderUptoSaid : Prop := footDecoderUptoRow.holds Try.pinned (OpenSpec.upto footDecoderSpec)

/-- 'winnowlaw8.FootDecode', WHERE WHAT IT READS IS OF BULK AT MOST 1048576: true; the input reads as it did. -/
def footDecodeUptoRow : OpenClaim := { program := "ythhmhmnhbababaa", sum := "e2d123a279c878c32e9f21a9e9f8251382090e1ab4c5c37119d905d2905df3ae", func := "winnow/winnowlaw8.FootDecode", spec := "footDecode", unfollowed := true, recurses := true, apart := false, narrowed := true }
def FootDecodeUptoSaid : Prop := footDecodeUptoRow.holds Try.pinned (OpenSpec.upto footDecodeSpec)

/-- 'winnowlaw8.FootBack', WHERE WHAT IT READS IS OF BULK AT MOST 1048576: true; the input reads as it did. -/
def footBackUptoRow : OpenClaim := { program := "ythhmhmnhbababaa", sum := "e2d123a279c878c32e9f21a9e9f8251382090e1ab4c5c37119d905d2905df3ae", func := "winnow/winnowlaw8.FootBack", spec := "footBack", unfollowed := true, recurses := true, apart := false, narrowed := true }
def FootBackUptoSaid : Prop := footBackUptoRow.holds Try.pinned (OpenSpec.upto footBackSpec)

/-- 'winnowlaw8.FootOnly', WHERE WHAT IT READS IS OF BULK AT MOST 1048576: true; the input reads as it did. -/
def footOnlyUptoRow : OpenClaim := { program := "ythhmhmnhbababaa", sum := "e2d123a279c878c32e9f21a9e9f8251382090e1ab4c5c37119d905d2905df3ae", func := "winnow/winnowlaw8.FootOnly", spec := "footOnly", unfollowed := true, recurses := true, apart := false, narrowed := true }
def FootOnlyUptoSaid : Prop := footOnlyUptoRow.holds Try.pinned (OpenSpec.upto footOnlySpec)

/-- 'winnowlaw8.FootSearch', WHERE WHAT IT READS IS OF BULK AT MOST 1048576: true; the input reads as it did. -/
def footSearchUptoRow : OpenClaim := { program := "ythhmhmnhbababaa", sum := "e2d123a279c878c32e9f21a9e9f8251382090e1ab4c5c37119d905d2905df3ae", func := "winnow/winnowlaw8.FootSearch", spec := "footSearch", unfollowed := true, recurses := true, apart := false, narrowed := true }
def FootSearchUptoSaid : Prop := footSearchUptoRow.holds Try.pinned (OpenSpec.upto footSearchSpec)

/-- 'winnowlaw8.FootTiles', WHERE WHAT IT READS IS OF BULK AT MOST 1048576: true; the input reads as it did. -/
def footTilesUptoRow : OpenClaim := { program := "ythhmhmnhbababaa", sum := "e2d123a279c878c32e9f21a9e9f8251382090e1ab4c5c37119d905d2905df3ae", func := "winnow/winnowlaw8.FootTiles", spec := "footTiles", unfollowed := true, recurses := true, apart := false, narrowed := true }
def FootTilesUptoSaid : Prop := footTilesUptoRow.holds Try.pinned (OpenSpec.upto footTilesSpec)

/-- 'winnowlaw8.FootDamage', WHERE WHAT IT READS IS OF BULK AT MOST 1048576: true; the input reads as it did. -/
def footDamageUptoRow : OpenClaim := { program := "ythhmhmnhbababaa", sum := "e2d123a279c878c32e9f21a9e9f8251382090e1ab4c5c37119d905d2905df3ae", func := "winnow/winnowlaw8.FootDamage", spec := "footDamage", unfollowed := true, recurses := true, apart := false, narrowed := true }
def FootDamageUptoSaid : Prop := footDamageUptoRow.holds Try.pinned (OpenSpec.upto footDamageSpec)

end Rows
end Go.Proofs.Ythhmhmnhbababaa
