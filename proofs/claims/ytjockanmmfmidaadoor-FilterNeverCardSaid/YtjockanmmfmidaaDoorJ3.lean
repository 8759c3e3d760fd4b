/- The package's table, out of the row's condition. -/
import Derived.Test.YtjockanmmfmidaaDoorJ1
import Derived.Test.YtjockanmmfmidaaDoorRows
import Derived.Lib.LaidTab
import Derived.OpenShut
namespace Go.Proofs.YtjockanmmfmidaaDoor.E
open Go
theorem four {α : Type} {l : List α} (h : l.length = 16) : l = (l.drop 0).take 4 ++ ((l.drop 4).take 4 ++ ((l.drop 8).take 4 ++ (l.drop 12).take 4)) := by
  have h3 : (l.drop 12).take 4 = l.drop 12 := List.take_of_length_le (by rw [List.length_drop]; omega)
  have h2 : (l.drop 8).take 4 ++ l.drop 12 = l.drop 8 := by
    have := List.take_append_drop 4 (l.drop 8)
    rwa [List.drop_drop] at this
  have h1 : (l.drop 4).take 4 ++ l.drop 8 = l.drop 4 := by
    have := List.take_append_drop 4 (l.drop 4)
    rwa [List.drop_drop] at this
  rw [h3, h2, h1, List.drop_zero, List.take_append_drop]
theorem tabOf {W : World} (h : laidMet Tryd.prog [("winnow/filter.joins", Rows.laid_winnow_filter_joins)] W) : Tab W := by
  obtain ⟨ps, ⟨g, t, cs, fuel, p, q, hg, ht, hvar, hd, _, _⟩, _⟩ := h
  obtain rfl := Option.some.inj ((show Tryd.prog.globalNamed "winnow/filter.joins" = some 0 by kernel_rfl).symm.trans hg)
  obtain rfl := Option.some.inj ((show (Tryd.prog.globals[0]?).map (·.type) = some 47 by kernel_rfl).symm.trans ht)
  obtain ⟨xs, m, _, hx, hl, hn, hi⟩ := DataW.trod_array Tryd.underlying47 hd
  rw [show Tryd.prog.cellsOf 47 = 16 by kernel_rfl] at hl
  have hxs : xs.map (·.1) = [Lib.tabData .i64 [0, 0, 0, 0], Lib.tabData .i64 [0, 0, 0, 0], Lib.tabData .i64 [0, 0, 2, 2], Lib.tabData .i64 [0, 0, 1, 3]] := by
    have := congrArg Prod.fst hx
    simp only [Rows.laid_winnow_filter_joins, DataW.agg.injEq] at this
    exact this.symm
  have row : ∀ (i : Nat) (zs : List Int), i < 4 → (xs.map (·.1))[i]? = some (Lib.tabData .i64 zs) → (cs.toList.drop (i * 4)).take 4 = zs.map fun z => Value.int .i64 z := fun i zs h4 hz => by
    have h1 := hi i h4
    rw [show Tryd.prog.cellsOf 46 = 4 by kernel_rfl] at h1
    rw [List.getElem?_map] at hz
    cases hy : xs[i]? with
    | none => rw [hy] at hz; cases hz
    | some y =>
      rw [hy] at h1 hz
      obtain ⟨d, p'⟩ := y
      obtain rfl : d = Lib.tabData .i64 zs := by simpa using hz
      exact Lib.cells_of_tab Tryd.underlying46 Tryd.underlying3 (by kernel_rfl) (by kernel_rfl) h1
  have r0 := row 0 [0, 0, 0, 0] (by omega) (by rw [hxs]; rfl)
  have r1 := row 1 [0, 0, 0, 0] (by omega) (by rw [hxs]; rfl)
  have r2 := row 2 [0, 0, 2, 2] (by omega) (by rw [hxs]; rfl)
  have r3 := row 3 [0, 0, 1, 3] (by omega) (by rw [hxs]; rfl)
  have hcs : cs.toList = tabL.map fun z => Value.int .i64 z := by
    rw [four hl, r0, r1, r2, r3]; rfl
  intro k hk
  have h1 := World.var?_cell hg hvar k
  rw [h1, ← Array.getElem?_toList, hcs, List.getElem?_map]
  have hk2 : k < tabL.length := hk
  rw [List.getElem?_eq_getElem hk2, List.getD_eq_getElem?_getD, List.getElem?_eq_getElem hk2]; rfl
