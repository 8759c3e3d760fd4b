/- Rows: what a law's arguments are, from what the row tells of them. -/
import Derived.Test.YtnkilhmkegmenaaE10
import Derived.SizedLaws
import Derived.ChangeSlices
import Derived.Carry
import Derived.OpenShut
import Derived.ShutString
import Derived.ChangeOld
import Derived.Below
import Derived.ProofKit
namespace Go.Proofs.Ytnkilhmkegmenaa.E
open Go Go.ChangeShapes Go.WideShapes

theorem inK_of_wf {k : IntKind} {a : Int} (h : (Lit.int k a).wf = true) : inK k a := by
  simp only [Lit.wf, Bool.and_eq_true, decide_eq_true_eq] at h
  cases k <;> simp [inK, IntKind.min, IntKind.max, IntKind.signed, IntKind.bits] at h ⊢ <;> omega
theorem elems_of_row {k : IntKind} {W : World} {x : Addr} {len cap : Nat} {zs : List Int} (hl : len ≤ cap) (hz : zs.length = cap) (hcell : ∀ i, i < zs.length → W.cell? (x.add i) = some (.int k (zs.getD i 0))) :
    RdE (fun n => .int k n) W (.slice (some x) len cap) (zs.take len) := by
  have hlen : (zs.take len).length = len := by simp; omega
  show Rd _ _ _ _
  rw [hlen]
  refine ⟨some x, cap, rfl, hl, ?_, fun h => by cases h⟩
  obtain ⟨b, o, m⟩ := x
  cases m with
  | some m =>
    show List.map _ _ = []
    by_cases h0 : 0 < zs.length
    · have h1 := hcell 0 h0
      have h2 : W.cell? (Addr.add ⟨b, o, some m⟩ 0) = none := by
        unfold World.cell? Addr.add
        split
        · simp
        · rfl
      rw [h2] at h1; cases h1
    · have : zs = [] := List.length_eq_zero_iff.1 (by omega)
      subst this; simp
  | none =>
    intro i hi
    simp only [List.length_map] at hi
    have hi' : i < zs.length := by simp at hi; omega
    have h1 := hcell i hi'
    have h2 : Addr.add ⟨b, o, none⟩ i = ⟨b, o + i, none⟩ := by
      unfold Addr.add; split
      · rename_i h; simp [h]
      · rfl
    rw [h2] at h1
    rw [h1, List.getElem?_map, List.getElem?_take_of_lt (by rw [hlen] at hi; exact hi), List.getElem?_eq_getElem hi', List.getD_eq_getElem?_getD, List.getElem?_eq_getElem hi']
    rfl
/-- A slice of whole numbers that a law is handed. -/
theorem open_elems {H : Type} {enc : TypeId × Value → H} {P : Program} {W : World} {base : Nat} {held : Bool} {t e : TypeId} {k : IntKind} {a : Option Addr} {len cap : Nat} {d : DataW H} {ps : List MemPlace} {ts : List TypeId} {ds : List (DataW H)} {j : Nat}
    (hsz : (DataW.weightsEach P ts ds).all (· ≤ reachBytes) = true) (ht : ts[j]? = some t) (hd : ds[j]? = some d) (hu : P.underlying t = some (.slice e)) (he : P.underlying e = some (.int k)) (hc : P.cellsOf e = 1) {B : Nat} (hB : P.bytesOf e = B)
    (h : DataW.Trod enc P W base (fun _ => true) held t (.slice a len cap) d ps) : ∃ l : List Int, RdE (fun n => .int k n) W (.slice a len cap) l ∧ (∀ x ∈ l, inK k x) ∧ l.length * B ≤ 140737488351232 := by
  obtain ⟨fuel, hf⟩ := h
  rcases open_ints hu he hc hf with ⟨hcs, _⟩ | ⟨x, l, c, zs, hcs, _, hl, hm, hz, hx, hcell, hwz⟩
  · simp [Value.cells] at hcs
    obtain ⟨rfl, rfl, rfl⟩ := hcs
    exact ⟨[], ⟨none, 0, rfl, Nat.le_refl _, rfl, fun _ => rfl⟩, by simp, by simp⟩
  · simp [Value.cells] at hcs
    obtain ⟨rfl, rfl, rfl⟩ := hcs
    simp only [if_true] at hz
    refine ⟨zs.take len, elems_of_row hl hz hcell, fun x hx => inK_of_wf (hwz x (List.mem_of_mem_take hx)), ?_⟩
    obtain ⟨hx, _⟩ := Prod.mk.inj hx
    subst hx
    have z := sized_slice hsz ht hd hu
    rw [hB] at z
    have h1 : ((lits (H := H) k (zs.take len)).length + (lits (H := H) k (zs.drop len)).length) = zs.length := by
      simp [lits]; omega
    rw [h1] at z
    refine Nat.le_trans (Nat.mul_le_mul_right _ ?_) z
    rw [List.length_take]; exact Nat.min_le_right _ _
theorem bytes_of_ints (l : List Int) (h : ∀ x ∈ l, inK .u8 x) : ∃ m : List UInt8, m.length = l.length ∧ l.map (fun n => Value.int .u8 n) = m.map byteV := by
  refine ⟨l.map fun n => n.toNat.toUInt8, by simp, ?_⟩
  rw [List.map_map]
  apply List.map_congr_left
  intro x hx
  have := h x hx
  simp only [inK] at this
  show _ = byteV _
  unfold byteV
  congr 1
  simp
  omega
/-- Bytes that a law is handed. -/
theorem open_bytes {H : Type} {enc : TypeId × Value → H} {P : Program} {W : World} {base : Nat} {held : Bool} {t e : TypeId} {a : Option Addr} {len cap : Nat} {d : DataW H} {ps : List MemPlace} {ts : List TypeId} {ds : List (DataW H)} {j : Nat}
    (hsz : (DataW.weightsEach P ts ds).all (· ≤ reachBytes) = true) (ht : ts[j]? = some t) (hd : ds[j]? = some d) (hu : P.underlying t = some (.slice e)) (he : P.underlying e = some (.int .u8)) (hc : P.cellsOf e = 1) (hB : P.bytesOf e = 1)
    (h : DataW.Trod enc P W base (fun _ => true) held t (.slice a len cap) d ps) : ∃ l : List UInt8, RdB W (.slice a len cap) l ∧ l.length ≤ 140737488351232 := by
  obtain ⟨l, hr, hin, hb⟩ := open_elems hsz ht hd hu he hc hB h
  obtain ⟨m, hm, hmap⟩ := bytes_of_ints l hin
  refine ⟨m, ?_, by omega⟩
  show Rd _ _ _ _
  rw [hm, ← hmap]; exact hr
/-- A text that a law is handed. -/
theorem str_of (s : ByteArray) (h : s.size ≤ 140737488351232) : ∃ l : List UInt8, s = str l ∧ l.length ≤ 140737488351232 :=
  ⟨s.data.toList, (str_list s).symm, by have e : s.data.toList.length = s.size := Array.length_toList
                                        rw [e]; exact h⟩
end Go.Proofs.Ytnkilhmkegmenaa.E
