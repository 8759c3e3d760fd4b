/- A cut of an own slice, told by its owner: it can be read wherever the blocks are owned. -/
import Derived.Test.YthhmhmnhbababaaE20
namespace Go.Proofs.Ythhmhmnhbababaa.E
open Go
structure SubS {α : Type} (enc : α → List Value) (u : Value) (l : List α) (rs : List Ent) : Prop where
  rd : ∀ w, (∀ e ∈ rs, Own w e) → RdS enc w u l
  blk : 0 < l.length → blkV u ∈ ids rs
theorem SubS.apart {α : Type} {enc : α → List Value} {u : Value} {l : List α} {rs rk : List Ent} {w0 w : World} {S : List Nat} {R : List (List Ent)} {i k : Nat} (h : SubS enc u l rs) (hM : Mem w0 S w R) (hi : R[i]? = some rs) (hk : R[k]? = some rk) (hn : i ≠ k) (hl : 0 < l.length) : blkV u ∉ ids rk := by
  obtain ⟨e, he, hb⟩ := List.mem_map.1 (h.blk hl)
  obtain ⟨j, hj⟩ := List.mem_iff_getElem?.1 he
  rw [← hb]
  exact hM.apart (i := i) (j := j) (k := k) hi hj hk hn
theorem SubS.eqL {α : Type} {enc : α → List Value} {u : Value} {l m : List α} {rs : List Ent} (h : SubS enc u l rs) (e : l = m) : SubS enc u m rs := e ▸ h
section
variable {P : Program} {r : List MI} {f : Fr} {w w0 : World} {S : List Nat} {R : List (List Ent)} {K : Fr → World → Prop} {d : Nat}
theorem m_slcSub {α : Type} {enc : α → List Value} {sz : Nat} [Enc enc sz] {t : TypeId} {x y : Operand} {u : Value} {l : List α} {rs : List Ent} {k : IntKind} (A : Nat) (h : SlS enc sz t u l rs) (hx : ev f x = u) (hA : A ≤ l.length) (hy : ev f y = .int k A)
    (hk : ∀ v', SubS enc v' (l.drop A) rs → vr P r (upd f d v') w K) : vr P (.p none d (.slc sz x (some y) none none) :: r) f w K := by
  obtain ⟨a, c, hu, hc, hb⟩ : ∃ a c, u = .slice a l.length c ∧ l.length ≤ c ∧ (0 < l.length → ∃ b, a = some ⟨b, 0, none⟩ ∧ b ∈ ids rs) := by
    rcases h.form with ⟨rfl, h, _⟩ | ⟨b, c, tl, rfl, hr, h, _⟩
    · exact ⟨_, 0, by rw [h], by omega, fun k => by omega⟩
    · exact ⟨_, c, rfl, h, fun _ => ⟨b, rfl, by rw [hr]; simp [ids]⟩⟩
  subst hu
  have key : SubS enc (.slice (cutAt sz a A c) (l.length - A) (c - A)) (l.drop A) rs := by
    refine ⟨fun w' ho => ?_, fun hl => ?_⟩
    · have h1 : Rd w' (.slice a l.length c) l.length (l.flatMap enc) := Sl.rdOwn h ho
      have h2 := Rd.sub h1 (fm_length l) (Nat.le_refl _) hA (Enc.pos (enc := enc))
      show Rd w' _ (l.drop A).length _
      rw [List.length_drop, ← fm_drop]
      rw [List.take_of_length_le (by rw [fm_length]; exact Nat.le_refl _)] at h2
      exact h2
    · rw [List.length_drop] at hl
      obtain ⟨b, rfl, hm⟩ := hb (by omega)

      show blkV (.slice (if c = A then some ⟨b, 0, none⟩ else some ⟨b, 0 + A * sz, none⟩) _ _) ∈ _
      by_cases e : c = A
      · rw [if_pos e]; exact hm
      · rw [if_neg e]; exact hm
  have h5 := hk _ key
  show kslice (ev f x) _; rw [hx]
  show bnd none l.length c fun h => bnd (some (ev f y)) 0 h fun l' => vr P r (upd f d (.slice (cutAt sz a l' c) (h - l') (c - l'))) w K
  refine bndN (bndS hy ⟨by omega, by omega⟩ ?_)
  rw [Int.toNat_natCast]; exact h5
end
end Go.Proofs.Ythhmhmnhbababaa.E
