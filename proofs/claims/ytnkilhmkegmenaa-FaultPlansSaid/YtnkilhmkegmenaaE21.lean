/- A cut of an own slice, told by its owner: it can be read wherever the blocks are owned. -/
import Derived.Test.YtnkilhmkegmenaaE20
namespace Go.Proofs.Ytnkilhmkegmenaa.E
open Go
structure SubS {α : Type} (enc : α → List Value) (u : Value) (l : List α) (rs : List Ent) : Prop where
  rd : ∀ w, (∀ e ∈ rs, Own w e) → RdS enc w u l
  blk : 0 < l.length → blkV u ∈ ids rs
theorem SubS.apart {α : Type} {enc : α → List Value} {u : Value} {l : List α} {rs rk : List Ent} {w0 w : World} {S : List Nat} {R : List (List Ent)} {i k : Nat} (h : SubS enc u l rs) (hM : Mem w0 S w R) (hi : R[i]? = some rs) (hk : R[k]? = some rk) (hn : i ≠ k) (hl : 0 < l.length) : blkV u ∉ ids rk := by
  obtain ⟨e, he, hb⟩ := List.mem_map.1 (h.blk hl)
  obtain ⟨j, hj⟩ := List.mem_iff_getElem?.1 he
  rw [← hb]
  exact hM.apart (i := i) (j := j) (k := k) hi hj hk hn
theorem SubS.eqL {α : Type} {enc : α → List Value} {u : Value} {l m : List α} {rs : List Ent} (h : SubS enc u l rs) (e : l = m) : SubS enc u m rs := e ▸ h
theorem SlS.sub {α : Type} {enc : α → List Value} {sz : Nat} {t : TypeId} {u : Value} {l : List α} {rs : List Ent} (h : SlS enc sz t u l rs) : SubS enc u l rs := by
  refine ⟨fun w ho => Sl.rdOwn h ho, fun hl => ?_⟩
  rcases h.form with ⟨_, h, _⟩ | ⟨b, c, tl, rfl, rfl, _, _⟩
  · omega
  · simp [ids, blkV]
theorem SubS.mono {α : Type} {enc : α → List Value} {u : Value} {l : List α} {rs rs' : List Ent} (h : SubS enc u l rs) (hs : ∀ e ∈ rs, e ∈ rs') : SubS enc u l rs' :=
  ⟨fun w ho => h.rd w fun e he => ho e (hs e he), fun hl => by
    obtain ⟨e, he, hb⟩ := List.mem_map.1 (h.blk hl)
    exact List.mem_map.2 ⟨e, hs e he, hb⟩⟩
theorem own2 {w : World} {a b : List Ent} (ha : ∀ e ∈ a, Own w e) (hb : ∀ e ∈ b, Own w e) : ∀ e ∈ a ++ b, Own w e := fun e he => by
  rcases List.mem_append.1 he with h | h
  · exact ha e h
  · exact hb e h
theorem SubS.apart2 {α : Type} {enc : α → List Value} {u : Value} {l : List α} {ra rb rk : List Ent} {w0 w : World} {S : List Nat} {R : List (List Ent)} {i j k : Nat} (h : SubS enc u l (ra ++ rb)) (hM : Mem w0 S w R) (hi : R[i]? = some ra) (hj : R[j]? = some rb) (hk : R[k]? = some rk) (hn : i ≠ k) (hn2 : j ≠ k) (hl : 0 < l.length) : blkV u ∉ ids rk := by
  obtain ⟨e, he, hb⟩ := List.mem_map.1 (h.blk hl)
  rw [← hb]
  rcases List.mem_append.1 he with he | he
  · obtain ⟨q, hq⟩ := List.mem_iff_getElem?.1 he
    exact hM.apart (i := i) (j := q) (k := k) hi hq hk hn
  · obtain ⟨q, hq⟩ := List.mem_iff_getElem?.1 he
    exact hM.apart (i := j) (j := q) (k := k) hj hq hk hn2
section
variable {P : Program} {r : List MI} {f : Fr} {w w0 : World} {S : List Nat} {R : List (List Ent)} {K : Fr → World → Prop} {d : Nat}
theorem m_slcSub {α : Type} {enc : α → List Value} {sz : Nat} [Enc enc sz] {t : TypeId} {x y : Operand} {u : Value} {l : List α} {rs : List Ent} {k : IntKind} (A : Nat) (h : SlS enc sz t u l rs) (hx : ev f x = u) (hA : A ≤ l.length) (hy : ev f y = .int k A)
    (hk : ∀ v', SubS enc v' (l.drop A) rs → vr P r (upd f d v') w K) : vr P (.p none d (.slc sz x (some y) none none) :: r) f w K := by
  obtain ⟨a, c, hu, hc, hb⟩ : ∃ a c, u = .slice a l.length c ∧ l.length ≤ c ∧ (0 < l.length → ∃ b, a = some ⟨b, 0, none⟩ ∧ b ∈ ids rs) := by
    rcases h.form with ⟨rfl, h, _⟩ | ⟨b, c, tl, rfl, hr, h, _⟩
    · exact ⟨_, 0, by rw [h], by omega, fun k => by omega⟩
    · exact ⟨_, c, rfl, h, fun _ => ⟨b, rfl, by rw [hr]; simp [ids]⟩⟩
  subst hu
  have key : SubS enc (.slice (cutAt sz a A c) (l.length - A) (c - A)) (l.drop A) rs := by
    refine ⟨fun w' ho => ?_, fun hl => ?_⟩
    · have h1 : Rd w' (.slice a l.length c) l.length (l.flatMap enc) := Sl.rdOwn h ho
      have h2 := Rd.sub h1 (fm_length l) (Nat.le_refl _) hA (Enc.pos (enc := enc))
      show Rd w' _ (l.drop A).length _
      rw [List.length_drop, ← fm_drop]
      rw [List.take_of_length_le (by rw [fm_length]; exact Nat.le_refl _)] at h2
      exact h2
    · rw [List.length_drop] at hl
      obtain ⟨b, rfl, hm⟩ := hb (by omega)

      show blkV (.slice (if c = A then some ⟨b, 0, none⟩ else some ⟨b, 0 + A * sz, none⟩) _ _) ∈ _
      by_cases e : c = A
      · rw [if_pos e]; exact hm
      · rw [if_neg e]; exact hm
  have h5 := hk _ key
  show kslice (ev f x) _; rw [hx]
  show bnd none l.length c fun h => bnd (some (ev f y)) 0 h fun l' => vr P r (upd f d (.slice (cutAt sz a l' c) (h - l') (c - l'))) w K
  refine bndN (bndS hy ⟨by omega, by omega⟩ ?_)
  rw [Int.toNat_natCast]; exact h5
theorem m_slcSubH {α : Type} {enc : α → List Value} {sz : Nat} [Enc enc sz] {x y : Operand} {u : Value} {l : List α} {rs : List Ent} {k : IntKind} (B : Nat) (h : SubS enc u l rs) (ho : ∀ e ∈ rs, Own w e) (hx : ev f x = u) (hB : B ≤ l.length) (hy : ev f y = .int k B)
    (hk : ∀ v', SubS enc v' (l.take B) rs → vr P r (upd f d v') w K) : vr P (.p none d (.slc sz x none (some y) none) :: r) f w K := by
  obtain ⟨a, c, hu, hc, hrow, hnil⟩ := (h.rd w ho).form
  subst hu
  have key : SubS enc (.slice (cutAt sz a 0 c) (B - 0) (c - 0)) (l.take B) rs := by
    refine ⟨fun w' ho' => ?_, fun hl => ?_⟩
    · have h2 := Rd.sub (h.rd w' ho') (fm_length l) hB (Nat.zero_le _) (Enc.pos (enc := enc))
      show Rd w' _ (l.take B).length _
      rw [List.length_take, Nat.min_eq_left hB, ← fm_take]
      rw [Nat.zero_mul, List.drop_zero] at h2
      exact h2
    · rw [List.length_take] at hl
      have hb := h.blk (by omega)
      cases a with
      | none => have := hnil rfl; omega
      | some a =>
        obtain ⟨b, o, m⟩ := a
        cases m with
        | none =>
          show blkV (.slice (if c = 0 then some ⟨b, o, none⟩ else some ⟨b, o + 0 * sz, none⟩) _ _) ∈ _
          by_cases e : c = 0
          · rw [if_pos e]; exact hb
          · rw [if_neg e]; exact hb
        | some m =>
          have hp := Enc.pos (enc := enc)
          have hL : 0 < (l.flatMap enc).length := by rw [fm_length]; exact Nat.mul_pos (by omega) hp
          simp only [Row] at hrow; rw [hrow] at hL; simp at hL
  have h5 := hk _ key
  show kslice (ev f x) _; rw [hx]
  show bnd (some (ev f y)) l.length c fun h => bnd none 0 h fun l' => vr P r (upd f d (.slice (cutAt sz a l' c) (h - l') (c - l'))) w K
  refine bndS hy ⟨by omega, by omega⟩ (bndN ?_)
  rw [Int.toNat_natCast]; exact h5
end
end Go.Proofs.Ytnkilhmkegmenaa.E
