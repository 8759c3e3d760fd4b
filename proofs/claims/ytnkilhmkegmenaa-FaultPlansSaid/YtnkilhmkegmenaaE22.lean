/- Slices of more cells that grow while an older name still stands. -/
import Derived.Test.YtnkilhmkegmenaaE21
namespace Go.Proofs.Ytnkilhmkegmenaa.E
open Go
theorem Gr.base {α : Type} {E : α → Value} {t : TypeId} {a x : Value} {p l : List α} {r : List Ent} (h : Gr E t a x p l r) : ∃ ra, ra.Sublist r ∧ SlE E t a p ra := by
  rcases h with ⟨b, cap, tail, h1, h2, h3, h4, h5⟩ | ⟨rx, ra, rfl, h1, h2⟩
  · exact ⟨r, List.Sublist.refl _, by simp, .inr ⟨b, cap, l.map E ++ tail, h1, by rw [h3]; simp, by simp at h4; omega, by simp at h5 h4 ⊢; omega⟩⟩
  · exact ⟨ra, List.sublist_append_right _ _, h2⟩
section
variable {α : Type} {enc : α → List Value} {sz : Nat} [Enc enc sz]
/-- x has grown from a: a's elements are p, behind them stand l; both names still stand. -/
def GrS (enc : α → List Value) (sz : Nat) (t : TypeId) (a x : Value) (p l : List α) (r : List Ent) : Prop :=
  (∃ b cap tail, a = .slice (some ⟨b, 0, none⟩) p.length cap ∧ x = .slice (some ⟨b, 0, none⟩) (p ++ l).length cap ∧ r = [⟨b, t, (p ++ l).flatMap enc ++ tail⟩] ∧ (p ++ l).length ≤ cap ∧ tail.length = (cap - (p ++ l).length) * sz) ∨
  ∃ rx ra, r = rx ++ ra ∧ SlS enc sz t x (p ++ l) rx ∧ SlS enc sz t a p ra
omit [Enc enc sz] in
theorem GrS.zero {t : TypeId} {a : Value} {p : List α} {r : List Ent} (h : SlS enc sz t a p r) : GrS enc sz t a a p [] r := by
  rcases h.form with ⟨h1, h2, h3⟩ | ⟨b, cap, tail, h1, h2, h3, h4⟩
  · subst h3
    exact .inr ⟨[], [], rfl, by simpa using h, h⟩
  · exact .inl ⟨b, cap, tail, h1, by simpa using h1, by simpa using h2, by simpa using h3, by simpa using h4⟩
omit [Enc enc sz] in
theorem GrS.slice {t : TypeId} {a x : Value} {p l : List α} {r : List Ent} (h : GrS enc sz t a x p l r) : ∃ ad c, x = .slice ad (p ++ l).length c := by
  rcases h with ⟨b, cap, tail, h1, h2, h3, h4, h5⟩ | ⟨rx, ra, rfl, h1, h2⟩
  · exact ⟨_, _, h2⟩
  · rcases h1.form with ⟨h, h0, _⟩ | ⟨b, cap, tail, h, _⟩
    · exact ⟨none, 0, by rw [h, h0]⟩
    · exact ⟨_, _, h⟩
/-- the older name's own blocks -/
theorem GrS.base {t : TypeId} {a x : Value} {p l : List α} {r : List Ent} (h : GrS enc sz t a x p l r) : ∃ ra, ra.Sublist r ∧ SlS enc sz t a p ra := by
  rcases h with ⟨b, cap, tail, h1, h2, h3, h4, h5⟩ | ⟨rx, ra, rfl, h1, h2⟩
  · refine ⟨r, List.Sublist.refl _, fm_length p, .inr ⟨b, cap, l.flatMap enc ++ tail, h1, by rw [h3]; simp [List.flatMap_append], by rw [List.length_append] at h4; omega, ?_⟩⟩
    rw [List.length_append, fm_length, h5, ← Nat.add_mul]
    congr 1
    rw [List.length_append] at h4 ⊢; omega
  · exact ⟨ra, List.sublist_append_right _ _, h2⟩
theorem grow_grS {w0 w : World} {S : List Nat} {R : List (List Ent)} {i n bytes : Nat} {t : TypeId} {zs : List Value} {a : Value} {p l m : List α} {ad : Option Addr} {c : Nat} {r : List Ent} {K : Value → World → Prop} (hM : Mem w0 S w R) (hi : R[i]? = some r)
    (hg : GrS enc sz t a (.slice ad n c) p l r) (hz : zs.length = sz) (hb : (n + m.length) * bytes ≤ 175921860444160) (hb0 : 0 < bytes ∧ bytes < 65536)
    (hK : ∀ v' w' r', GrS enc sz t a v' p (l ++ m) r' → Mem w0 S w' (R.set i r') → K v' w') : growVC w t bytes sz zs ad n c m.length (m.flatMap enc) K := by
  have hil : i < R.length := by
    rcases Nat.lt_or_ge i R.length with h | h
    · exact h
    · rw [List.getElem?_eq_none h] at hi; cases hi
  have hone := fm_one (enc := enc) sz inferInstance m
  rcases hg with ⟨b, cap, tail, h1, h2, h3, h4, h5⟩ | ⟨rx, ra, rfl, h1, h2⟩
  · injection h2 with e1 e2 e3
    subst e1 e2 e3 h3
    have hs : SlS enc sz t (.slice (some ⟨b, 0, none⟩) (p ++ l).length c) (p ++ l) [⟨b, t, (p ++ l).flatMap enc ++ tail⟩] := ⟨fm_length _, .inr ⟨b, c, tail, rfl, rfl, h4, h5⟩⟩
    have hcl : ((p ++ l).flatMap enc).length = (p ++ l).length * sz := fm_length _
    constructor
    · intro hc
      have ho := hM.at hi (j := 0) rfl
      have hlen : 0 + (p ++ l).length * sz + (m.flatMap enc).length ≤ ((p ++ l).flatMap enc ++ tail).length := by
        have e9 : ((p ++ l).flatMap enc ++ tail).length = ((p ++ l).flatMap enc).length + tail.length := List.length_append
        have e8 : (m.flatMap enc).length = m.length * sz := fm_length m
        rw [Nat.zero_add, e9, hcl, h5, e8, ← Nat.add_mul, ← Nat.add_mul]
        exact Nat.mul_le_mul_right _ (by omega)
      refine ⟨ho.writable hlen, hone, ?_⟩
      have hM' := hM.step i hi (mem_stores ho (0 + (p ++ l).length * sz) (m.flatMap enc))
      rw [splice_eq _ _ _ hlen] at hM'
      have e1 : ((p ++ l).flatMap enc ++ tail).take (0 + (p ++ l).length * sz) = (p ++ l).flatMap enc := by rw [Nat.zero_add, ← hcl, List.take_left']; rfl
      have e2 : ((p ++ l).flatMap enc ++ tail).drop (0 + (p ++ l).length * sz + (m.flatMap enc).length) = tail.drop (m.flatMap enc).length := by
        rw [Nat.zero_add, ← hcl, ← List.drop_drop, List.drop_left']; rfl
      rw [e1, e2] at hM'
      refine hK _ _ _ (.inl ⟨b, c, tail.drop (m.flatMap enc).length, h1, ?_, ?_, ?_, ?_⟩) hM'
      · simp; omega
      · simp [List.flatMap_append]
      · simp only [List.length_append] at hc ⊢; omega
      · rw [List.length_drop, h5, fm_length, ← Nat.sub_mul]
        congr 1
        simp only [List.length_append]; omega
    · intro hc
      refine ⟨fits hc hb hb0, fun h => by omega, (p ++ l).flatMap enc, (hs.rd hM hi).src hcl, fun c' hc' => ?_⟩
      have hl := hM.add (mem_allocDrew w t ((p ++ l).flatMap enc ++ m.flatMap enc ++ repC zs (c' - ((p ++ l).length + m.length))))
      have hl' := (congrArg (fun Q => Mem w0 S (allocW (drewW w) t ((p ++ l).flatMap enc ++ m.flatMap enc ++ repC zs (c' - ((p ++ l).length + m.length)))) (Q ++ [[⟨w.heap.size, t, (p ++ l).flatMap enc ++ m.flatMap enc ++ repC zs (c' - ((p ++ l).length + m.length))⟩]])) (set_same hi)).mpr hl
      refine hK _ _ _ (.inr ⟨_, _, rfl, ?_, ?_⟩) (hl'.join hi)
      · refine ⟨fm_length _, .inr ⟨w.heap.size, c', repC zs (c' - ((p ++ l).length + m.length)), ?_, ?_, ?_, ?_⟩⟩
        · simp; omega
        · simp [List.flatMap_append]
        · simp only [List.length_append] at hc' ⊢; omega
        · rw [repC_length, hz]; congr 1; simp only [List.length_append]; omega
      · refine ⟨fm_length p, .inr ⟨b, c, l.flatMap enc ++ tail, h1, by simp [List.flatMap_append], by rw [List.length_append] at h4; omega, ?_⟩⟩
        rw [List.length_append, fm_length, h5, ← Nat.add_mul]
        congr 1
        rw [List.length_append] at h4 ⊢; omega
  · have h3 := hM.split hi
    have hn : n = (p ++ l).length := by
      obtain ⟨_, _, h⟩ := (GrS.slice (.inr ⟨rx, ra, rfl, h1, h2⟩) : ∃ ad' c', Value.slice ad n c = .slice ad' (p ++ l).length c')
      exact (Value.slice.inj h).2.1
    subst hn
    refine grow_sl (i := R.length) h3 (by rw [List.getElem?_append_right (by simp)]; simp) h1 (fm_length m) hone hz hb hb0 fun v' w' r' hs hm => ?_
    refine hK v' w' (r' ++ ra) (.inr ⟨r', ra, rfl, ?_, h2⟩) (Mem.join hi ?_)
    · have e : (p ++ (l ++ m)).flatMap enc = (p ++ l).flatMap enc ++ m.flatMap enc := by simp [List.flatMap_append]
      show Sl sz t v' (p ++ (l ++ m)).length _ r'
      rw [e, show (p ++ (l ++ m)).length = (p ++ l).length + m.length by simp only [List.length_append]; omega]; exact hs
    · rw [List.set_append_right _ _ (by simp)] at hm
      simpa using hm
variable {P : Program} {r : List MI} {f : Fr} {w w0 : World} {K : Fr → World → Prop} {d : Nat} {v : Value} {S : List Nat} {R : List (List Ent)} {t : TypeId}
/-- append of one element, the older name kept -/
theorem m_gr1S {n bytes : Nat} {zs : List Value} {x : Operand} {ps : List (Nat × Nat × Operand)} {a : Value} {p l : List α} {q : α} {i c : Nat} {rs : List Ent} (hM : Mem w0 S w R) (hi : R[i]? = some rs) (hg : GrS enc sz t a v p l rs) (hx : ev f x = v) (hxd : x ≠ .tmp d)
    (hc : fillC zs (ps.map fun (o, s, x) => (o, s, ev f x)) = some (enc q)) (hz : zs.length = sz) (hb : (p.length + l.length + 1) * bytes ≤ 175921860444160) (hb0 : 0 < bytes ∧ bytes < 65536)
    (h : ∀ v' w' r' u, GrS enc sz t a v' p (l ++ [q]) r' → Mem w0 S w' (R.set i r') → vr P r (upd (upd f d u) c v') w' K) :
    vr P (.l none (some d) (.bs t 1 n zs ps) :: .l none (some c) (.app t bytes sz zs x (.tmp d)) :: r) f w K := by
  refine m_bs hM hc fun b w' hM' => ?_
  have hil : i < R.length := by
    rcases Nat.lt_or_ge i R.length with h | h
    · exact h
    · rw [List.getElem?_eq_none h] at hi; cases hi
  have hi' : (R ++ [[⟨b, t, enc q⟩]])[i]? = some rs := by rw [List.getElem?_append_left hil]; exact hi
  obtain ⟨ad, cp, hv⟩ := hg.slice
  have hev : ev (upd f d (.slice (some ⟨b, 0, none⟩) 1 1)) x = v := by
    cases x with
    | tmp s => show upd f d _ s = v; unfold upd; rw [if_neg (fun e => hxd (by rw [e]))]; exact hx
    | _ => exact hx
  have hd : ev (upd f d (.slice (some ⟨b, 0, none⟩) 1 1)) (.tmp d) = .slice (some ⟨b, 0, none⟩) 1 1 := by show upd f d _ d = _; unfold upd; rw [if_pos rfl]
  have hrd : Rd w' (.slice (some ⟨b, 0, none⟩) 1 1) 1 (enc q) := by
    have ho := hM'.own ⟨b, t, enc q⟩ (by simp)
    exact ⟨_, 1, rfl, Nat.le_refl _, ho.row (l := enc q) fun j hj => by simp, fun h => by cases h⟩
  subst hv
  show kslice (ev _ x) _
  rw [hev]
  have key : lenN (ev (upd f d (.slice (some ⟨b, 0, none⟩) 1 1)) (.tmp d)) fun k => ∃ new, Src w' (ev (upd f d (.slice (some ⟨b, 0, none⟩) 1 1)) (.tmp d)) k sz new ∧ growVC w' t bytes sz zs ad (p ++ l).length cp k new (fun v w' => vr P r (putO (upd f d (.slice (some ⟨b, 0, none⟩) 1 1)) (some c) v) w' K) := by
    rw [hd]
    refine hrd.lenN ⟨enc q, hrd.src (by rw [Enc.len (enc := enc)]; omega), ?_⟩
    have := grow_grS (zs := zs) (m := [q]) (bytes := bytes) (K := fun v w' => vr P r (putO (upd f d (.slice (some ⟨b, 0, none⟩) 1 1)) (some c) v) w' K) hM' hi' hg hz (by simpa [Nat.add_assoc] using hb) hb0 fun v' w2 r' hg' hm => h v' w2 r' _ hg' (by
      rw [List.set_append_left _ _ hil] at hm
      exact hm.keep (by simp))
    simpa using this
  exact key
end
end Go.Proofs.Ytnkilhmkegmenaa.E
