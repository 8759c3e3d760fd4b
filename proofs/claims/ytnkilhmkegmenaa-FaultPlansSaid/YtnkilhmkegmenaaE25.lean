/- A slice that begins behind another's elements, in the room behind them: it grows there. -/
import Derived.Test.YtnkilhmkegmenaaE22
namespace Go.Proofs.Ytnkilhmkegmenaa.E
open Go
section
variable {α : Type} {enc : α → List Value} {sz : Nat} [Enc enc sz]
def TlS (enc : α → List Value) (sz : Nat) (t : TypeId) (a x : Value) (p l : List α) (r : List Ent) : Prop :=
  (∃ b cap tail, a = .slice (some ⟨b, 0, none⟩) p.length cap ∧ p.length < cap ∧ x = .slice (some ⟨b, p.length * sz, none⟩) l.length (cap - p.length) ∧ r = [⟨b, t, (p ++ l).flatMap enc ++ tail⟩] ∧ (p ++ l).length ≤ cap ∧ tail.length = (cap - (p ++ l).length) * sz) ∨
  (l = [] ∧ (∃ ad, x = .slice ad 0 0) ∧ SlS enc sz t a p r) ∨
  ∃ rx ra, r = rx ++ ra ∧ SlS enc sz t x l rx ∧ SlS enc sz t a p ra
omit [Enc enc sz] in
theorem TlS.of {t : TypeId} {a : Option Addr} {n c : Nat} {p : List α} {r : List Ent} (h : SlS enc sz t (.slice a n c) p r) (hn : n = p.length) : TlS enc sz t (.slice a n c) (.slice (cutAt sz a n c) (n - n) (c - n)) p [] r := by
  rw [Nat.sub_self]
  rcases h.form with ⟨h1, h2, h3⟩ | ⟨b, cap, tail, h1, h2, h3, h4⟩
  · injection h1 with e1 e2 e3
    subst e1 e2 e3
    exact .inr (.inl ⟨rfl, ⟨_, rfl⟩, h⟩)
  · injection h1 with e1 e2 e3
    subst e1 e3
    by_cases e : c = n
    · subst e
      rw [Nat.sub_self]
      exact .inr (.inl ⟨rfl, ⟨_, rfl⟩, h⟩)
    · refine .inl ⟨b, c, tail, by rw [hn], by omega, ?_, by simpa using h2, by simpa using h3, by simpa using h4⟩
      show Value.slice (if c = n then _ else some ⟨b, 0 + n * sz, none⟩) 0 (c - n) = _
      rw [if_neg e, Nat.zero_add, hn]; rfl
omit [Enc enc sz] in
theorem TlS.slice {t : TypeId} {a x : Value} {p l : List α} {r : List Ent} (h : TlS enc sz t a x p l r) : ∃ ad c, x = .slice ad l.length c := by
  rcases h with ⟨b, cap, tail, h1, h0, h2, h3, h4, h5⟩ | ⟨rfl, ⟨ad, h⟩, _⟩ | ⟨rx, ra, rfl, h1, h2⟩
  · exact ⟨_, _, h2⟩
  · exact ⟨_, _, h⟩
  · rcases h1.form with ⟨h, h0, _⟩ | ⟨b, cap, tail, h, _⟩
    · exact ⟨none, 0, by rw [h, h0]⟩
    · exact ⟨_, _, h⟩
/-- the elements ahead, as they were -/
theorem TlS.base {t : TypeId} {a x : Value} {p l : List α} {r : List Ent} (h : TlS enc sz t a x p l r) : ∃ ra, ra.Sublist r ∧ SlS enc sz t a p ra := by
  rcases h with ⟨b, cap, tail, h1, h0, h2, h3, h4, h5⟩ | ⟨_, _, h⟩ | ⟨rx, ra, rfl, h1, h2⟩
  · refine ⟨r, List.Sublist.refl _, fm_length p, .inr ⟨b, cap, l.flatMap enc ++ tail, h1, by rw [h3]; simp [List.flatMap_append], by omega, ?_⟩⟩
    rw [List.length_append, fm_length, h5, ← Nat.add_mul]
    congr 1
    rw [List.length_append] at h4 ⊢; omega
  · exact ⟨r, List.Sublist.refl _, h⟩
  · exact ⟨ra, List.sublist_append_right _ _, h2⟩
theorem grow_tl {w0 w : World} {S : List Nat} {R : List (List Ent)} {i n bytes : Nat} {t : TypeId} {zs : List Value} {a : Value} {p l m : List α} {ad : Option Addr} {c : Nat} {r : List Ent} {K : Value → World → Prop} (hM : Mem w0 S w R) (hi : R[i]? = some r)
    (hg : TlS enc sz t a (.slice ad n c) p l r) (hm : 0 < m.length) (hz : zs.length = sz) (hb : (n + m.length) * bytes ≤ 175921860444160) (hb0 : 0 < bytes ∧ bytes < 65536)
    (hK : ∀ v' w' r', TlS enc sz t a v' p (l ++ m) r' → Mem w0 S w' (R.set i r') → K v' w') : growVC w t bytes sz zs ad n c m.length (m.flatMap enc) K := by
  have hil : i < R.length := by
    rcases Nat.lt_or_ge i R.length with h | h
    · exact h
    · rw [List.getElem?_eq_none h] at hi; cases hi
  have hone := fm_one (enc := enc) sz inferInstance m
  have fresh : ∀ (q : List α) (c' : Nat), SlS enc sz t a p r → n = q.length → n + m.length ≤ c' → K (.slice (some ⟨w.heap.size, 0, none⟩) (n + m.length) c') (allocW (drewW w) t (q.flatMap enc ++ m.flatMap enc ++ repC zs (c' - (n + m.length)))) ∨ l ≠ q := by
    intro q c' h2 hq hc'
    by_cases e : l = q
    · refine .inl ?_
      subst e
      have hl := hM.add (mem_allocDrew w t (l.flatMap enc ++ m.flatMap enc ++ repC zs (c' - (n + m.length))))
      have hl' := (congrArg (fun Q => Mem w0 S (allocW (drewW w) t (l.flatMap enc ++ m.flatMap enc ++ repC zs (c' - (n + m.length)))) (Q ++ [[⟨w.heap.size, t, l.flatMap enc ++ m.flatMap enc ++ repC zs (c' - (n + m.length))⟩]])) (set_same hi)).mpr hl
      refine hK _ _ _ (.inr (.inr ⟨_, _, rfl, ?_, h2⟩)) (hl'.join hi)
      refine ⟨fm_length _, .inr ⟨w.heap.size, c', repC zs (c' - (n + m.length)), ?_, ?_, ?_, ?_⟩⟩
      · rw [List.length_append, hq]
      · simp [List.flatMap_append]
      · rw [List.length_append]; omega
      · rw [repC_length, hz, List.length_append, hq]
    · exact .inr e
  rcases hg with ⟨b, cap, tail, h1, h0, h2, h3, h4, h5⟩ | ⟨rfl, ⟨ad', h⟩, h2⟩ | ⟨rx, ra, rfl, h1, h2⟩
  · injection h2 with e1 e2 e3
    subst e1 e2 e3
    have hbase : SlS enc sz t a p r := by
      refine ⟨fm_length p, .inr ⟨b, cap, l.flatMap enc ++ tail, h1, by rw [h3]; simp [List.flatMap_append], by omega, ?_⟩⟩
      rw [List.length_append, fm_length, h5, ← Nat.add_mul]
      congr 1
      rw [List.length_append] at h4 ⊢; omega
    have hcl : ((p ++ l).flatMap enc).length = (p ++ l).length * sz := fm_length _
    have ho' : Own w ⟨b, t, (p ++ l).flatMap enc ++ tail⟩ := hM.at (i := i) (j := 0) hi (by rw [h3]; rfl)
    constructor
    · intro hc
      have hlen : 0 + (p ++ l).length * sz + (m.flatMap enc).length ≤ ((p ++ l).flatMap enc ++ tail).length := by
        have e9 : ((p ++ l).flatMap enc ++ tail).length = ((p ++ l).flatMap enc).length + tail.length := List.length_append
        have e8 : (m.flatMap enc).length = m.length * sz := fm_length m
        rw [Nat.zero_add, e9, hcl, h5, e8, ← Nat.add_mul, ← Nat.add_mul]
        refine Nat.mul_le_mul_right _ ?_
        rw [List.length_append] at h4 ⊢; omega
      have eo : p.length * sz + l.length * sz = 0 + (p ++ l).length * sz := by rw [Nat.zero_add, List.length_append, Nat.add_mul]
      show Writable w b (p.length * sz + l.length * sz) _ ∧ _ ∧ K _ (World.stores w b (p.length * sz + l.length * sz) _)
      rw [eo]
      refine ⟨ho'.writable hlen, hone, ?_⟩
      have hM1 : R[i]? = some [⟨b, t, (p ++ l).flatMap enc ++ tail⟩] := by rw [hi, h3]
      have hM' := hM.step i hM1 (mem_stores ho' (0 + (p ++ l).length * sz) (m.flatMap enc))
      rw [splice_eq _ _ _ hlen] at hM'
      have e1 : ((p ++ l).flatMap enc ++ tail).take (0 + (p ++ l).length * sz) = (p ++ l).flatMap enc := by rw [Nat.zero_add, ← hcl, List.take_left']; rfl
      have e2 : ((p ++ l).flatMap enc ++ tail).drop (0 + (p ++ l).length * sz + (m.flatMap enc).length) = tail.drop (m.flatMap enc).length := by
        rw [Nat.zero_add, ← hcl, ← List.drop_drop, List.drop_left']; rfl
      rw [e1, e2] at hM'
      refine hK _ _ _ (.inl ⟨b, cap, tail.drop (m.flatMap enc).length, h1, h0, ?_, ?_, ?_, ?_⟩) hM'
      · rw [List.length_append]
      · simp [List.flatMap_append]
      · simp only [List.length_append] at hc ⊢; omega
      · rw [List.length_drop, h5, fm_length, ← Nat.sub_mul]
        congr 1
        simp only [List.length_append]; omega
    · intro hc
      refine ⟨fits hc hb hb0, fun h => by omega, l.flatMap enc, ⟨by rw [fm_length]; rfl, ?_⟩, fun c' hc' => ?_⟩
      · refine ho'.row (l := l.flatMap enc) fun j hj => ?_
        rw [List.flatMap_append, List.append_assoc, List.getElem?_append_right (by rw [fm_length]; omega), fm_length, Nat.add_sub_cancel_left, List.getElem?_append_left hj]
      · exact (fresh l c' hbase rfl hc').resolve_right fun h => h rfl
  · injection h with e1 e2 e3
    subst e1 e2 e3
    constructor
    · intro hc; omega
    · intro hc
      refine ⟨fits hc hb hb0, fun h => by omega, [], ⟨by simp, ?_⟩, fun c' hc' => ?_⟩
      · cases ad with
        | none => rfl
        | some q =>
          obtain ⟨b, o, mk⟩ := q
          cases mk with
          | none => exact fun j hj => by cases hj
          | some k => rfl
      · exact (fresh [] c' h2 rfl hc').resolve_right fun h => h rfl
  · have h3 := hM.split hi
    have hn : n = l.length := by
      obtain ⟨_, _, h⟩ := (TlS.slice (.inr (.inr ⟨rx, ra, rfl, h1, h2⟩)) : ∃ ad' c', Value.slice ad n c = .slice ad' l.length c')
      exact (Value.slice.inj h).2.1
    subst hn
    refine grow_sl (i := R.length) h3 (by rw [List.getElem?_append_right (by simp)]; simp) h1 (fm_length m) hone hz hb hb0 fun v' w' r' hs hm => ?_
    refine hK v' w' (r' ++ ra) (.inr (.inr ⟨r', ra, rfl, ?_, h2⟩)) (Mem.join hi ?_)
    · have e : (l ++ m).flatMap enc = l.flatMap enc ++ m.flatMap enc := List.flatMap_append
      show Sl sz t v' (l ++ m).length _ r'
      rw [e, List.length_append]; exact hs
    · rw [List.set_append_right _ _ (by simp)] at hm
      simpa using hm
variable {P : Program} {r : List MI} {f : Fr} {w w0 : World} {K : Fr → World → Prop} {d : Nat} {v : Value} {S : List Nat} {R : List (List Ent)} {t : TypeId}
omit [Enc enc sz] in
/-- the room behind a slice's elements -/
theorem m_slcTl {x y : Operand} {u : Value} {l : List α} {rs : List Ent} {k : IntKind} (h : SlS enc sz t u l rs) (hx : ev f x = u) (hy : ev f y = .int k l.length) (hk : ∀ x', TlS enc sz t u x' l [] rs → vr P r (upd f d x') w K) : vr P (.p none d (.slc sz x (some y) none none) :: r) f w K := by
  have hu : ∃ a c, u = .slice a l.length c ∧ l.length ≤ c := by
    rcases h.form with ⟨h1, h2, _⟩ | ⟨b, c, tl, h1, _, h3, _⟩
    · exact ⟨none, 0, by rw [h1, h2], by omega⟩
    · exact ⟨_, c, h1, h3⟩
  obtain ⟨a, c, rfl, hc⟩ := hu
  show kslice (ev f x) _
  rw [hx]
  show bnd none c c fun m => bnd none l.length m fun h => bnd (some (ev f y)) 0 h fun l' => vr P r (upd f d (.slice (cutAt sz a l' m) (h - l') (m - l'))) w K
  refine bndN (bndN (bndS hy ⟨by omega, by omega⟩ ?_))
  rw [Int.toNat_natCast]
  exact hk _ (TlS.of h rfl)
/-- append of one element -/
theorem m_tl1S {n bytes : Nat} {zs : List Value} {x : Operand} {ps : List (Nat × Nat × Operand)} {a : Value} {p l : List α} {q : α} {i c : Nat} {rs : List Ent} (hM : Mem w0 S w R) (hi : R[i]? = some rs) (hg : TlS enc sz t a v p l rs) (hx : ev f x = v) (hxd : x ≠ .tmp d)
    (hc : fillC zs (ps.map fun (o, s, x) => (o, s, ev f x)) = some (enc q)) (hz : zs.length = sz) (hb : (l.length + 1) * bytes ≤ 175921860444160) (hb0 : 0 < bytes ∧ bytes < 65536)
    (h : ∀ v' w' r' u, TlS enc sz t a v' p (l ++ [q]) r' → Mem w0 S w' (R.set i r') → vr P r (upd (upd f d u) c v') w' K) :
    vr P (.l none (some d) (.bs t 1 n zs ps) :: .l none (some c) (.app t bytes sz zs x (.tmp d)) :: r) f w K := by
  refine m_bs hM hc fun b w' hM' => ?_
  have hil : i < R.length := by
    rcases Nat.lt_or_ge i R.length with h | h
    · exact h
    · rw [List.getElem?_eq_none h] at hi; cases hi
  have hi' : (R ++ [[⟨b, t, enc q⟩]])[i]? = some rs := by rw [List.getElem?_append_left hil]; exact hi
  obtain ⟨ad, cp, hv⟩ := hg.slice
  have hev : ev (upd f d (.slice (some ⟨b, 0, none⟩) 1 1)) x = v := by
    cases x with
    | tmp s => show upd f d _ s = v; unfold upd; rw [if_neg (fun e => hxd (by rw [e]))]; exact hx
    | _ => exact hx
  have hd : ev (upd f d (.slice (some ⟨b, 0, none⟩) 1 1)) (.tmp d) = .slice (some ⟨b, 0, none⟩) 1 1 := by show upd f d _ d = _; unfold upd; rw [if_pos rfl]
  have hrd : Rd w' (.slice (some ⟨b, 0, none⟩) 1 1) 1 (enc q) := by
    have ho := hM'.own ⟨b, t, enc q⟩ (by simp)
    exact ⟨_, 1, rfl, Nat.le_refl _, ho.row (l := enc q) fun j hj => by simp, fun h => by cases h⟩
  subst hv
  show kslice (ev _ x) _
  rw [hev]
  have key : lenN (ev (upd f d (.slice (some ⟨b, 0, none⟩) 1 1)) (.tmp d)) fun k => ∃ new, Src w' (ev (upd f d (.slice (some ⟨b, 0, none⟩) 1 1)) (.tmp d)) k sz new ∧ growVC w' t bytes sz zs ad l.length cp k new (fun v w' => vr P r (putO (upd f d (.slice (some ⟨b, 0, none⟩) 1 1)) (some c) v) w' K) := by
    rw [hd]
    refine hrd.lenN ⟨enc q, hrd.src (by rw [Enc.len (enc := enc)]; omega), ?_⟩
    have := grow_tl (zs := zs) (m := [q]) (bytes := bytes) (K := fun v w' => vr P r (putO (upd f d (.slice (some ⟨b, 0, none⟩) 1 1)) (some c) v) w' K) hM' hi' hg (by simp) hz (by simpa [Nat.add_assoc] using hb) hb0 fun v' w2 r' hg' hm => h v' w2 r' _ hg' (by
      rw [List.set_append_left _ _ hil] at hm
      exact hm.keep (by simp))
    simpa using this
  exact key
end
end Go.Proofs.Ytnkilhmkegmenaa.E
