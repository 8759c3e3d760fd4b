/- Slices of elements of more than one cell. -/
import Derived.Test.YtnkilhmkegmenaaE14
namespace Go.Proofs.Ytnkilhmkegmenaa.E
open Go

/-- What an element's cells are. -/
class Enc {α : Type} (enc : α → List Value) (sz : outParam Nat) : Prop where
  len : ∀ a, (enc a).length = sz
  pos : 0 < sz
  one : ∀ a, oneCells (enc a)
section
variable {α : Type} {enc : α → List Value} {sz : Nat} [Enc enc sz]
theorem fm_length (l : List α) : (l.flatMap enc).length = l.length * sz := by
  induction l with
  | nil => simp
  | cons a l ih => rw [List.flatMap_cons, List.length_append, ih, Enc.len (enc := enc) a, List.length_cons, Nat.add_mul]; omega
theorem fm_drop (k : Nat) : ∀ (l : List α), (l.flatMap enc).drop (k * sz) = (l.drop k).flatMap enc := by
  induction k with
  | zero => intro l; simp
  | succ k ih =>
    intro l
    cases l with
    | nil => simp
    | cons a l =>
      rw [List.flatMap_cons, List.drop_succ_cons, ← ih l, Nat.add_mul, Nat.one_mul, Nat.add_comm, ← List.drop_drop, List.drop_left' (Enc.len a)]
theorem fm_take (k : Nat) : ∀ (l : List α), (l.flatMap enc).take (k * sz) = (l.take k).flatMap enc := by
  induction k with
  | zero => intro l; simp
  | succ k ih =>
    intro l
    cases l with
    | nil => simp
    | cons a l =>
      rw [List.flatMap_cons, List.take_succ_cons, List.flatMap_cons, ← ih l, Nat.add_mul, Nat.one_mul, Nat.add_comm, List.take_append, Enc.len (enc := enc) a, List.take_of_length_le (by rw [Enc.len (enc := enc) a]; omega)]
      congr 2; omega
theorem fm_get (z : α) {l : List α} {j i : Nat} (hj : j < l.length) (hi : i < sz) : (l.flatMap enc)[j * sz + i]? = (enc (l.getD j z))[i]? := by
  rw [← List.getElem?_drop, fm_drop, dropG z hj, List.flatMap_cons, List.getElem?_append_left (by rw [Enc.len (enc := enc)]; exact hi)]
theorem fm_set (z : α) {l : List α} {tail : List Value} {j : Nat} (q : α) (hj : j < l.length) : splice (l.flatMap enc ++ tail) (j * sz) (enc q) = (l.set j q).flatMap enc ++ tail := by
  have h1 : j * sz + sz ≤ l.length * sz := by
    have := Nat.mul_le_mul_right sz hj
    rwa [Nat.succ_mul] at this
  rw [splice_eq _ _ _ (by rw [List.length_append, fm_length, Enc.len (enc := enc)]; omega), Enc.len (enc := enc)]
  rw [List.take_append_of_le_length (by rw [fm_length]; omega), fm_take, List.drop_append_of_le_length (by rw [fm_length]; omega)]
  rw [show j * sz + sz = (j + 1) * sz by rw [Nat.succ_mul], fm_drop]
  rw [List.set_eq_take_append_cons_drop, if_pos hj]
  simp [List.flatMap_append]
end
theorem fm_one {α : Type} {enc : α → List Value} (sz : Nat) (he : Enc enc sz) (l : List α) : oneCells (l.flatMap enc) := by
  intro c hc
  obtain ⟨a, _, h⟩ := List.mem_flatMap.1 hc
  exact he.one a c h
abbrev RdS {α : Type} (enc : α → List Value) (w : World) (v : Value) (l : List α) : Prop := Rd w v l.length (l.flatMap enc)
abbrev SlS {α : Type} (enc : α → List Value) (sz : Nat) (t : TypeId) (v : Value) (l : List α) (r : List Ent) : Prop := Sl sz t v l.length (l.flatMap enc) r
theorem SlS.eqL {α : Type} {enc : α → List Value} {sz : Nat} {t : TypeId} {v : Value} {l m : List α} {r : List Ent} (h : SlS enc sz t v l r) (e : l = m) : SlS enc sz t v m r := e ▸ h
/-- The blocks of an own slice, its first elements written anew. -/
def upS {α : Type} (enc : α → List Value) (l : List α) (r : List Ent) : List Ent := r.map fun e => ⟨e.b, e.t, l.flatMap enc ++ e.cs.drop (l.flatMap enc).length⟩
theorem upS_self {α : Type} {enc : α → List Value} {sz : Nat} {t : TypeId} {v : Value} {l : List α} {r : List Ent} (h : SlS enc sz t v l r) : upS enc l r = r := by
  rcases h.form with ⟨_, _, h3⟩ | ⟨b, cap, tail, _, h2, _, _⟩
  · subst h3; rfl
  · subst h2
    unfold upS
    simp only [List.map_cons, List.map_nil]
    rw [List.drop_left' rfl]
theorem upS_upS {α : Type} {enc : α → List Value} (sz : Nat) (he : Enc enc sz) {l m : List α} {r : List Ent} (h : l.length = m.length) : upS enc m (upS enc l r) = upS enc m r := by
  unfold upS
  rw [List.map_map]
  apply List.map_congr_left
  intro e _
  have : (l.flatMap enc).length = (m.flatMap enc).length := by rw [fm_length (sz := sz), fm_length (sz := sz), h]
  simp only [Function.comp]
  rw [List.drop_left' this, this]
section
variable {α : Type} {enc : α → List Value} {sz : Nat} [Enc enc sz] {t : TypeId} {v : Value} {l m : List α} {r : List Ent}
theorem SlS.up (h : SlS enc sz t v l r) (hl : m.length = l.length) : SlS enc sz t v m (upS enc m r) := by
  rcases h.form with ⟨h1, h2, h3⟩ | ⟨b, cap, tail, h1, h2, h3, h4⟩
  · subst h3
    have : m = [] := List.length_eq_zero_iff.1 (by omega)
    subst this
    exact ⟨by simp, .inl ⟨h1, rfl, rfl⟩⟩
  · subst h2
    refine ⟨fm_length m, .inr ⟨b, cap, tail, by rw [h1, hl], ?_, by omega, by rw [hl]; exact h4⟩⟩
    unfold upS
    simp only [List.map_cons, List.map_nil]
    have e : (l.flatMap enc).length = (m.flatMap enc).length := by rw [fm_length, fm_length, hl]
    rw [List.drop_left' e]
theorem SlS.upFull (h : SlS enc sz t v l r) (hl : m.length ≤ l.length) : SlS enc sz t v (m ++ l.drop m.length) (upS enc m r) := by
  have h1 := SlS.up (m := m ++ l.drop m.length) h (by simp; omega)
  have e : upS enc (m ++ l.drop m.length) r = upS enc m r := by
    rcases h.form with ⟨_, _, h3⟩ | ⟨b, cap, tail, _, h2, _, _⟩
    · subst h3; rfl
    · subst h2
      unfold upS
      have e0 : (l.flatMap enc).length = ((m ++ l.drop m.length).flatMap enc).length := by
        rw [fm_length, fm_length]; congr 1; simp; omega
      have e1 : ((l.drop m.length).flatMap enc) = (l.flatMap enc).drop (m.flatMap enc).length := by rw [fm_length, fm_drop]
      have hle : (m.flatMap enc).length ≤ (l.flatMap enc).length := by rw [fm_length, fm_length]; exact Nat.mul_le_mul_right _ hl
      simp only [List.map_cons, List.map_nil]
      rw [List.drop_left' e0, List.flatMap_append, e1, List.drop_append_of_le_length hle, List.append_assoc]
  rwa [e] at h1
theorem SlS.cut {a : Option Addr} {n c : Nat} (h : SlS enc sz t (.slice a n c) l r) (k : Nat) (hk : k ≤ l.length) : SlS enc sz t (.slice a k c) (l.take k) r := by
  have hs := Enc.pos (enc := enc)
  rcases h.form with ⟨h1, h2, h3⟩ | ⟨b, cap, tail, h1, h2, h3, h4⟩
  · injection h1 with e1 e2 e3
    subst e1 e3 h3
    have : k = 0 := by omega
    subst this
    exact ⟨by simp, .inl ⟨rfl, by simp, rfl⟩⟩
  · injection h1 with e1 e2 e3
    subst e1 e3
    have hk2 : (l.take k).length = k := by simp; omega
    refine ⟨fm_length _, .inr ⟨b, c, (l.drop k).flatMap enc ++ tail, by rw [hk2], ?_, by omega, ?_⟩⟩
    · rw [h2, ← List.append_assoc, ← List.flatMap_append, List.take_append_drop]
    · rw [List.length_append, fm_length, h4, hk2, ← Nat.add_mul]
      congr 1
      simp; omega
end
section
variable {α : Type} {enc : α → List Value} {sz : Nat} [Enc enc sz] {P : Program} {r : List MI} {f : Fr} {w w0 : World} {K : Fr → World → Prop} {d : Nat} {v : Value} {S : List Nat} {R : List (List Ent)} {t : TypeId}
/-- an element that can be read: the place of its cells -/
def Cells (w : World) (b o : Nat) (cs : List Value) : Prop := ∀ i, i < cs.length → w.cell? ⟨b, o + i, none⟩ = cs[i]?
theorem Cells.get {b o : Nat} {cs : List Value} (h : Cells w b o cs) (i : Nat) {x : Value} (hx : cs[i]? = some x) : w.cell? ⟨b, o + i, none⟩ = some x := by
  have hi : i < cs.length := by
    rcases Nat.lt_or_ge i cs.length with h | h
    · exact h
    · rw [List.getElem?_eq_none h] at hx; cases hx
  rw [h i hi, hx]
theorem Cells.row {b o n k : Nat} {cs l : List Value} (h : Cells w b o cs) (hl : (cs.drop k).take n = l) (hn : l.length = n) : Row w (some ⟨b, o + k, none⟩) l := by
  intro i hi
  have h1 : k + i < cs.length := by
    subst hl
    simp at hi; omega
  have := h (k + i) h1
  subst hl
  rw [List.getElem?_take_of_lt (by omega), List.getElem?_drop, ← this]
  congr 2; omega
theorem m_idxS (z : α) {x i : Operand} {u : Value} {l : List α} {j : Nat} {k : IntKind} (h : RdS enc w u l) (hx : ev f x = u) (hi : ev f i = .int k j) (hj : j < l.length)
    (hk : ∀ b o, Cells w b o (enc (l.getD j z)) → vr P r (upd f d (.pointer (some ⟨b, o, none⟩))) w K) : vr P (.p none d (.idx sz x i) :: r) f w K :=
  pe_idxR (T := fun v => vr P r (upd f d v) w K) h (fm_length l) (Enc.pos (enc := enc)) hx hi hj fun b o ha => hk b o fun i hi => by
    rw [Enc.len (enc := enc)] at hi
    rw [ha i hi, fm_get z hj hi]
/-- append of one element -/
theorem m_app1S {n : Nat} {bytes : Nat} {zs : List Value} {x : Operand} {ps : List (Nat × Nat × Operand)} {l : List α} {q : α} {i c : Nat} {rs : List Ent} (hM : Mem w0 S w R) (hi : R[i]? = some rs) (hs : SlS enc sz t v l rs) (hx : ev f x = v) (hxd : x ≠ .tmp d)
    (hc : fillC zs (ps.map fun (o, s, x) => (o, s, ev f x)) = some (enc q)) (hz : zs.length = sz) (hb : (l.length + 1) * bytes ≤ 175921860444160) (hb0 : 0 < bytes ∧ bytes < 65536)
    (h : ∀ v' w' r' u, SlS enc sz t v' (l ++ [q]) r' → Mem w0 S w' (R.set i r') → vr P r (upd (upd f d u) c v') w' K) :
    vr P (.l none (some d) (.bs t 1 n zs ps) :: .l none (some c) (.app t bytes sz zs x (.tmp d)) :: r) f w K := by
  refine m_bs hM hc fun b w' hM' => ?_
  have hil : i < R.length := by
    rcases Nat.lt_or_ge i R.length with h | h
    · exact h
    · rw [List.getElem?_eq_none h] at hi; cases hi
  have hi' : (R ++ [[⟨b, t, enc q⟩]])[i]? = some rs := by rw [List.getElem?_append_left hil]; exact hi
  have hev : ev (upd f d (.slice (some ⟨b, 0, none⟩) 1 1)) x = v := by
    cases x with
    | tmp s => show upd f d _ s = v; unfold upd; rw [if_neg (fun e => hxd (by rw [e]))]; exact hx
    | _ => exact hx
  have hd : ev (upd f d (.slice (some ⟨b, 0, none⟩) 1 1)) (.tmp d) = .slice (some ⟨b, 0, none⟩) 1 1 := by show upd f d _ d = _; unfold upd; rw [if_pos rfl]
  have hrd : Rd w' (.slice (some ⟨b, 0, none⟩) 1 1) 1 (enc q) := by
    have ho := hM'.own ⟨b, t, enc q⟩ (by simp)
    exact ⟨_, 1, rfl, Nat.le_refl _, ho.row (l := enc q) fun j hj => by simp, fun h => by cases h⟩
  refine app (sz := sz) (m := 1) (new := enc q) hM' hi' hs hev (by rw [hd]; exact hrd) (by rw [Enc.len (enc := enc)]; omega) (Enc.one q) hz hb hb0 fun v' w2 r' h1 h2 => h v' w2 r' _ ?_ ?_
  · have e : (l ++ [q]).flatMap enc = l.flatMap enc ++ enc q := by simp [List.flatMap_append]
    show Sl sz t v' (l ++ [q]).length _ r'
    rw [e, List.length_append]; exact h1
  · rw [List.set_append_left _ _ hil] at h2
    exact h2.keep (by simp)
/-- append of elements that can be read -/
theorem m_appS' {bytes : Nat} {zs : List Value} {x y : Operand} {l m : List α} {u : Value} {i c : Nat} {rs : List Ent} (hM : Mem w0 S w R) (hi : R[i]? = some rs) (hs : SlS enc sz t v l rs) (hx : ev f x = v) (hy : ev f y = u) (hu : RdS enc w u m) (hz : zs.length = sz) (hb : (l.length + m.length) * bytes ≤ 175921860444160) (hb0 : 0 < bytes ∧ bytes < 65536)
    (h : ∀ v' w' r', SlS enc sz t v' (l ++ m) r' → Mem w0 S w' (R.set i r') → vr P r (upd f c v') w' K) : vr P (.l none (some c) (.app t bytes sz zs x y) :: r) f w K :=
  app hM hi hs hx (by rw [hy]; exact hu) (fm_length m) (fm_one sz inferInstance m) hz hb hb0 fun v' w' r' h1 h2 => h v' w' r' (by
    show Sl sz t v' (l ++ m).length _ r'
    rw [List.flatMap_append, List.length_append]; exact h1) h2
/-- an element of the call's own slice is written -/
theorem m_setS (z : α) {x p y : Operand} {l : List α} {q : α} {i j : Nat} {k : IntKind} {rs : List Ent} (hM : Mem w0 S w R) (hi : R[i]? = some rs) (hs : SlS enc sz t v l rs) (hx : ev f x = v) (hp : ev f p = .int k j) (hj : j < l.length) (hyd : y ≠ .tmp d) (hy : ev f y = .agg (enc q).toArray)
    (h : ∀ w' r' u, r' = upS enc (l.set j q) rs → SlS enc sz t v (l.set j q) r' → Mem w0 S w' (R.set i r') → vr P r (upd f d u) w' K) : vr P (.p none d (.idx sz x p) :: .l none none (.st sz (.tmp d) y) :: r) f w K := by
  rcases hs.form with ⟨_, h0, _⟩ | ⟨b, cap, tail, rfl, rfl, h1, h2⟩
  · omega
  · refine idx hx hp ⟨by omega, by omega⟩ ?_
    have hown := hM.at hi (j := 0) rfl
    have hev : ev (upd f d (.pointer (some ⟨b, 0 + (j : Int).toNat * sz, none⟩))) y = .agg (enc q).toArray := by
      cases y with
      | tmp a => show upd f d _ a = _; unfold upd; rw [if_neg (fun e => hyd (by rw [e]))]; exact hy
      | _ => exact hy
    have e1 : 0 + (j : Int).toNat * sz = j * sz := by simp
    have hle : j * sz + sz ≤ l.length * sz := by
      have := Nat.mul_le_mul_right sz hj
      rwa [Nat.succ_mul] at this
    refine stA (n := sz) (by show upd f d _ d = _; unfold upd; rw [if_pos rfl]) hev (by simpa using Enc.len (enc := enc) q) (by simpa using Enc.one q) (hown.writable (by rw [e1, List.length_append, fm_length]; omega)) ?_
    have hM' := hM.step i hi (mem_stores hown (0 + (j : Int).toNat * sz) (enc q))
    rw [e1, fm_set z q hj] at hM'
    rw [e1]
    refine h _ _ _ ?_ ⟨fm_length _, .inr ⟨b, cap, tail, by simp, rfl, by simpa using h1, by simpa using h2⟩⟩ (by simpa using hM')
    unfold upS
    simp only [List.map_cons, List.map_nil]
    have e : (l.flatMap enc).length = ((l.set j q).flatMap enc).length := by rw [fm_length, fm_length, List.length_set]
    rw [List.drop_left' e]
theorem repS (q : α) (n : Nat) : repC (enc q) n = (List.replicate n q).flatMap enc := by
  induction n with
  | zero => rfl
  | succ n ih => rw [repC, ih, List.replicate_succ, List.flatMap_cons]
theorem m_mksS {bytes q : Nat} {z : α} {zs : List Value} {x y : Operand} {k k' : IntKind} {n c : Nat} (hz : zs = enc z) (hM : Mem w0 S w R) (hx : ev f x = .int k n) (hy : ev f y = .int k' c) (hn : n ≤ c) (hb : bytes * c ≤ 281474976710656) (hc : c < 9223372036854775808)
    (h : ∀ v' w' r', SlS enc sz t v' (List.replicate n z) r' → Mem w0 S w' (R ++ [r']) → vr P r (upd f d v') w' K) : vr P (.l none (some d) (.mks t bytes q zs x y) :: r) f w K := by
  subst hz
  refine m_mks hM hx hy hn hb hc fun b w' hM' => ?_
  refine h _ _ _ ⟨fm_length _, .inr ⟨b, c, (List.replicate (c - n) z).flatMap enc, by simp, ?_, by simpa using hn, by rw [fm_length]; simp⟩⟩ hM'
  rw [repS, ← List.flatMap_append, List.replicate_append_replicate, Nat.add_sub_cancel' hn]
theorem m_slcOS {x : Operand} {lo hi : Option Operand} {u : Value} {l : List α} {rs : List Ent} (B : Nat) (h : SlS enc sz t u l rs) (hx : ev f x = u) (hB : B ≤ l.length)
    (hhi : match hi with | none => B = l.length | some y => ∃ k, ev f y = .int k B) (hlo : match lo with | none => True | some y => ∃ k, ev f y = .int k 0)
    (hk : ∀ v', SlS enc sz t v' (l.take B) rs → vr P r (upd f d v') w K) : vr P (.p none d (.slc sz x lo hi none) :: r) f w K := by
  have hf : ∃ a c, u = .slice a l.length c ∧ l.length ≤ c := by
    rcases h.form with ⟨rfl, h, _⟩ | ⟨b, c, _, rfl, _, h, _⟩
    · exact ⟨_, 0, by rw [h], by omega⟩
    · exact ⟨_, c, rfl, h⟩
  obtain ⟨a, c, rfl, hc⟩ := hf
  have key := hk _ (SlS.cut h B hB)
  show kslice (ev f x) _; rw [hx]
  show bnd (hi.map (ev f)) l.length c fun h => bnd (lo.map (ev f)) 0 h fun l' => vr P r (upd f d (.slice (cutAt sz a l' c) (h - l') (c - l'))) w K
  have e : cutAt sz a 0 c = a := by
    cases a with
    | none => simp [cutAt]
    | some a =>
      obtain ⟨b, o, m⟩ := a
      cases m <;> simp [cutAt, Addr.add]
  have k2 : bnd (lo.map (ev f)) 0 B fun l' => vr P r (upd f d (.slice (cutAt sz a l' c) (B - l') (c - l'))) w K := by
    cases lo with
    | none => show vr P r (upd f d (.slice (cutAt sz a 0 c) (B - 0) (c - 0))) w K; rw [e]; exact key
    | some y => obtain ⟨k, hy⟩ := hlo; refine bndS hy ⟨by omega, by omega⟩ ?_; show vr P r (upd f d (.slice (cutAt sz a 0 c) (B - 0) (c - 0))) w K; rw [e]; exact key
  cases hi with
  | none => simp only at hhi; subst hhi; exact k2
  | some y => obtain ⟨k, hy⟩ := hhi; refine bndS hy ⟨by omega, by omega⟩ ?_; rw [Int.toNat_natCast]; exact k2
theorem m_slcES {w1 : World} {x : Operand} {lo hi : Option Operand} {u : Value} {l : List α} (A B : Nat) (h : RdS enc w1 u l) (hx : ev f x = u) (hB : B ≤ l.length) (hA : A ≤ B)
    (hhi : match hi with | none => B = l.length | some y => ∃ k, ev f y = .int k B) (hlo : match lo with | none => A = 0 | some y => ∃ k, ev f y = .int k A)
    (hk : ∀ v', RdS enc w1 v' ((l.take B).drop A) → vr P r (upd f d v') w K) : vr P (.p none d (.slc sz x lo hi none) :: r) f w K :=
  pe_slcR (T := fun v => vr P r (upd f d v) w K) h (fm_length l) (Enc.pos (enc := enc)) hx hB hA hhi hlo fun v' hv' => hk v' (by
    have : ((l.take B).drop A).length = B - A := by simp; omega
    show Rd w1 v' _ _
    rw [this, ← fm_drop, ← fm_take]; exact hv')
end
end Go.Proofs.Ytnkilhmkegmenaa.E
