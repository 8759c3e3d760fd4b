/- Memory: blocks that a call owns, what a step changes, slices. -/
import Derived.Test.YtnkilhmkegmenaaE6
import Derived.Below
import Derived.Deep.DeepAppendWide
namespace Go.Proofs.Ytnkilhmkegmenaa.E
open Go

/-- A block that is known whole: its number, its element type, its cells. -/
structure Ent where
  b : Nat
  t : TypeId
  cs : List Value
def Own (w : World) (e : Ent) : Prop := ∃ lo hi, w.heap[e.b]? = some (.cells e.cs.toArray e.t (lo, hi)) ∧ (hi = lo ∨ e.cs.length ≤ lo)
def ids (r : List Ent) : List Nat := r.map Ent.b

/-- Of what was there in w nothing has turned but the blocks of S. -/
structure Upd (S : List Nat) (w w' : World) : Prop where
  os : w'.os = w.os
  tape : w'.tape = w.tape
  output : w'.output = w.output
  size : w.heap.size ≤ w'.heap.size
  block : ∀ b, b < w.heap.size → b ∉ S → w'.heap[b]? = w.heap[b]?

theorem Upd.refl (S : List Nat) (w : World) : Upd S w w := ⟨rfl, rfl, rfl, Nat.le_refl _, fun _ _ _ => rfl⟩
theorem Upd.mono {S S' : List Nat} {w w' : World} (h : Upd S w w') (hs : ∀ b ∈ S, b ∈ S' ∨ w.heap.size ≤ b) : Upd S' w w' :=
  ⟨h.os, h.tape, h.output, h.size, fun b hb hn => h.block b hb fun hm => (hs b hm).elim hn (fun h => by omega)⟩
theorem Upd.trans {S : List Nat} {a b c : World} (h : Upd S a b) (k : Upd S b c) : Upd S a c :=
  ⟨k.os.trans h.os, k.tape.trans h.tape, k.output.trans h.output, Nat.le_trans h.size k.size, fun i hi hn => (k.block i (Nat.lt_of_lt_of_le hi h.size) hn).trans (h.block i hi hn)⟩
theorem Upd.below {w w' : World} (h : Upd [] w w') : Go.RowKit.Below w.heap.size w w' := ⟨h.os, h.tape, h.output, h.size, fun b hb => h.block b hb (by simp)⟩
theorem Upd.same {w w' : World} (h1 : w'.heap = w.heap) (h2 : w'.tape = w.tape) (h3 : w'.os = w.os) (h4 : w'.output = w.output) (S : List Nat) : Upd S w w' :=
  ⟨h3, h2, h4, by rw [h1]; exact Nat.le_refl _, fun b _ _ => by rw [h1]⟩

theorem Own.lt {w : World} {e : Ent} (h : Own w e) : e.b < w.heap.size := by
  obtain ⟨lo, hi, h, _⟩ := h
  rcases Nat.lt_or_ge e.b w.heap.size with h' | h'
  · exact h'
  · rw [Array.getElem?_eq_none h'] at h; cases h
theorem Own.upd {w w' : World} {e : Ent} {S : List Nat} (h : Own w e) (u : Upd S w w') (hn : e.b ∉ S) : Own w' e := by
  have hl := h.lt
  obtain ⟨lo, hi, h, h2⟩ := h
  exact ⟨lo, hi, by rw [u.block _ hl hn]; exact h, h2⟩
theorem Own.cell {w : World} {e : Ent} (h : Own w e) (o : Nat) : w.cell? ⟨e.b, o, none⟩ = e.cs[o]? := by
  obtain ⟨lo, hi, h, _⟩ := h
  unfold World.cell?
  simp only [h]
  simp
theorem Own.unfrozen {w : World} {e : Ent} (h : Own w e) {o : Nat} (ho : o < e.cs.length) : w.frozen? ⟨e.b, o, none⟩ = false := by
  obtain ⟨lo, hi, h, h2⟩ := h
  unfold World.frozen?
  simp only [h]
  simp
  omega
theorem Own.writable {w : World} {e : Ent} (h : Own w e) {o n : Nat} (ho : o + n ≤ e.cs.length) : Writable w e.b o n := by
  intro i hi
  refine ⟨⟨e.cs[o + i]'(by omega), ?_⟩, h.unfrozen (by omega)⟩
  rw [h.cell, List.getElem?_eq_getElem]
theorem Own.row {w : World} {e : Ent} (h : Own w e) {o : Nat} {l : List Value} (hl : ∀ i, i < l.length → e.cs[o + i]? = l[i]?) : Row w (some ⟨e.b, o, none⟩) l := by
  intro i hi
  rw [h.cell, hl i hi]

/-- What a step does to memory: w0 the world at the beginning, S the old blocks that may have turned, R the blocks that are owned now, in slots. -/
structure Mem (w0 : World) (S : List Nat) (w : World) (R : List (List Ent)) : Prop where
  upd : Upd S w0 w
  own : ∀ e ∈ R.flatten, Own w e
  nd : (ids R.flatten).Nodup
  new : ∀ e ∈ R.flatten, e.b ∈ S ∨ w0.heap.size ≤ e.b

theorem Mem.nil (w : World) (S : List Nat) : Mem w S w [] := ⟨Upd.refl S w, by simp, by simp [ids], by simp⟩
/-- The blocks that a call is handed to change. -/
def Res (w : World) (r : List Ent) : Prop := (∀ e ∈ r, Own w e) ∧ (ids r).Nodup
theorem Mem.start {w : World} {r : List Ent} (h : Res w r) : Mem w (ids r) w [r] :=
  ⟨Upd.refl _ w, by simpa using h.1, by simpa using h.2, fun e he => .inl (by simp at he; exact List.mem_map.2 ⟨e, he, rfl⟩)⟩
theorem Mem.res {w0 w : World} {S : List Nat} {R : List (List Ent)} (h : Mem w0 S w R) {i : Nat} {r : List Ent} (hi : R[i]? = some r) : Res w r := by
  have hm := List.mem_of_getElem? hi
  refine ⟨fun e he => h.own e (List.mem_flatten.2 ⟨r, hm, he⟩), ?_⟩
  have h1 : (ids r).Sublist (ids R.flatten) := by
    unfold ids
    exact (List.sublist_flatten_of_mem hm).map _
  exact h1.nodup h.nd
theorem Mem.at {w0 w : World} {S : List Nat} {R : List (List Ent)} (h : Mem w0 S w R) {i j : Nat} {r : List Ent} {e : Ent} (hi : R[i]? = some r) (hj : r[j]? = some e) : Own w e :=
  (h.res hi).1 e (List.mem_of_getElem? hj)
theorem Mem.pure {w0 w w' : World} {S : List Nat} {R : List (List Ent)} (h : Mem w0 S w R) (u : Upd [] w w') : Mem w0 S w' R :=
  ⟨h.upd.trans (u.mono (by simp)), fun e he => (h.own e he).upd u (by simp), h.nd, h.new⟩

theorem flatten_set (R : List (List Ent)) (i : Nat) (r r' : List Ent) (hi : R[i]? = some r) : ∃ A B, R.flatten = A ++ r ++ B ∧ (R.set i r').flatten = A ++ r' ++ B := by
  induction R generalizing i with
  | nil => simp at hi
  | cons x R ih =>
    cases i with
    | zero => simp at hi; subst hi; exact ⟨[], R.flatten, by simp, by simp⟩
    | succ i =>
      simp at hi
      obtain ⟨A, B, h1, h2⟩ := ih i hi
      exact ⟨x ++ A, B, by simp [h1], by simp [h2]⟩

/-- **A step that touches one slot alone.** -/
theorem Mem.step {w0 w w' : World} {S : List Nat} {R : List (List Ent)} (h : Mem w0 S w R) (i : Nat) {r r' : List Ent} (hi : R[i]? = some r) (l : Mem w (ids r) w' [r']) : Mem w0 S w' (R.set i r') := by
  obtain ⟨A, B, e1, e2⟩ := flatten_set R i r r' hi
  have hnd := h.nd
  rw [e1] at hnd
  simp only [ids, List.map_append, List.nodup_append] at hnd
  have hown := h.own
  have hnew := h.new
  rw [e1] at hown hnew
  have hl := l.own
  have hln := l.nd
  have hlw := l.new
  simp only [List.flatten_cons, List.flatten_nil, List.append_nil] at hl hln hlw
  have keepb : ∀ e, e ∈ A ∨ e ∈ B → e.b ∉ ids r := by
    intro e he hm
    unfold ids at hm
    rcases he with he | he
    · exact hnd.1.2.2 e.b (List.mem_map.2 ⟨e, he, rfl⟩) e.b hm rfl
    · exact hnd.2.2 e.b (List.mem_append.2 (.inr hm)) e.b (List.mem_map.2 ⟨e, he, rfl⟩) rfl
  have keep : ∀ e, e ∈ A ∨ e ∈ B → Own w' e := fun e he => (hown e (by simp; rcases he with he | he <;> simp [he])).upd l.upd (keepb e he)
  have old : ∀ e, e ∈ A ∨ e ∈ B → e.b < w.heap.size := fun e he => (hown e (by simp; rcases he with he | he <;> simp [he])).lt
  have far : ∀ e ∈ r', ∀ d, d ∈ A ∨ d ∈ B → e.b ≠ d.b := by
    intro e he d hd heq
    rcases hlw e he with hm | hge
    · exact keepb d hd (heq ▸ hm)
    · have := old d hd; omega
  refine ⟨?_, ?_, ?_, ?_⟩
  · refine ⟨l.upd.os.trans h.upd.os, l.upd.tape.trans h.upd.tape, l.upd.output.trans h.upd.output, Nat.le_trans h.upd.size l.upd.size, fun b hb hn => ?_⟩
    rw [l.upd.block b (Nat.lt_of_lt_of_le hb h.upd.size) fun hm => ?_, h.upd.block b hb hn]
    unfold ids at hm
    obtain ⟨d, hd, hde⟩ := List.mem_map.1 hm
    rcases hnew d (by simp [hd]) with h1 | h1
    · exact hn (hde ▸ h1)
    · omega
  · rw [e2]
    intro e he
    simp only [List.mem_append] at he
    rcases he with (he | he) | he
    · exact keep e (.inl he)
    · exact hl e he
    · exact keep e (.inr he)
  · rw [e2]
    simp only [ids, List.map_append, List.nodup_append]
    refine ⟨⟨hnd.1.1, hln, ?_⟩, hnd.2.1, ?_⟩
    · intro a ha b hb heq
      obtain ⟨d, hd, rfl⟩ := List.mem_map.1 ha
      obtain ⟨e, he, rfl⟩ := List.mem_map.1 hb
      exact far e he d (.inl hd) heq.symm
    · intro a ha b hb heq
      obtain ⟨d, hd, rfl⟩ := List.mem_map.1 hb
      rcases List.mem_append.1 ha with ha | ha
      · exact hnd.2.2 a (List.mem_append.2 (.inl ha)) d.b hb heq
      · obtain ⟨e, he, rfl⟩ := List.mem_map.1 ha
        exact far e he d (.inr hd) heq
  · rw [e2]
    intro e he
    simp only [List.mem_append] at he
    rcases he with (he | he) | he
    · exact hnew e (by simp [he])
    · rcases hlw e he with hm | hge
      · unfold ids at hm
        obtain ⟨d, hd, hde⟩ := List.mem_map.1 hm
        rw [← hde]
        exact hnew d (by simp [hd])
      · exact .inr (Nat.le_trans h.upd.size hge)
    · exact hnew e (by simp [he])
/-- A step that only makes memory: a new slot at the end. -/
theorem Mem.add {w0 w w' : World} {S : List Nat} {R : List (List Ent)} (h : Mem w0 S w R) {r' : List Ent} (l : Mem w [] w' [r']) : Mem w0 S w' (R ++ [r']) := by
  have h' : Mem w0 S w (R ++ [[]]) := ⟨h.upd, by simpa using h.own, by simpa using h.nd, by simpa using h.new⟩
  have := h'.step (i := R.length) (r := []) (r' := r') (by simp) l
  simpa using this
/-- What need not be known any more. -/
theorem Mem.drop {w0 w : World} {S : List Nat} {R : List (List Ent)} (h : Mem w0 S w R) (i : Nat) : Mem w0 S w (R.set i []) := by
  cases hi : R[i]? with
  | none =>
    have : R.set i [] = R := by
      apply List.set_eq_of_length_le
      rcases Nat.lt_or_ge i R.length with h' | h'
      · rw [List.getElem?_eq_getElem h'] at hi; cases hi
      · exact h'
    rw [this]; exact h
  | some r => exact h.step i hi ⟨Upd.refl _ w, by simp, by simp [ids], by simp⟩
theorem Mem.keep {w0 w : World} {S : List Nat} {R R' : List (List Ent)} (h : Mem w0 S w R) (hs : R'.flatten.Sublist R.flatten) : Mem w0 S w R' :=
  ⟨h.upd, fun e he => h.own e (hs.subset he), (hs.map _).nodup h.nd, fun e he => h.new e (hs.subset he)⟩
theorem Mem.trans {w0 w w' : World} {S : List Nat} {R : List (List Ent)} (h : Mem w0 S w []) (k : Mem w [] w' R) : Mem w0 S w' R := by
  refine ⟨h.upd.trans (k.upd.mono (by simp)), k.own, k.nd, fun e he => ?_⟩
  rcases k.new e he with h1 | h1
  · simp at h1
  · exact .inr (Nat.le_trans h.upd.size h1)

/-! ### The steps themselves -/
theorem mem_alloc (w : World) (t : TypeId) (cs : List Value) : Mem w [] (allocW w t cs) [[⟨w.heap.size, t, cs⟩]] := by
  refine ⟨⟨rfl, rfl, rfl, by simp [allocW], fun b hb _ => ?_⟩, ?_, by simp [ids], by simp⟩
  · show (w.heap.push _)[b]? = _
    rw [Array.getElem?_push, if_neg (by omega)]
  · intro e he
    simp only [List.flatten_cons, List.flatten_nil, List.append_nil, List.mem_singleton] at he
    subst he
    refine ⟨0, 0, ?_, .inl rfl⟩
    show (w.heap.push _)[w.heap.size]? = _
    rw [Array.getElem?_push_size]
theorem upd_drew (w : World) : Upd [] w (drewW w) := ⟨rfl, rfl, rfl, Nat.le_refl _, fun _ _ _ => rfl⟩
theorem mem_allocDrew (w : World) (t : TypeId) (cs : List Value) : Mem w [] (allocW (drewW w) t cs) [[⟨w.heap.size, t, cs⟩]] :=
  Mem.trans (w := drewW w) ((Mem.nil w []).pure (upd_drew w)) (mem_alloc (drewW w) t cs)

def splice (cs : List Value) (o : Nat) (l : List Value) : List Value := match l with
  | [] => cs
  | v :: vs => splice (cs.set o v) (o + 1) vs
theorem splice_length (l : List Value) : ∀ (cs : List Value) (o : Nat), (splice cs o l).length = cs.length := by
  induction l with
  | nil => intro cs o; rfl
  | cons v vs ih => intro cs o; rw [splice, ih, List.length_set]
theorem splice_eq (l : List Value) : ∀ (cs : List Value) (o : Nat), o + l.length ≤ cs.length → splice cs o l = cs.take o ++ l ++ cs.drop (o + l.length) := by
  induction l with
  | nil => intro cs o h; simp [splice]
  | cons v vs ih =>
    intro cs o h
    simp only [List.length_cons] at h
    rw [splice, ih _ _ (by simp; omega)]
    have e1 : (cs.set o v).take (o + 1) = cs.take o ++ [v] := by
      rw [List.take_add_one, List.take_set_of_le (by omega)]
      simp [List.getElem?_set]
      omega
    have e2 : (cs.set o v).drop (o + 1 + vs.length) = cs.drop (o + (vs.length + 1)) := by
      rw [List.drop_set_of_lt (by omega)]
      congr 1; omega
    rw [e1, e2]
    simp
theorem own_setCell {w : World} {b : Nat} {t : TypeId} {cs : List Value} (h : Own w ⟨b, t, cs⟩) (o : Nat) (v : Value) : Own (w.setCell ⟨b, o, none⟩ v) ⟨b, t, cs.set o v⟩ := by
  obtain ⟨lo, hi, h, h2⟩ := h
  refine ⟨lo, hi, ?_, by simpa using h2⟩
  unfold World.setCell
  simp only [Array.getElem?_modify, h]
  simp
theorem upd_setCell (w : World) (b o : Nat) (v : Value) : Upd [b] w (w.setCell ⟨b, o, none⟩ v) := by
  refine ⟨rfl, rfl, rfl, by simp, fun c hc hn => ?_⟩
  unfold World.setCell
  simp only [Array.getElem?_modify]
  simp at hn
  rw [if_neg (fun e => hn e.symm)]
theorem stores_own (b : Nat) (t : TypeId) (l : List Value) : ∀ (w : World) (cs : List Value) (o : Nat), Own w ⟨b, t, cs⟩ → Own (World.stores w b o l) ⟨b, t, splice cs o l⟩ ∧ Upd [b] w (World.stores w b o l) := by
  induction l with
  | nil => intro w cs o h; exact ⟨h, Upd.refl _ w⟩
  | cons v vs ih =>
    intro w cs o h
    obtain ⟨h1, h2⟩ := ih _ _ (o + 1) (own_setCell h o v)
    exact ⟨h1, (upd_setCell w b o v).trans h2⟩
theorem mem_stores {w : World} {b : Nat} {t : TypeId} {cs : List Value} (h : Own w ⟨b, t, cs⟩) (o : Nat) (l : List Value) : Mem w (ids [⟨b, t, cs⟩]) (World.stores w b o l) [[⟨b, t, splice cs o l⟩]] := by
  obtain ⟨h1, h2⟩ := stores_own b t l w cs o h
  refine ⟨h2, by simpa using h1, by simp [ids], by simp [ids]⟩
theorem mem_s2b (w : World) (t : TypeId) (cs : List Value) : Mem w [] ((allocW (drewW w) t cs).freeze ⟨w.heap.size, cs.length, none⟩ 1) [[⟨w.heap.size, t, cs⟩]] := by
  have h := mem_allocDrew w t cs
  have ho := h.own ⟨w.heap.size, t, cs⟩ (by simp)
  obtain ⟨lo, hi, hb, _⟩ := ho
  have hb0 : (allocW (drewW w) t cs).heap[w.heap.size]? = some (.cells cs.toArray t (0, 0)) := by
    show (w.heap.push _)[w.heap.size]? = _
    rw [Array.getElem?_push_size]
  refine ⟨⟨h.upd.os, h.upd.tape, h.upd.output, ?_, fun b hb hn => ?_⟩, ?_, h.nd, h.new⟩
  · have := h.upd.size
    simp only [World.freeze]
    simpa using this
  · rw [← h.upd.block b hb hn]
    simp only [World.freeze]
    rw [if_neg (by omega)]
    simp only [Array.getElem?_modify]
    rw [if_neg (by omega)]
  · intro e he
    simp only [List.flatten_cons, List.flatten_nil, List.append_nil, List.mem_singleton] at he
    subst he
    refine ⟨cs.length, cs.length + 1, ?_, .inr (Nat.le_refl _)⟩
    simp only [World.freeze]
    rw [if_neg (by omega)]
    simp only [Array.getElem?_modify, hb0]
    simp

/-! ### Bytes and slices that are read -/
def byteV (b : UInt8) : Value := .int .u8 b.toNat
/-- A slice whose elements' cells are cs (n elements). -/
structure Rd (w : World) (v : Value) (n : Nat) (cs : List Value) : Prop where
  form : ∃ a c, v = .slice a n c ∧ n ≤ c ∧ Row w a cs ∧ (a = none → n = 0)
theorem Row.upd {w w' : World} {a : Option Addr} {cs : List Value} (h : Row w a cs) (u : Upd [] w w') : Row w' a cs := by
  unfold Row at h ⊢
  split at h
  · rename_i b o
    intro i hi
    have h1 := h i hi
    rw [List.getElem?_eq_getElem hi] at h1 ⊢
    have hl := World.block_lt_of_cell? w ⟨b, o + i, none⟩ h1
    rw [← h1]
    unfold World.cell?
    simp only
    rw [u.block b hl (by simp)]
  · exact h
theorem Rd.upd {w w' : World} {v : Value} {n : Nat} {cs : List Value} (h : Rd w v n cs) (u : Upd [] w w') : Rd w' v n cs := by
  obtain ⟨a, c, h1, h2, h3, h4⟩ := h.form
  exact ⟨a, c, h1, h2, h3.upd u, h4⟩

/-- A slice of the call's own: n elements of sz cells each, at a block's beginning; nil has no block. -/
structure Sl (sz : Nat) (t : TypeId) (v : Value) (n : Nat) (cs : List Value) (r : List Ent) : Prop where
  len : cs.length = n * sz
  form : (v = .slice none 0 0 ∧ n = 0 ∧ r = []) ∨ ∃ b cap tail, v = .slice (some ⟨b, 0, none⟩) n cap ∧ r = [⟨b, t, cs ++ tail⟩] ∧ n ≤ cap ∧ tail.length = (cap - n) * sz
theorem Sl.nil (sz : Nat) (t : TypeId) : Sl sz t (.slice none 0 0) 0 [] [] := ⟨by simp, .inl ⟨rfl, rfl, rfl⟩⟩
theorem Sl.rd {w0 w : World} {S : List Nat} {R : List (List Ent)} {sz n i : Nat} {t : TypeId} {v : Value} {cs : List Value} {r : List Ent} (h : Sl sz t v n cs r) (hM : Mem w0 S w R) (hi : R[i]? = some r) : Rd w v n cs := by
  rcases h.form with ⟨rfl, rfl, rfl⟩ | ⟨b, cap, tail, rfl, rfl, h1, h2⟩
  · have := h.len
    simp at this
    subst this
    exact ⟨none, 0, rfl, Nat.le_refl _, rfl, fun _ => rfl⟩
  · have ho := hM.at hi (j := 0) rfl
    refine ⟨_, cap, rfl, h1, ho.row (l := cs) fun j hj => ?_, fun h => by cases h⟩
    simp [List.getElem?_append_left hj]

theorem Rd.src {w : World} {v : Value} {n sz : Nat} {cs : List Value} (h : Rd w v n cs) (hl : cs.length = n * sz) : Src w v n sz cs := by
  obtain ⟨a, c, rfl, h2, h3, h4⟩ := h.form
  refine ⟨?_, h3⟩
  cases a with
  | none => simp [h4 rfl] at hl ⊢; exact hl
  | some a => simpa using hl
theorem Rd.lenN {w : World} {v : Value} {n : Nat} {cs : List Value} (h : Rd w v n cs) {K : Nat → Prop} (hk : K n) : lenN v K := by
  obtain ⟨a, c, rfl, h2, h3, h4⟩ := h.form
  exact hk

theorem repC_length (z : List Value) (n : Nat) : (repC z n).length = n * z.length := by
  induction n with
  | zero => simp [repC]
  | succ n ih => simp [repC, ih, Nat.add_mul]; omega

theorem fits {need old bytes : Nat} (h : old < need) (hb : need * bytes ≤ 175921860444160) (h0 : 0 < bytes ∧ bytes < 65536) : Builtin.nextslicecap need old * bytes ≤ 281474976710656 :=
  growslice_fits_wide h (by
    have h1 : need / 4 * 4 ≤ need := Nat.div_mul_le_self need 4
    have h2 : need / 4 * 4 * bytes ≤ need * bytes := Nat.mul_le_mul_right _ h1
    rw [Nat.mul_right_comm] at h2
    rw [Nat.add_mul, Nat.add_mul]
    have h3 : 192 * bytes ≤ 192 * 65536 := Nat.mul_le_mul_left _ (by omega)
    omega)
/-- **append onto a slice of the call's own.** -/
theorem grow_sl {w0 w : World} {S : List Nat} {R : List (List Ent)} {i n m bytes sz : Nat} {t : TypeId} {zero cs new : List Value} {a : Option Addr} {c : Nat} {r : List Ent} {K : Value → World → Prop} (hM : Mem w0 S w R) (hi : R[i]? = some r)
    (hs : Sl sz t (.slice a n c) n cs r) (hn : new.length = m * sz) (h1 : oneCells new) (hz : zero.length = sz) (hb : (n + m) * bytes ≤ 175921860444160) (hb0 : 0 < bytes ∧ bytes < 65536)
    (hK : ∀ v' w' r', Sl sz t v' (n + m) (cs ++ new) r' → Mem w0 S w' (R.set i r') → K v' w') : growVC w t bytes sz zero a n c m new K := by
  have hcl := hs.len
  constructor
  · intro hc
    rcases hs.form with ⟨he, hn0, hr⟩ | ⟨b, cap, tail, he, hr, h2, h3⟩
    · injection he with e1 e2 e3
      subst e1 e3
      have hm : m = 0 := by omega
      subst hm
      simp at hn
      subst hn
      simp only [Nat.add_zero, List.append_nil] at hK ⊢
      subst hn0
      exact hK _ w r hs (hM.step i hi (Mem.start (hM.res hi)))
    · injection he with e1 e2 e3
      subst e1 e3 hr
      have ho := hM.at hi (j := 0) rfl
      have hlen : n * sz + new.length ≤ (cs ++ tail).length := by
        rw [List.length_append, hcl, h3, hn, ← Nat.add_mul, ← Nat.add_mul]
        exact Nat.mul_le_mul_right _ (by omega)
      refine ⟨ho.writable (by simpa using hlen), h1, ?_⟩
      have hM' := hM.step i hi (mem_stores ho (0 + n * sz) new)
      rw [splice_eq _ _ _ (by simpa using hlen)] at hM'
      have e1 : (cs ++ tail).take (0 + n * sz) = cs := by rw [Nat.zero_add, ← hcl, List.take_left']; rfl
      have e2 : (cs ++ tail).drop (0 + n * sz + new.length) = tail.drop new.length := by
        rw [Nat.zero_add, ← hcl, ← List.drop_drop, List.drop_left']; rfl
      rw [e1, e2] at hM'
      refine hK _ _ _ ⟨by rw [List.length_append, hcl, hn, Nat.add_mul], .inr ⟨b, c, tail.drop new.length, rfl, rfl, hc, ?_⟩⟩ hM'
      rw [List.length_drop, h3, hn, ← Nat.sub_mul]
      congr 1
      omega
  · intro hc
    refine ⟨fits hc hb hb0, fun h => by omega, cs, (hs.rd hM hi).src hcl, fun c' hc' => ?_⟩
    have hl := mem_allocDrew w t (cs ++ new ++ repC zero (c' - (n + m)))
    have hM' := hM.step i hi (r' := [⟨w.heap.size, t, cs ++ new ++ repC zero (c' - (n + m))⟩]) (w' := allocW (drewW w) t (cs ++ new ++ repC zero (c' - (n + m)))) ⟨hl.upd.mono (by simp), hl.own, hl.nd, fun e he => (hl.new e he).elim (fun h => by simp at h) .inr⟩
    · refine hK _ _ _ ⟨by rw [List.length_append, hcl, hn, Nat.add_mul], .inr ⟨_, c', _, rfl, rfl, hc', ?_⟩⟩ hM'
      rw [repC_length, hz]
end Go.Proofs.Ytnkilhmkegmenaa.E
