/- Part 5 of the proof of what the last of these files says. -/
import Derived.Test.YtifnmbmijljhfaaGreatPBo4
import Derived.Below
import Derived.Deep.DeepAppendWide
namespace Go.Proofs.YtifnmbmijljhfaaGreat.E
open Go
structure Ent where
 b : Nat
 t : TypeId
 cs : List Value
def Own (w : World) (e : Ent) : Prop := ∃ lo hi, w.heap[e.b]? = some (.cells e.cs.toArray e.t (lo, hi)) ∧ (hi = lo ∨ e.cs.length ≤ lo)
def ids (r : List Ent) : List Nat := r.map Ent.b
structure Upd (S : List Nat) (w w' : World) : Prop where
 os : w'.os = w.os
 tape : w'.tape = w.tape
 output : w'.output = w.output
 size : w.heap.size ≤ w'.heap.size
 block : ∀ b, b < w.heap.size → b ∉ S → w'.heap[b]? = w.heap[b]?
theorem Upd.refl (S : List Nat) (w : World) : Upd S w w := ⟨rfl, rfl, rfl, Nat.le_refl _, fun _ _ _ => rfl⟩
theorem Upd.mono {S S' : List Nat} {w w' : World} (h : Upd S w w') (hs : ∀ b ∈ S, b ∈ S' ∨ w.heap.size ≤ b) : Upd S' w w' :=
 ⟨h.os, h.tape, h.output, h.size, fun b hb hn => h.block b hb fun hm => (hs b hm).elim hn (fun h => by omega)⟩
theorem Upd.trans {S : List Nat} {a b c : World} (h : Upd S a b) (k : Upd S b c) : Upd S a c :=
 ⟨k.os.trans h.os, k.tape.trans h.tape, k.output.trans h.output, Nat.le_trans h.size k.size, fun i hi hn => (k.block i (Nat.lt_of_lt_of_le hi h.size) hn).trans (h.block i hi hn)⟩
theorem Upd.below {w w' : World} (h : Upd [] w w') : Go.RowKit.Below w.heap.size w w' := ⟨h.os, h.tape, h.output, h.size, fun b hb => h.block b hb (by simp)⟩
theorem Upd.same {w w' : World} (h1 : w'.heap = w.heap) (h2 : w'.tape = w.tape) (h3 : w'.os = w.os) (h4 : w'.output = w.output) (S : List Nat) : Upd S w w' :=
 ⟨h3, h2, h4, by rw [h1]; exact Nat.le_refl _, fun b _ _ => by rw [h1]⟩
theorem Own.lt {w : World} {e : Ent} (h : Own w e) : e.b < w.heap.size := by
 obtain ⟨lo, hi, h, _⟩ := h
 rcases Nat.lt_or_ge e.b w.heap.size with h' | h'
 ·exact h'
 rw [Array.getElem?_eq_none h'] at h; cases h
theorem Own.upd {w w' : World} {e : Ent} {S : List Nat} (h : Own w e) (u : Upd S w w') (hn : e.b ∉ S) : Own w' e := by
 have hl := h.lt
 obtain ⟨lo, hi, h, h2⟩ := h
 exact ⟨lo, hi, by rw [u.block _ hl hn]; exact h, h2⟩
theorem Own.cell {w : World} {e : Ent} (h : Own w e) (o : Nat) : w.cell? ⟨e.b, o, none⟩ = e.cs[o]? := by
 obtain ⟨lo, hi, h, _⟩ := h
 unfold World.cell?
 simp only [h]
 simp
theorem Own.unfrozen {w : World} {e : Ent} (h : Own w e) {o : Nat} (ho : o < e.cs.length) : w.frozen? ⟨e.b, o, none⟩ = false := by
 obtain ⟨lo, hi, h, h2⟩ := h
 unfold World.frozen?
 simp only [h]
 simp
 omega
theorem Own.writable {w : World} {e : Ent} (h : Own w e) {o n : Nat} (ho : o + n ≤ e.cs.length) : Writable w e.b o n := by
 intro i hi
 refine ⟨⟨e.cs[o + i]'(by omega), ?_⟩, h.unfrozen (by omega)⟩
 rw [h.cell, List.getElem?_eq_getElem]
theorem Own.row {w : World} {e : Ent} (h : Own w e) {o : Nat} {l : List Value} (hl : ∀ i, i < l.length → e.cs[o + i]? = l[i]?) : Row w (some ⟨e.b, o, none⟩) l := by
 intro i hi
 rw [h.cell, hl i hi]
structure Mem (w0 : World) (S : List Nat) (w : World) (R : List (List Ent)) : Prop where
 upd : Upd S w0 w
 own : ∀ e ∈ R.flatten, Own w e
 nd : (ids R.flatten).Nodup
 new : ∀ e ∈ R.flatten, e.b ∈ S ∨ w0.heap.size ≤ e.b
theorem Mem.nil (w : World) (S : List Nat) : Mem w S w [] := ⟨Upd.refl S w, by simp, by simp [ids], by simp⟩
def Res (w : World) (r : List Ent) : Prop := (∀ e ∈ r, Own w e) ∧ (ids r).Nodup
theorem Mem.start {w : World} {r : List Ent} (h : Res w r) : Mem w (ids r) w [r] :=
 ⟨Upd.refl _ w, by simpa using h.1, by simpa using h.2, fun e he => .inl (by simp at he; exact List.mem_map.2 ⟨e, he, rfl⟩)⟩
theorem Mem.res {w0 w : World} {S : List Nat} {R : List (List Ent)} (h : Mem w0 S w R) {i : Nat} {r : List Ent} (hi : R[i]? = some r) : Res w r := by
 have hm := List.mem_of_getElem? hi
 refine ⟨fun e he => h.own e (List.mem_flatten.2 ⟨r, hm, he⟩), ?_⟩
 have h1 : (ids r).Sublist (ids R.flatten) := by
  unfold ids
  exact (List.sublist_flatten_of_mem hm).map _
 exact h1.nodup h.nd
theorem Mem.at {w0 w : World} {S : List Nat} {R : List (List Ent)} (h : Mem w0 S w R) {i j : Nat} {r : List Ent} {e : Ent} (hi : R[i]? = some r) (hj : r[j]? = some e) : Own w e :=
 (h.res hi).1 e (List.mem_of_getElem? hj)
theorem Mem.pure {w0 w w' : World} {S : List Nat} {R : List (List Ent)} (h : Mem w0 S w R) (u : Upd [] w w') : Mem w0 S w' R :=
 ⟨h.upd.trans (u.mono (by simp)), fun e he => (h.own e he).upd u (by simp), h.nd, h.new⟩
theorem flatten_set (R : List (List Ent)) (i : Nat) (r r' : List Ent) (hi : R[i]? = some r) : ∃ A B, R.flatten = A ++ r ++ B ∧ (R.set i r').flatten = A ++ r' ++ B := by
 induction R generalizing i with
 | nil => simp at hi
 | cons x R ih =>
  cases i with
  | zero => simp at hi; subst hi; exact ⟨[], R.flatten, by simp, by simp⟩
  | succ i =>
   simp at hi
   obtain ⟨A, B, h1, h2⟩ := ih i hi
   exact ⟨x ++ A, B, by simp [h1], by simp [h2]⟩
theorem Mem.step {w0 w w' : World} {S : List Nat} {R : List (List Ent)} (h : Mem w0 S w R) (i : Nat) {r r' : List Ent} (hi : R[i]? = some r) (l : Mem w (ids r) w' [r']) : Mem w0 S w' (R.set i r') := by
 obtain ⟨A, B, e1, e2⟩ := flatten_set R i r r' hi
 have hnd := h.nd
 rw [e1] at hnd
 simp only [ids, List.map_append, List.nodup_append] at hnd
 have hown := h.own
 have hnew := h.new
 rw [e1] at hown hnew
 have hl := l.own
 have hln := l.nd
 have hlw := l.new
 simp only [List.flatten_cons, List.flatten_nil, List.append_nil] at hl hln hlw
 have keepb : ∀ e, e ∈ A ∨ e ∈ B → e.b ∉ ids r := by
  intro e he hm
  unfold ids at hm
  rcases he with he | he
  ·exact hnd.1.2.2 e.b (List.mem_map.2 ⟨e, he, rfl⟩) e.b hm rfl
  exact hnd.2.2 e.b (List.mem_append.2 (.inr hm)) e.b (List.mem_map.2 ⟨e, he, rfl⟩) rfl
 have keep : ∀ e, e ∈ A ∨ e ∈ B → Own w' e := fun e he => (hown e (by simp; rcases he with he | he <;> simp [he])).upd l.upd (keepb e he)
 have old : ∀ e, e ∈ A ∨ e ∈ B → e.b < w.heap.size := fun e he => (hown e (by simp; rcases he with he | he <;> simp [he])).lt
 have far : ∀ e ∈ r', ∀ d, d ∈ A ∨ d ∈ B → e.b ≠ d.b := by
  intro e he d hd heq
  rcases hlw e he with hm | hge
  ·exact keepb d hd (heq ▸ hm)
  have := old d hd; omega
 refine ⟨?_, ?_, ?_, ?_⟩
 ·refine ⟨l.upd.os.trans h.upd.os, l.upd.tape.trans h.upd.tape, l.upd.output.trans h.upd.output, Nat.le_trans h.upd.size l.upd.size, fun b hb hn => ?_⟩
  rw [l.upd.block b (Nat.lt_of_lt_of_le hb h.upd.size) fun hm => ?_, h.upd.block b hb hn]
  unfold ids at hm
  obtain ⟨d, hd, hde⟩ := List.mem_map.1 hm
  rcases hnew d (by simp [hd]) with h1 | h1
  ·exact hn (hde ▸ h1)
  omega
 ·rw [e2]
  intro e he
  simp only [List.mem_append] at he
  rcases he with (he | he) | he
  ·exact keep e (.inl he)
  ·exact hl e he
  exact keep e (.inr he)
 ·rw [e2]
  simp only [ids, List.map_append, List.nodup_append]
  refine ⟨⟨hnd.1.1, hln, ?_⟩, hnd.2.1, ?_⟩
  ·intro a ha b hb heq
   obtain ⟨d, hd, rfl⟩ := List.mem_map.1 ha
   obtain ⟨e, he, rfl⟩ := List.mem_map.1 hb
   exact far e he d (.inl hd) heq.symm
  intro a ha b hb heq
  obtain ⟨d, hd, rfl⟩ := List.mem_map.1 hb
  rcases List.mem_append.1 ha with ha | ha
  ·exact hnd.2.2 a (List.mem_append.2 (.inl ha)) d.b hb heq
  obtain ⟨e, he, rfl⟩ := List.mem_map.1 ha
  exact far e he d (.inr hd) heq
 rw [e2]
 intro e he
 simp only [List.mem_append] at he
 rcases he with (he | he) | he
 ·exact hnew e (by simp [he])
 ·rcases hlw e he with hm | hge
  ·unfold ids at hm
   obtain ⟨d, hd, hde⟩ := List.mem_map.1 hm
   rw [← hde]
   exact hnew d (by simp [hd])
  exact .inr (Nat.le_trans h.upd.size hge)
 exact hnew e (by simp [he])
theorem Mem.add {w0 w w' : World} {S : List Nat} {R : List (List Ent)} (h : Mem w0 S w R) {r' : List Ent} (l : Mem w [] w' [r']) : Mem w0 S w' (R ++ [r']) := by
 have h' : Mem w0 S w (R ++ [[]]) := ⟨h.upd, by simpa using h.own, by simpa using h.nd, by simpa using h.new⟩
 have := h'.step (i := R.length) (r := []) (r' := r') (by simp) l
 simpa using this
theorem Mem.drop {w0 w : World} {S : List Nat} {R : List (List Ent)} (h : Mem w0 S w R) (i : Nat) : Mem w0 S w (R.set i []) := by
 cases hi : R[i]? with
 | none =>
  have : R.set i [] = R := by
   apply List.set_eq_of_length_le
   rcases Nat.lt_or_ge i R.length with h' | h'
   ·rw [List.getElem?_eq_getElem h'] at hi; cases hi
   exact h'
  rw [this]; exact h
 | some r => exact h.step i hi ⟨Upd.refl _ w, by simp, by simp [ids], by simp⟩
theorem Mem.keep {w0 w : World} {S : List Nat} {R R' : List (List Ent)} (h : Mem w0 S w R) (hs : R'.flatten.Sublist R.flatten) : Mem w0 S w R' :=
 ⟨h.upd, fun e he => h.own e (hs.subset he), (hs.map _).nodup h.nd, fun e he => h.new e (hs.subset he)⟩
theorem Mem.trans {w0 w w' : World} {S : List Nat} {R : List (List Ent)} (h : Mem w0 S w []) (k : Mem w [] w' R) : Mem w0 S w' R := by
 refine ⟨h.upd.trans (k.upd.mono (by simp)), k.own, k.nd, fun e he => ?_⟩
 rcases k.new e he with h1 | h1
 ·simp at h1
 exact .inr (Nat.le_trans h.upd.size h1)
theorem mem_alloc (w : World) (t : TypeId) (cs : List Value) : Mem w [] (allocW w t cs) [[⟨w.heap.size, t, cs⟩]] := by
 refine ⟨⟨rfl, rfl, rfl, by simp [allocW], fun b hb _ => ?_⟩, ?_, by simp [ids], by simp⟩
 ·show (w.heap.push _)[b]? = _
  rw [Array.getElem?_push, if_neg (by omega)]
 intro e he
 simp only [List.flatten_cons, List.flatten_nil, List.append_nil, List.mem_singleton] at he
 subst he
 refine ⟨0, 0, ?_, .inl rfl⟩
 show (w.heap.push _)[w.heap.size]? = _
 rw [Array.getElem?_push_size]
theorem upd_drew (w : World) : Upd [] w (drewW w) := ⟨rfl, rfl, rfl, Nat.le_refl _, fun _ _ _ => rfl⟩
theorem mem_allocDrew (w : World) (t : TypeId) (cs : List Value) : Mem w [] (allocW (drewW w) t cs) [[⟨w.heap.size, t, cs⟩]] :=
 Mem.trans (w := drewW w) ((Mem.nil w []).pure (upd_drew w)) (mem_alloc (drewW w) t cs)
def splice (cs : List Value) (o : Nat) (l : List Value) : List Value := match l with
 | [] => cs
 | v :: vs => splice (cs.set o v) (o + 1) vs
theorem splice_eq (l : List Value) : ∀ (cs : List Value) (o : Nat), o + l.length ≤ cs.length → splice cs o l = cs.take o ++ l ++ cs.drop (o + l.length) := by
 induction l with
 | nil => intro cs o h; simp [splice]
 | cons v vs ih =>
  intro cs o h
  simp only [List.length_cons] at h
  rw [splice, ih _ _ (by simp; omega)]
  have e1 : (cs.set o v).take (o + 1) = cs.take o ++ [v] := by
   rw [List.take_add_one, List.take_set_of_le (by omega)]
   simp [List.getElem?_set]
   omega
  have e2 : (cs.set o v).drop (o + 1 + vs.length) = cs.drop (o + (vs.length + 1)) := by
   rw [List.drop_set_of_lt (by omega)]
   congr 1; omega
  rw [e1, e2]
  simp
theorem own_setCell {w : World} {b : Nat} {t : TypeId} {cs : List Value} (h : Own w ⟨b, t, cs⟩) (o : Nat) (v : Value) : Own (w.setCell ⟨b, o, none⟩ v) ⟨b, t, cs.set o v⟩ := by
 obtain ⟨lo, hi, h, h2⟩ := h
 refine ⟨lo, hi, ?_, by simpa using h2⟩
 unfold World.setCell
 simp only [Array.getElem?_modify, h]
 simp
theorem upd_setCell (w : World) (b o : Nat) (v : Value) : Upd [b] w (w.setCell ⟨b, o, none⟩ v) := by
 refine ⟨rfl, rfl, rfl, by simp, fun c hc hn => ?_⟩
 unfold World.setCell
 simp only [Array.getElem?_modify]
 simp at hn
 rw [if_neg (fun e => hn e.symm)]
theorem stores_own (b : Nat) (t : TypeId) (l : List Value) : ∀ (w : World) (cs : List Value) (o : Nat), Own w ⟨b, t, cs⟩ → Own (World.stores w b o l) ⟨b, t, splice cs o l⟩ ∧ Upd [b] w (World.stores w b o l) := by
 induction l with
 | nil => intro w cs o h; exact ⟨h, Upd.refl _ w⟩
 | cons v vs ih =>
  intro w cs o h
  obtain ⟨h1, h2⟩ := ih _ _ (o + 1) (own_setCell h o v)
  exact ⟨h1, (upd_setCell w b o v).trans h2⟩
theorem mem_stores {w : World} {b : Nat} {t : TypeId} {cs : List Value} (h : Own w ⟨b, t, cs⟩) (o : Nat) (l : List Value) : Mem w (ids [⟨b, t, cs⟩]) (World.stores w b o l) [[⟨b, t, splice cs o l⟩]] := by
 obtain ⟨h1, h2⟩ := stores_own b t l w cs o h
 refine ⟨h2, by simpa using h1, by simp [ids], by simp [ids]⟩
theorem mem_s2b (w : World) (t : TypeId) (cs : List Value) : Mem w [] ((allocW (drewW w) t cs).freeze ⟨w.heap.size, cs.length, none⟩ 1) [[⟨w.heap.size, t, cs⟩]] := by
 have h := mem_allocDrew w t cs
 have ho := h.own ⟨w.heap.size, t, cs⟩ (by simp)
 obtain ⟨lo, hi, hb, _⟩ := ho
 have hb0 : (allocW (drewW w) t cs).heap[w.heap.size]? = some (.cells cs.toArray t (0, 0)) := by
  show (w.heap.push _)[w.heap.size]? = _
  rw [Array.getElem?_push_size]
 refine ⟨⟨h.upd.os, h.upd.tape, h.upd.output, ?_, fun b hb hn => ?_⟩, ?_, h.nd, h.new⟩
 ·have := h.upd.size
  simp only [World.freeze]
  simpa using this
 ·rw [← h.upd.block b hb hn]
  simp only [World.freeze]
  rw [if_neg (by omega)]
  simp only [Array.getElem?_modify]
  rw [if_neg (by omega)]
 intro e he
 simp only [List.flatten_cons, List.flatten_nil, List.append_nil, List.mem_singleton] at he
 subst he
 refine ⟨cs.length, cs.length + 1, ?_, .inr (Nat.le_refl _)⟩
 simp only [World.freeze]
 rw [if_neg (by omega)]
 simp only [Array.getElem?_modify, hb0]
 simp
def byteV (b : UInt8) : Value := .int .u8 b.toNat
structure Rd (w : World) (v : Value) (n : Nat) (cs : List Value) : Prop where
 form : ∃ a c, v = .slice a n c ∧ n ≤ c ∧ Row w a cs ∧ (a = none → n = 0)
theorem Row.upd {w w' : World} {a : Option Addr} {cs : List Value} (h : Row w a cs) (u : Upd [] w w') : Row w' a cs := by
 unfold Row at h ⊢
 split at h
 ·rename_i b o
  intro i hi
  have h1 := h i hi
  rw [List.getElem?_eq_getElem hi] at h1 ⊢
  have hl := World.block_lt_of_cell? w ⟨b, o + i, none⟩ h1
  rw [← h1]
  unfold World.cell?
  simp only
  rw [u.block b hl (by simp)]
 exact h
theorem Rd.upd {w w' : World} {v : Value} {n : Nat} {cs : List Value} (h : Rd w v n cs) (u : Upd [] w w') : Rd w' v n cs := by
 obtain ⟨a, c, h1, h2, h3, h4⟩ := h.form
 exact ⟨a, c, h1, h2, h3.upd u, h4⟩
structure Sl (sz : Nat) (t : TypeId) (v : Value) (n : Nat) (cs : List Value) (r : List Ent) : Prop where
 len : cs.length = n * sz
 form : (v = .slice none 0 0 ∧ n = 0 ∧ r = []) ∨ ∃ b cap tail, v = .slice (some ⟨b, 0, none⟩) n cap ∧ r = [⟨b, t, cs ++ tail⟩] ∧ n ≤ cap ∧ tail.length = (cap - n) * sz
theorem Sl.nil (sz : Nat) (t : TypeId) : Sl sz t (.slice none 0 0) 0 [] [] := ⟨by simp, .inl ⟨rfl, rfl, rfl⟩⟩
theorem Sl.rd {w0 w : World} {S : List Nat} {R : List (List Ent)} {sz n i : Nat} {t : TypeId} {v : Value} {cs : List Value} {r : List Ent} (h : Sl sz t v n cs r) (hM : Mem w0 S w R) (hi : R[i]? = some r) : Rd w v n cs := by
 rcases h.form with ⟨rfl, rfl, rfl⟩ | ⟨b, cap, tail, rfl, rfl, h1, h2⟩
 ·have := h.len
  simp at this
  subst this
  exact ⟨none, 0, rfl, Nat.le_refl _, rfl, fun _ => rfl⟩
 have ho := hM.at hi (j := 0) rfl
 refine ⟨_, cap, rfl, h1, ho.row (l := cs) fun j hj => ?_, fun h => by cases h⟩
 simp [List.getElem?_append_left hj]
theorem Rd.src {w : World} {v : Value} {n sz : Nat} {cs : List Value} (h : Rd w v n cs) (hl : cs.length = n * sz) : Src w v n sz cs := by
 obtain ⟨a, c, rfl, h2, h3, h4⟩ := h.form
 refine ⟨?_, h3⟩
 cases a with
 | none => simp [h4 rfl] at hl ⊢; exact hl
 | some a => simpa using hl
theorem Rd.lenN {w : World} {v : Value} {n : Nat} {cs : List Value} (h : Rd w v n cs) {K : Nat → Prop} (hk : K n) : lenN v K := by
 obtain ⟨a, c, rfl, h2, h3, h4⟩ := h.form
 exact hk
theorem repC_length (z : List Value) (n : Nat) : (repC z n).length = n * z.length := by
 induction n with
 | zero => simp [repC]
 | succ n ih => simp [repC, ih, Nat.add_mul]; omega
theorem fits {need old bytes : Nat} (h : old < need) (hb : need * bytes ≤ 175921860444160) (h0 : 0 < bytes ∧ bytes < 65536) : Builtin.nextslicecap need old * bytes ≤ 281474976710656 :=
 growslice_fits_wide h (by
  have h1 : need / 4 * 4 ≤ need := Nat.div_mul_le_self need 4
  have h2 : need / 4 * 4 * bytes ≤ need * bytes := Nat.mul_le_mul_right _ h1
  rw [Nat.mul_right_comm] at h2
  rw [Nat.add_mul, Nat.add_mul]
  have h3 : 192 * bytes ≤ 192 * 65536 := Nat.mul_le_mul_left _ (by omega)
  omega)
theorem grow_sl {w0 w : World} {S : List Nat} {R : List (List Ent)} {i n m bytes sz : Nat} {t : TypeId} {zero cs new : List Value} {a : Option Addr} {c : Nat} {r : List Ent} {K : Value → World → Prop} (hM : Mem w0 S w R) (hi : R[i]? = some r)
 (hs : Sl sz t (.slice a n c) n cs r) (hn : new.length = m * sz) (h1 : oneCells new) (hz : zero.length = sz) (hb : (n + m) * bytes ≤ 175921860444160) (hb0 : 0 < bytes ∧ bytes < 65536)
 (hK : ∀ v' w' r', Sl sz t v' (n + m) (cs ++ new) r' → Mem w0 S w' (R.set i r') → K v' w') : growVC w t bytes sz zero a n c m new K := by
 have hcl := hs.len
 constructor
 ·intro hc
  rcases hs.form with ⟨he, hn0, hr⟩ | ⟨b, cap, tail, he, hr, h2, h3⟩
  ·injection he with e1 e2 e3
   subst e1 e3
   have hm : m = 0 := by omega
   subst hm
   simp at hn
   subst hn
   simp only [Nat.add_zero, List.append_nil] at hK ⊢
   subst hn0
   exact hK _ w r hs (hM.step i hi (Mem.start (hM.res hi)))
  injection he with e1 e2 e3
  subst e1 e3 hr
  have ho := hM.at hi (j := 0) rfl
  have hlen : n * sz + new.length ≤ (cs ++ tail).length := by
   rw [List.length_append, hcl, h3, hn, ← Nat.add_mul, ← Nat.add_mul]
   exact Nat.mul_le_mul_right _ (by omega)
  refine ⟨ho.writable (by simpa using hlen), h1, ?_⟩
  have hM' := hM.step i hi (mem_stores ho (0 + n * sz) new)
  rw [splice_eq _ _ _ (by simpa using hlen)] at hM'
  have e1 : (cs ++ tail).take (0 + n * sz) = cs := by rw [Nat.zero_add, ← hcl, List.take_left']; rfl
  have e2 : (cs ++ tail).drop (0 + n * sz + new.length) = tail.drop new.length := by
   rw [Nat.zero_add, ← hcl, ← List.drop_drop, List.drop_left']; rfl
  rw [e1, e2] at hM'
  refine hK _ _ _ ⟨by rw [List.length_append, hcl, hn, Nat.add_mul], .inr ⟨b, c, tail.drop new.length, rfl, rfl, hc, ?_⟩⟩ hM'
  rw [List.length_drop, h3, hn, ← Nat.sub_mul]
  congr 1
  omega
 intro hc
 refine ⟨fits hc hb hb0, fun h => by omega, cs, (hs.rd hM hi).src hcl, fun c' hc' => ?_⟩
 have hl := mem_allocDrew w t (cs ++ new ++ repC zero (c' - (n + m)))
 have hM' := hM.step i hi (r' := [⟨w.heap.size, t, cs ++ new ++ repC zero (c' - (n + m))⟩]) (w' := allocW (drewW w) t (cs ++ new ++ repC zero (c' - (n + m)))) ⟨hl.upd.mono (by simp), hl.own, hl.nd, fun e he => (hl.new e he).elim (fun h => by simp at h) .inr⟩
 ·refine hK _ _ _ ⟨by rw [List.length_append, hcl, hn, Nat.add_mul], .inr ⟨_, c', _, rfl, rfl, hc', ?_⟩⟩ hM'
  rw [repC_length, hz]
end Go.Proofs.YtifnmbmijljhfaaGreat.E
namespace Go.Proofs.YtifnmbmijljhfaaGreat.E
open Go
variable {P : Program}
section
variable {r : List MI} {f : Fr} {w : World} {K : Fr → World → Prop} {d : Nat}
theorem st {o : PO} (h : pe o f fun v => vr P r (upd f d v) w K) : vr P (.p none d o :: r) f w K := h
theorem mv {x : Operand} (h : vr P r (upd f d (ev f x)) w K) : vr P (.p none d (.mv x) :: r) f w K := h
theorem bin {op : BinOp} {k : IntKind} {x y : Operand} {a b : Int} (hx : ev f x = .int k a) (hy : ev f y = .int k b) (h : vr P r (upd f d (binI op k a b)) w K) :
 vr P (.p none d (.bin op k x y) :: r) f w K := by
 show kint k (ev f x) _; rw [hx]; refine ⟨rfl, ?_⟩; show kint k (ev f y) _; rw [hy]; exact ⟨rfl, h⟩
def inK : IntKind → Int → Prop
 | .i64, n => -9223372036854775808 ≤ n ∧ n ≤ 9223372036854775807
 | .u64, n => 0 ≤ n ∧ n ≤ 18446744073709551615
 | .i32, n => -2147483648 ≤ n ∧ n ≤ 2147483647
 | .u32, n => 0 ≤ n ∧ n ≤ 4294967295
 | .i16, n => -32768 ≤ n ∧ n ≤ 32767
 | .u16, n => 0 ≤ n ∧ n ≤ 65535
 | .i8, n => -128 ≤ n ∧ n ≤ 127
 | .u8, n => 0 ≤ n ∧ n ≤ 255
theorem wrap_same {k : IntKind} {n : Int} (h : inK k n) : k.wrap n = n := by
 cases k <;> simp only [inK] at h <;> simp [IntKind.wrap, IntKind.bits, IntKind.signed] <;> omega
theorem conv {k k' : IntKind} {x : Operand} {a : Int} (hx : ev f x = .int k' a) (h : vr P r (upd f d (.int k (k.wrap a))) w K) : vr P (.p none d (.conv k x) :: r) f w K := by
 show anyint (ev f x) _; rw [hx]; exact h
theorem shl {x y : Operand} {k k' : IntKind} {a b : Int} (hx : ev f x = .int k a) (hy : ev f y = .int k' b) (hb : 0 ≤ b) (h : vr P r (upd f d (.int k (k.wrap (a * 2 ^ min b.toNat k.bits)))) w K) : vr P (.p none d (.shf .shl x y) :: r) f w K := by
 show anyint (ev f x) _; rw [hx]; show anyint (ev f y) _; rw [hy]; exact ⟨hb, h⟩
theorem shr {x y : Operand} {k k' : IntKind} {a b : Int} (hx : ev f x = .int k a) (hy : ev f y = .int k' b) (hb : 0 ≤ b) (h : vr P r (upd f d (.int k (a.fdiv (2 ^ min b.toNat k.bits)))) w K) : vr P (.p none d (.shf .shr x y) :: r) f w K := by
 show anyint (ev f x) _; rw [hx]; show anyint (ev f y) _; rw [hy]; exact ⟨hb, h⟩
theorem quo {x y : Operand} {k : IntKind} {a b : Int} (hx : ev f x = .int k a) (hy : ev f y = .int k b) (hb : b ≠ 0) (h : vr P r (upd f d (.int k (k.wrap (a.tdiv b)))) w K) : vr P (.p none d (.div .quo k x y) :: r) f w K := by
 show kint k (ev f x) _; rw [hx]; refine ⟨rfl, ?_⟩; show kint k (ev f y) _; rw [hy]; exact ⟨rfl, hb, h⟩
theorem rem {x y : Operand} {k : IntKind} {a b : Int} (hx : ev f x = .int k a) (hy : ev f y = .int k b) (hb : b ≠ 0) (h : vr P r (upd f d (.int k (a.tmod b))) w K) : vr P (.p none d (.div .rem k x y) :: r) f w K := by
 show kint k (ev f x) _; rw [hx]; refine ⟨rfl, ?_⟩; show kint k (ev f y) _; rw [hy]; exact ⟨rfl, hb, h⟩
theorem beq {n : Bool} {x y : Operand} {a b : Bool} (hx : ev f x = .bool a) (hy : ev f y = .bool b) (h : vr P r (upd f d (.bool (if n then !decide (a = b) else decide (a = b)))) w K) : vr P (.p none d (.beq n x y) :: r) f w K := by
 show kbool (ev f x) _; rw [hx]; show kbool (ev f y) _; rw [hy]; exact h
theorem sbin {op : BinOp} {x y : Operand} {a b : ByteArray} (hx : ev f x = .string a) (hy : ev f y = .string b) (h : binS op a b fun v => vr P r (upd f d v) w K) : vr P (.p none d (.sbin op x y) :: r) f w K := by
 show kstr (ev f x) _; rw [hx]; show kstr (ev f y) _; rw [hy]; exact h
theorem isnil {n : Bool} {kd : Nat} {x : Operand} {b : Bool} (hx : isNilV kd (ev f x) = some b) (h : vr P r (upd f d (.bool (if n then !b else b))) w K) : vr P (.p none d (.isnil n kd x) :: r) f w K := by
 show match isNilV kd (ev f x) with | some b => _ | none => False
 rw [hx]; exact h
theorem aeq {n : Bool} {ks : List Nat} {x y : Operand} {a b : Array Value} {t : Bool} (hx : ev f x = .agg a) (hy : ev f y = .agg b) (ht : eqCs ks a.toList b.toList = some t) (h : vr P r (upd f d (.bool (if n then !t else t))) w K) : vr P (.p none d (.aeq n ks x y) :: r) f w K := by
 show kagg (ev f x) _; rw [hx]; show kagg (ev f y) _; rw [hy]
 show match eqCs ks a.toList b.toList with | some t => _ | none => False
 rw [ht]; exact h
theorem convId {x : Operand} {a : ByteArray} (hx : ev f x = .string a) (h : vr P r (upd f d (.string a)) w K) : vr P (.p none d (.convId x) :: r) f w K := by
 show kstr (ev f x) _; rw [hx]; exact h
theorem fa {off : Nat} {x : Operand} {b o : Nat} (hx : ev f x = .pointer (some ⟨b, o, none⟩)) (h : vr P r (upd f d (.pointer (some ⟨b, o + off, none⟩))) w K) : vr P (.p none d (.fa off x) :: r) f w K := by
 show kptr (ev f x) _; rw [hx]; exact h
theorem fld {off : Nat} {x : Operand} {cs : Array Value} {v : Value} (hx : ev f x = .agg cs) (hv : cs[off]? = some v) (h : vr P r (upd f d v) w K) : vr P (.p none d (.fld off none x) :: r) f w K := by
 show kagg (ev f x) _; rw [hx]
 show match cs[off]? with | some v => _ | none => False
 rw [hv]; exact h
theorem ext {i : Nat} {x : Operand} {cs : Array Value} {v : Value} (hx : ev f x = .tuple cs) (hv : cs[i]? = some v) (h : vr P r (upd f d v) w K) : vr P (.p none d (.ext i x) :: r) f w K := by
 show ktuple (ev f x) _; rw [hx]
 show match cs[i]? with | some v => _ | none => False
 rw [hv]; exact h
theorem mkf {fn : Fn} {a c : List Operand} (h : vr P r (upd f d (.func fn (a.map (ev f)).toArray (c.map (ev f)).toArray)) w K) : vr P (.p none d (.mkf fn a c) :: r) f w K := h
theorem len {x : Operand} {a : Option Addr} {n c : Nat} (hx : ev f x = .slice a n c) (h : vr P r (upd f d (.int .i64 n)) w K) : vr P (.p none d (.len x) :: r) f w K := by
 show kslice (ev f x) _; rw [hx]; exact h
theorem lens {x : Operand} {s : ByteArray} (hx : ev f x = .string s) (h : vr P r (upd f d (.int .i64 s.size)) w K) : vr P (.p none d (.lens x) :: r) f w K := by
 show kstr (ev f x) _; rw [hx]; exact h
theorem lenc {n : Nat} (h : vr P r (upd f d (.int .i64 n)) w K) : vr P (.p none d (.lenc n) :: r) f w K := h
theorem bld {z : List Value} {ps : List (Nat × Nat × Operand)} {cs : List Value} (hc : fillC z (ps.map fun (o, s, x) => (o, s, ev f x)) = some cs) (h : vr P r (upd f d (.agg cs.toArray)) w K) : vr P (.p none d (.bld z ps) :: r) f w K := by
 show match fillC z (ps.map fun (o, s, x) => (o, s, ev f x)) with | some cs => _ | none => False
 rw [hc]; exact h
theorem nilchk {x : Operand} {b o : Nat} (hx : ev f x = .pointer (some ⟨b, o, none⟩)) (h : vr P r (upd f d (.pointer (some ⟨b, o, none⟩))) w K) : vr P (.p none d (.nilchk x) :: r) f w K := by
 show kptr (ev f x) _; rw [hx]; exact h
theorem idx {s : Nat} {x i : Operand} {b o n c : Nat} {k : IntKind} {j : Int} (hx : ev f x = .slice (some ⟨b, o, none⟩) n c) (hi : ev f i = .int k j) (hb : 0 ≤ j ∧ j < (n : Int)) (h : vr P r (upd f d (.pointer (some ⟨b, o + j.toNat * s, none⟩))) w K) :
 vr P (.p none d (.idx s x i) :: r) f w K := by
 show kslice (ev f x) _; rw [hx]; show anyint (ev f i) _; rw [hi]; exact ⟨hb, h⟩
theorem idxa {n s : Nat} {x i : Operand} {b o : Nat} {k : IntKind} {j : Int} (hx : ev f x = .pointer (some ⟨b, o, none⟩)) (hi : ev f i = .int k j) (hb : 0 ≤ j ∧ j < (n : Int)) (h : vr P r (upd f d (.pointer (some ⟨b, o + j.toNat * s, none⟩))) w K) :
 vr P (.p none d (.idxa n s x i) :: r) f w K := by
 show kptr (ev f x) _; rw [hx]; show anyint (ev f i) _; rw [hi]; exact ⟨hb, h⟩
theorem idxs {x i : Operand} {s : ByteArray} {k : IntKind} {j : Int} (hx : ev f x = .string s) (hi : ev f i = .int k j) (hb : 0 ≤ j ∧ j.toNat < s.size) (h : vr P r (upd f d (.int .u8 (s[j.toNat]'hb.2).toNat)) w K) : vr P (.p none d (.idxs x i) :: r) f w K := by
 show kstr (ev f x) _; rw [hx]; show anyint (ev f i) _; rw [hi]; exact ⟨hb, h⟩
theorem slc {s : Nat} {x : Operand} {lo hi mx : Option Operand} {a : Option Addr} {n c : Nat} (hx : ev f x = .slice a n c) (h : bnd (mx.map (ev f)) c c fun m => bnd (hi.map (ev f)) n m fun h => bnd (lo.map (ev f)) 0 h fun l =>
 vr P r (upd f d (.slice (cutAt s a l m) (h - l) (m - l))) w K) : vr P (.p none d (.slc s x lo hi mx) :: r) f w K := by
 show kslice (ev f x) _; rw [hx]; exact h
theorem slcs {x : Operand} {lo hi : Option Operand} {t : ByteArray} (hx : ev f x = .string t) (h : bnd (hi.map (ev f)) t.size t.size fun h => bnd (lo.map (ev f)) 0 h fun l => vr P r (upd f d (.string (t.extract l h))) w K) : vr P (.p none d (.slcs x lo hi) :: r) f w K := by
 show kstr (ev f x) _; rw [hx]; exact h
theorem bndN {d y : Nat} {K : Nat → Prop} (h : K d) : bnd none d y K := h
theorem bndS {d y : Nat} {K : Nat → Prop} {v : Value} {k : IntKind} {i : Int} (hv : v = .int k i) (hb : 0 ≤ i ∧ i ≤ (y : Int)) (h : K i.toNat) : bnd (some v) d y K := by subst hv; exact ⟨hb, h⟩
theorem split {s : Nat} {b : Bool} (hb : f s = .bool b) (ht : b = true → vr P r (upd f s (.bool true)) w K) (hf : b = false → vr P r (upd f s (.bool false)) w K) : vr P (.split s :: r) f w K := by
 show spl _ _ _; unfold spl; rw [hb]; exact ⟨ht, hf⟩
theorem splitU {s : Nat} (hb : f s = undef) (h : vr P r f w K) : vr P (.split s :: r) f w K := by
 show spl _ _ _; unfold spl; rw [hb]; exact h
theorem gyes {s : Nat} {b : Bool} {m : MI} {o : PO} (hm : m = .p (some (s, b)) d o) (hb : f s = .bool b) (h : vr P (.p none d o :: r) f w K) : vr P (m :: r) f w K := by
 subst hm; show grd _ _ _ _; unfold grd; simp only [hb, if_true]; exact h
theorem gno {s : Nat} {b c : Bool} {o : PO} (hb : f s = .bool c) (hc : (c = b) = False) (h : vr P r (upd f d undef) w K) : vr P (.p (some (s, b)) d o :: r) f w K := by
 show grd _ _ _ _; unfold grd; simp only [hb, hc, if_false]; exact h
theorem gnou {s : Nat} {b : Bool} {o : PO} (hb : f s = undef) (h : vr P r (upd f d undef) w K) : vr P (.p (some (s, b)) d o :: r) f w K := by
 show grd _ _ _ _; unfold grd; simp only [hb, undef]; exact h
theorem gyesl {s : Nat} {b : Bool} {o : LO} {e : Option Nat} (hb : f s = .bool b) (h : vr P (.l none e o :: r) f w K) : vr P (.l (some (s, b)) e o :: r) f w K := by
 show grd _ _ _ _; unfold grd; simp only [hb, if_true]; exact h
theorem gnol {s : Nat} {b c : Bool} {o : LO} {e : Option Nat} (hb : f s = .bool c) (hc : (c = b) = False) (h : vr P r (putO f e undef) w K) : vr P (.l (some (s, b)) e o :: r) f w K := by
 show grd _ _ _ _; unfold grd; simp only [hb, hc, if_false]; exact h
theorem gnolu {s : Nat} {b : Bool} {o : LO} {e : Option Nat} (hb : f s = undef) (h : vr P r (putO f e undef) w K) : vr P (.l (some (s, b)) e o :: r) f w K := by
 show grd _ _ _ _; unfold grd; simp only [hb, undef]; exact h
variable {e : Option Nat}
theorem ld {x : Operand} {b o : Nat} {v : Value} (hx : ev f x = .pointer (some ⟨b, o, none⟩)) (hv : w.cell? ⟨b, o, none⟩ = some v) (h : vr P r (upd f d v) w K) : vr P (.l none (some d) (.ld none x) :: r) f w K := by
 show kptr (ev f x) _; rw [hx]; exact ⟨v, hv, h⟩
theorem ldA {x : Operand} {b o n : Nat} {cs : List Value} (hx : ev f x = .pointer (some ⟨b, o, none⟩)) (hl : cs.length = n) (hr : Row w (some ⟨b, o, none⟩) cs) (h : vr P r (upd f d (.agg cs.toArray)) w K) :
 vr P (.l none (some d) (.ld (some n) x) :: r) f w K := by
 show kptr (ev f x) _; rw [hx]; exact ⟨cs, hl, hr, h⟩
theorem st1 {a x : Operand} {b o : Nat} {v : Value} (ha : ev f a = .pointer (some ⟨b, o, none⟩)) (hx : ev f x = v) (h1 : v.oneCell' = true) (hw : Writable w b o 1) (h : vr P r f (World.stores w b o [v]) K) :
 vr P (.l none none (.st 1 a x) :: r) f w K := by
 have hc : v.cells = #[v] := by cases v <;> first | rfl | (simp [Value.oneCell'] at h1)
 show kptr (ev f a) _; rw [ha]
 refine ⟨by rw [hx, hc]; rfl, by rw [hx, hc]; simpa [oneCells] using h1, hw, ?_⟩
 rw [hx, hc]; exact h
theorem stA {a x : Operand} {b o n : Nat} {cs : Array Value} (ha : ev f a = .pointer (some ⟨b, o, none⟩)) (hx : ev f x = .agg cs) (hl : cs.size = n) (h1 : oneCells cs.toList) (hw : Writable w b o n) (h : vr P r f (World.stores w b o cs.toList) K) :
 vr P (.l none none (.st n a x) :: r) f w K := by
 show kptr (ev f a) _; rw [ha]
 refine ⟨by rw [hx]; exact hl, by rw [hx]; exact h1, hw, ?_⟩
 rw [hx]; exact h
theorem call {g : FuncId} {xs : List Operand} {args : List Value} (ha : xs.map (ev f) = args) (h : Calls P g args.toArray w (Rt fun v w' => vr P r (putO f e v) w' K)) : vr P (.l none e (.call g xs) :: r) f w K := by
 subst ha; exact h
end
section
variable {nt : Nat} {n : Fr → World → Prop} {xs : List (Nat × (Fr → World → Prop))} {rt : Fr → World → Prop} {f : Fr} {w : World}
theorem seq {a b : MC} (h : ∀ K : Fr → World → Prop, (∀ f w, VC P nt b n xs rt f w → K f w) → VC P nt a K xs rt f w) : VC P nt (.seq a b) n xs rt f w := h _ fun _ _ h => h
theorem cnd {x : Operand} {a b : MC} {t : Bool} (hx : ev f x = .bool t) (h1 : t = true → VC P nt a n xs rt f w) (h2 : t = false → VC P nt b n xs rt f w) : VC P nt (.cond x a b) n xs rt f w := by
 show kbool (ev f x) _; rw [hx]; exact ⟨h1, h2⟩
theorem cndT {x : Operand} {a b : MC} (hx : ev f x = .bool true) (h1 : VC P nt a n xs rt f w) : VC P nt (.cond x a b) n xs rt f w := cnd hx (fun _ => h1) (fun h => by cases h)
theorem cndF {x : Operand} {a b : MC} (hx : ev f x = .bool false) (h2 : VC P nt b n xs rt f w) : VC P nt (.cond x a b) n xs rt f w := cnd hx (fun h => by cases h) (fun _ => h2)
theorem lp {c : MC} {ι : Type} (I : ι → Fr → World → Prop) (μ : ι → Nat) (i0 : ι) (h0 : I i0 f w) (h : ∀ i f w, I i f w → ∀ K : Fr → World → Prop, (∀ j f' w', I j f' w' → μ j < μ i → K f' w') → VC P nt c K xs rt f w) : VC P nt (.loop c) n xs rt f w :=
 ⟨fun k f w => ∃ i, μ i = k ∧ I i f w, μ i0, ⟨i0, rfl, h0⟩, fun k f w ⟨i, hi, hI⟩ => h i f w hI _ fun j f' w' hj hlt => ⟨μ j, hi ▸ hlt, j, rfl, hj⟩⟩
end
end Go.Proofs.YtifnmbmijljhfaaGreat.E
namespace Go.Proofs.YtifnmbmijljhfaaGreat.E
open Go
variable {P : Program}
theorem upd_self {f : Fr} {d : Nat} {v : Value} (h : f d = v) : upd f d v = f := by
 funext i; unfold upd; split
 ·rename_i hi; subst hi; exact h.symm
 rfl
theorem re2 {f : Fr} {a b : Nat} {x y : Value} (h : f a = x) (k : f b = y) : ∃ g, f = upd (upd g a x) b y := ⟨f, by rw [upd_self h, upd_self k]⟩
theorem re3 {f : Fr} {a b c : Nat} {x y z : Value} (h : f a = x) (k : f b = y) (l : f c = z) : ∃ g, f = upd (upd (upd g a x) b y) c z := ⟨f, by rw [upd_self h, upd_self k, upd_self l]⟩
theorem re4 {f : Fr} {a b c d : Nat} {x y z u : Value} (h : f a = x) (k : f b = y) (l : f c = z) (m : f d = u) : ∃ g, f = upd (upd (upd (upd g a x) b y) c z) d u := ⟨f, by rw [upd_self h, upd_self k, upd_self l, upd_self m]⟩
theorem re5 {f : Fr} {a b c d e : Nat} {x y z u v : Value} (h : f a = x) (k : f b = y) (l : f c = z) (m : f d = u) (n : f e = v) : ∃ g, f = upd (upd (upd (upd (upd g a x) b y) c z) d u) e v :=
 ⟨f, by rw [upd_self h, upd_self k, upd_self l, upd_self m, upd_self n]⟩
theorem re6 {f : Fr} {a b c d e p : Nat} {x y z u v q : Value} (h : f a = x) (k : f b = y) (l : f c = z) (m : f d = u) (n : f e = v) (o : f p = q) : ∃ g, f = upd (upd (upd (upd (upd (upd g a x) b y) c z) d u) e v) p q :=
 ⟨f, by rw [upd_self h, upd_self k, upd_self l, upd_self m, upd_self n, upd_self o]⟩
theorem re7 {f : Fr} {a b c d e p q : Nat} {x y z u v s t : Value} (h : f a = x) (k : f b = y) (l : f c = z) (m : f d = u) (n : f e = v) (o : f p = s) (o2 : f q = t) : ∃ g, f = upd (upd (upd (upd (upd (upd (upd g a x) b y) c z) d u) e v) p s) q t :=
 ⟨f, by rw [upd_self h, upd_self k, upd_self l, upd_self m, upd_self n, upd_self o, upd_self o2]⟩
theorem re8 {f : Fr} {a b c d e p q r : Nat} {x y z u v s t i : Value} (h : f a = x) (k : f b = y) (l : f c = z) (m : f d = u) (n : f e = v) (o : f p = s) (o2 : f q = t) (o3 : f r = i) : ∃ g, f = upd (upd (upd (upd (upd (upd (upd (upd g a x) b y) c z) d u) e v) p s) q t) r i :=
 ⟨f, by rw [upd_self h, upd_self k, upd_self l, upd_self m, upd_self n, upd_self o, upd_self o2, upd_self o3]⟩
section
variable {nt : Nat} {n : Fr → World → Prop} {xs : List (Nat × (Fr → World → Prop))} {rt : Fr → World → Prop} {f : Fr} {w : World}
theorem seqc {a b : MC} (I : Fr → World → Prop) (h1 : ∀ K : Fr → World → Prop, (∀ f w, I f w → K f w) → VC P nt a K xs rt f w) (h2 : ∀ f w, I f w → VC P nt b n xs rt f w) : VC P nt (.seq a b) n xs rt f w :=
 h1 _ h2
end
section
variable {r : List MI} {f : Fr} {w : World} {K : Fr → World → Prop} {d : Nat}
theorem splitT {s : Nat} (hb : f s = .bool true) (h : vr P r (upd f s (.bool true)) w K) : vr P (.split s :: r) f w K := split hb (fun _ => h) (fun h => by cases h)
theorem splitF {s : Nat} (hb : f s = .bool false) (h : vr P r (upd f s (.bool false)) w K) : vr P (.split s :: r) f w K := split hb (fun h => by cases h) (fun _ => h)
theorem app {w0 : World} {S : List Nat} {R : List (List Ent)} {i n m bytes sz : Nat} {t : TypeId} {zero cs new : List Value} {x y : Operand} {v : Value} {rs : List Ent} {e : Nat} (hM : Mem w0 S w R) (hi : R[i]? = some rs) (hs : Sl sz t v n cs rs)
 (hx : ev f x = v) (hy : Rd w (ev f y) m new) (hn : new.length = m * sz) (h1 : oneCells new) (hz : zero.length = sz) (hb : (n + m) * bytes ≤ 175921860444160) (hb0 : 0 < bytes ∧ bytes < 65536)
 (h : ∀ v' w' r', Sl sz t v' (n + m) (cs ++ new) r' → Mem w0 S w' (R.set i r') → vr P r (upd f e v') w' K) : vr P (.l none (some e) (.app t bytes sz zero x y) :: r) f w K := by
 have hf : ∃ a c, v = .slice a n c := by rcases hs.form with ⟨rfl, rfl, _⟩ | ⟨b, c, _, rfl, _⟩ <;> exact ⟨_, _, rfl⟩
 obtain ⟨a, c, rfl⟩ := hf
 show kslice (ev f x) _
 rw [hx]
 have key : lenN (ev f y) fun m => ∃ new, Src w (ev f y) m sz new ∧ growVC w t bytes sz zero a n c m new (fun v w' => vr P r (putO f (some e) v) w' K) :=
  Rd.lenN hy ⟨new, hy.src hn, grow_sl hM hi hs hn h1 hz hb hb0 fun v' w' r' hs' hM' => h v' w' r' hs' hM'⟩
 exact key
theorem app1 {w0 : World} {S : List Nat} {R : List (List Ent)} {i n bytes : Nat} {t : TypeId} {z : Value} {cs : List Value} {x p : Operand} {v u : Value} {rs : List Ent} {e d : Nat} (hM : Mem w0 S w R) (hi : R[i]? = some rs) (hs : Sl 1 t v n cs rs)
 (hx : ev f x = v) (hxd : x ≠ .tmp d) (hp : ev f p = u) (hu : u.oneCell' = true) (hb : (n + 1) * bytes ≤ 175921860444160) (hb0 : 0 < bytes ∧ bytes < 65536)
 (h : ∀ v' w' r' q, Sl 1 t v' (n + 1) (cs ++ [u]) r' → Mem w0 S w' (R.set i r') → vr P r (upd (upd f d q) e v') w' K) :
 vr P (.l none (some d) (.bs t 1 1 [z] [(0, 1, p)]) :: .l none (some e) (.app t bytes 1 [z] x (.tmp d)) :: r) f w K := by
 have hc : u.cells = #[u] := by cases u <;> first | rfl | (simp [Value.oneCell'] at hu)
 have hfill : fillC [z] [(0, 1, ev f p)] = some [u] := by
  rw [hp]
  simp [fillC, hc]
 show match fillC [z] [(0, 1, ev f p)] with | some cs => _ | none => False
 rw [hfill]
 have hM' := hM.add (mem_alloc w t [u])
 have hi' : (R ++ [[⟨w.heap.size, t, [u]⟩]])[i]? = some rs := by
  rw [List.getElem?_append_left]
  ·exact hi
  rcases Nat.lt_or_ge i R.length with h' | h'
  ·exact h'
  rw [List.getElem?_eq_none h'] at hi; cases hi
 have hil : i < R.length := by
  rcases Nat.lt_or_ge i R.length with h' | h'
  ·exact h'
  rw [List.getElem?_eq_none h'] at hi; cases hi
 have hev : ev (putO f (some d) (.slice (some ⟨w.heap.size, 0, none⟩) 1 1)) x = v := by
  cases x with
  | tmp t => show upd f d _ t = v; unfold upd; rw [if_neg (fun e => hxd (by rw [e]))]; exact hx
  | _ => exact hx
 have hrd : Rd (allocW w t [u]) (ev (putO f (some d) (.slice (some ⟨w.heap.size, 0, none⟩) 1 1)) (.tmp d)) 1 [u] := by
  have : ev (putO f (some d) (.slice (some ⟨w.heap.size, 0, none⟩) 1 1)) (.tmp d) = .slice (some ⟨w.heap.size, 0, none⟩) 1 1 := by show upd f d _ d = _; unfold upd; rw [if_pos rfl]
  rw [this]
  refine ⟨_, 1, rfl, Nat.le_refl _, ?_, fun h => by cases h⟩
  have ho := hM'.own ⟨w.heap.size, t, [u]⟩ (by simp)
  exact ho.row (l := [u]) fun j hj => by simp
 refine app (i := i) hM' hi' hs hev hrd rfl ?_ rfl hb hb0 fun v' w' r' hs' hM'' => ?_
 ·intro c hc'; simp only [List.mem_singleton] at hc'; subst hc'; exact hu
 refine h v' w' r' _ hs' (hM''.keep ?_)
 rw [List.set_append_left _ _ hil]
 simp
theorem box {t : TypeId} {x : Operand} {v : Value} {e : Nat} (hx : ev f x = v) (h : ∀ w', Mem w [] w' [[⟨w.heap.size, t, v.cells.toList⟩]] → w'.heap.size = w.heap.size + 1 → vr P r (upd f e (.pointer (some ⟨w.heap.size, 0, none⟩))) w' K) : vr P (.l none (some e) (.bx t x) :: r) f w K := by
 subst hx
 exact h _ (mem_alloc w t _) (by simp [allocW])
end
section
variable {hh : Option (List Nat)} {wr : World} {r : List SI} {f : Fr} {w : World} {K : Fr → World → Prop} {d i : Nat}
theorem dqp {o : PO} (h : vr P [.p none d o] f w fun f w => vd P hh wr r f w K) : vd P hh wr (.qp i none d o :: r) f w K := h
theorem dsplit {s : Nat} {b : Bool} (hb : f s = .bool b) (ht : b = true → vd P hh wr r (upd f s (.bool true)) w K) (hf : b = false → vd P hh wr r (upd f s (.bool false)) w K) : vd P hh wr (.split s :: r) f w K := by
 show spl _ _ _; unfold spl; rw [hb]; exact ⟨ht, hf⟩
theorem dsplitU {s : Nat} (hb : f s = undef) (h : vd P hh wr r f w K) : vd P hh wr (.split s :: r) f w K := by
 show spl _ _ _; unfold spl; rw [hb]; exact h
theorem dsplitT {s : Nat} (hb : f s = .bool true) (h : vd P hh wr r (upd f s (.bool true)) w K) : vd P hh wr (.split s :: r) f w K := dsplit hb (fun _ => h) (fun h => by cases h)
theorem dsplitF {s : Nat} (hb : f s = .bool false) (h : vd P hh wr r (upd f s (.bool false)) w K) : vd P hh wr (.split s :: r) f w K := dsplit hb (fun h => by cases h) (fun _ => h)
theorem dqld {x : Operand} {b o : Nat} {v : Value} (hx : ev f x = .pointer (some ⟨b, o, none⟩)) (hb : isHeld hh b) (hv : wr.cell? ⟨b, o, none⟩ = some v) (h : vd P hh wr r (upd f d v) w K) : vd P hh wr (.ql i none d none x :: r) f w K := by
 show kptr (ev f x) _ ∧ kptr (ev f x) _; rw [hx]; exact ⟨hb, v, hv, h⟩
theorem dqldA {x : Operand} {b o n : Nat} {cs : List Value} (hx : ev f x = .pointer (some ⟨b, o, none⟩)) (hb : isHeld hh b) (hl : cs.length = n) (hr : Row wr (some ⟨b, o, none⟩) cs) (h : vd P hh wr r (upd f d (.agg cs.toArray)) w K) :
 vd P hh wr (.ql i none d (some n) x :: r) f w K := by
 show kptr (ev f x) _ ∧ kptr (ev f x) _; rw [hx]; exact ⟨hb, cs, hl, hr, h⟩
theorem dgyes {s : Nat} {b : Bool} {m : SI} {o : PO} (hm : m = .qp i (some (s, b)) d o) (hb : f s = .bool b) (h : vd P hh wr (.qp i none d o :: r) f w K) : vd P hh wr (m :: r) f w K := by
 subst hm; show grd _ _ _ _; unfold grd; simp only [hb, if_true]; exact h
theorem dgno {s : Nat} {b c : Bool} {o : PO} (hb : f s = .bool c) (hc : (c = b) = False) (h : vd P hh wr r (upd f d undef) w K) : vd P hh wr (.qp i (some (s, b)) d o :: r) f w K := by
 show grd _ _ _ _; unfold grd; simp only [hb, hc, if_false]; exact h
theorem dgnou {s : Nat} {b : Bool} {o : PO} (hb : f s = undef) (h : vd P hh wr r (upd f d undef) w K) : vd P hh wr (.qp i (some (s, b)) d o :: r) f w K := by
 show grd _ _ _ _; unfold grd; simp only [hb, undef]; exact h
theorem dqgyes {s : Nat} {b : Bool} {m : SI} {z : Option Nat} {x : Operand} (hm : m = .ql i (some (s, b)) d z x) (hb : f s = .bool b) (h : vd P hh wr (.ql i none d z x :: r) f w K) : vd P hh wr (m :: r) f w K := by
 subst hm; show grd _ _ _ _; unfold grd; simp only [hb, if_true]; exact h
theorem dqgno {s : Nat} {b c : Bool} {z : Option Nat} {x : Operand} (hb : f s = .bool c) (hc : (c = b) = False) (h : vd P hh wr r (upd f d undef) w K) : vd P hh wr (.ql i (some (s, b)) d z x :: r) f w K := by
 show grd _ _ _ _; unfold grd; simp only [hb, hc, if_false]; exact h
theorem dqgnou {s : Nat} {b : Bool} {z : Option Nat} {x : Operand} (hb : f s = undef) (h : vd P hh wr r (upd f d undef) w K) : vd P hh wr (.ql i (some (s, b)) d z x :: r) f w K := by
 show grd _ _ _ _; unfold grd; simp only [hb, undef]; exact h
theorem dgyesl {s : Nat} {b : Bool} {o : LO} {e : Option Nat} (hb : f s = .bool b) (h : vd P hh wr (.l i none e o :: r) f w K) : vd P hh wr (.l i (some (s, b)) e o :: r) f w K := by
 show grd _ _ _ _; unfold grd; simp only [hb, if_true]; exact h
theorem dgnol {s : Nat} {b c : Bool} {o : LO} {e : Option Nat} (hb : f s = .bool c) (hc : (c = b) = False) (h : vd P hh wr r (putO f e undef) w K) : vd P hh wr (.l i (some (s, b)) e o :: r) f w K := by
 show grd _ _ _ _; unfold grd; simp only [hb, hc, if_false]; exact h
theorem dgnolu {s : Nat} {b : Bool} {o : LO} {e : Option Nat} (hb : f s = undef) (h : vd P hh wr r (putO f e undef) w K) : vd P hh wr (.l i (some (s, b)) e o :: r) f w K := by
 show grd _ _ _ _; unfold grd; simp only [hb, undef]; exact h
theorem dl {o : LO} {e : Option Nat} (h : vr P [.l none e o] f w fun f w => Held hh wr w ∧ vd P hh wr r f w K) : vd P hh wr (.l i none e o :: r) f w K := h
theorem held_upd {S : List Nat} {bs : List Nat} {w w' : World} (hu : Upd S w w') (hb : ∀ b ∈ bs, b < w.heap.size ∧ b ∉ S) (h : Held (some bs) wr w) : Held (some bs) wr w' := fun b hm => by
 rw [hu.block b (hb b hm).1 (hb b hm).2]; exact h b hm
end
end Go.Proofs.YtifnmbmijljhfaaGreat.E
namespace Go.Proofs.YtifnmbmijljhfaaGreat.E
open Go
def str (l : List UInt8) : ByteArray := ⟨l.toArray⟩
theorem str_size (l : List UInt8) : (str l).size = l.length := by simp [str, ByteArray.size]
theorem str_list (s : ByteArray) : str s.data.toList = s := by cases s; simp [str]
theorem toList_str (l : List UInt8) : (str l).toList = l := by
 rw [ByteArray.toList_eq]; simp [str]
abbrev PeV (o : PO) (f : Fr) (v : Value) : Prop := ∀ K : Value → Prop, K v → pe o f K
section
variable {f : Fr} {v : Value}
theorem o_mv {x : Operand} (hx : ev f x = v) : PeV (.mv x) f v := fun K h => by show K _; rw [hx]; exact h
theorem o_pickT {c a b : Operand} (hc : ev f c = .bool true) (ha : ev f a = v) : PeV (.pick c a b) f v := fun K h => by show kbool (ev f c) _; rw [hc]; show K (ev f a); rw [ha]; exact h
theorem o_pickF {c a b : Operand} (hc : ev f c = .bool false) (ha : ev f b = v) : PeV (.pick c a b) f v := fun K h => by show kbool (ev f c) _; rw [hc]; show K (ev f b); rw [ha]; exact h
theorem o_bin {op : BinOp} {k : IntKind} {x y : Operand} {a b : Int} (hx : ev f x = .int k a) (hy : ev f y = .int k b) (hv : binI op k a b = v) : PeV (.bin op k x y) f v := fun K h => by
 show kint k (ev f x) _; rw [hx]; refine ⟨rfl, ?_⟩; show kint k (ev f y) _; rw [hy]; refine ⟨rfl, ?_⟩; show K _; rw [hv]; exact h
theorem o_shl {x y : Operand} {k k' : IntKind} {a b : Int} (hx : ev f x = .int k a) (hy : ev f y = .int k' b) (hb : 0 ≤ b) (hv : Value.int k (k.wrap (a * 2 ^ min b.toNat k.bits)) = v) : PeV (.shf .shl x y) f v := fun K h => by
 show anyint (ev f x) _; rw [hx]; show anyint (ev f y) _; rw [hy]; refine ⟨hb, ?_⟩; show K _; rw [hv]; exact h
theorem o_shr {x y : Operand} {k k' : IntKind} {a b : Int} (hx : ev f x = .int k a) (hy : ev f y = .int k' b) (hb : 0 ≤ b) (hv : Value.int k (a.fdiv (2 ^ min b.toNat k.bits)) = v) : PeV (.shf .shr x y) f v := fun K h => by
 show anyint (ev f x) _; rw [hx]; show anyint (ev f y) _; rw [hy]; refine ⟨hb, ?_⟩; show K _; rw [hv]; exact h
theorem o_quo {x y : Operand} {k : IntKind} {a b : Int} (hx : ev f x = .int k a) (hy : ev f y = .int k b) (hb : b ≠ 0) (hv : Value.int k (k.wrap (a.tdiv b)) = v) : PeV (.div .quo k x y) f v := fun K h => by
 show kint k (ev f x) _; rw [hx]; refine ⟨rfl, ?_⟩; show kint k (ev f y) _; rw [hy]; refine ⟨rfl, hb, ?_⟩; show K _; rw [hv]; exact h
theorem o_rem {x y : Operand} {k : IntKind} {a b : Int} (hx : ev f x = .int k a) (hy : ev f y = .int k b) (hb : b ≠ 0) (hv : Value.int k (a.tmod b) = v) : PeV (.div .rem k x y) f v := fun K h => by
 show kint k (ev f x) _; rw [hx]; refine ⟨rfl, ?_⟩; show kint k (ev f y) _; rw [hy]; refine ⟨rfl, hb, ?_⟩; show K _; rw [hv]; exact h
theorem o_beq {n : Bool} {x y : Operand} {a b : Bool} (hx : ev f x = .bool a) (hy : ev f y = .bool b) (hv : Value.bool (if n then !decide (a = b) else decide (a = b)) = v) : PeV (.beq n x y) f v := fun K h => by
 show kbool (ev f x) _; rw [hx]; show kbool (ev f y) _; rw [hy]; show K _; rw [hv]; exact h
theorem o_sadd {x y : Operand} {a b : List UInt8} (hx : ev f x = .string (str a)) (hy : ev f y = .string (str b)) (hl : a.length + b.length ≤ 9223372036854775807) (hv : Value.string (str (a ++ b)) = v) : PeV (.sbin .add x y) f v := fun K h => by
 show kstr (ev f x) _; rw [hx]; show kstr (ev f y) _; rw [hy]; refine ⟨by rw [str_size, str_size]; exact hl, ?_⟩
 have : str a ++ str b = str (a ++ b) := by ext1; simp [str]
 rw [this, hv]; exact h
theorem o_seq {x y : Operand} {a b : List UInt8} (hx : ev f x = .string (str a)) (hy : ev f y = .string (str b)) (hv : Value.bool (decide (a = b)) = v) : PeV (.sbin .eql x y) f v := fun K h => by
 show kstr (ev f x) _; rw [hx]; show kstr (ev f y) _; rw [hy]; show K _; rw [toList_str, toList_str, hv]; exact h
theorem o_sne {x y : Operand} {a b : List UInt8} (hx : ev f x = .string (str a)) (hy : ev f y = .string (str b)) (hv : Value.bool (decide (¬ a = b)) = v) : PeV (.sbin .neq x y) f v := fun K h => by
 show kstr (ev f x) _; rw [hx]; show kstr (ev f y) _; rw [hy]; show K _; rw [toList_str, toList_str]; rw [decide_not] at hv; rw [hv]; exact h
theorem o_isnil {n : Bool} {kd : Nat} {x : Operand} {b : Bool} (hx : isNilV kd (ev f x) = some b) (hv : Value.bool (if n then !b else b) = v) : PeV (.isnil n kd x) f v := fun K h => by
 show match isNilV kd (ev f x) with | some b => _ | none => False
 rw [hx]; show K _; rw [hv]; exact h
theorem o_not {x : Operand} {a : Bool} (hx : ev f x = .bool a) (hv : Value.bool (!a) = v) : PeV (.not x) f v := fun K h => by
 show kbool (ev f x) _; rw [hx]; show K _; rw [hv]; exact h
theorem o_conv {k k' : IntKind} {x : Operand} {a : Int} (hx : ev f x = .int k' a) (hv : Value.int k (k.wrap a) = v) : PeV (.conv k x) f v := fun K h => by
 show anyint (ev f x) _; rw [hx]; show K _; rw [hv]; exact h
theorem o_fa {off : Nat} {x : Operand} {b o : Nat} (hx : ev f x = .pointer (some ⟨b, o, none⟩)) (hv : Value.pointer (some ⟨b, o + off, none⟩) = v) : PeV (.fa off x) f v := fun K h => by
 show kptr (ev f x) _; rw [hx]; show K _; rw [hv]; exact h
theorem o_fld {off : Nat} {x : Operand} {cs : Array Value} (hx : ev f x = .agg cs) (hv : cs[off]? = some v) : PeV (.fld off none x) f v := fun K h => by
 show kagg (ev f x) _; rw [hx]
 show match cs[off]? with | some v => _ | none => False
 rw [hv]; exact h
theorem o_ext {i : Nat} {x : Operand} {cs : Array Value} (hx : ev f x = .tuple cs) (hv : cs[i]? = some v) : PeV (.ext i x) f v := fun K h => by
 show ktuple (ev f x) _; rw [hx]
 show match cs[i]? with | some v => _ | none => False
 rw [hv]; exact h
theorem o_mkf {fn : Fn} {a c : List Operand} (hv : Value.func fn (a.map (ev f)).toArray (c.map (ev f)).toArray = v) : PeV (.mkf fn a c) f v := fun K h => by show K _; rw [hv]; exact h
theorem o_len {x : Operand} {a : Option Addr} {n c : Nat} (hx : ev f x = .slice a n c) (hv : Value.int .i64 n = v) : PeV (.len x) f v := fun K h => by
 show kslice (ev f x) _; rw [hx]; show K _; rw [hv]; exact h
theorem o_lens {x : Operand} {l : List UInt8} (hx : ev f x = .string (str l)) (hv : Value.int .i64 l.length = v) : PeV (.lens x) f v := fun K h => by
 show kstr (ev f x) _; rw [hx]; show K _; rw [str_size, hv]; exact h
theorem o_mm {mx : Bool} {k : IntKind} {x y : Operand} {a b : Int} (hx : ev f x = .int k a) (hy : ev f y = .int k b) (hv : Value.int k (if mx then max a b else min a b) = v) : PeV (.mm mx k x [y]) f v := fun K h => by
 show kint k (ev f x) _; rw [hx]; refine ⟨rfl, ?_⟩
 show kint k (ev f y) _; rw [hy]; refine ⟨rfl, ?_⟩
 show K (.int k (if mx then (if a < b then b else a) else (if b < a then b else a)))
 rw [← hv] at h
 have e1 : (if a < b then b else a) = max a b := by simp only [Int.max_def]; split <;> split <;> omega
 have e2 : (if b < a then b else a) = min a b := by simp only [Int.min_def]; split <;> split <;> omega
 rw [e1, e2]; exact h
theorem o_bld {z : List Value} {ps : List (Nat × Nat × Operand)} {cs : List Value} (hc : fillC z (ps.map fun (o, s, x) => (o, s, ev f x)) = some cs) (hv : Value.agg cs.toArray = v) : PeV (.bld z ps) f v := fun K h => by
 show match fillC z (ps.map fun (o, s, x) => (o, s, ev f x)) with | some cs => _ | none => False
 rw [hc]; show K _; rw [hv]; exact h
theorem o_nilchk {x : Operand} {b o : Nat} (hx : ev f x = .pointer (some ⟨b, o, none⟩)) (hv : Value.pointer (some ⟨b, o, none⟩) = v) : PeV (.nilchk x) f v := fun K h => by
 show kptr (ev f x) _; rw [hx]; show K _; rw [hv]; exact h
theorem o_idxa {n s : Nat} {x i : Operand} {b o : Nat} {k : IntKind} {j : Int} (hx : ev f x = .pointer (some ⟨b, o, none⟩)) (hi : ev f i = .int k j) (hb : 0 ≤ j ∧ j < (n : Int)) (hv : Value.pointer (some ⟨b, o + j.toNat * s, none⟩) = v) : PeV (.idxa n s x i) f v := fun K h => by
 show kptr (ev f x) _; rw [hx]; show anyint (ev f i) _; rw [hi]; refine ⟨hb, ?_⟩; rw [hv]; exact h
theorem o_idxs {x i : Operand} {l : List UInt8} {k : IntKind} {j : Int} (hx : ev f x = .string (str l)) (hi : ev f i = .int k j) (hb : 0 ≤ j ∧ j < (l.length : Int)) (hv : byteV (l.getD j.toNat 0) = v) : PeV (.idxs x i) f v := fun K h => by
 show kstr (ev f x) _; rw [hx]; show anyint (ev f i) _; rw [hi]
 have hj : j.toNat < l.length := by omega
 refine ⟨⟨hb.1, by rw [str_size]; exact hj⟩, ?_⟩
 have : (str l)[j.toNat]'(by rw [str_size]; exact hj) = l.getD j.toNat 0 := by
  rw [List.getD_eq_getElem?_getD, List.getElem?_eq_getElem hj]; rfl
 rw [this]; rw [← hv] at h; exact h
theorem o_slcs {x : Operand} {lo hi : Option Operand} {l : List UInt8} {a b : Nat} (hx : ev f x = .string (str l)) (hb : b ≤ l.length ∧ a ≤ b) (hhi : match hi with | none => b = l.length | some y => ∃ k, ev f y = .int k b) (hlo : match lo with | none => a = 0 | some y => ∃ k, ev f y = .int k a) (hv : Value.string (str ((l.take b).drop a)) = v) : PeV (.slcs x lo hi) f v := fun K h => by
 show kstr (ev f x) _; rw [hx]
 have e : (str l).extract a b = str ((l.take b).drop a) := by
  ext1; simp [str, List.drop_take]
 have k2 : ∀ h' : Nat, h' = b → bnd (lo.map (ev f)) 0 h' fun l' => K (.string ((str l).extract l' h')) := by
  intro h' e'; subst e'
  cases lo with
  | none => simp only at hlo; subst hlo; show K _; rw [e, hv]; exact h
  | some y => obtain ⟨k, hy⟩ := hlo; refine bndS hy ⟨by omega, by omega⟩ ?_; show K _; rw [Int.toNat_natCast, e, hv]; exact h
 show bnd (hi.map (ev f)) (str l).size (str l).size fun h => bnd (lo.map (ev f)) 0 h fun l' => K (.string ((str l).extract l' h))
 cases hi with
 | none => simp only at hhi; refine bndN ?_; exact k2 _ (by rw [str_size, hhi])
 | some y => obtain ⟨k, hy⟩ := hhi; refine bndS hy ⟨by omega, by rw [str_size]; omega⟩ ?_; exact k2 _ (by simp)
end
theorem v_add64 {a b : Int} (h : -9223372036854775808 ≤ a + b ∧ a + b ≤ 9223372036854775807) : binI .add .i64 a b = .int .i64 (a + b) := by
 have : IntKind.i64.wrap (a + b) = a + b := wrap_same h
 simp [binI, this]
theorem v_sub64 {a b : Int} (h : -9223372036854775808 ≤ a - b ∧ a - b ≤ 9223372036854775807) : binI .sub .i64 a b = .int .i64 (a - b) := by
 have : IntKind.i64.wrap (a - b) = a - b := wrap_same h
 simp [binI, this]
theorem v_mul64 {a b : Int} (h : -9223372036854775808 ≤ a * b ∧ a * b ≤ 9223372036854775807) : binI .mul .i64 a b = .int .i64 (a * b) := by
 have : IntKind.i64.wrap (a * b) = a * b := wrap_same h
 simp [binI, this]
theorem v_neF {k : IntKind} {a : Int} : binI .neq k a a = .bool false := by simp [binI]
theorem v_neq {k : IntKind} {a b : Int} : binI .neq k a b = .bool (decide (¬ a = b)) := by simp [binI]
theorem wrap_u8 (a : Int) : IntKind.u8.wrap a = a % 256 := by simp [IntKind.wrap, IntKind.bits, IntKind.signed]
theorem wrap_u32 (a : Int) : IntKind.u32.wrap a = a % 4294967296 := by simp [IntKind.wrap, IntKind.bits, IntKind.signed]
theorem wrap_u64 (a : Int) : IntKind.u64.wrap a = a % 18446744073709551616 := by simp [IntKind.wrap, IntKind.bits, IntKind.signed]
theorem v_u8 (a : Int) : Value.int .u8 (IntKind.u8.wrap a) = .int .u8 (a % 256) := by rw [wrap_u8]
theorem v_same {k : IntKind} {a : Int} (h : inK k a) : Value.int k (k.wrap a) = .int k a := by rw [wrap_same h]
theorem v_int {k : IntKind} {a b : Int} (h : a = b) : Value.int k a = .int k b := by rw [h]
theorem v_not {p : Prop} [Decidable p] : Value.bool (!decide p) = .bool (decide (¬ p)) := by simp
theorem v_shr {k : IntKind} {a : Int} (n : Nat) (hn : n ≤ k.bits) : Value.int k (a.fdiv (2 ^ min ((n : Int)).toNat k.bits)) = .int k (a / 2 ^ n) := by
 rw [Int.toNat_natCast, Nat.min_eq_left hn, Int.fdiv_eq_ediv_of_nonneg _ (by exact Int.le_of_lt (Int.pow_pos (by omega)))]
theorem v_quo {k : IntKind} {a b : Int} (ha : 0 ≤ a) (hb : 0 ≤ b) (h : inK k a) : Value.int k (k.wrap (a.tdiv b)) = .int k (a / b) := by
 rw [Int.tdiv_eq_ediv_of_nonneg ha, wrap_same]
 have h1 : a / b ≤ a := Int.ediv_le_self _ ha
 have h2 : 0 ≤ a / b := Int.ediv_nonneg ha hb
 cases k <;> simp only [inK] at h ⊢ <;> omega
theorem v_rem {k : IntKind} {a b : Int} (ha : 0 ≤ a) : Value.int k (a.tmod b) = .int k (a % b) := by rw [Int.tmod_eq_emod_of_nonneg ha]
def andI (k : IntKind) (a b : Int) : Int := k.wrap (BitVec.ofInt k.bits a &&& BitVec.ofInt k.bits b).toNat
def orI (k : IntKind) (a b : Int) : Int := k.wrap (BitVec.ofInt k.bits a ||| BitVec.ofInt k.bits b).toNat
def xorI (k : IntKind) (a b : Int) : Int := k.wrap (BitVec.ofInt k.bits a ^^^ BitVec.ofInt k.bits b).toNat
def shlI (k : IntKind) (a n : Int) : Int := k.wrap (a * 2 ^ min n.toNat k.bits)
def shrI (k : IntKind) (a n : Int) : Int := a.fdiv (2 ^ min n.toNat k.bits)
section
variable {P : Program} {r : List MI} {f : Fr} {w : World} {K : Fr → World → Prop} {d : Nat} {o : PO} {v : Value} {s : Nat} {b : Bool}
theorem stp (h : PeV o f v) (k : vr P r (upd f d v) w K) : vr P (.p none d o :: r) f w K := h (fun v => vr P r (upd f d v) w K) k
theorem stg (hs : f s = .bool b) (h : PeV o f v) (k : vr P r (upd f d v) w K) : vr P (.p (some (s, b)) d o :: r) f w K := gyes rfl hs (stp h k)
theorem splitP {p : Prop} [Decidable p] (hb : f s = .bool (decide p)) (ht : p → vr P r (upd f s (.bool true)) w K) (hf : ¬ p → vr P r (upd f s (.bool false)) w K) : vr P (.split s :: r) f w K :=
 split hb (fun h => ht (of_decide_eq_true h)) (fun h => hf (of_decide_eq_false h))
theorem o_lenR {x : Operand} {u : Value} {n : Nat} {cs : List Value} (h : Rd w u n cs) (hx : ev f x = u) (hv : Value.int .i64 n = v) : PeV (.len x) f v := fun K hk => by
 obtain ⟨a, c, rfl, _⟩ := h.form
 exact o_len hx hv K hk
def At (w : World) (b o sz : Nat) (cs : List Value) (j : Nat) : Prop := ∀ i, i < sz → w.cell? ⟨b, o + i, none⟩ = cs[j * sz + i]?
theorem pe_idxR {x i : Operand} {u : Value} {n sz j : Nat} {cs : List Value} {k : IntKind} {T : Value → Prop} (h : Rd w u n cs) (hl : cs.length = n * sz) (hsz : 0 < sz) (hx : ev f x = u) (hi : ev f i = .int k j) (hj : j < n)
 (hk : ∀ b o, At w b o sz cs j → T (.pointer (some ⟨b, o, none⟩))) : pe (.idx sz x i) f T := by
 obtain ⟨a, c, rfl, h2, h3, h4⟩ := h.form
 show kslice (ev f x) _; rw [hx]; show anyint (ev f i) _; rw [hi]; refine ⟨⟨by omega, by omega⟩, ?_⟩
 cases a with
 | none => have := h4 rfl; omega
 | some a =>
  obtain ⟨b, o, m⟩ := a
  cases m with
  | some m =>
   simp only [Row] at h3
   subst h3
   simp only [List.length_nil] at hl
   rcases Nat.mul_eq_zero.1 hl.symm with h | h <;> omega
  | none =>
   refine hk _ _ fun i hi => ?_
   rw [Int.toNat_natCast]
   have hlt : j * sz + i < cs.length := by
    rw [hl]
    have : (j + 1) * sz ≤ n * sz := Nat.mul_le_mul_right _ hj
    rw [Nat.add_mul] at this; omega
   have := h3 (j * sz + i) hlt
   rw [← this]
   congr 2; omega
theorem v_byteTo {k : IntKind} {b : UInt8} (h : (k == .i8) = false) : Value.int k (k.wrap (b.toNat : Int)) = .int k (b.toNat : Int) := by
 rw [wrap_same]
 have := b.toNat_lt
 cases k <;> simp only [inK] <;> first | omega | simp at h
theorem v_ptr {b o o' : Nat} (h : o = o') : Value.pointer (some ⟨b, o, none⟩) = .pointer (some ⟨b, o', none⟩) := by rw [h]
theorem repC_one (z : Value) (n : Nat) : repC [z] n = List.replicate n z := by
 induction n with
 | zero => rfl
 | succ n ih => rw [repC, ih, List.replicate_succ]; rfl
theorem Mem.addNil {w0 w : World} {S : List Nat} {R : List (List Ent)} (h : Mem w0 S w R) : Mem w0 S w (R ++ [[]]) := ⟨h.upd, by simpa using h.own, by simpa using h.nd, by simpa using h.new⟩
theorem Own.agg {w : World} {en : Ent} (h : Own w en) {o n : Nat} {l : List Value} (hl : (en.cs.drop o).take n = l) (hn : l.length = n) : Row w (some ⟨en.b, o, none⟩) l :=
 h.row fun k hk => by subst hl; rw [List.getElem?_take_of_lt (by omega), List.getElem?_drop]
variable {e : Option Nat} {w0 : World} {S : List Nat} {R : List (List Ent)}
theorem m_call {g : FuncId} {xs : List Operand} {args : List Value} {K0 : Value → World → Prop} (hc : Calls P g args.toArray w (Rt K0)) (ha : xs.map (ev f) = args) (h : ∀ v w', K0 v w' → vr P r (putO f e v) w' K) :
 vr P (.l none e (.call g xs) :: r) f w K := by
 subst ha
 exact hc.mono fun e' w' ⟨v, he, hk⟩ => ⟨v, he, h v w' hk⟩
theorem m_callv {g : FuncId} {x : Operand} {xs : List Operand} {first cap args : List Value} {K0 : Value → World → Prop} (hx : ev f x = .func (.func g) first.toArray cap.toArray) (ho : okFn P g = true) (hc : Calls P g args.toArray w (Rt K0)) (ha : first ++ xs.map (ev f) ++ cap = args) (h : ∀ v w', K0 v w' → vr P r (putO f e v) w' K) :
 vr P (.l none e (.callv x xs) :: r) f w K := by
 subst ha
 show match ev f x with | .func (.func g) first cap => _ | _ => False
 rw [hx]
 refine ⟨ho, ?_⟩
 have : (first.toArray ++ (xs.map (ev f)).toArray ++ cap.toArray) = (first ++ xs.map (ev f) ++ cap).toArray := by simp
 rw [this]
 exact hc.mono fun e' w' ⟨v, he, hk⟩ => ⟨v, he, h v w' hk⟩
theorem m_al {t : TypeId} {cs : List Value} (hM : Mem w0 S w R) (h : ∀ b w', Mem w0 S w' (R ++ [[⟨b, t, cs⟩]]) → vr P r (upd f d (.pointer (some ⟨b, 0, none⟩))) w' K) : vr P (.l none (some d) (.al t cs) :: r) f w K :=
 h _ _ (hM.add (mem_alloc w t cs))
theorem m_bx {t : TypeId} {x : Operand} {cs : List Value} (hM : Mem w0 S w R) (hx : ev f x = v) (hc : v.cells.toList = cs) (h : ∀ b w', Mem w0 S w' (R ++ [[⟨b, t, cs⟩]]) → vr P r (upd f d (.pointer (some ⟨b, 0, none⟩))) w' K) : vr P (.l none (some d) (.bx t x) :: r) f w K := by
 subst hx hc
 exact h _ _ (hM.add (mem_alloc w t _))
theorem m_bs {t : TypeId} {n q : Nat} {z : List Value} {ps : List (Nat × Nat × Operand)} {cs : List Value} (hM : Mem w0 S w R) (hc : fillC z (ps.map fun (o, s, x) => (o, s, ev f x)) = some cs) (h : ∀ b w', Mem w0 S w' (R ++ [[⟨b, t, cs⟩]]) → vr P r (upd f d (.slice (some ⟨b, 0, none⟩) n n)) w' K) :
 vr P (.l none (some d) (.bs t n q z ps) :: r) f w K := by
 show match fillC z (ps.map fun (o, s, x) => (o, s, ev f x)) with | some cs => _ | none => False
 rw [hc]
 exact h _ _ (hM.add (mem_alloc w t cs))
theorem m_mks {t : TypeId} {bytes q : Nat} {z : List Value} {x y : Operand} {k k' : IntKind} {n c : Nat} (hM : Mem w0 S w R) (hx : ev f x = .int k n) (hy : ev f y = .int k' c) (hn : n ≤ c) (hb : bytes * c ≤ 281474976710656) (hc : c < 9223372036854775808)
 (h : ∀ b w', Mem w0 S w' (R ++ [[⟨b, t, repC z c⟩]]) → vr P r (upd f d (.slice (some ⟨b, 0, none⟩) n c)) w' K) : vr P (.l none (some d) (.mks t bytes q z x y) :: r) f w K := by
 show anyint (ev f x) _; rw [hx]; show anyint (ev f y) _; rw [hy]
 refine ⟨⟨by omega, by omega, by omega, ?_⟩, ?_⟩
 ·rw [show (2 : Int) ^ 48 = 281474976710656 from rfl, ← Int.natCast_mul]; exact Int.ofNat_le.2 hb
 simp only [Int.toNat_natCast]; exact h _ _ (hM.add (mem_alloc w t _))
theorem m_st {i o b : Nat} {t : TypeId} {cs : List Value} {a x : Operand} (hM : Mem w0 S w R) (hi : R[i]? = some [⟨b, t, cs⟩]) (ha : ev f a = .pointer (some ⟨b, o, none⟩)) (hx : ev f x = v) (h1 : v.oneCell' = true) (ho : o < cs.length)
 (h : ∀ w', Mem w0 S w' (R.set i [⟨b, t, cs.set o v⟩]) → vr P r f w' K) : vr P (.l none none (.st 1 a x) :: r) f w K := by
 have hown := hM.at hi (j := 0) rfl
 exact st1 ha hx h1 (hown.writable (by simp only; omega)) (h _ (hM.step i hi (mem_stores hown o [v])))
theorem m_stA {i o b n : Nat} {t : TypeId} {cs l : List Value} {a x : Operand} (hM : Mem w0 S w R) (hi : R[i]? = some [⟨b, t, cs⟩]) (ha : ev f a = .pointer (some ⟨b, o, none⟩)) (hx : ev f x = .agg l.toArray) (hl : l.length = n) (h1 : oneCells l) (ho : o + n ≤ cs.length)
 (h : ∀ w', Mem w0 S w' (R.set i [⟨b, t, splice cs o l⟩]) → vr P r f w' K) : vr P (.l none none (.st n a x) :: r) f w K := by
 have hown := hM.at hi (j := 0) rfl
 exact stA ha hx (by simpa using hl) (by simpa using h1) (hown.writable (by simp only; omega)) (by simpa using h _ (hM.step i hi (mem_stores hown o l)))
theorem m_ld {i j o : Nat} {rs : List Ent} {en : Ent} {x : Operand} (hM : Mem w0 S w R) (hi : R[i]? = some rs) (hj : rs[j]? = some en) (hx : ev f x = .pointer (some ⟨en.b, o, none⟩)) (hv : en.cs[o]? = some v) (h : vr P r (upd f d v) w K) : vr P (.l none (some d) (.ld none x) :: r) f w K :=
 ld hx ((hM.at hi hj).cell o ▸ hv) h
theorem m_ldA {i j o n : Nat} {rs : List Ent} {en : Ent} {l : List Value} {x : Operand} (hM : Mem w0 S w R) (hi : R[i]? = some rs) (hj : rs[j]? = some en) (hx : ev f x = .pointer (some ⟨en.b, o, none⟩)) (hl : (en.cs.drop o).take n = l) (hn : l.length = n) (h : vr P r (upd f d (.agg l.toArray)) w K) :
 vr P (.l none (some d) (.ld (some n) x) :: r) f w K :=
 ldA hx hn ((hM.at hi hj).row fun k hk => by subst hl; rw [List.getElem?_take_of_lt (by omega), List.getElem?_drop]) h
abbrev RdE {α : Type} (E : α → Value) (w : World) (v : Value) (l : List α) : Prop := Rd w v l.length (l.map E)
abbrev SlE {α : Type} (E : α → Value) (t : TypeId) (v : Value) (l : List α) (r : List Ent) : Prop := Sl 1 t v l.length (l.map E) r
abbrev RdB (w : World) (v : Value) (l : List UInt8) : Prop := RdE byteV w v l
abbrev SlB (t : TypeId) (v : Value) (l : List UInt8) (r : List Ent) : Prop := SlE byteV t v l r
class One {α : Type} (E : α → Value) : Prop where
 one : ∀ a, (E a).oneCell' = true
def i64V (n : Int) : Value := .int .i64 n
def u64V (n : Int) : Value := .int .u64 n
def u32V (n : Int) : Value := .int .u32 n
def strV (l : List UInt8) : Value := .string (str l)
def boolV (b : Bool) : Value := .bool b
instance : One byteV := ⟨fun _ => rfl⟩
instance : One i64V := ⟨fun _ => rfl⟩
instance : One u64V := ⟨fun _ => rfl⟩
instance : One u32V := ⟨fun _ => rfl⟩
instance : One strV := ⟨fun _ => rfl⟩
instance : One boolV := ⟨fun _ => rfl⟩
theorem one_elems {α : Type} {E : α → Value} [One E] (l : List α) : oneCells (l.map E) := by
 intro c hc; obtain ⟨b, _, rfl⟩ := List.mem_map.1 hc; exact One.one b
theorem SlE.lit {α : Type} {E : α → Value} {t : TypeId} {b : Nat} {cs : List Value} {l : List α} (h : cs = l.map E) : SlE E t (.slice (some ⟨b, 0, none⟩) l.length l.length) l [⟨b, t, cs⟩] :=
 ⟨by simp, .inr ⟨b, l.length, [], rfl, by simp [h], Nat.le_refl _, by simp⟩⟩
theorem own_rdE {α : Type} {E : α → Value} {w : World} {b : Nat} {t : TypeId} {cs : List Value} {l : List α} (h : Own w ⟨b, t, cs⟩) (hc : cs = l.map E) : RdE E w (.slice (some ⟨b, 0, none⟩) l.length l.length) l :=
 ⟨some ⟨b, 0, none⟩, l.length, rfl, Nat.le_refl _, by subst hc; exact h.row fun j hj => by simp, fun h => by cases h⟩
theorem m_app1 {α : Type} {E : α → Value} [One E] {t : TypeId} {bytes : Nat} {z : Value} {x p : Operand} {l : List α} {q : α} {i c : Nat} {rs : List Ent} (hM : Mem w0 S w R) (hi : R[i]? = some rs) (hs : SlE E t v l rs) (hx : ev f x = v) (hxd : x ≠ .tmp d) (hp : ev f p = E q) (hb : (l.length + 1) * bytes ≤ 175921860444160) (hb0 : 0 < bytes ∧ bytes < 65536)
 (h : ∀ v' w' r' u, SlE E t v' (l ++ [q]) r' → Mem w0 S w' (R.set i r') → vr P r (upd (upd f d u) c v') w' K) :
 vr P (.l none (some d) (.bs t 1 1 [z] [(0, 1, p)]) :: .l none (some c) (.app t bytes 1 [z] x (.tmp d)) :: r) f w K :=
 app1 hM hi hs hx hxd hp (One.one q) hb hb0 fun v' w' r' u h1 h2 => h v' w' r' u (by simpa [SlE] using h1) h2
theorem m_appE {α : Type} {E : α → Value} [One E] {t : TypeId} {bytes : Nat} {z : Value} {x y : Operand} {l m : List α} {u : Value} {i c : Nat} {rs : List Ent} (hM : Mem w0 S w R) (hi : R[i]? = some rs) (hs : SlE E t v l rs) (hx : ev f x = v) (hy : ev f y = u) (hu : RdE E w u m) (hb : (l.length + m.length) * bytes ≤ 175921860444160) (hb0 : 0 < bytes ∧ bytes < 65536)
 (h : ∀ v' w' r', SlE E t v' (l ++ m) r' → Mem w0 S w' (R.set i r') → vr P r (upd f c v') w' K) : vr P (.l none (some c) (.app t bytes 1 [z] x y) :: r) f w K :=
 app hM hi hs hx (by rw [hy]; exact hu) (by simp) (one_elems m) rfl hb hb0 fun v' w' r' h1 h2 => h v' w' r' (by simpa [SlE] using h1) h2
theorem m_b2s {x : Operand} {u : Value} {l : List UInt8} (hx : ev f x = u) (h : RdB w u l) (k : vr P r (upd f d (.string (str l))) w K) : vr P (.l none (some d) (.b2s x) :: r) f w K := by
 obtain ⟨a, c, rfl, h2, h3, h4⟩ := h.form
 show kslice (ev f x) _; rw [hx]
 refine ⟨l, ?_, h3, k⟩
 cases a with
 | none => simpa using h4 rfl
 | some a => rfl
theorem m_s2b {t : TypeId} {x : Operand} {l : List UInt8} (hM : Mem w0 S w R) (hx : ev f x = .string (str l)) (h : ∀ v' w' r', SlB t v' l r' → Mem w0 S w' (R ++ [r']) → vr P r (upd f d v') w' K) : vr P (.l none (some d) (.s2b t x) :: r) f w K := by
 show kstr (ev f x) _; rw [hx]
 intro c hc
 rw [str_size] at hc ⊢
 have e0 : (str l).data.toList.map (fun b => Value.int .u8 b.toNat) = l.map byteV := rfl
 rw [e0]
 have hlen : (l.map byteV ++ List.replicate (c - l.length) (Value.int .u8 0)).length = c := by simp; omega
 have hm := mem_s2b w t (l.map byteV ++ List.replicate (c - l.length) (Value.int .u8 0))
 rw [hlen] at hm
 exact h _ _ _ ⟨by simp, .inr ⟨w.heap.size, c, List.replicate (c - l.length) (Value.int .u8 0), rfl, rfl, hc, by simp⟩⟩ (hM.add hm)
theorem At.elem {α : Type} {E : α → Value} {w : World} {b o j : Nat} {l : List α} (z : α) (h : At w b o 1 (l.map E) j) (hj : j < l.length) : w.cell? ⟨b, o, none⟩ = some (E (l.getD j z)) := by
 have := h 0 (by omega)
 simp only [Nat.add_zero, Nat.mul_one] at this
 rw [this, List.getElem?_map, List.getElem?_eq_getElem hj, List.getD_eq_getElem?_getD, List.getElem?_eq_getElem hj]; rfl
theorem m_idxE {α : Type} {E : α → Value} (z : α) {x i : Operand} {u : Value} {l : List α} {j : Nat} {k : IntKind} (h : RdE E w u l) (hx : ev f x = u) (hi : ev f i = .int k j) (hj : j < l.length)
 (hk : ∀ b o, w.cell? ⟨b, o, none⟩ = some (E (l.getD j z)) → vr P r (upd f d (.pointer (some ⟨b, o, none⟩))) w K) : vr P (.p none d (.idx 1 x i) :: r) f w K :=
 pe_idxR (T := fun v => vr P r (upd f d v) w K) h (by simp) (by omega) hx hi hj fun b o ha => hk b o (ha.elem z hj)
def upR {α : Type} (E : α → Value) (l : List α) (r : List Ent) : List Ent := r.map fun e => ⟨e.b, e.t, l.map E ++ e.cs.drop l.length⟩
theorem SlE.cut {α : Type} {E : α → Value} {t : TypeId} {a : Option Addr} {n c : Nat} {l : List α} {r : List Ent} (h : SlE E t (.slice a n c) l r) (k : Nat) (hk : k ≤ l.length) : SlE E t (.slice a k c) (l.take k) r := by
 rcases h.form with ⟨h1, h2, h3⟩ | ⟨b, cap, tail, h1, h2, h3, h4⟩
 ·injection h1 with e1 e2 e3
  subst e1 e3 h3
  have : k = 0 := by omega
  subst this
  exact ⟨by simp, .inl ⟨rfl, by simp, rfl⟩⟩
 injection h1 with e1 e2 e3
 subst e1 e3
 refine ⟨by simp, .inr ⟨b, c, (l.drop k).map E ++ tail, by simp; omega, ?_, by simp; omega, by simp; omega⟩⟩
 rw [h2, ← List.append_assoc, ← List.map_append, List.take_append_drop]
theorem m_set {α : Type} {E : α → Value} [One E] {t : TypeId} {x p y : Operand} {l : List α} {q : α} {i j : Nat} {k : IntKind} {rs : List Ent} (hM : Mem w0 S w R) (hi : R[i]? = some rs) (hs : SlE E t v l rs) (hx : ev f x = v) (hp : ev f p = .int k j) (hj : j < l.length) (hyd : y ≠ .tmp d) (hy : ev f y = E q)
 (h : ∀ w' r' u, r' = upR E (l.set j q) rs → SlE E t v (l.set j q) r' → Mem w0 S w' (R.set i r') → vr P r (upd f d u) w' K) : vr P (.p none d (.idx 1 x p) :: .l none none (.st 1 (.tmp d) y) :: r) f w K := by
 rcases hs.form with ⟨_, h0, _⟩ | ⟨b, cap, tail, rfl, rfl, h1, h2⟩
 ·omega
 refine idx hx hp ⟨by omega, by omega⟩ ?_
 have hown := hM.at hi (j := 0) rfl
 have hev : ev (upd f d (.pointer (some ⟨b, 0 + (j : Int).toNat * 1, none⟩))) y = E q := by
  cases y with
  | tmp a => show upd f d _ a = _; unfold upd; rw [if_neg (fun e => hyd (by rw [e]))]; exact hy
  | _ => exact hy
 have e1 : 0 + (j : Int).toNat * 1 = j := by simp
 refine st1 (by show upd f d _ d = _; unfold upd; rw [if_pos rfl]) hev (One.one q) (hown.writable (by simp; omega)) ?_
 have hM' := hM.step i hi (mem_stores hown (0 + (j : Int).toNat * 1) [E q])
 have e2 : splice (l.map E ++ tail) (0 + (j : Int).toNat * 1) [E q] = (l.set j q).map E ++ tail := by
  simp only [splice, e1]
  rw [List.set_append_left _ _ (by simpa using hj), List.map_set]
 rw [e2] at hM'
 refine h _ _ _ ?_ ⟨by simp, .inr ⟨b, cap, tail, by simp, rfl, by simpa using h1, by simpa using h2⟩⟩ hM'
 unfold upR
 simp only [List.map_cons, List.map_nil]
 rw [List.drop_left' (by simp)]
theorem m_mksE {α : Type} {E : α → Value} {t : TypeId} {bytes q : Nat} {z : α} {z' : Value} {x y : Operand} {k k' : IntKind} {n c : Nat} (hz : z' = E z) (hM : Mem w0 S w R) (hx : ev f x = .int k n) (hy : ev f y = .int k' c) (hn : n ≤ c) (hb : bytes * c ≤ 281474976710656) (hc : c < 9223372036854775808)
 (h : ∀ v' w' r', SlE E t v' (List.replicate n z) r' → Mem w0 S w' (R ++ [r']) → vr P r (upd f d v') w' K) : vr P (.l none (some d) (.mks t bytes q [z'] x y) :: r) f w K := by
 subst hz
 refine m_mks hM hx hy hn hb hc fun b w' hM' => h _ _ _ ⟨by simp, .inr ⟨b, c, List.replicate (c - n) (E z), by simp, ?_, by simpa using hn, by simp⟩⟩ hM'
 rw [repC_one, List.map_replicate, List.replicate_append_replicate, Nat.add_sub_cancel' hn]
theorem Rd.sub {w : World} {a : Option Addr} {n c : Nat} {sz lo hi : Nat} {cs : List Value} (h : Rd w (.slice a n c) n cs) (hl : cs.length = n * sz) (hh : hi ≤ n) (hlo : lo ≤ hi) (hsz : 0 < sz) : Rd w (.slice (cutAt sz a lo c) (hi - lo) (c - lo)) (hi - lo) ((cs.take (hi * sz)).drop (lo * sz)) := by
 obtain ⟨a', c', he, h2, h3, h4⟩ := h.form
 injection he with e1 e2 e3
 subst e1 e3
 have hh2 : hi * sz ≤ n * sz := Nat.mul_le_mul_right _ hh
 refine ⟨_, _, rfl, by omega, ?_, ?_⟩
 ·cases a with
  | none =>
   have := h4 rfl; subst this
   have : cs = [] := by simpa using hl
   subst this
   unfold cutAt; split <;> simp_all [Row]
  | some a =>
   obtain ⟨b, o, m⟩ := a
   cases m with
   | some m =>
    simp only [Row] at h3
    subst h3
    unfold cutAt; simp only; split
    ·simp [Row]
    simp only [List.take_nil, List.drop_nil, Option.map, Addr.add]; split <;> simp [Row]
   | none =>
    unfold cutAt; simp only
    split
    ·intro i hi'
     rename_i hc
     simp at hi'
     have : c = lo := hc
     have e1 : hi = lo := by omega
     subst e1; omega
    intro i hi'
    simp only [List.length_drop, List.length_take] at hi'
    have := h3 (lo * sz + i) (by omega)
    rw [List.getElem?_drop, List.getElem?_take_of_lt (by omega), ← this]
    congr 2
    omega
 intro hn
 cases a with
 | none => have := h4 rfl; omega
 | some a => obtain ⟨b, o, m⟩ := a; unfold cutAt at hn; cases m <;> simp only at hn <;> split at hn <;> simp_all
theorem pe_slcR {w1 : World} {sz n A B : Nat} {x : Operand} {lo hi : Option Operand} {u : Value} {cs : List Value} {T : Value → Prop} (h : Rd w1 u n cs) (hl : cs.length = n * sz) (hsz : 0 < sz) (hx : ev f x = u) (hB : B ≤ n) (hA : A ≤ B)
 (hhi : match hi with | none => B = n | some y => ∃ k, ev f y = .int k B) (hlo : match lo with | none => A = 0 | some y => ∃ k, ev f y = .int k A)
 (hk : ∀ v', Rd w1 v' (B - A) ((cs.take (B * sz)).drop (A * sz)) → T v') : pe (.slc sz x lo hi none) f T := by
 obtain ⟨a, c, rfl, h2, h3, h4⟩ := h.form
 show kslice (ev f x) _; rw [hx]
 show bnd (hi.map (ev f)) n c fun h => bnd (lo.map (ev f)) 0 h fun l => T (.slice (cutAt sz a l c) (h - l) (c - l))
 have key := hk _ (Rd.sub h hl hB hA hsz)
 have k2 : bnd (lo.map (ev f)) 0 B fun l' => T (.slice (cutAt sz a l' c) (B - l') (c - l')) := by
  cases lo with
  | none => simp only at hlo; subst hlo; exact key
  | some y => obtain ⟨k, hy⟩ := hlo; refine bndS hy ⟨by omega, by omega⟩ ?_; rw [Int.toNat_natCast]; exact key
 cases hi with
 | none => simp only at hhi; subst hhi; exact k2
 | some y => obtain ⟨k, hy⟩ := hhi; refine bndS hy ⟨by omega, by omega⟩ ?_; rw [Int.toNat_natCast]; exact k2
theorem m_slcO {α : Type} {E : α → Value} {t : TypeId} {x : Operand} {lo hi : Option Operand} {u : Value} {l : List α} {rs : List Ent} (B : Nat) (h : SlE E t u l rs) (hx : ev f x = u) (hB : B ≤ l.length)
 (hhi : match hi with | none => B = l.length | some y => ∃ k, ev f y = .int k B) (hlo : match lo with | none => True | some y => ∃ k, ev f y = .int k 0)
 (hk : ∀ v', SlE E t v' (l.take B) rs → vr P r (upd f d v') w K) : vr P (.p none d (.slc 1 x lo hi none) :: r) f w K := by
 have hf : ∃ a c, u = .slice a l.length c ∧ l.length ≤ c := by
  rcases h.form with ⟨rfl, h, _⟩ | ⟨b, c, _, rfl, _, h, _⟩
  ·exact ⟨_, 0, by rw [h], by omega⟩
  exact ⟨_, c, rfl, h⟩
 obtain ⟨a, c, rfl, hc⟩ := hf
 have key := hk _ (h.cut B hB)
 show kslice (ev f x) _; rw [hx]
 show bnd (hi.map (ev f)) l.length c fun h => bnd (lo.map (ev f)) 0 h fun l' => vr P r (upd f d (.slice (cutAt 1 a l' c) (h - l') (c - l'))) w K
 have e : cutAt 1 a 0 c = a := by
  cases a with
  | none => simp [cutAt]
  | some a =>
   obtain ⟨b, o, m⟩ := a
   cases m <;> simp [cutAt, Addr.add]
 have k2 : bnd (lo.map (ev f)) 0 B fun l' => vr P r (upd f d (.slice (cutAt 1 a l' c) (B - l') (c - l'))) w K := by
  cases lo with
  | none => show vr P r (upd f d (.slice (cutAt 1 a 0 c) (B - 0) (c - 0))) w K; rw [e]; exact key
  | some y => obtain ⟨k, hy⟩ := hlo; refine bndS hy ⟨by omega, by omega⟩ ?_; show vr P r (upd f d (.slice (cutAt 1 a 0 c) (B - 0) (c - 0))) w K; rw [e]; exact key
 cases hi with
 | none => simp only at hhi; subst hhi; exact k2
 | some y => obtain ⟨k, hy⟩ := hhi; refine bndS hy ⟨by omega, by omega⟩ ?_; rw [Int.toNat_natCast]; exact k2
theorem m_slcE {w1 : World} {α : Type} {E : α → Value} {x : Operand} {lo hi : Option Operand} {u : Value} {l : List α} (A B : Nat) (h : RdE E w1 u l) (hx : ev f x = u) (hB : B ≤ l.length) (hA : A ≤ B)
 (hhi : match hi with | none => B = l.length | some y => ∃ k, ev f y = .int k B) (hlo : match lo with | none => A = 0 | some y => ∃ k, ev f y = .int k A)
 (hk : ∀ v', RdE E w1 v' ((l.take B).drop A) → vr P r (upd f d v') w K) : vr P (.p none d (.slc 1 x lo hi none) :: r) f w K :=
 pe_slcR (T := fun v => vr P r (upd f d v) w K) h (by simp) (by omega) hx hB hA hhi hlo fun v' hv' => hk v' (by
  have : ((l.take B).drop A).length = B - A := by simp; omega
  show Rd w1 v' _ _
  rw [this]; simpa [← List.map_take, ← List.map_drop] using hv')
end
section
variable {P : Program} {hh : Option (List Nat)} {wr : World} {r : List SI} {f : Fr} {w : World} {K : Fr → World → Prop} {d i s : Nat} {o : PO} {v : Value} {b : Bool}
theorem dq (h : PeV o f v) (k : vd P hh wr r (upd f d v) w K) : vd P hh wr (.qp i none d o :: r) f w K := h (fun v => vd P hh wr r (upd f d v) w K) k
theorem dqg (hs : f s = .bool b) (h : PeV o f v) (k : vd P hh wr r (upd f d v) w K) : vd P hh wr (.qp i (some (s, b)) d o :: r) f w K := dgyes rfl hs (dq h k)
theorem dsplitP {p : Prop} [Decidable p] (hb : f s = .bool (decide p)) (ht : p → vd P hh wr r (upd f s (.bool true)) w K) (hf : ¬ p → vd P hh wr r (upd f s (.bool false)) w K) : vd P hh wr (.split s :: r) f w K :=
 dsplit hb (fun h => ht (of_decide_eq_true h)) (fun h => hf (of_decide_eq_false h))
end
section
variable {P : Program} {nt : Nat} {n : Fr → World → Prop} {xs : List (Nat × (Fr → World → Prop))} {rt : Fr → World → Prop} {f : Fr} {w : World}
theorem cndP {p : Prop} [Decidable p] {x : Operand} {a b : MC} (hx : ev f x = .bool (decide p)) (h1 : p → VC P nt a n xs rt f w) (h2 : ¬ p → VC P nt b n xs rt f w) : VC P nt (.cond x a b) n xs rt f w :=
 cnd hx (fun h => h1 (of_decide_eq_true h)) (fun h => h2 (of_decide_eq_false h))
end
end Go.Proofs.YtifnmbmijljhfaaGreat.E
