/- Slices that grow while another name still stands for what they were. -/
import Derived.Test.YtnkilhmkegmenaaE10
namespace Go.Proofs.Ytnkilhmkegmenaa.E
open Go

theorem Mem.perm {w0 w : World} {S : List Nat} {R R' : List (List Ent)} (h : Mem w0 S w R) (hp : R'.flatten.Perm R.flatten) : Mem w0 S w R' :=
  ⟨h.upd, fun e he => h.own e (hp.mem_iff.1 he), ((hp.map _).nodup_iff).2 h.nd, fun e he => h.new e (hp.mem_iff.1 he)⟩
theorem set_perm {R : List (List Ent)} {i : Nat} {r : List Ent} (hi : R[i]? = some r) (a b : List Ent) : (R.set i (a ++ b)).flatten.Perm (R.set i b ++ [a]).flatten := by
  obtain ⟨A2, B2, h1, h2⟩ : ∃ A B, (R.set i (a ++ b)).flatten = A ++ (a ++ b) ++ B ∧ (R.set i b).flatten = A ++ b ++ B := by
    induction R generalizing i with
    | nil => simp at hi
    | cons x R ih =>
      cases i with
      | zero => exact ⟨[], R.flatten, by simp, by simp⟩
      | succ i =>
        simp at hi
        obtain ⟨A, B, h1, h2⟩ := ih hi
        exact ⟨x ++ A, B, by simp [h1], by simp [h2]⟩
  rw [h1, List.flatten_append, h2]
  simp only [List.flatten_cons, List.flatten_nil, List.append_nil]
  have h3 : (A2 ++ (a ++ b) ++ B2).Perm (a ++ (A2 ++ b ++ B2)) := by
    rw [List.append_assoc, List.append_assoc]
    refine List.Perm.trans (List.perm_append_comm_assoc _ _ _) ?_
    simp
  exact h3.trans List.perm_append_comm
theorem Mem.split {w0 w : World} {S : List Nat} {R : List (List Ent)} {i : Nat} {a b : List Ent} (h : Mem w0 S w R) (hi : R[i]? = some (a ++ b)) : Mem w0 S w (R.set i b ++ [a]) := by
  have e : R.set i (a ++ b) = R := by
    apply List.ext_getElem?; intro j; rw [List.getElem?_set]
    split
    · rename_i hj; subst hj
      rw [hi]
      split
      · rfl
      · rename_i hn; rw [List.getElem?_eq_none (by omega)] at hi; cases hi
    · rfl
  refine h.perm ?_
  have := (set_perm hi a b).symm
  rwa [e] at this
theorem Mem.join {w0 w : World} {S : List Nat} {R : List (List Ent)} {i : Nat} {r a b : List Ent} (hi : R[i]? = some r) (h : Mem w0 S w (R.set i b ++ [a])) : Mem w0 S w (R.set i (a ++ b)) :=
  h.perm (set_perm hi a b)

/-- x has grown from a: a's elements are p, behind them stand l; both names still stand. -/
def Gr {α : Type} (E : α → Value) (t : TypeId) (a x : Value) (p l : List α) (r : List Ent) : Prop :=
  (∃ b cap tail, a = .slice (some ⟨b, 0, none⟩) p.length cap ∧ x = .slice (some ⟨b, 0, none⟩) (p ++ l).length cap ∧ r = [⟨b, t, (p ++ l).map E ++ tail⟩] ∧ (p ++ l).length ≤ cap ∧ tail.length = cap - (p ++ l).length) ∨
  ∃ rx ra, r = rx ++ ra ∧ SlE E t x (p ++ l) rx ∧ SlE E t a p ra
theorem Gr.zero {α : Type} {E : α → Value} {t : TypeId} {a : Value} {p : List α} {r : List Ent} (h : SlE E t a p r) : Gr E t a a p [] r := by
  rcases h.form with ⟨h1, h2, h3⟩ | ⟨b, cap, tail, h1, h2, h3, h4⟩
  · subst h3
    exact .inr ⟨[], [], rfl, by simpa using h, h⟩
  · exact .inl ⟨b, cap, tail, h1, by simpa using h1, by simpa using h2, by simpa using h3, by simpa using h4⟩
theorem Gr.rdx {α : Type} {E : α → Value} {t : TypeId} {a x : Value} {p l : List α} {r : List Ent} {w0 w : World} {S : List Nat} {R : List (List Ent)} {i : Nat} (h : Gr E t a x p l r) (hM : Mem w0 S w R) (hi : R[i]? = some r) : RdE E w x (p ++ l) := by
  rcases h with ⟨b, cap, tail, h1, h2, h3, h4, h5⟩ | ⟨rx, ra, rfl, h1, h2⟩
  · have hs : SlE E t x (p ++ l) r := ⟨by simp, .inr ⟨b, cap, tail, h2, h3, h4, by omega⟩⟩
    exact hs.rd hM hi
  · have hil : i < R.length := by
      rcases Nat.lt_or_ge i R.length with h | h
      · exact h
      · rw [List.getElem?_eq_none h] at hi; cases hi
    exact h1.rd (hM.split hi) (i := R.length) (by rw [List.getElem?_append_right (by simp)]; simp)
theorem Gr.rda {α : Type} {E : α → Value} {t : TypeId} {a x : Value} {p l : List α} {r : List Ent} {w0 w : World} {S : List Nat} {R : List (List Ent)} {i : Nat} (h : Gr E t a x p l r) (hM : Mem w0 S w R) (hi : R[i]? = some r) : RdE E w a p := by
  have hil : i < R.length := by
    rcases Nat.lt_or_ge i R.length with h | h
    · exact h
    · rw [List.getElem?_eq_none h] at hi; cases hi
  rcases h with ⟨b, cap, tail, h1, h2, h3, h4, h5⟩ | ⟨rx, ra, rfl, h1, h2⟩
  · have hs : SlE E t a p r := ⟨by simp, .inr ⟨b, cap, l.map E ++ tail, h1, by rw [h3]; simp, by simp at h4; omega, by simp at h5 h4 ⊢; omega⟩⟩
    exact hs.rd hM hi
  · exact h2.rd (hM.split hi) (i := i) (by rw [List.getElem?_append_left (by simpa using hil)]; simp [hil])
theorem Gr.slice {α : Type} {E : α → Value} {t : TypeId} {a x : Value} {p l : List α} {r : List Ent} (h : Gr E t a x p l r) : ∃ ad c, x = .slice ad (p ++ l).length c := by
  rcases h with ⟨b, cap, tail, h1, h2, h3, h4, h5⟩ | ⟨rx, ra, rfl, h1, h2⟩
  · exact ⟨_, _, h2⟩
  · rcases h1.form with ⟨h, h0, _⟩ | ⟨b, cap, tail, h, _⟩
    · exact ⟨none, 0, by rw [h, h0]⟩
    · exact ⟨_, _, h⟩
theorem grow_gr {α : Type} {E : α → Value} [One E] {w0 w : World} {S : List Nat} {R : List (List Ent)} {i n bytes : Nat} {t : TypeId} {z a : Value} {p l m : List α} {ad : Option Addr} {c : Nat} {r : List Ent} {K : Value → World → Prop} (hM : Mem w0 S w R) (hi : R[i]? = some r)
    (hg : Gr E t a (.slice ad n c) p l r) (hb : (n + m.length) * bytes ≤ 175921860444160) (hb0 : 0 < bytes ∧ bytes < 65536)
    (hK : ∀ v' w' r', Gr E t a v' p (l ++ m) r' → Mem w0 S w' (R.set i r') → K v' w') : growVC w t bytes 1 [z] ad n c m.length (m.map E) K := by
  have hil : i < R.length := by
    rcases Nat.lt_or_ge i R.length with h | h
    · exact h
    · rw [List.getElem?_eq_none h] at hi; cases hi
  rcases hg with ⟨b, cap, tail, h1, h2, h3, h4, h5⟩ | ⟨rx, ra, rfl, h1, h2⟩
  · injection h2 with e1 e2 e3
    subst e1 e2 e3 h3
    have hs : SlE E t (.slice (some ⟨b, 0, none⟩) (p ++ l).length c) (p ++ l) [⟨b, t, (p ++ l).map E ++ tail⟩] := ⟨by simp, .inr ⟨b, c, tail, rfl, rfl, h4, by omega⟩⟩
    have key := @grow_sl w0 w S R i (p ++ l).length m.length bytes 1 t [z] ((p ++ l).map E) (m.map E) (some ⟨b, 0, none⟩) c _ (fun v' w' => K v' w') hM hi hs (by simp) (one_elems m) rfl hb hb0
    constructor
    · intro hc
      have ho := hM.at hi (j := 0) rfl
      have hlen : 0 + (p ++ l).length * 1 + (m.map E).length ≤ ((p ++ l).map E ++ tail).length := by simp at hc h5 h4 ⊢; omega
      refine ⟨ho.writable hlen, one_elems m, ?_⟩
      have hM' := hM.step i hi (mem_stores ho (0 + (p ++ l).length * 1) (m.map E))
      rw [splice_eq _ _ _ hlen] at hM'
      have e1 : ((p ++ l).map E ++ tail).take (0 + (p ++ l).length * 1) = (p ++ l).map E := by rw [Nat.zero_add, Nat.mul_one, List.take_left']; simp
      have e2 : ((p ++ l).map E ++ tail).drop (0 + (p ++ l).length * 1 + (m.map E).length) = tail.drop m.length := by
        rw [Nat.zero_add, Nat.mul_one, ← List.drop_drop, List.drop_left' (by simp)]; simp
      rw [e1, e2] at hM'
      refine hK _ _ _ (.inl ⟨b, c, tail.drop m.length, h1, ?_, ?_, ?_, ?_⟩) hM'
      · simp; omega
      · simp
      · simp at hc ⊢; omega
      · simp at hc h5 ⊢; omega
    · intro hc
      refine ⟨fits hc hb hb0, fun h => by omega, (p ++ l).map E, (hs.rd hM hi).src (by simp), fun c' hc' => ?_⟩
      have hl := hM.add (mem_allocDrew w t ((p ++ l).map E ++ m.map E ++ repC [z] (c' - ((p ++ l).length + m.length))))
      have hR : R.set i [⟨b, t, (p ++ l).map E ++ tail⟩] = R := by
        apply List.ext_getElem?; intro j; rw [List.getElem?_set]
        split
        · rename_i hj; subst hj; first | exact hi.symm | (rw [if_pos hil]; exact hi.symm)
        · rfl
      have hl' := (congrArg (fun Q => Mem w0 S (allocW (drewW w) t ((p ++ l).map E ++ m.map E ++ repC [z] (c' - ((p ++ l).length + m.length)))) (Q ++ [[⟨w.heap.size, t, (p ++ l).map E ++ m.map E ++ repC [z] (c' - ((p ++ l).length + m.length))⟩]])) hR).mpr hl
      refine hK _ _ _ (.inr ⟨_, _, rfl, ?_, ?_⟩) (hl'.join hi)
      · refine ⟨by simp, .inr ⟨w.heap.size, c', repC [z] (c' - ((p ++ l).length + m.length)), ?_, ?_, ?_, ?_⟩⟩
        · simp; omega
        · simp
        · simp at hc' ⊢; omega
        · rw [repC_length]; simp; omega
      · exact ⟨by simp, .inr ⟨b, c, l.map E ++ tail, h1, by simp, by simp at h4; omega, by simp at h5 h4 ⊢; omega⟩⟩
  · have h3 := hM.split hi
    have hn : n = (p ++ l).length := by
      obtain ⟨_, _, h⟩ := (Gr.slice (.inr ⟨rx, ra, rfl, h1, h2⟩) : ∃ ad' c', Value.slice ad n c = .slice ad' (p ++ l).length c')
      exact (Value.slice.inj h).2.1
    subst hn
    refine grow_sl (i := R.length) h3 (by rw [List.getElem?_append_right (by simp)]; simp) h1 (by simp) (one_elems m) rfl hb hb0 fun v' w' r' hs hm => ?_
    refine hK v' w' (r' ++ ra) (.inr ⟨r', ra, rfl, by simpa [SlE, Nat.add_assoc] using hs, h2⟩) (Mem.join hi ?_)
    rw [List.set_append_right _ _ (by simp)] at hm
    simpa using hm
section
variable {P : Program} {r : List MI} {f : Fr} {w : World} {K : Fr → World → Prop} {d : Nat} {v : Value}
theorem m_grow1 {α : Type} {E : α → Value} [One E] {w0 : World} {S : List Nat} {R : List (List Ent)} {t : TypeId} {bytes : Nat} {z a : Value} {x y : Operand} {p l : List α} {q : α} {i c : Nat} {rs : List Ent} (hM : Mem w0 S w R) (hi : R[i]? = some rs) (hg : Gr E t a v p l rs) (hx : ev f x = v) (hxd : x ≠ .tmp d) (hp : ev f y = E q)
    (hb : (p.length + l.length + 1) * bytes ≤ 175921860444160) (hb0 : 0 < bytes ∧ bytes < 65536)
    (h : ∀ v' w' r' u, Gr E t a v' p (l ++ [q]) r' → Mem w0 S w' (R.set i r') → vr P r (upd (upd f d u) c v') w' K) :
    vr P (.l none (some d) (.bs t 1 1 [z] [(0, 1, y)]) :: .l none (some c) (.app t bytes 1 [z] x (.tmp d)) :: r) f w K := by
  have hc : (E q).cells = #[E q] := by have := One.one (E := E) q; cases hq : E q <;> first | rfl | (rw [hq] at this; simp [Value.oneCell'] at this)
  refine m_bs (cs := [E q]) hM (by rw [show ([(0, 1, y)].map fun (o, s, x) => (o, s, ev f x)) = [(0, 1, E q)] by simp [hp]]; simp [fillC, hc]) fun b w' hM' => ?_
  have hil : i < R.length := by
    rcases Nat.lt_or_ge i R.length with h | h
    · exact h
    · rw [List.getElem?_eq_none h] at hi; cases hi
  have hi' : (R ++ [[⟨b, t, [E q]⟩]])[i]? = some rs := by rw [List.getElem?_append_left hil]; exact hi
  obtain ⟨ad, cp, hv⟩ := hg.slice
  have hev : ev (upd f d (.slice (some ⟨b, 0, none⟩) 1 1)) x = v := by
    cases x with
    | tmp s => show upd f d _ s = v; unfold upd; rw [if_neg (fun e => hxd (by rw [e]))]; exact hx
    | _ => exact hx
  have hd : ev (upd f d (.slice (some ⟨b, 0, none⟩) 1 1)) (.tmp d) = .slice (some ⟨b, 0, none⟩) 1 1 := by show upd f d _ d = _; unfold upd; rw [if_pos rfl]
  have hrd : Rd w' (.slice (some ⟨b, 0, none⟩) 1 1) 1 [E q] := by
    have ho := hM'.own ⟨b, t, [E q]⟩ (by simp)
    exact ⟨_, 1, rfl, Nat.le_refl _, ho.row (l := [E q]) fun j hj => by simp, fun h => by cases h⟩
  subst hv
  show kslice (ev _ x) _
  rw [hev]
  have key : lenN (ev (upd f d (.slice (some ⟨b, 0, none⟩) 1 1)) (.tmp d)) fun k => ∃ new, Src w' (ev (upd f d (.slice (some ⟨b, 0, none⟩) 1 1)) (.tmp d)) k 1 new ∧ growVC w' t bytes 1 [z] ad (p ++ l).length cp k new (fun v w' => vr P r (putO (upd f d (.slice (some ⟨b, 0, none⟩) 1 1)) (some c) v) w' K) := by
    rw [hd]
    refine hrd.lenN ⟨[E q], hrd.src (by simp), ?_⟩
    have := grow_gr (z := z) (m := [q]) (bytes := bytes) (K := fun v w' => vr P r (putO (upd f d (.slice (some ⟨b, 0, none⟩) 1 1)) (some c) v) w' K) hM' hi' hg (by simpa [Nat.add_assoc] using hb) hb0 fun v' w2 r' hg' hm => h v' w2 r' _ hg' (by
      rw [List.set_append_left _ _ hil] at hm
      exact hm.keep (by simp))
    simpa using this
  exact key
end
/-- What a call was lent is not known any more. -/
theorem Mem.lent {w0 w w' : World} {S T : List Nat} {R R' : List (List Ent)} (h : Mem w0 S w R) (hs : R'.flatten.Sublist R.flatten) (hT : ∀ b ∈ T, b ∈ ids R.flatten) (hd : ∀ e ∈ R'.flatten, e.b ∉ T) (hu : Upd T w w') : Mem w0 S w' R' := by
  have h1 := h.keep hs
  refine ⟨⟨hu.os.trans h.upd.os, hu.tape.trans h.upd.tape, hu.output.trans h.upd.output, Nat.le_trans h.upd.size hu.size, fun b hb hn => ?_⟩, fun e he => (h1.own e he).upd hu (hd e he), h1.nd, h1.new⟩
  rw [hu.block b (Nat.lt_of_lt_of_le hb h.upd.size) fun hm => ?_, h.upd.block b hb hn]
  obtain ⟨e, he, rfl⟩ := List.mem_map.1 (hT b hm)
  rcases h.new e he with h2 | h2
  · exact hn h2
  · omega
/-- Two of the slots were lent. -/
theorem Mem.lent2 {w0 w w' : World} {S : List Nat} {a b : List Ent} {R : List (List Ent)} (h : Mem w0 S w (a :: b :: R)) (hu : Upd (ids (a ++ b)) w w') : Mem w0 S w' R := by
  have hnd := h.nd
  simp only [List.flatten_cons, ids, List.map_append, ← List.append_assoc] at hnd
  refine h.lent (R' := R) (by simp) (fun c hc => by simp only [List.flatten_cons, ids, List.map_append, List.mem_append] at hc ⊢; rcases hc with h | h <;> simp [h]) (fun e he hm => ?_) hu
  rw [List.nodup_append] at hnd
  exact hnd.2.2 e.b (by simpa [ids] using hm) e.b (List.mem_map.2 ⟨e, he, rfl⟩) rfl
theorem set_same {R : List (List Ent)} {i : Nat} {r : List Ent} (hi : R[i]? = some r) : R.set i r = R := by
  have hil : i < R.length := by
    rcases Nat.lt_or_ge i R.length with h | h
    · exact h
    · rw [List.getElem?_eq_none h] at hi; cases hi
  apply List.ext_getElem?; intro j; rw [List.getElem?_set]
  split
  · rename_i hj; subst hj; first | exact hi.symm | (rw [if_pos hil]; exact hi.symm)
  · rfl
theorem Mem.lentAt {w0 w w' : World} {S : List Nat} {a b : List Ent} {R : List (List Ent)} (h : Mem w0 S w R) (i j : Nat) (hi : R[i]? = some a) (hj : R[j]? = some b) (hij : i ≠ j) (hu : Upd (ids (a ++ b)) w w') : Mem w0 S w' ((R.set i []).set j []) := by
  have hj' : (R.set i [])[j]? = some b := by rw [List.getElem?_set, if_neg hij]; exact hj
  have p1 := set_perm hi a []
  rw [List.append_nil, set_same hi] at p1
  have p2 := set_perm hj' a b
  rw [set_same hj'] at p2
  have h2 := h.perm (p2.trans p1.symm)
  have hil : j < R.length := by
    rcases Nat.lt_or_ge j R.length with h | h
    · exact h
    · rw [List.getElem?_eq_none h] at hj; cases hj
  have h3 := h2.step j (r := a ++ b) (r' := []) (by rw [List.getElem?_set, if_pos rfl]; simp [hil]) ⟨hu, by simp, by simp [ids], by simp⟩
  simpa using h3
theorem Mem.res2 {w0 w : World} {S : List Nat} {a b : List Ent} {R : List (List Ent)} (h : Mem w0 S w R) (i j : Nat) (hi : R[i]? = some a) (hj : R[j]? = some b) (hij : i ≠ j) : Res w (a ++ b) := by
  have hj' : (R.set i [])[j]? = some b := by rw [List.getElem?_set, if_neg hij]; exact hj
  have p1 := set_perm hi a []
  rw [List.append_nil, set_same hi] at p1
  have p2 := set_perm hj' a b
  rw [set_same hj'] at p2
  have h2 := h.perm (p2.trans p1.symm)
  have hil : j < R.length := by
    rcases Nat.lt_or_ge j R.length with h | h
    · exact h
    · rw [List.getElem?_eq_none h] at hj; cases hj
  exact h2.res (i := j) (by rw [List.getElem?_set, if_pos rfl]; simp [hil])
end Go.Proofs.Ytnkilhmkegmenaa.E
