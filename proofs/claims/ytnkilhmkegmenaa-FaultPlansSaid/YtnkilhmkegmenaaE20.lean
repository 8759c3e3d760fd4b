/- Copy; memory that a call does not touch. -/
import Derived.Test.YtnkilhmkegmenaaE19
namespace Go.Proofs.Ytnkilhmkegmenaa.E
open Go
theorem Mem.far {w0 w w' : World} {R : List (List Ent)} {i : Nat} {r : List Ent} (hM : Mem w0 [] w R) (hi : R[i]? = some r) (u : Upd (ids r) w w') : Upd [] w0 w' := by
  have hu := hM.upd
  refine ⟨u.os.trans hu.os, u.tape.trans hu.tape, u.output.trans hu.output, Nat.le_trans hu.size u.size, fun b hb hn => ?_⟩
  rw [u.block b (Nat.lt_of_lt_of_le hb hu.size) (fun hm => Mem.old hM hi hb hm), hu.block b hb hn]
theorem Rd.cells1 {w : World} {v : Value} {n : Nat} {cs : List Value} (h : Rd w v n cs) : v.cells = #[v] := by
  obtain ⟨a, m, c, rfl⟩ := h.isSlice; rfl
theorem Sl.cells1 {sz n : Nat} {t : TypeId} {v : Value} {cs : List Value} {r : List Ent} (h : Sl sz t v n cs r) : v.cells = #[v] := by
  obtain ⟨a, m, c, rfl⟩ := h.isSlice; rfl
section
variable {P : Program} {r : List MI} {f : Fr} {w w0 : World} {S : List Nat} {R : List (List Ent)} {K : Fr → World → Prop} {d : Nat} {v : Value}
/-- copy onto a slice of the call's own -/
theorem m_cpyE {α : Type} {E : α → Value} [One E] {t : TypeId} {x y : Operand} {l m : List α} {u : Value} {i : Nat} {rs : List Ent} (hM : Mem w0 S w R) (hi : R[i]? = some rs) (hs : SlE E t v l rs) (hx : ev f x = v) (hy : ev f y = u) (hu : RdE E w u m)
    (h : ∀ w' r', SlE E t v (m.take l.length ++ l.drop m.length) r' → Mem w0 S w' (R.set i r') → vr P r (upd f d (.int .i64 ((min m.length l.length : Nat) : Int))) w' K) : vr P (.l none (some d) (.cpy 1 x y) :: r) f w K := by
  obtain ⟨a, c, hu1, h2, h3, h4⟩ := hu.form
  have hsrc : Src w u (min m.length l.length) 1 ((m.take l.length).map E) := by
    rw [hu1]
    refine ⟨?_, ?_⟩
    · rw [List.length_map, List.length_take]
      cases a with
      | none => simp [h4 rfl]
      | some a => simp [Nat.min_comm]
    · cases a with
      | none =>
        have := h4 rfl
        show (m.take l.length).map E = []
        rw [List.length_eq_zero_iff.1 this]; simp
      | some a =>
        obtain ⟨b, o, q⟩ := a
        cases q with
        | some q =>
          simp only [Row] at h3 ⊢
          have hm : m = [] := by simpa using h3
          rw [hm]; simp
        | none =>
          intro j hj
          rw [List.length_map, List.length_take] at hj
          rw [h3 j (by rw [List.length_map]; omega), List.getElem?_map, List.getElem?_map, List.getElem?_take_of_lt (by omega)]
  show kslice (ev f x) _
  rw [hx]
  rcases hs.form with ⟨rfl, h0, rfl⟩ | ⟨b, cap, tail, rfl, rfl, h1, h2'⟩
  · have hl : l = [] := List.length_eq_zero_iff.1 h0
    subst hl
    have key : ∀ y' : Value, y' = u → lenN y' fun k => ∃ new, Src w y' (min k ([] : List α).length) 1 new ∧ vr P r (putO f (some d) (.int .i64 ((min k ([] : List α).length : Nat) : Int))) w K := by
      intro y' e
      rw [e]
      refine hu.lenN ⟨_, hsrc, ?_⟩
      have e9 : m.take ([] : List α).length ++ ([] : List α).drop m.length = [] := by simp
      have hn : SlE E t (.slice none 0 0) (m.take ([] : List α).length ++ ([] : List α).drop m.length) [] := by rw [e9]; exact Sl.nil 1 t
      exact h w [] hn (hM.step i hi (Mem.start (hM.res hi)))
    exact key _ hy
  · have ho := hM.at hi (j := 0) rfl
    have hlen : 0 + ((m.take l.length).map E).length ≤ (l.map E ++ tail).length := by
      rw [List.length_map, List.length_take, List.length_append, List.length_map]; omega
    have fin : vr P r (putO f (some d) (.int .i64 ((min m.length l.length : Nat) : Int))) (World.stores w b 0 ((m.take l.length).map E)) K := by
      have hM':= hM.step i hi (mem_stores ho 0 ((m.take l.length).map E))
      rw [splice_eq _ _ _ hlen] at hM'
      have e : (l.map E ++ tail).take 0 ++ (m.take l.length).map E ++ (l.map E ++ tail).drop (0 + ((m.take l.length).map E).length) = (m.take l.length ++ l.drop m.length).map E ++ tail := by
        rw [List.take_zero, List.nil_append, Nat.zero_add, List.length_map, List.length_take, List.drop_append, List.length_map, List.map_append, List.append_assoc]
        congr 1
        rcases Nat.lt_or_ge m.length l.length with q | q
        · rw [Nat.min_eq_right (by omega), show m.length - l.length = 0 by omega, List.drop_zero, List.map_drop]
        · rw [Nat.min_eq_left (by omega), Nat.sub_self, List.drop_zero, List.drop_eq_nil_of_le (by simp), List.drop_eq_nil_of_le (by omega)]; rfl
      rw [e] at hM'
      have hl9 : (m.take l.length ++ l.drop m.length).length = l.length := by
        rw [List.length_append, List.length_take, List.length_drop]; omega
      refine h _ _ ⟨by simp, .inr ⟨b, cap, tail, by rw [hl9], rfl, by rw [hl9]; exact h1, by rw [hl9]; exact h2'⟩⟩ hM'
    have key : ∀ y' : Value, y' = u → lenN y' fun k => ∃ new, Src w y' (min k l.length) 1 new ∧ (Writable w b 0 new.length ∧ oneCells new ∧ vr P r (putO f (some d) (.int .i64 ((min k l.length : Nat) : Int))) (World.stores w b 0 new) K) := by
      intro y' e
      rw [e]
      refine hu.lenN ⟨_, hsrc, ho.writable hlen, one_elems _, ?_⟩
      exact fin
    exact key _ hy
/-- a cut with a greatest capacity -/
theorem m_slcM {w1 : World} {α : Type} {E : α → Value} {x yl yh ym : Operand} {k1 k2 k3 : IntKind} {u : Value} {l : List α} (A B : Nat) (h : RdE E w1 u l) (hx : ev f x = u) (hB : B ≤ l.length) (hA : A ≤ B)
    (hl : ev f yl = .int k1 A) (hh : ev f yh = .int k2 B) (hm : ev f ym = .int k3 B)
    (hk : ∀ v', RdE E w1 v' ((l.take B).drop A) → vr P r (upd f d v') w K) : vr P (.p none d (.slc 1 x (some yl) (some yh) (some ym)) :: r) f w K := by
  obtain ⟨a, c, rfl, h2, h3, h4⟩ := h.form
  have h' : Rd w1 (.slice a B B) B ((l.map E).take (B * 1)) := by
    refine ⟨a, B, rfl, Nat.le_refl _, ?_, fun e => by have := h4 e; omega⟩
    cases a with
    | none =>
      have : l = [] := List.length_eq_zero_iff.1 (h4 rfl)
      subst this; simp [Row]
    | some a =>
      obtain ⟨b, o, q⟩ := a
      cases q with
      | some q =>
        simp only [Row] at h3 ⊢
        rw [h3]; simp
      | none =>
        intro j hj
        rw [List.length_take, List.length_map] at hj
        rw [h3 j (by rw [List.length_map]; omega), List.getElem?_take_of_lt (by omega)]
  have key := Rd.sub h' (by rw [List.length_take, List.length_map]; omega) (Nat.le_refl B) hA (by omega : 0 < 1)
  show kslice (ev f x) _
  rw [hx]
  show bnd (some (ev f ym)) c c fun m => bnd (some (ev f yh)) l.length m fun hb => bnd (some (ev f yl)) 0 hb fun l' => vr P r (upd f d (.slice (cutAt 1 a l' m) (hb - l') (m - l'))) w K
  refine bndS hm ⟨by omega, by omega⟩ ?_
  rw [Int.toNat_natCast]
  refine bndS hh ⟨by omega, by omega⟩ ?_
  rw [Int.toNat_natCast]
  refine bndS hl ⟨by omega, by omega⟩ ?_
  rw [Int.toNat_natCast]
  refine hk _ ?_
  have e : ((l.take B).drop A).length = B - A := by simp; omega
  show Rd w1 _ _ _
  rw [e]
  simp only [Nat.mul_one] at key
  rw [List.take_take, Nat.min_self, ← List.map_take, ← List.map_drop] at key
  exact key
/-- a constant text's bytes: marked as such -/
theorem m_mark {s e : TypeId} {x : Operand} {b m c : Nat} {t : TypeId} {cs : List Value} {i : Nat} (hM : Mem w0 S w R) (hi : R[i]? = some [⟨b, t, cs⟩]) (hs : P.underlying s = some (.slice e)) (he : P.underlying e = some (.int .u8)) (hx : ev f x = .slice (some ⟨b, 0, none⟩) m c)
    (h : ∀ w', Mem w0 S w' (R.set i [⟨b, t, cs⟩]) → vr P r (upd f d (.slice (some ⟨b, 0, none⟩) m c)) w' K) : vr P (.l none (some d) (.raw (.convert s s x)) :: r) f w K := by
  have ho := hM.at hi (j := 0) rfl
  obtain ⟨lo, hh, hb, h2⟩ := ho
  have hl : b < w.heap.size := (hM.at hi (j := 0) rfl : Own w ⟨b, t, cs⟩).lt
  have hsh : w.shape? b = some (t, cs.length) := by
    unfold World.shape?
    rw [hb]; simp
  have hrun : (execOp (ev f) ⟨none, .convert s s x, 0, "", #[], none⟩).run P w = .ok (.value (.slice (some ⟨b, 0, none⟩) m c)) (w.freeze ⟨b, cs.length, none⟩ 1) := by
    simp [execOp, hx, convert, run_und hs, run_und he, markStringish, hsh]
  have hM' : Mem w (ids [⟨b, t, cs⟩]) (w.freeze ⟨b, cs.length, none⟩ 1) [[⟨b, t, cs⟩]] := by
    have hf : (w.freeze ⟨b, cs.length, none⟩ 1).heap[b]? = some (.cells cs.toArray t (if lo == hh then (cs.length, cs.length + 1) else (min lo cs.length, max hh (cs.length + 1)))) := by
      unfold World.freeze
      rw [if_neg (by decide)]
      simp only [Array.getElem?_modify, hb]
      simp
    refine ⟨⟨rfl, rfl, rfl, ?_, fun k hk hn => ?_⟩, ?_, by simp [ids], by simp [ids]⟩
    · unfold World.freeze; rw [if_neg (by decide)]; simp
    · unfold World.freeze
      rw [if_neg (by decide)]
      simp only [Array.getElem?_modify]
      simp [ids] at hn
      rw [if_neg (fun e => hn e.symm)]
    · intro y hy
      simp only [List.flatten_cons, List.flatten_nil, List.append_nil, List.mem_singleton] at hy
      subst hy
      by_cases q : lo = hh
      · rw [show (lo == hh) = true by simpa using q] at hf
        exact ⟨_, _, hf, .inr (Nat.le_refl _)⟩
      · rw [show (lo == hh) = false by simpa using q] at hf
        refine ⟨_, _, hf, .inr ?_⟩
        rcases h2 with h2 | h2
        · exact absurd h2.symm q
        · simp only at h2; simp only; omega
  exact ⟨_, _, .inl ⟨hrun, h _ (hM.step i hi hM')⟩⟩
/-- the parts of a literal, one cell each -/
def seqP : Nat → List Value → List (Nat × Nat × Value)
  | _, [] => []
  | k, v :: vs => (k, 1, v) :: seqP (k + 1) vs
theorem fill_seq : ∀ (vs p z : List Value), z.length = vs.length → (∀ v ∈ vs, v.cells = #[v]) → fillC (p ++ z) (seqP p.length vs) = some (p ++ vs)
  | [], p, z, hz, _ => by rw [List.length_eq_zero_iff.1 hz]; rfl
  | v :: vs, p, z, hz, hv => by
    cases z with
    | nil => simp at hz
    | cons y z =>
      have e := hv v (by simp)
      rw [seqP, fillC, if_pos ⟨by rw [e]; rfl, by simp⟩, e]
      have e2 : (p ++ y :: z).take p.length ++ (#[v] : Array Value).toList ++ (p ++ y :: z).drop (p.length + 1) = (p ++ [v]) ++ z := by
        rw [List.take_left' rfl, ← List.drop_drop, List.drop_left' rfl]; rfl
      have ih := fill_seq vs (p ++ [v]) z (by simpa using hz) fun u hu => hv u (List.mem_cons_of_mem _ hu)
      rw [List.length_append] at ih
      rw [e2]
      simpa using ih
/-- a literal of many elements: its list under a name of its own -/
theorem m_bsL {α : Type} {E : α → Value} {t : TypeId} {n q : Nat} {z : List Value} {ps : List (Nat × Nat × Operand)} (l : List α) (hM : Mem w0 S w R) (hp : (ps.map fun (o, s, x) => (o, s, ev f x)) = seqP 0 (l.map E)) (hz : z.length = l.length) (hE : ∀ a, (E a).cells = #[E a]) (hn : l.length = n)
    (h : ∀ L v w' r', L = l → SlE E t v L r' → Mem w0 S w' (R ++ [r']) → vr P r (upd f d v) w' K) : vr P (.l none (some d) (.bs t n q z ps) :: r) f w K :=
  m_bs hM (by rw [hp]; exact fill_seq (l.map E) [] z (by rw [List.length_map]; exact hz) fun v hv => by obtain ⟨a, _, rfl⟩ := List.mem_map.1 hv; exact hE a) fun b w' hM' => h l _ w' _ rfl ⟨by simp, .inr ⟨b, n, [], by rw [hn], by rw [List.append_nil]; rfl, by omega, by rw [hn]; simp⟩⟩ hM'
theorem m_markE {α : Type} {E : α → Value} {s e : TypeId} {x : Operand} {t : TypeId} {v : Value} {l : List α} {i : Nat} {rs : List Ent} (hM : Mem w0 S w R) (hi : R[i]? = some rs) (hv : SlE E t v l rs) (hl : 0 < l.length) (hs : P.underlying s = some (.slice e)) (he : P.underlying e = some (.int .u8)) (hx : ev f x = v)
    (h : ∀ w', Mem w0 S w' (R.set i rs) → vr P r (upd f d v) w' K) : vr P (.l none (some d) (.raw (.convert s s x)) :: r) f w K := by
  rcases hv.form with ⟨_, h0, _⟩ | ⟨b, cap, tail, rfl, rfl, _, _⟩
  · omega
  · exact m_mark hM hi hs he hx h
/-- append of a text, the change told -/
theorem m_appTU {t : TypeId} {z : Value} {x y : Operand} {l m : List UInt8} {i c : Nat} {rs : List Ent} (hM : Mem w0 S w R) (hi : R[i]? = some rs) (hs : SlB t v l rs) (hx : ev f x = v) (hy : ev f y = .string (str m)) (hb : l.length + m.length ≤ 175921860444160)
    (h : ∀ v' w' r', SlB t v' (l ++ m) r' → Upd (ids rs) w w' → Mem w0 S w' (R.set i r') → vr P r (upd f c v') w' K) : vr P (.l none (some c) (.app t 1 1 [z] x y) :: r) f w K :=
  m_appS (Mem.start (hM.res hi)) (i := 0) rfl hs hx hy hb fun v' w' r' h1 h2 => h v' w' r' h1 h2.upd (hM.step i hi h2)
end
end Go.Proofs.Ytnkilhmkegmenaa.E
