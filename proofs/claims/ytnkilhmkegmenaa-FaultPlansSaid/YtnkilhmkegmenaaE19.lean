/- Slices whose elements have memory of their own. -/
import Derived.Test.YtnkilhmkegmenaaE17
namespace Go.Proofs.Ytnkilhmkegmenaa.E
open Go
theorem Sl.rdOwn {w : World} {sz n : Nat} {t : TypeId} {v : Value} {cs : List Value} {r : List Ent} (h : Sl sz t v n cs r) (ho : ∀ e ∈ r, Own w e) : Rd w v n cs := by
  rcases h.form with ⟨rfl, rfl, rfl⟩ | ⟨b, cap, tail, rfl, rfl, h1, h2⟩
  · have := h.len
    simp at this
    subst this
    exact ⟨none, 0, rfl, Nat.le_refl _, rfl, fun _ => rfl⟩
  · have ho := ho _ (List.mem_singleton.2 rfl)
    refine ⟨_, cap, rfl, h1, ho.row (l := cs) fun j hj => ?_, fun h => by cases h⟩
    simp [List.getElem?_append_left hj]
theorem Mem.owned {w0 w : World} {S : List Nat} {R : List (List Ent)} {i : Nat} {r : List Ent} (h : Mem w0 S w R) (hi : R[i]? = some r) : ∀ e ∈ r, Own w e := (h.res hi).1
theorem Mem.add2 {w0 w w' : World} {S : List Nat} {R : List (List Ent)} {a b : List Ent} (h : Mem w0 S w R) (l : Mem w [] w' [a, b]) : Mem w0 S w' (R ++ [a, b]) :=
  (h.add (r' := a ++ b) (l.perm (by simp))).perm (by simp)
theorem Mem.add3 {w0 w w' : World} {S : List Nat} {R : List (List Ent)} {a b c : List Ent} (h : Mem w0 S w R) (l : Mem w [] w' [a, b, c]) : Mem w0 S w' (R ++ [a, b, c]) :=
  (h.add (r' := a ++ (b ++ c)) (l.perm (by simp))).perm (by simp)
/-- The parts of a list have blocks of their own; what is left over counts for nothing. -/
def Nst {β : Type} (Q : β → List Ent → Prop) : List β → List Ent → Prop
  | [], _ => True
  | p :: ps, r => ∃ a b, r.Perm (a ++ b) ∧ Q p a ∧ Nst Q ps b
section
variable {β : Type} {Q Q' : β → List Ent → Prop}
theorem Nst.nil {r : List Ent} : Nst Q [] r := trivial
theorem Nst.perm : ∀ {ps : List β} {r r' : List Ent}, Nst Q ps r → r'.Perm r → Nst Q ps r'
  | [], _, _, _, _ => trivial
  | _ :: _, _, _, ⟨a, b, h1, h2, h3⟩, hp => ⟨a, b, hp.trans h1, h2, h3⟩
theorem Nst.more : ∀ {ps : List β} {r : List Ent} (x : List Ent), Nst Q ps r → Nst Q ps (r ++ x)
  | [], _, _, _ => trivial
  | _ :: _, r, x, ⟨a, b, h1, h2, h3⟩ => ⟨a, b ++ x, by rw [← List.append_assoc]; exact h1.append_right x, h2, h3.more x⟩
theorem Nst.app : ∀ {ps : List β} {r : List Ent} {p : β} {a : List Ent}, Nst Q ps r → Q p a → Nst Q (ps ++ [p]) (r ++ a)
  | [], r, p, a, _, hp => ⟨a, r, List.perm_append_comm, hp, trivial⟩
  | _ :: _, r, p, x, ⟨a, b, h1, h2, h3⟩, hp => ⟨a, b ++ x, by rw [← List.append_assoc]; exact h1.append_right x, h2, h3.app hp⟩
theorem Nst.mono : ∀ {ps : List β} {r : List Ent}, Nst Q ps r → (∀ p a, Q p a → Q' p a) → Nst Q' ps r
  | [], _, _, _ => trivial
  | _ :: _, _, ⟨a, b, h1, h2, h3⟩, hq => ⟨a, b, h1, hq _ _ h2, h3.mono hq⟩
theorem Nst.permL : ∀ {ps qs : List β}, ps.Perm qs → ∀ {r : List Ent}, Nst Q ps r → Nst Q qs r := by
  intro ps qs hp
  induction hp with
  | nil => intro r _; trivial
  | cons x _ ih => intro r h; obtain ⟨a, b, h1, h2, h3⟩ := h; exact ⟨a, b, h1, h2, ih h3⟩
  | swap x y l =>
    intro r h
    obtain ⟨a, b, h1, h2, c, d, h3, h4, h5⟩ := h
    refine ⟨c, a ++ d, ?_, h4, a, d, List.Perm.refl _, h2, h5⟩
    refine h1.trans ((h3.append_left a).trans ?_)
    rw [← List.append_assoc, ← List.append_assoc]
    exact (List.perm_append_comm).append_right d
  | trans _ _ ih1 ih2 => intro r h; exact ih2 (ih1 h)
/-- one part by itself -/
theorem Nst.get : ∀ {ps : List β} {r : List Ent}, Nst Q ps r → ∀ p ∈ ps, ∃ a, (∀ e ∈ a, e ∈ r) ∧ Q p a
  | [], _, _, p, hp => by cases hp
  | x :: ps, r, ⟨a, b, h1, h2, h3⟩, p, hp => by
    rcases List.mem_cons.1 hp with rfl | hp
    · exact ⟨a, fun e he => h1.symm.subset (List.mem_append_left _ he), h2⟩
    · obtain ⟨c, hc, hq⟩ := h3.get p hp
      exact ⟨c, fun e he => h1.symm.subset (List.mem_append_right _ (hc e he)), hq⟩
/-- a part taken out, and put back -/
theorem Nst.open (z : β) : ∀ {ps : List β} {r : List Ent} {i : Nat}, Nst Q ps r → i < ps.length → ∃ a b, r.Perm (a ++ b) ∧ Q (ps.getD i z) a ∧ ∀ p c, Q p c → Nst Q (ps.set i p) (c ++ b)
  | [], _, _, _, hi => by simp at hi
  | x :: ps, r, 0, ⟨a, b, h1, h2, h3⟩, _ => ⟨a, b, h1, h2, fun p c hc => ⟨c, b, List.Perm.refl _, hc, h3⟩⟩
  | x :: ps, r, i + 1, ⟨a, b, h1, h2, h3⟩, hi => by
    obtain ⟨c, d, k1, k2, k3⟩ := h3.open z (i := i) (by simpa using hi)
    refine ⟨c, a ++ d, h1.trans ((k1.append_left a).trans ?_), by simpa using k2, fun p e he => ?_⟩
    · rw [← List.append_assoc, ← List.append_assoc]; exact (List.perm_append_comm).append_right d
    · refine ⟨a, e ++ d, ?_, h2, k3 p e he⟩
      rw [← List.append_assoc, ← List.append_assoc]; exact (List.perm_append_comm).append_right d
theorem Nst.drop : ∀ {ps : List β} {r : List Ent} {p : β} {i : Nat}, Nst Q ps r → Q p [] → Nst Q (ps.set i p) r
  | [], _, _, _, _, _ => trivial
  | x :: ps, r, p, 0, ⟨a, b, h1, h2, h3⟩, hp => ⟨[], r, List.Perm.refl _, hp, (h3.more a).perm (h1.trans List.perm_append_comm)⟩
  | x :: ps, r, p, i + 1, ⟨a, b, h1, h2, h3⟩, hp => ⟨a, b, h1, h2, h3.drop hp⟩
theorem Nst.take : ∀ {ps : List β} {r : List Ent} (k : Nat), Nst Q ps r → Nst Q (ps.take k) r
  | [], _, _, _ => by simp [Nst]
  | x :: ps, r, 0, _ => by simp [Nst]
  | x :: ps, r, k + 1, ⟨a, b, h1, h2, h3⟩ => ⟨a, b, h1, h2, h3.take k⟩
end
/-- a part is a slice of elements of one cell -/
def OwnP {α β : Type} (E : α → Value) (t : TypeId) (fv : β → Value) (fl : β → List α) : β → List Ent → Prop := fun p a => SlE E t (fv p) (fl p) a
theorem Nst.rdE {α β : Type} {E : α → Value} {t : TypeId} {fv : β → Value} {fl : β → List α} {ps : List β} {r : List Ent} {w0 w : World} {S : List Nat} {R : List (List Ent)} {i : Nat} (h : Nst (OwnP E t fv fl) ps r) (hM : Mem w0 S w R) (hi : R[i]? = some r) : ∀ p ∈ ps, RdE E w (fv p) (fl p) := fun p hp => by
  obtain ⟨a, ha, hq⟩ := h.get p hp
  exact Sl.rdOwn hq fun e he => hM.owned hi e (ha e he)
section
variable {α : Type} {enc : α → List Value} {sz : Nat} [Enc enc sz]
theorem Rd.blkV_ltS {α : Type} {enc : α → List Value} {sz : Nat} [Enc enc sz] {w : World} {v : Value} {l : List α} (h : RdS enc w v l) (hl : 0 < l.length) : blkV v < w.heap.size := by
  obtain ⟨a, c, rfl, h2, h3, h4⟩ := h.form
  have hp := Enc.pos (enc := enc)
  have hL : 0 < (l.flatMap enc).length := by rw [fm_length]; exact Nat.mul_pos hl hp
  cases a with
  | none => have := h4 rfl; omega
  | some a =>
    obtain ⟨b, o, m⟩ := a
    cases m with
    | some m => simp only [Row] at h3; rw [h3] at hL; simp at hL
    | none =>
      have h5 := h3 0 hL
      rw [List.getElem?_eq_getElem hL] at h5
      exact World.block_lt_of_cell? w ⟨b, o + 0, none⟩ h5
theorem m_idxS3 (z : α) {P : Program} {r : List MI} {f : Fr} {w wr : World} {K : Fr → World → Prop} {d : Nat} {x i : Operand} {u : Value} {l : List α} {j : Nat} {k : IntKind} (h : RdS enc w u l) (h0 : RdS enc wr u l) (hx : ev f x = u) (hi : ev f i = .int k j) (hj : j < l.length)
    (hk : ∀ b o, Cells wr b o (enc (l.getD j z)) → b = blkV u → vr P r (upd f d (.pointer (some ⟨b, o, none⟩))) w K) : vr P (.p none d (.idx sz x i) :: r) f w K := by
  show pe (.idx sz x i) f (fun v => vr P r (upd f d v) w K)
  have hp := Enc.pos (enc := enc)
  have hfl := fm_length (enc := enc) l
  obtain ⟨a, c, rfl, h2, h3, h4⟩ := h.form
  obtain ⟨a0, c0, e, h20, h30, h40⟩ := h0.form
  cases e
  show kslice (ev f x) _; rw [hx]; show anyint (ev f i) _; rw [hi]; refine ⟨⟨by omega, by omega⟩, ?_⟩
  cases a with
  | none => have := h4 rfl; omega
  | some a =>
    obtain ⟨b, o, m⟩ := a
    cases m with
    | some m =>
      simp only [Row] at h3
      rw [h3, List.length_nil] at hfl
      have := Nat.mul_pos (show 0 < l.length by omega) hp; omega
    | none =>
      refine hk _ _ (fun q hq => ?_) rfl
      rw [Enc.len (enc := enc)] at hq
      have hle : j * sz + sz ≤ l.length * sz := by
        have := Nat.mul_le_mul_right sz hj
        rwa [Nat.succ_mul] at this
      have h5 := h30 (j * sz + q) (by rw [hfl]; omega)
      rw [Int.toNat_natCast, ← fm_get z hj hq, ← h5]
      congr 2; omega
end
theorem SlS.blk_apart {α : Type} {enc : α → List Value} {sz : Nat} {t : TypeId} {v : Value} {l : List α} {r rk : List Ent} {w0 w : World} {S : List Nat} {R : List (List Ent)} {i k : Nat} (h : SlS enc sz t v l r) (hM : Mem w0 S w R) (hi : R[i]? = some r) (hk : R[k]? = some rk) (hn : i ≠ k) (hl : 0 < l.length) : blkV v ∉ ids rk := by
  rcases h.form with ⟨_, h, _⟩ | ⟨b, c, tl, h, h2, _, _⟩
  · omega
  · subst h h2
    exact hM.apart (i := i) (j := 0) (k := k) hi rfl hk hn
theorem m_appSU {α : Type} {enc : α → List Value} {sz : Nat} [Enc enc sz] {P : Program} {r : List MI} {f : Fr} {w w0 : World} {K : Fr → World → Prop} {v : Value} {S : List Nat} {R : List (List Ent)} {t : TypeId} {bytes : Nat} {zs : List Value} {x y : Operand} {l m : List α} {u : Value} {i c : Nat} {rs : List Ent} (hM : Mem w0 S w R) (hi : R[i]? = some rs) (hs : SlS enc sz t v l rs) (hx : ev f x = v) (hy : ev f y = u) (hu : RdS enc w u m) (hz : zs.length = sz) (hb : (l.length + m.length) * bytes ≤ 175921860444160) (hb0 : 0 < bytes ∧ bytes < 65536)
    (h : ∀ v' w' r', SlS enc sz t v' (l ++ m) r' → Upd (ids rs) w w' → Mem w0 S w' (R.set i r') → vr P r (upd f c v') w' K) : vr P (.l none (some c) (.app t bytes sz zs x y) :: r) f w K :=
  m_appS' (Mem.start (hM.res hi)) (i := 0) rfl hs hx hy hu hz hb hb0 fun v' w' r' h1 h2 => h v' w' r' h1 h2.upd (hM.step i hi h2)
theorem getD_memG {α : Type} (z : α) {l : List α} {i : Nat} (h : i < l.length) : l.getD i z ∈ l := by
  rw [List.getD_eq_getElem?_getD, List.getElem?_eq_getElem h]; exact List.getElem_mem h
end Go.Proofs.Ytnkilhmkegmenaa.E
