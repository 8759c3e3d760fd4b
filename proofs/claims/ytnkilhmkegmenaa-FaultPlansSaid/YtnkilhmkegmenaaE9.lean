/- Steps of a walk, part 2: regions that draw their order; frames; cuts. -/
import Derived.Test.YtnkilhmkegmenaaE8
namespace Go.Proofs.Ytnkilhmkegmenaa.E
open Go

variable {P : Program}
theorem upd_self {f : Fr} {d : Nat} {v : Value} (h : f d = v) : upd f d v = f := by
  funext i; unfold upd; split
  · rename_i hi; subst hi; exact h.symm
  · rfl
theorem re1 {f : Fr} {a : Nat} {x : Value} (h : f a = x) : ∃ g, f = upd g a x := ⟨f, (upd_self h).symm⟩
theorem re2 {f : Fr} {a b : Nat} {x y : Value} (h : f a = x) (k : f b = y) : ∃ g, f = upd (upd g a x) b y := ⟨f, by rw [upd_self h, upd_self k]⟩
theorem re3 {f : Fr} {a b c : Nat} {x y z : Value} (h : f a = x) (k : f b = y) (l : f c = z) : ∃ g, f = upd (upd (upd g a x) b y) c z := ⟨f, by rw [upd_self h, upd_self k, upd_self l]⟩
theorem re4 {f : Fr} {a b c d : Nat} {x y z u : Value} (h : f a = x) (k : f b = y) (l : f c = z) (m : f d = u) : ∃ g, f = upd (upd (upd (upd g a x) b y) c z) d u := ⟨f, by rw [upd_self h, upd_self k, upd_self l, upd_self m]⟩
theorem re5 {f : Fr} {a b c d e : Nat} {x y z u v : Value} (h : f a = x) (k : f b = y) (l : f c = z) (m : f d = u) (n : f e = v) : ∃ g, f = upd (upd (upd (upd (upd g a x) b y) c z) d u) e v :=
  ⟨f, by rw [upd_self h, upd_self k, upd_self l, upd_self m, upd_self n]⟩
theorem re6 {f : Fr} {a b c d e p : Nat} {x y z u v q : Value} (h : f a = x) (k : f b = y) (l : f c = z) (m : f d = u) (n : f e = v) (o : f p = q) : ∃ g, f = upd (upd (upd (upd (upd (upd g a x) b y) c z) d u) e v) p q :=
  ⟨f, by rw [upd_self h, upd_self k, upd_self l, upd_self m, upd_self n, upd_self o]⟩
theorem re7 {f : Fr} {a b c d e p q : Nat} {x y z u v s t : Value} (h : f a = x) (k : f b = y) (l : f c = z) (m : f d = u) (n : f e = v) (o : f p = s) (o2 : f q = t) : ∃ g, f = upd (upd (upd (upd (upd (upd (upd g a x) b y) c z) d u) e v) p s) q t :=
  ⟨f, by rw [upd_self h, upd_self k, upd_self l, upd_self m, upd_self n, upd_self o, upd_self o2]⟩
theorem re8 {f : Fr} {a b c d e p q r : Nat} {x y z u v s t i : Value} (h : f a = x) (k : f b = y) (l : f c = z) (m : f d = u) (n : f e = v) (o : f p = s) (o2 : f q = t) (o3 : f r = i) : ∃ g, f = upd (upd (upd (upd (upd (upd (upd (upd g a x) b y) c z) d u) e v) p s) q t) r i :=
  ⟨f, by rw [upd_self h, upd_self k, upd_self l, upd_self m, upd_self n, upd_self o, upd_self o2, upd_self o3]⟩

section
variable {nt : Nat} {n : Fr → World → Prop} {xs : List (Nat × (Fr → World → Prop))} {rt : Fr → World → Prop} {f : Fr} {w : World}
/-- Ways meet: the state between is told. -/
theorem seqc {a b : MC} (I : Fr → World → Prop) (h1 : ∀ K : Fr → World → Prop, (∀ f w, I f w → K f w) → VC P nt a K xs rt f w) (h2 : ∀ f w, I f w → VC P nt b n xs rt f w) : VC P nt (.seq a b) n xs rt f w :=
  h1 _ h2
end

section
variable {r : List MI} {f : Fr} {w : World} {K : Fr → World → Prop} {d : Nat}
theorem splitT {s : Nat} (hb : f s = .bool true) (h : vr P r (upd f s (.bool true)) w K) : vr P (.split s :: r) f w K := split hb (fun _ => h) (fun h => by cases h)
theorem splitF {s : Nat} (hb : f s = .bool false) (h : vr P r (upd f s (.bool false)) w K) : vr P (.split s :: r) f w K := split hb (fun h => by cases h) (fun _ => h)
/-- append onto a slice of the call's own -/
theorem app {w0 : World} {S : List Nat} {R : List (List Ent)} {i n m bytes sz : Nat} {t : TypeId} {zero cs new : List Value} {x y : Operand} {v : Value} {rs : List Ent} {e : Nat} (hM : Mem w0 S w R) (hi : R[i]? = some rs) (hs : Sl sz t v n cs rs)
    (hx : ev f x = v) (hy : Rd w (ev f y) m new) (hn : new.length = m * sz) (h1 : oneCells new) (hz : zero.length = sz) (hb : (n + m) * bytes ≤ 175921860444160) (hb0 : 0 < bytes ∧ bytes < 65536)
    (h : ∀ v' w' r', Sl sz t v' (n + m) (cs ++ new) r' → Mem w0 S w' (R.set i r') → vr P r (upd f e v') w' K) : vr P (.l none (some e) (.app t bytes sz zero x y) :: r) f w K := by
  have hf : ∃ a c, v = .slice a n c := by rcases hs.form with ⟨rfl, rfl, _⟩ | ⟨b, c, _, rfl, _⟩ <;> exact ⟨_, _, rfl⟩
  obtain ⟨a, c, rfl⟩ := hf
  show kslice (ev f x) _
  rw [hx]
  have key : lenN (ev f y) fun m => ∃ new, Src w (ev f y) m sz new ∧ growVC w t bytes sz zero a n c m new (fun v w' => vr P r (putO f (some e) v) w' K) :=
    Rd.lenN hy ⟨new, hy.src hn, grow_sl hM hi hs hn h1 hz hb hb0 fun v' w' r' hs' hM' => h v' w' r' hs' hM'⟩
  exact key
/-- append of one element that is a single cell: 'append(xs, v)' -/
theorem app1 {w0 : World} {S : List Nat} {R : List (List Ent)} {i n bytes : Nat} {t : TypeId} {z : Value} {cs : List Value} {x p : Operand} {v u : Value} {rs : List Ent} {e d : Nat} (hM : Mem w0 S w R) (hi : R[i]? = some rs) (hs : Sl 1 t v n cs rs)
    (hx : ev f x = v) (hxd : x ≠ .tmp d) (hp : ev f p = u) (hu : u.oneCell' = true) (hb : (n + 1) * bytes ≤ 175921860444160) (hb0 : 0 < bytes ∧ bytes < 65536)
    (h : ∀ v' w' r' q, Sl 1 t v' (n + 1) (cs ++ [u]) r' → Mem w0 S w' (R.set i r') → vr P r (upd (upd f d q) e v') w' K) :
    vr P (.l none (some d) (.bs t 1 1 [z] [(0, 1, p)]) :: .l none (some e) (.app t bytes 1 [z] x (.tmp d)) :: r) f w K := by
  have hc : u.cells = #[u] := by cases u <;> first | rfl | (simp [Value.oneCell'] at hu)
  have hfill : fillC [z] [(0, 1, ev f p)] = some [u] := by
    rw [hp]
    simp [fillC, hc]
  show match fillC [z] [(0, 1, ev f p)] with | some cs => _ | none => False
  rw [hfill]
  have hM' := hM.add (mem_alloc w t [u])
  have hi' : (R ++ [[⟨w.heap.size, t, [u]⟩]])[i]? = some rs := by
    rw [List.getElem?_append_left]
    · exact hi
    · rcases Nat.lt_or_ge i R.length with h' | h'
      · exact h'
      · rw [List.getElem?_eq_none h'] at hi; cases hi
  have hil : i < R.length := by
    rcases Nat.lt_or_ge i R.length with h' | h'
    · exact h'
    · rw [List.getElem?_eq_none h'] at hi; cases hi
  have hev : ev (putO f (some d) (.slice (some ⟨w.heap.size, 0, none⟩) 1 1)) x = v := by
    cases x with
    | tmp t => show upd f d _ t = v; unfold upd; rw [if_neg (fun e => hxd (by rw [e]))]; exact hx
    | _ => exact hx
  have hrd : Rd (allocW w t [u]) (ev (putO f (some d) (.slice (some ⟨w.heap.size, 0, none⟩) 1 1)) (.tmp d)) 1 [u] := by
    have : ev (putO f (some d) (.slice (some ⟨w.heap.size, 0, none⟩) 1 1)) (.tmp d) = .slice (some ⟨w.heap.size, 0, none⟩) 1 1 := by show upd f d _ d = _; unfold upd; rw [if_pos rfl]
    rw [this]
    refine ⟨_, 1, rfl, Nat.le_refl _, ?_, fun h => by cases h⟩
    have ho := hM'.own ⟨w.heap.size, t, [u]⟩ (by simp)
    exact ho.row (l := [u]) fun j hj => by simp
  refine app (i := i) hM' hi' hs hev hrd rfl ?_ rfl hb hb0 fun v' w' r' hs' hM'' => ?_
  · intro c hc'; simp only [List.mem_singleton] at hc'; subst hc'; exact hu
  · refine h v' w' r' _ hs' (hM''.keep ?_)
    rw [List.set_append_left _ _ hil]
    simp
theorem box {t : TypeId} {x : Operand} {v : Value} {e : Nat} (hx : ev f x = v) (h : ∀ w', Mem w [] w' [[⟨w.heap.size, t, v.cells.toList⟩]] → w'.heap.size = w.heap.size + 1 → vr P r (upd f e (.pointer (some ⟨w.heap.size, 0, none⟩))) w' K) : vr P (.l none (some e) (.bx t x) :: r) f w K := by
  subst hx
  exact h _ (mem_alloc w t _) (by simp [allocW])
theorem alo {t : TypeId} {cs : List Value} {e : Nat} (h : ∀ w', Mem w [] w' [[⟨w.heap.size, t, cs⟩]] → vr P r (upd f e (.pointer (some ⟨w.heap.size, 0, none⟩))) w' K) : vr P (.l none (some e) (.al t cs) :: r) f w K := h _ (mem_alloc w t _)
end

section
variable {hh : Option (List Nat)} {wr : World} {r : List SI} {f : Fr} {w : World} {K : Fr → World → Prop} {d i : Nat}
/-- What holds of a step of a plain region holds of one that is taken in a drawn one. -/
theorem dp {o : PO} (h : pe o f fun v => vd P hh wr r (upd f d v) w K) : vd P hh wr (.qp i none d o :: r) f w K := h
theorem dlp {o : PO} (h : pe o f fun v => vd P hh wr r (upd f d v) w K) : vd P hh wr (.lp i none d o :: r) f w K := h
theorem vr_one {o : PO} {T : Fr → World → Prop} (h : vr P [.p none d o] f w T) : pe o f fun v => T (upd f d v) w := h
/-- A drawn region's first steps, as a plain region's. -/
theorem dqp {o : PO} (h : vr P [.p none d o] f w fun f w => vd P hh wr r f w K) : vd P hh wr (.qp i none d o :: r) f w K := h
theorem dqlp {o : PO} (h : vr P [.p none d o] f w fun f w => vd P hh wr r f w K) : vd P hh wr (.lp i none d o :: r) f w K := h
theorem dsplit {s : Nat} {b : Bool} (hb : f s = .bool b) (ht : b = true → vd P hh wr r (upd f s (.bool true)) w K) (hf : b = false → vd P hh wr r (upd f s (.bool false)) w K) : vd P hh wr (.split s :: r) f w K := by
  show spl _ _ _; unfold spl; rw [hb]; exact ⟨ht, hf⟩
theorem dsplitU {s : Nat} (hb : f s = undef) (h : vd P hh wr r f w K) : vd P hh wr (.split s :: r) f w K := by
  show spl _ _ _; unfold spl; rw [hb]; exact h
theorem dsplitT {s : Nat} (hb : f s = .bool true) (h : vd P hh wr r (upd f s (.bool true)) w K) : vd P hh wr (.split s :: r) f w K := dsplit hb (fun _ => h) (fun h => by cases h)
theorem dsplitF {s : Nat} (hb : f s = .bool false) (h : vd P hh wr r (upd f s (.bool false)) w K) : vd P hh wr (.split s :: r) f w K := dsplit hb (fun h => by cases h) (fun _ => h)
theorem dqld {x : Operand} {b o : Nat} {v : Value} (hx : ev f x = .pointer (some ⟨b, o, none⟩)) (hb : isHeld hh b) (hv : wr.cell? ⟨b, o, none⟩ = some v) (h : vd P hh wr r (upd f d v) w K) : vd P hh wr (.ql i none d none x :: r) f w K := by
  show kptr (ev f x) _ ∧ kptr (ev f x) _; rw [hx]; exact ⟨hb, v, hv, h⟩
theorem dqldA {x : Operand} {b o n : Nat} {cs : List Value} (hx : ev f x = .pointer (some ⟨b, o, none⟩)) (hb : isHeld hh b) (hl : cs.length = n) (hr : Row wr (some ⟨b, o, none⟩) cs) (h : vd P hh wr r (upd f d (.agg cs.toArray)) w K) :
    vd P hh wr (.ql i none d (some n) x :: r) f w K := by
  show kptr (ev f x) _ ∧ kptr (ev f x) _; rw [hx]; exact ⟨hb, cs, hl, hr, h⟩
theorem dgyes {s : Nat} {b : Bool} {m : SI} {o : PO} (hm : m = .qp i (some (s, b)) d o) (hb : f s = .bool b) (h : vd P hh wr (.qp i none d o :: r) f w K) : vd P hh wr (m :: r) f w K := by
  subst hm; show grd _ _ _ _; unfold grd; simp only [hb, if_true]; exact h
theorem dgno {s : Nat} {b c : Bool} {o : PO} (hb : f s = .bool c) (hc : (c = b) = False) (h : vd P hh wr r (upd f d undef) w K) : vd P hh wr (.qp i (some (s, b)) d o :: r) f w K := by
  show grd _ _ _ _; unfold grd; simp only [hb, hc, if_false]; exact h
theorem dgnou {s : Nat} {b : Bool} {o : PO} (hb : f s = undef) (h : vd P hh wr r (upd f d undef) w K) : vd P hh wr (.qp i (some (s, b)) d o :: r) f w K := by
  show grd _ _ _ _; unfold grd; simp only [hb, undef]; exact h
theorem dlgyes {s : Nat} {b : Bool} {m : SI} {o : PO} (hm : m = .lp i (some (s, b)) d o) (hb : f s = .bool b) (h : vd P hh wr (.lp i none d o :: r) f w K) : vd P hh wr (m :: r) f w K := by
  subst hm; show grd _ _ _ _; unfold grd; simp only [hb, if_true]; exact h
theorem dlgno {s : Nat} {b c : Bool} {o : PO} (hb : f s = .bool c) (hc : (c = b) = False) (h : vd P hh wr r (upd f d undef) w K) : vd P hh wr (.lp i (some (s, b)) d o :: r) f w K := by
  show grd _ _ _ _; unfold grd; simp only [hb, hc, if_false]; exact h
theorem dlgnou {s : Nat} {b : Bool} {o : PO} (hb : f s = undef) (h : vd P hh wr r (upd f d undef) w K) : vd P hh wr (.lp i (some (s, b)) d o :: r) f w K := by
  show grd _ _ _ _; unfold grd; simp only [hb, undef]; exact h
theorem dqgyes {s : Nat} {b : Bool} {m : SI} {z : Option Nat} {x : Operand} (hm : m = .ql i (some (s, b)) d z x) (hb : f s = .bool b) (h : vd P hh wr (.ql i none d z x :: r) f w K) : vd P hh wr (m :: r) f w K := by
  subst hm; show grd _ _ _ _; unfold grd; simp only [hb, if_true]; exact h
theorem dqgno {s : Nat} {b c : Bool} {z : Option Nat} {x : Operand} (hb : f s = .bool c) (hc : (c = b) = False) (h : vd P hh wr r (upd f d undef) w K) : vd P hh wr (.ql i (some (s, b)) d z x :: r) f w K := by
  show grd _ _ _ _; unfold grd; simp only [hb, hc, if_false]; exact h
theorem dqgnou {s : Nat} {b : Bool} {z : Option Nat} {x : Operand} (hb : f s = undef) (h : vd P hh wr r (upd f d undef) w K) : vd P hh wr (.ql i (some (s, b)) d z x :: r) f w K := by
  show grd _ _ _ _; unfold grd; simp only [hb, undef]; exact h
theorem dgyesl {s : Nat} {b : Bool} {o : LO} {e : Option Nat} (hb : f s = .bool b) (h : vd P hh wr (.l i none e o :: r) f w K) : vd P hh wr (.l i (some (s, b)) e o :: r) f w K := by
  show grd _ _ _ _; unfold grd; simp only [hb, if_true]; exact h
theorem dgnol {s : Nat} {b c : Bool} {o : LO} {e : Option Nat} (hb : f s = .bool c) (hc : (c = b) = False) (h : vd P hh wr r (putO f e undef) w K) : vd P hh wr (.l i (some (s, b)) e o :: r) f w K := by
  show grd _ _ _ _; unfold grd; simp only [hb, hc, if_false]; exact h
theorem dgnolu {s : Nat} {b : Bool} {o : LO} {e : Option Nat} (hb : f s = undef) (h : vd P hh wr r (putO f e undef) w K) : vd P hh wr (.l i (some (s, b)) e o :: r) f w K := by
  show grd _ _ _ _; unfold grd; simp only [hb, undef]; exact h
/-- A loud step of a drawn region: behind it the held blocks are to be as they were. -/
theorem dl {o : LO} {e : Option Nat} (h : vr P [.l none e o] f w fun f w => Held hh wr w ∧ vd P hh wr r f w K) : vd P hh wr (.l i none e o :: r) f w K := h
theorem held_upd {S : List Nat} {bs : List Nat} {w w' : World} (hu : Upd S w w') (hb : ∀ b ∈ bs, b < w.heap.size ∧ b ∉ S) (h : Held (some bs) wr w) : Held (some bs) wr w' := fun b hm => by
  rw [hu.block b (hb b hm).1 (hb b hm).2]; exact h b hm
end
end Go.Proofs.Ytnkilhmkegmenaa.E
