/- Part 4 of the proof of what the last of these files says. -/
import Derived.Test.YtifnmbmijljhfaaGreatPBo3
import Derived.Scope
namespace Go.Proofs.YtifnmbmijljhfaaGreat.E
open Go
variable {P : Program} {D : List Deferred}
theorem Frm.eval {nt : Nat} {f : Fr} {a : Act} (h : Frm D nt f a) : a.eval = ev f := by
 funext x
 cases x with
 | tmp t => exact h.get t
 | _ => rfl
theorem Frm.put {nt : Nat} {f : Fr} {a : Act} (h : Frm D nt f a) {d : Option Nat} (hd : okd nt d = true) (v : Value) : Frm D nt (putO f d v) (a.put d v) := by
 cases d with
 | none => exact h
 | some d =>
  simp only [okd, decide_eq_true_eq] at hd
  refine ⟨by simp [Act.put, h.size], fun i => ?_, by simp [Act.put, h.defers]⟩
  simp only [Act.put, putO, upd]
  by_cases hi : i = d
  ·subst hi
   rw [if_pos rfl]
   have : i < a.tmps.size := by rw [h.size]; exact hd
   simp [Array.getD, this]
  rw [if_neg hi, ← h.get i]
  have hne : d ≠ i := fun e => hi e.symm
  simp [Array.getD_eq_getD_getElem?, Array.getElem?_setIfInBounds_ne hne]
theorem Frm.spl {nt : Nat} {f : Fr} {a : Act} (h : Frm D nt f a) {s : Nat} {K : Fr → Prop} (hs : spl s f K) : ∃ f', Frm D nt f' a ∧ K f' := by
 unfold Go.Proofs.YtifnmbmijljhfaaGreat.E.spl at hs
 split at hs
 rotate_left
 ·exact ⟨f, h, hs⟩
 rename_i b hb
 obtain ⟨h1, h2⟩ := hs
 have hu : ∀ c, b = c → upd f s (.bool c) = f := by
  intro c hc
  funext i
  unfold upd
  split
  ·rename_i hi; subst hi; rw [hb, hc]
  rfl
 cases b
 ·exact ⟨_, by rw [hu false rfl]; exact h, h2 rfl⟩
 exact ⟨_, by rw [hu true rfl]; exact h, h1 rfl⟩
theorem grd_inv {nt : Nat} {ops : Array Oper} {f : Fr} {a : Act} (h : Frm D nt f a) {o : Oper} {g : Option (Nat × Bool)} (hg : gslot ops nt o.guard = some g) {yes no : Prop} (hh : grd g f yes no) :
 (Region.wanted o (yielded ops a.tmps) = true ∧ yes) ∨ (Region.wanted o (yielded ops a.tmps) = false ∧ no) := by
 cases hgd : o.guard with
 | none =>
  rw [hgd] at hg
  simp only [gslot, Option.some.injEq] at hg
  subst hg
  exact .inl ⟨by simp [Region.wanted, hgd], hh⟩
 | some p =>
  obtain ⟨j, want⟩ := p
  rw [hgd] at hg
  simp only [gslot] at hg
  split at hg
  ·rename_i s hs
   split at hg
   ·rename_i hlt
    simp only [Option.some.injEq] at hg
    subst hg
    simp only [grd] at hh
    have hy : yielded ops a.tmps j = match f s with | .bool b => some b | _ => none := by
     unfold yielded
     rw [hs]
     have hsz : s < a.tmps.size := by rw [h.size]; exact hlt
     have hget := h.get s
     simp only [Array.getD_eq_getD_getElem?, Array.getElem?_eq_getElem hsz, Option.getD_some] at hget
     simp only [Option.bind_some, Array.getElem?_eq_getElem hsz, hget]
     cases f s <;> rfl
    have hw : Region.wanted o (yielded ops a.tmps) = (yielded ops a.tmps j == some want) := by simp [Region.wanted, hgd]
    rw [hw, hy]
    split at hh
    ·rename_i b hb
     rw [hb]
     split at hh
     ·rename_i hbw; exact .inl ⟨by simp [hbw], hh⟩
     rename_i hbw; exact .inr ⟨by simp [hbw], hh⟩
    rename_i hnb
    refine .inr ⟨?_, hh⟩
    cases hf : f s <;> first | rfl | (exact absurd hf (hnb _))
   cases hg
  cases hg
theorem compI_inv {nt : Nat} {ops : Array Oper} {o : Oper} {g : Option (Nat × Bool)} {r : PO ⊕ LO} (h : compI P nt ops o = some (g, r)) : gslot ops nt o.guard = some g ∧ comp P o = some r ∧ okd nt o.dst = true := by
 unfold compI at h
 split at h
 ·split at h
  ·rename_i h1 h2 h3; cases h; exact ⟨h1, h2, h3⟩
  cases h
 cases h
theorem vr_splits (ss : List Nat) {nt : Nat} {a : Act} {r : List MI} {w : World} {K : Fr → World → Prop} : ∀ {f : Fr}, Frm D nt f a → vr P (ss.map .split ++ r) f w K → ∃ f', Frm D nt f' a ∧ vr P r f' w K := by
 induction ss with
 | nil => intro f hf h; exact ⟨f, hf, h⟩
 | cons s ss ih =>
  intro f hf h
  obtain ⟨f', hf', h'⟩ := hf.spl h
  exact ih hf' h'
theorem vd_splits {hh : Option (List Nat)} {w0 : World} (ss : List Nat) {nt : Nat} {a : Act} {r : List SI} {w : World} {K : Fr → World → Prop} : ∀ {f : Fr}, Frm D nt f a → vd P hh w0 (ss.map .split ++ r) f w K → ∃ f', Frm D nt f' a ∧ vd P hh w0 r f' w K := by
 induction ss with
 | nil => intro f hf h; exact ⟨f, hf, h⟩
 | cons s ss ih =>
  intro f hf h
  obtain ⟨f', hf', h'⟩ := hf.spl h
  exact ih hf' h'
theorem reg_sound {nt : Nat} {ops : Array Oper} {K : Fr → World → Prop} {Q : Exit → Act → World → Prop} (hQ : ∀ f a w, Frm D nt f a → K f w → Q .normal a w) :
 ∀ (l : List Oper) (done : List Nat) (ms : List MI) (f : Fr) (a : Act) (w : World), compReg P nt ops done l = some ms → Frm D nt f a → vr P ms f w K → wpList P ops Q l a w := by
 intro l
 induction l with
 | nil => intro done ms f a w hc hf h; simp only [compReg, Option.some.injEq] at hc; subst hc; exact hQ f a w hf h
 | cons o l ih =>
  intro done ms f a w hc hf h
  simp only [compReg] at hc
  split at hc
  ·rename_i g r hci
   obtain ⟨hg, hcomp, hd⟩ := compI_inv hci
   split at hc
   ·rename_i l' hl'
    split at hc
    ·rename_i p d hdst
     cases hc
     obtain ⟨f', hf', h⟩ := vr_splits _ hf h
     unfold wpList
     rcases grd_inv hf' hg h with ⟨hw, hy⟩ | ⟨hw, hn⟩
     ·rw [if_pos hw]
      obtain ⟨v, hv, hr⟩ := pure_sound hcomp hy
      refine .inl (wp_val hf'.eval (hr w) ?_)
      have := hf'.put hd v
      rw [hdst] at this ⊢
      exact ih _ _ _ _ _ hl' this hv
     rw [hw]
     simp only [Bool.false_eq_true, if_false]
     have := hf'.put hd undef
     rw [hdst] at this ⊢
     exact ih _ _ _ _ _ hl' this hn
    ·rename_i q hdst
     cases hc
     obtain ⟨f', hf', h⟩ := vr_splits _ hf h
     unfold wpList
     rcases grd_inv hf' hg h with ⟨hw, hy⟩ | ⟨hw, hn⟩
     ·rw [if_pos hw]
      exact .inl (loud_sound hcomp hf'.eval hy fun v w' hv => ih _ _ _ _ _ hl' (hf'.put hd v) hv)
     rw [hw]
     simp only [Bool.false_eq_true, if_false]
     exact ih _ _ _ _ _ hl' (hf'.put hd undef) hn
    cases hc
   cases hc
  cases hc
theorem ld_run {t : TypeId} {s : Option Nat} {x : Operand} {f : Fr} {w : World} {K : Value → World → Prop} {dst : Option Tmp} {ty : TypeId} {pos : String} {aft : Array Edge} {gd : Option (Nat × Bool)} (hs : ldsz P t = some s) (h : vl P (.ld s x) f w K) :
 ∃ v, K v w ∧ ∀ w', (∀ b o, ev f x = .pointer (some ⟨b, o, none⟩) → w'.heap[b]? = w.heap[b]?) → (execOp (ev f) ⟨dst, .load t x, ty, pos, aft, gd⟩).run P w' = .ok (.value v) w' := by
 cases s with
 | none =>
  obtain ⟨b, o, hx, v, hv, h⟩ := kptr_inv h
  refine ⟨v, h, fun w' hw' => ?_⟩
  have hv' : w'.cell? ⟨b, o, none⟩ = some v := by
   rw [← hv]; unfold World.cell?; rw [hw' b o hx]
  unfold ldsz at hs
  split at hs <;> cases hs
  rename_i n hg hz
  simp [execOp, hx, Instr.loadAt, Instr.sureAddr, loadVar, run_isAgg hg, run_load, hv']
 | some n =>
  obtain ⟨b, o, hx, cs, hl, hr, h⟩ := kptr_inv h
  refine ⟨_, h, fun w' hw' => ?_⟩
  have hr' : Row w' (some ⟨b, o, none⟩) cs := by
   intro i hi
   rw [← hr i hi]
   unfold World.cell?
   simp only
   rw [hw' b o hx]
  unfold ldsz at hs
  split at hs <;> cases hs
  rename_i hg hz
  have := run_row (P := P) hr'
  rw [hl] at this
  simp [execOp, hx, Instr.loadAt, Instr.sureAddr, loadVar, run_isAgg hg, run_szo hz, this]
theorem comp_ld {o : Oper} {s : Option Nat} {x : Operand} (h : comp P o = some (.inr (.ld s x))) : ∃ t, o.op = .load t x ∧ ldsz P t = some s := by
 obtain ⟨dst, op, ty, pos, aft, gd⟩ := o
 cases op <;> simp only [comp] at h
 case load t y =>
  cases hl : ldsz P t with
  | none => simp [hl] at h
  | some q => simp [hl] at h; obtain ⟨rfl, rfl⟩ := h; exact ⟨t, rfl, hl⟩
 case binOp op t x y u => cases hb : compBin P op t x y <;> simp [hb] at h
 case unOp op t x =>
  cases op <;> simp only at h
  case neg => cases hk : kind? P t <;> simp [hk] at h
  case xor => cases hk : kind? P t <;> simp [hk] at h
  all_goals cases h
 case field t x j =>
  split at h
  ·split at h
   ·rename_i fl _; cases hl : ldsz P fl.type <;> simp [hl] at h
   cases h
  cases h
 case build t parts =>
  split at h
  ·split at h
   ·rename_i pl hp; cases hl : compParts (fun i => pl[i]?) parts.toList <;> simp [hl] at h
   cases h
  ·split at h
   ·rename_i s hs; cases hl : compParts (fun i => some (i * s, s)) parts.toList <;> simp [hl] at h
   cases h
  cases h
 case indexAddr t x i =>
  split at h
  ·rename_i e ht; cases hs : sz? P e <;> simp [hs] at h
  ·rename_i n e ht; cases hs : sz? P e <;> simp [hs] at h
  cases h
 case slice t x lo hi mx =>
  split at h
  ·rename_i e ht
   split at h
   ·cases hs : sz? P e <;> simp [hs] at h
   cases h
  ·repeat (first | cases h | split at h)
  ·rename_i n e ht
   split at h
   ·cases hs : sz? P e <;> simp [hs] at h
   cases h
  cases h
 case store t p x => cases hl : sz? P t <;> simp [hl] at h
 case alloc t => cases hl : zero? P t <;> simp [hl] at h
 case makeMap t r => cases r <;> simp at h
 case call c =>
  obtain ⟨callee, av, ats⟩ := c
  cases callee with
  | value q => cases q <;> simp only at h <;> repeat (first | cases h | split at h)
  | invoke r m => cases h
  | builtin b =>
   simp only at h
   unfold builtinOp at h
   split at h
   ·repeat (first | cases h | split at h)
   ·repeat (first | cases h | split at h)
   ·split at h
    ·rename_i e hu; cases hs : sz? P e <;> simp [hs] at h
    cases h
   ·rename_i x xs t ts _ _; cases hk : kind? P t <;> simp [hk] at h
   ·rename_i x xs t ts _ _; cases hk : kind? P t <;> simp [hk] at h
   cases h
 all_goals repeat (first | cases h | split at h)
theorem find_good {ops : Array Oper} {listed : Array Bool} {fn : PO ⊕ LO → Bool} {i : Nat} {L : List Nat} (hL : ∀ j ∈ L, j ∈ Region.ready .any ops listed)
 (h : (L.find? fun i => Region.free .any ops listed i && (match ops[i]? with
  | some o => (o.dst.isSome) && (match comp P o with | some r => fn r | none => false)
  | none => false)) = some i) : (Region.ready .any ops listed).contains i = true ∧ Region.free .any ops listed i = true ∧ ∃ o r, ops[i]? = some o ∧ o.dst.isSome = true ∧ comp P o = some r ∧ fn r = true := by
 have h1 := List.find?_some h
 have h2 := hL _ (List.mem_of_find?_eq_some h)
 simp only [Bool.and_eq_true] at h1
 obtain ⟨hf, h1⟩ := h1
 refine ⟨by simpa using h2, hf, ?_⟩
 split at h1
 ·rename_i o ho
  simp only [Bool.and_eq_true] at h1
  obtain ⟨hd, h1⟩ := h1
  split at h1
  ·rename_i r hr; exact ⟨o, r, ho, hd, hr, h1⟩
  cases h1
 cases h1
theorem pick_inv {ops : Array Oper} {listed : Array Bool} {i : Nat} {q : Bool} (h : pickOp P ops listed = some (i, q)) :
 (q = true ∧ (Region.ready .any ops listed).contains i = true ∧ Region.free .any ops listed i = true ∧ ∃ o r, ops[i]? = some o ∧ o.dst.isSome = true ∧ comp P o = some r) ∨ (q = false ∧ Region.ready .any ops listed = [i]) := by
 unfold pickOp at h
 simp only at h
 split at h
 ·rename_i j hj
  cases h
  obtain ⟨h1, h2, o, r, h3, h4, h5, _⟩ := find_good (fun _ h => h) hj
  exact .inl ⟨rfl, h1, h2, o, r, h3, h4, h5⟩
 split at h
 ·rename_i j hj; cases h; exact .inr ⟨rfl, hj⟩
 split at h
 ·rename_i j hj
  cases h
  obtain ⟨h1, h2, o, r, h3, h4, h5, _⟩ := find_good (fun _ h => List.mem_reverse.1 h) hj
  exact .inl ⟨rfl, h1, h2, o, r, h3, h4, h5⟩
 split at h
 ·rename_i j hj
  cases h
  obtain ⟨h1, h2, o, r, h3, h4, h5, _⟩ := find_good (fun _ h => List.mem_reverse.1 h) hj
  exact .inl ⟨rfl, h1, h2, o, r, h3, h4, h5⟩
 cases h
theorem vd_append {hh : Option (List Nat)} {w0 : World} {K : Fr → World → Prop} {l : List SI} : ∀ (xs : List SI) (f : Fr) (w : World), vd P hh w0 (xs ++ l) f w K = vd P hh w0 xs f w fun f w => vd P hh w0 l f w K
 | [], _, _ => rfl
 | .split s :: r, f, w => by simp only [List.cons_append, vd, vd_append r]
 | .qp i g d o :: r, f, w => by simp only [List.cons_append, vd, vd_append r]
 | .ql i g d s x :: r, f, w => by simp only [List.cons_append, vd, vd_append r]
 | .l i g d o :: r, f, w => by simp only [List.cons_append, vd, vd_append r]
 | .lp i g d o :: r, f, w => by simp only [List.cons_append, vd, vd_append r]
theorem vt_cons {hh : Option (List Nat)} {w0 : World} {K : Fr → World → Prop} {f : Fr} {w : World} (xs : List SI) (t : ST) (h : vt P hh w0 (t.cons xs) f w K) : vd P hh w0 xs f w fun f w => vt P hh w0 t f w K := by
 cases t with
 | line l => have h' : vd P hh w0 (xs ++ l) f w K := h; rw [vd_append] at h'; exact h'
 | fork l a b => have h' : vd P hh w0 (xs ++ l) f w (fun f w => vt P hh w0 a f w K ∧ vt P hh w0 b f w K) := h; rw [vd_append] at h'; exact h'
theorem forkD_inv {hh : Option (List Nat)} {w0 : World} {K : Fr → World → Prop} {f : Fr} {w : World} : ∀ (L : List (Option ST)) {t : ST}, forkD L = some t → vt P hh w0 t f w K → ∀ x ∈ L, ∃ t', x = some t' ∧ vt P hh w0 t' f w K
 | [], t, h, _ => by cases h
 | [x], t, h, hv => fun y hy => by
  simp only [List.mem_singleton] at hy
  subst hy
  exact ⟨t, h, hv⟩
 | x :: z :: xs, t, h, hv => fun y hy => by
  simp only [forkD] at h
  cases hx : x with
  | none => simp [hx] at h
  | some a =>
   cases hr : forkD (z :: xs) with
   | none => simp [hx, hr] at h
   | some b =>
    simp only [hx, hr, Option.some.injEq] at h
    subst h
    have hv' : vt P hh w0 a f w K ∧ vt P hh w0 b f w K := hv
    rcases List.mem_cons.1 hy with rfl | hy
    ·exact ⟨a, hx, hv'.1⟩
    exact forkD_inv (z :: xs) hr hv'.2 y hy
section
variable {nt : Nat} {ops : Array Oper} {hh : Option (List Nat)} {w0 : World} {K : Fr → World → Prop} {Q : Exit → Act → World → Prop} {fuel : Nat} {done : List Nat} {listed : Array Bool} {i : Nat} {k : List Nat → Option ST} {t : ST} {f : Fr} {a : Act} {w : World}
theorem stepD_first (hp : ∀ c a w, ¬ Q (.panic c) a w) (hs : Region.noSelect ops = true) (hc : stepD P nt ops done i true k = some t) (h1 : (Region.ready .any ops listed).contains i = true) (h2 : Region.free .any ops listed i = true) (hf : Frm D nt f a) (hw : Held hh w0 w) (h : vt P hh w0 t f w K)
 (ih : ∀ s t' (f : Fr) (a : Act) (w : World), k s = some t' → Frm D nt f a → Held hh w0 w → vt P hh w0 t' f w K → wpAnyH P .any ops Q (Held hh w0) fuel (listed.setIfInBounds i true) a w) : wpAnyH P .any ops Q (Held hh w0) (fuel + 1) listed a w := by
 unfold stepD at hc
 split at hc
 ·cases hc
 rename_i o ho
 split at hc
 ·cases hc
 rename_i g r hci
 obtain ⟨hg, hcomp, hd⟩ := compI_inv hci
 split at hc
 ·cases hc
 rename_i l' hl'
 split at hc
 ·rename_i p d _ hdst
  cases hc
  obtain ⟨f', hf', h⟩ := vd_splits _ hf (vt_cons _ _ h)
  rcases grd_inv hf' hg h with ⟨hwt, hy⟩ | ⟨hwt, hn⟩
  ·obtain ⟨v, hv, hr⟩ := pure_sound hcomp hy
   refine wpAnyH_take ho hs h2 h1 (fun c a w hh => absurd hh (hp c _ w)) (.inl ⟨hwt, fun w _ => by rw [hf'.eval]; exact hr w⟩) hw ?_
   have := hf'.put hd v
   rw [hdst] at this ⊢
   exact ih _ _ _ _ _ hl' this hw hv
  refine wpAnyH_take ho hs h2 h1 (v := undef) (fun c a w hh => absurd hh (hp c _ w)) (.inr ⟨hwt, rfl⟩) hw ?_
  have := hf'.put hd undef
  rw [hdst] at this ⊢
  exact ih _ _ _ _ _ hl' this hw hn
 ·rename_i z x d _ hdst
  cases hc
  obtain ⟨f', hf', h⟩ := vd_splits _ hf (vt_cons _ _ h)
  rcases grd_inv hf' hg h with ⟨hwt, hb, hy⟩ | ⟨hwt, hn⟩
  ·obtain ⟨t, hop, hld⟩ := comp_ld hcomp
   obtain ⟨dst, op, ty, pos, aft, gd⟩ := o
   simp only at hop hdst
   subst hop
   obtain ⟨v, hv, hr⟩ := ld_run (dst := dst) (ty := ty) (pos := pos) (aft := aft) (gd := gd) hld hy
   refine wpAnyH_take ho hs h2 h1 (v := v) (fun c a w hh => absurd hh (hp c _ w)) (.inl ⟨hwt, fun w' hw' => ?_⟩) hw ?_
   ·rw [hf'.eval]
    refine hr w' fun b o hx => ?_
    obtain ⟨b', o', hx', hb'⟩ := kptr_inv hb
    rw [hx] at hx'
    injection hx' with hx'
    injection hx' with hx'
    injection hx' with e1 e2
    subst e1
    cases hh with
    | none => have : w'.heap = w0.heap := hw'; rw [this]
    | some bs => exact hw' b hb'
   have := hf'.put hd v
   simp only [hdst] at this ⊢
   exact ih _ _ _ _ _ hl' this hw hv
  refine wpAnyH_take ho hs h2 h1 (v := undef) (fun c a w hh => absurd hh (hp c _ w)) (.inr ⟨hwt, rfl⟩) hw ?_
  have := hf'.put hd undef
  rw [hdst] at this ⊢
  exact ih _ _ _ _ _ hl' this hw hn
 all_goals first | contradiction | cases hc
theorem stepD_next (hc : stepD P nt ops done i false k = some t) (hf : Frm D nt f a) (hw : Held hh w0 w) (h : vt P hh w0 t f w K)
 (ih : ∀ s t' (f : Fr) (a : Act) (w : World), k s = some t' → Frm D nt f a → Held hh w0 w → vt P hh w0 t' f w K → wpAnyH P .any ops Q (Held hh w0) fuel (listed.setIfInBounds i true) a w) :
 wpOp P ops Q i (fun a' w' => Held hh w0 w' ∧ wpAnyH P .any ops Q (Held hh w0) fuel (listed.setIfInBounds i true) a' w') a w := by
 unfold stepD at hc
 split at hc
 ·cases hc
 rename_i o ho
 split at hc
 ·cases hc
 rename_i g r hci
 obtain ⟨hg, hcomp, hd⟩ := compI_inv hci
 split at hc
 ·cases hc
 rename_i l' hl'
 unfold wpOp
 rw [ho]
 split at hc
 ·contradiction
 ·contradiction
 ·rename_i p d _ hdst
  cases hc
  obtain ⟨f', hf', h⟩ := vd_splits _ hf (vt_cons _ _ h)
  rcases grd_inv hf' hg h with ⟨hwt, hy⟩ | ⟨hwt, hn⟩
  ·obtain ⟨v, hv, hr⟩ := pure_sound hcomp hy
   simp only [hwt, if_true]
   refine .inl (wp_val hf'.eval (hr w) ⟨hw, ?_⟩)
   have := hf'.put hd v
   rw [hdst] at this ⊢
   exact ih _ _ _ _ _ hl' this hw hv
  simp only [hwt, Bool.false_eq_true, if_false]
  refine ⟨hw, ?_⟩
  have := hf'.put hd undef
  rw [hdst] at this ⊢
  exact ih _ _ _ _ _ hl' this hw hn
 ·rename_i p d _
  cases hc
  obtain ⟨f', hf', h⟩ := vd_splits _ hf (vt_cons _ _ h)
  rcases grd_inv hf' hg h with ⟨hwt, hy⟩ | ⟨hwt, hn⟩
  ·simp only [hwt, if_true]
   exact .inl (loud_sound hcomp hf'.eval hy fun v w' hv => ⟨hv.1, ih _ _ _ _ _ hl' (hf'.put hd v) hv.1 hv.2⟩)
  simp only [hwt, Bool.false_eq_true, if_false]
  exact ⟨hw, ih _ _ _ _ _ hl' (hf'.put hd undef) hw hn⟩
 cases hc
end
theorem dreg_sound {nt : Nat} {ops : Array Oper} {hh : Option (List Nat)} {w0 : World} {K : Fr → World → Prop} {Q : Exit → Act → World → Prop} (hQ : ∀ f a w, Frm D nt f a → K f w → Q .normal a w)
 (hp : ∀ c a w, ¬ Q (.panic c) a w) (hs : Region.noSelect ops = true) :
 ∀ (fuel : Nat) (done : List Nat) (listed : Array Bool) (t : ST) (f : Fr) (a : Act) (w : World), compD P nt ops fuel done listed = some t → Frm D nt f a → Held hh w0 w → vt P hh w0 t f w K →
  wpAnyH P .any ops Q (Held hh w0) fuel listed a w := by
 intro fuel
 induction fuel with
 | zero =>
  intro done listed ms f a w hc hf hw h
  simp only [compD] at hc
  split at hc
  ·rename_i he
   cases hc
   exact wpAnyH_done (by simpa using he) (hQ f a w hf h) 0
  cases hc
 | succ fuel ih =>
  intro done listed ms f a w hc hf hw h
  simp only [compD] at hc
  split at hc
  ·split at hc
   ·rename_i he
    cases hc
    exact wpAnyH_done (by simpa using he) (hQ f a w hf h) _
   rename_i he
   refine wpAnyH_all rfl (by simpa using he) fun j hj => ?_
   obtain ⟨t', ht', hv⟩ := forkD_inv _ hc h _ (List.mem_map.2 ⟨j, hj, rfl⟩)
   exact stepD_next ht' hf hw hv fun s t' f a w hk hf hw hv => ih _ _ _ _ _ _ hk hf hw hv
  rename_i i q hpick
  rcases pick_inv hpick with ⟨rfl, h1, h2, _⟩ | ⟨rfl, h1⟩
  ·exact stepD_first hp hs hc h1 h2 hf hw h fun s t' f a w hk hf hw hv => ih _ _ _ _ _ _ hk hf hw hv
  refine wpAnyH_all h1 (by simp) fun j hj => ?_
  simp only [List.mem_singleton] at hj
  subst hj
  exact stepD_next hc hf hw h fun s t' f a w hk hf hw hv => ih _ _ _ _ _ _ hk hf hw hv
theorem Frm.eq {nt : Nat} {f : Fr} {a : Act} (h : Frm D nt f a) : f = fun i => a.tmps.getD i undef := funext fun i => (h.get i).symm
theorem least {p : Nat → Prop} (h : ∃ n, p n) : ∃ n, p n ∧ ∀ m, p m → n ≤ m := by
 obtain ⟨n, hn⟩ := h
 induction n using Nat.strongRecOn with
 | _ n ih =>
  by_cases hx : ∃ m, m < n ∧ p m
  ·obtain ⟨m, hm, hp⟩ := hx; exact ih m hm hp
  exact ⟨n, hn, fun m hm => Nat.le_of_not_lt fun hlt => hx ⟨m, hlt, hm⟩⟩
open Classical in
noncomputable def leastOf (p : Nat → Prop) : Nat := if h : ∃ n, p n then Classical.choose (least h) else 0
theorem leastOf_spec {p : Nat → Prop} (h : ∃ n, p n) : p (leastOf p) ∧ ∀ m, p m → leastOf p ≤ m := by
 unfold leastOf
 rw [dif_pos h]
 exact Classical.choose_spec (least h)
theorem code_sound {nt : Nat} (hm : P.follows .mixedOrders = true) : ∀ (c : Code) (m : MC) (N : Fr → World → Prop) (xs : List (Nat × (Fr → World → Prop))) (r : Fr → World → Prop) (f : Fr) (a : Act) (w : World),
 compile P nt c = some m → VC P nt m N xs r f w → Frm D nt f a → c.wp P (QQ D nt N xs r) a w := by
 intro c
 induction c with
 | skip => intro m N xs r f a w hc h hf; cases hc; exact wp_skip ⟨f, hf, h⟩
 | label l => intro m N xs r f a w hc h hf; cases hc; exact wp_label ⟨f, hf, h⟩
 | region id ops draw =>
  intro m N xs r f a w hc h hf
  cases draw with
  | false =>
   simp only [compile] at hc
   cases hr : compReg P nt ops [] ops.toList with
   | none =>
    simp [hr] at hc
    subst hc
    exact h _ a hf
   | some ms =>
    simp [hr] at hc
    subst hc
    exact wp_region_list (reg_sound (fun f a w hf h => ⟨f, hf, h⟩) _ _ _ _ _ _ hr hf h)
  | true =>
   simp only [compile] at hc
   by_cases hs : Region.noSelect ops = true
   ·rw [if_pos hs] at hc
    cases hr : compD P nt ops ops.size [] (Array.replicate ops.size false) with
    | none =>
     simp [hr] at hc
     subst hc
     exact h _ a hf
    | some ms =>
     simp [hr] at hc
     subst hc
     obtain ⟨hh, h⟩ := h { w with drawn := w.drawn + 1 } rfl rfl rfl rfl
     exact wp_region_held (S := Held hh { w with drawn := w.drawn + 1 }) hm (dreg_sound (fun f a w hf h => ⟨f, hf, h⟩) (fun c a w ⟨f, _, h⟩ => h) hs _ _ _ _ _ _ _ hr hf (by cases hh <;> simp [Held]) h)
   rw [if_neg hs] at hc
   simp at hc
   subst hc
   exact h _ a hf
 | seq x y ihx ihy =>
  intro m N xs r f a w hc h hf
  simp only [compile] at hc
  split at hc
  ·rename_i mx my hx hy
   cases hc
   refine wp_seq (Code.wp_mono ?_ (ihx _ _ _ _ _ _ _ hx h hf))
   rintro e a' w' ⟨f', hf', h'⟩
   cases e <;> first | exact ihy _ _ _ _ _ _ _ hy h' hf' | exact ⟨f', hf', h'⟩
  cases hc
 | cond c x y ihx ihy =>
  intro m N xs r f a w hc h hf
  simp only [compile] at hc
  split at hc
  ·rename_i mx my hx hy
   cases hc
   obtain ⟨t, ht, h1, h2⟩ := kbool_inv h
   exact wp_cond_split (t := t) (by rw [hf.eval]; exact ht) (fun e => ihx _ _ _ _ _ _ _ hx (h1 e) hf) (fun e => ihy _ _ _ _ _ _ _ hy (h2 e) hf)
  cases hc
 | block id c ih =>
  intro m N xs r f a w hc h hf
  simp only [compile] at hc
  cases hx : compile P nt c with
  | none => simp [hx] at hc
  | some mc =>
   simp [hx] at hc
   subst hc
   refine wp_block (Code.wp_mono ?_ (ih _ _ _ _ _ _ _ hx h hf))
   rintro e a' w' ⟨f', hf', h'⟩
   cases e with
   | exit id' =>
    simp only [Exit.inBlock]
    simp only [exitK] at h'
    split at h'
    ·rename_i he; subst he; rw [if_pos rfl]; exact ⟨f', hf', h'⟩
    rename_i he; rw [if_neg (fun e => he e.symm)]; exact ⟨f', hf', h'⟩
   | _ => exact ⟨f', hf', h'⟩
 | loop c ih =>
  intro m N xs r f a w hc h hf
  simp only [compile] at hc
  cases hx : compile P nt c with
  | none => simp [hx] at hc
  | some mc =>
   simp [hx] at hc
   subst hc
   obtain ⟨I, k, h0, hr⟩ := h
   let fr : Act → Fr := fun a i => a.tmps.getD i undef
   refine wp_loop (fun a w => ∃ f, Frm D nt f a ∧ ∃ k, I k f w) (fun a w => leastOf fun k => I k (fr a) w) ⟨f, hf, k, h0⟩ ?_
   rintro a w ⟨f, hf, hI⟩
   have hl := leastOf_spec hI
   refine Code.wp_mono ?_ (ih _ _ _ _ _ _ _ hx (hr _ f w hl.1) hf)
   rintro e a' w' ⟨f', hf', h'⟩
   cases e with
   | normal =>
    obtain ⟨k', hlt, hI'⟩ := h'
    refine ⟨⟨f', hf', k', hI'⟩, ?_⟩
    have e1 : fr a' = f' := hf'.eq.symm
    have e2 : fr a = f := hf.eq.symm
    simp only [e1, e2]
    exact Nat.lt_of_le_of_lt ((leastOf_spec ⟨k', hI'⟩).2 k' hI') hlt
   | _ => exact ⟨f', hf', h'⟩
 | exit id => intro m N xs r f a w hc h hf; cases hc; exact wp_exit ⟨f, hf, h⟩
 | scope c ih =>
  intro m N xs r f a w hc h hf
  simp only [compile] at hc
  refine wp_scope_straight (Code.wp_mono ?_ (ih _ _ _ _ _ _ _ hc h hf))
  rintro e a' w' ⟨f', hf', h'⟩
  cases e <;> first | exact ⟨f', hf', h'⟩ | exact h'.elim
 | ret => intro m N xs r f a w hc h hf; cases hc; exact wp_ret ⟨f, hf, h⟩
 | _ => intro m N xs r f a w hc h hf; cases hc
theorem res_run {nt : Nat} {f : Fr} {a : Act} {w : World} (hf : Frm D nt f a) : ∀ (rs : List ResultVar) (K : List Value → Prop), resV P rs f w K → ∃ vs, K vs ∧
 (rs.mapM (m := Sem) fun
  | .tmp t => pure (a.tmps.getD t undef)
  | .cell p t => do loadVar t (← asAddr (a.tmps.getD p undef))).run P w = .ok vs w := by
 intro rs
 induction rs with
 | nil => intro K h; exact ⟨[], h, by simp⟩
 | cons x rs ih =>
  intro K h
  cases x with
  | tmp t =>
   obtain ⟨vs, hv, hr⟩ := ih _ h
   refine ⟨_, hv, ?_⟩
   rw [List.mapM_cons]
   simp only [Sem.run_bind, Sem.run_pure, Result.andThen_ok, hr]
   rw [hf.get]
  | cell p t =>
   simp only [resV] at h
   split at h
   ·rename_i s hs
    have hl : ∃ v b o, f p = .pointer (some ⟨b, o, none⟩) ∧ (loadVar t ⟨b, o, none⟩).run P w = .ok v w ∧ resV P rs f w fun vs => K (v :: vs) := by
     cases s with
     | none =>
      obtain ⟨b, o, hx, v, hv, h⟩ := kptr_inv h
      refine ⟨v, b, o, hx, ?_, h⟩
      unfold ldsz at hs
      split at hs <;> cases hs
      rename_i n hg hz
      simp [loadVar, run_isAgg hg, run_load, hv]
     | some n =>
      obtain ⟨b, o, hx, cs, hl, hr, h⟩ := kptr_inv h
      refine ⟨_, b, o, hx, ?_, h⟩
      unfold ldsz at hs
      split at hs <;> cases hs
      rename_i hg hz
      have := run_row (P := P) hr
      rw [hl] at this
      simp [loadVar, run_isAgg hg, run_szo hz, this]
    obtain ⟨v, b, o, hx, hrun, h⟩ := hl
    obtain ⟨vs, hv, hr⟩ := ih _ h
    refine ⟨_, hv, ?_⟩
    rw [List.mapM_cons]
    have hx' : a.tmps.getD p undef = .pointer (some ⟨b, o, none⟩) := by rw [hf.get]; exact hx
    have hrun' : (do loadVar t (← asAddr (a.tmps.getD p undef))).run P w = .ok v w := by
     rw [hx']; simp only [asAddr, Sem.run_bind, Sem.run_pure, Result.andThen_ok, hrun]
    simp only [Sem.run_bind] at hrun' ⊢
    rw [hrun']
    simp only [Result.andThen_ok, Sem.run_bind, hr, Sem.run_pure]
   exact h.elim
theorem calls_vc {g : FuncId} {fn : Func} {c : Code} {m : MC} {args : List Value} {w : World} {R : Ending → World → Prop} (hm : P.follows .mixedOrders = true) (hf : P.funcs[g]? = some fn) (hb : fn.body = some c)
 (hc : compile P fn.ntmps c = some m) (hn : args.length ≤ fn.ntmps)
 (h : VC P fn.ntmps m (fun f w => resV P fn.results.toList f w fun vs => R (.returned (tup vs)) w) [] (fun f w => resV P fn.results.toList f w fun vs => R (.returned (tup vs)) w) (fr0 args) w) :
 Calls P g args.toArray w R := by
 have h0 : Frm [] fn.ntmps (fr0 args) { tmps := args.toArray ++ Array.replicate (fn.ntmps - args.toArray.size) undef, defers := [] } := by
  refine ⟨by simp; omega, fun i => ?_, rfl⟩
  simp only [fr0, Array.getD_eq_getD_getElem?, List.getD_eq_getElem?_getD]
  by_cases hi : i < args.length
  ·rw [Array.getElem?_append_left (by simpa using hi)]; simp
  rw [Array.getElem?_append_right (by simpa using hi)]
  simp only [List.getElem?_eq_none (by omega : args.length ≤ i), Option.getD_none, Array.getElem?_replicate]
  split <;> rfl
 refine calls_of_wp hf hb (Code.wp_mono ?_ (code_sound hm c m _ _ _ _ _ _ hc h h0))
 have key : ∀ (f : Fr) (a : Act) (w : World), Frm [] fn.ntmps f a → (resV P fn.results.toList f w fun vs => R (.returned (tup vs)) w) → a.defers = [] ∧ ∃ v, (results fn a.tmps).run P w = .ok v w ∧ R (.returned v) w := by
  intro f a w hf h
  refine ⟨hf.defers, ?_⟩
  obtain ⟨vs, hv, hr⟩ := res_run hf _ _ h
  refine ⟨_, ?_, hv⟩
  unfold results
  rw [Array.mapM_eq_mapM_toList]
  simp only [Sem.run_bind, Sem.run_map, Sem.run_pure]
  refine (congrArg (fun q => (Result.andThen q _).andThen _) hr).trans ?_
  simp only [Result.andThen_ok]
  rcases vs with _ | ⟨v, _ | ⟨u, vs⟩⟩ <;> simp [tup]
 rintro e a w ⟨f, hf, h⟩
 cases e <;> first | exact key f a w hf h | exact h.elim
end Go.Proofs.YtifnmbmijljhfaaGreat.E
