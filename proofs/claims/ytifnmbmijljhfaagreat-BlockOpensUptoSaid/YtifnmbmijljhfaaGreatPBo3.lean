/- Part 3 of the proof of what the last of these files says. -/
import Derived.Test.YtifnmbmijljhfaaGreatPBo2
import Derived.Laws.Append
import Derived.Laws.BytesString
import Derived.Laws.BytesArg
import Derived.Laws.CopyRow
namespace Go.Proofs.YtifnmbmijljhfaaGreat.E
open Go
variable {P : Program}
theorem fold_set (l : List Value) : ∀ (cs : Array Value) (o k : Nat), o + k + l.length ≤ cs.size →
 ((l.zipIdx k).foldl (fun (cs : Array Value) (p : Value × Nat) => cs.setIfInBounds (o + p.2) p.1) cs).toList = cs.toList.take (o + k) ++ l ++ cs.toList.drop (o + k + l.length) := by
 induction l with
 | nil => intro cs o k h; simp
 | cons v l ih =>
  intro cs o k h
  simp only [List.zipIdx_cons, List.foldl_cons, List.length_cons] at h ⊢
  rw [ih _ o (k + 1) (by simp; omega)]
  simp only [Array.toList_setIfInBounds]
  have hlt : o + k < cs.toList.length := by simp; omega
  have e1 : (cs.toList.set (o + k) v).take (o + (k + 1)) = cs.toList.take (o + k) ++ [v] := by
   rw [show o + (k + 1) = (o + k) + 1 by omega, List.take_add_one, List.take_set_of_le (by omega)]
   simp [List.getElem?_set]
   omega
  have e2 : (cs.toList.set (o + k) v).drop (o + (k + 1) + l.length) = cs.toList.drop (o + k + (l.length + 1)) := by
   rw [List.drop_set_of_lt (by omega)]
   congr 1
   omega
  rw [e1, e2]
  simp
theorem fill_spec (place : Nat → Option (Nat × Nat)) (f : Fr) : ∀ (parts : List (Nat × Operand)) (l : List (Nat × Nat × Operand)) (cells : Array Value) (r : List Value),
 compParts place parts = some l → fillC cells.toList (l.map fun (o, s, x) => (o, s, ev f x)) = some r →
 Instr.fill place cells (parts.map fun (i, x) => (i, ev f x)) = some r.toArray := by
 intro parts
 induction parts with
 | nil => intro l cells r h1 h2; simp [compParts] at h1; subst h1; simp [fillC] at h2; subst h2; simp [Instr.fill]
 | cons p parts ih =>
  intro l cells r h1 h2
  obtain ⟨i, x⟩ := p
  simp only [compParts] at h1
  split at h1
  ·rename_i o s l' hp hl
   cases h1
   simp only [List.map_cons, fillC] at h2
   split at h2
   ·rename_i hc
    obtain ⟨hc1, hc2⟩ := hc
    simp only [List.map_cons, Instr.fill, hp]
    have hb : ((decide ((ev f x).cells.size ≠ s) || decide (o + (ev f x).cells.size > cells.size)) : Bool) = false := by
     simp at hc2 ⊢; omega
    have hcond : ¬ ((decide ((ev f x).cells.size ≠ s) || decide (o + (ev f x).cells.size > cells.size)) = true) := by rw [hb]; simp
    rw [if_neg hcond]
    refine ih l' _ r hl ?_
    rw [← h2]
    congr 1
    rw [← Array.foldl_toList]
    have := fold_set (ev f x).cells.toList cells o 0 (by simp at hc2 ⊢; omega)
    simp only [Nat.add_zero, Array.length_toList, hc1] at this
    rw [← this]
    simp
   cases h2
  cases h1
section
variable {f : Fr} {K : Value → Prop} {dst : Option Tmp} {ty : TypeId} {pos : String} {aft : Array Edge} {gd : Option (Nat × Bool)}
theorem run_places (w : World) : ∀ (fs : List Field) (pl : List (Nat × Nat)), (fs.mapM fun f => (sz? P f.type).map fun s => (f.offset, s)) = some pl →
 (fs.mapM (m := Sem) fun f => do pure (f.offset, ← sizeOf f.type)).run P w = .ok pl w := by
 intro fs
 induction fs with
 | nil => intro pl h; simp at h; subst h; simp
 | cons a fs ih =>
  intro pl h
  rw [List.mapM_cons] at h
  cases hs : sz? P a.type with
  | none => simp [hs] at h
  | some s =>
   cases hr : (fs.mapM fun f => (sz? P f.type).map fun s => (f.offset, s)) with
   | none => simp [hs, hr] at h
   | some pl' =>
    simp [hs, hr] at h
    subst h
    rw [List.mapM_cons]
    simp only [Sem.run_bind, run_szo hs, Result.andThen_ok, Sem.run_pure]
    rw [ih pl' hr]
    rfl
theorem g_bldS {t : TypeId} {parts : Array (Nat × Operand)} {fs : Array Field} {z : Value} {pl : List (Nat × Nat)} {l : List (Nat × Nat × Operand)} (ht : P.underlying t = some (.struct fs)) (hz : zero? P t = some z)
 (hp : (fs.toList.mapM fun f => (sz? P f.type).map fun s => (f.offset, s)) = some pl) (hl : compParts (fun i => pl[i]?) parts.toList = some l) (h : pe (.bld z.cells.toList l) f K) :
 Gives P f ⟨dst, .build t parts, ty, pos, aft, gd⟩ K := by
 simp only [pe] at h
 split at h
 ·rename_i cs hc
  refine ⟨_, h, fun w => ?_⟩
  have hpl := run_places (P := P) w fs.toList pl hp
  have hfill := fill_spec (fun i => pl[i]?) f parts.toList l z.cells cs hl hc
  have hmm : (fs.mapM (m := Sem) fun f => do pure (f.offset, ← sizeOf f.type)).run P w = .ok pl.toArray w := by
   rw [Array.mapM_eq_mapM_toList]
   simp only [Sem.run_map, hpl, Result.andThen_ok]
  have hfill' : Instr.fill (fun i => pl.toArray[i]?) z.cells (parts.map fun (i, x) => (i, ev f x)).toList = some cs.toArray := by
   rw [← hfill]; simp
  simp only [execOp, Instr.build, Sem.run_bind, run_zero hz, Result.andThen_ok, run_und ht, hmm, hfill', Sem.run_pure]
 exact h.elim
theorem g_bldA {t e : TypeId} {n s : Nat} {parts : Array (Nat × Operand)} {z : Value} {l : List (Nat × Nat × Operand)} (ht : P.underlying t = some (.array n e)) (hz : zero? P t = some z)
 (hs : sz? P e = some s) (hl : compParts (fun i => some (i * s, s)) parts.toList = some l) (h : pe (.bld z.cells.toList l) f K) :
 Gives P f ⟨dst, .build t parts, ty, pos, aft, gd⟩ K := by
 simp only [pe] at h
 split at h
 ·rename_i cs hc
  refine ⟨_, h, fun w => ?_⟩
  have hfill := fill_spec (fun i => some (i * s, s)) f parts.toList l z.cells cs hl hc
  have hfill' : Instr.fill (fun i => some (i * s, s)) z.cells (parts.map fun (i, x) => (i, ev f x)).toList = some cs.toArray := by
   rw [← hfill]; simp
  simp only [execOp, Instr.build, Sem.run_bind, run_zero hz, Result.andThen_ok, run_und ht, run_szo hs, hfill', Sem.run_pure]
 exact h.elim
theorem bnd_inv {x : Option Value} {d y : Nat} {K : Nat → Prop} (h : bnd x d y K) : ∃ n, K n ∧ (x = none ∧ n = d ∨ ∃ k i, x = some (.int k i) ∧ 0 ≤ i ∧ i ≤ (y : Int) ∧ n = i.toNat) := by
 unfold bnd at h
 split at h
 ·exact ⟨d, h, .inl ⟨rfl, rfl⟩⟩
 obtain ⟨k, i, rfl, ⟨h0, h1⟩, h⟩ := anyint_inv h
 exact ⟨_, h, .inr ⟨k, i, rfl, h0, h1, rfl⟩⟩
theorem run_sb {k : IntKind} {i : Int} {y : Nat} {code : BoundsCode} {w : World} (h0 : 0 ≤ i) (h1 : i ≤ (y : Int)) : (Instr.sliceBound (.int k i) y code).run P w = .ok i.toNat w := by
 simp [Instr.sliceBound, asIntOf, h0, h1]
theorem run_bounds {b : Bool} {len cap : Nat} {lo hi mx : Option Value} {l h m : Nat} {w : World}
 (hm : mx = none ∧ m = cap ∨ ∃ k i, mx = some (.int k i) ∧ 0 ≤ i ∧ i ≤ (cap : Int) ∧ m = i.toNat)
 (hh : hi = none ∧ h = len ∧ mx = none ∨ ∃ k i, hi = some (.int k i) ∧ 0 ≤ i ∧ i ≤ (m : Int) ∧ h = i.toNat)
 (hl : lo = none ∧ l = 0 ∨ ∃ k i, lo = some (.int k i) ∧ 0 ≤ i ∧ i ≤ (h : Int) ∧ l = i.toNat) : (Instr.sliceBounds b len cap lo hi mx).run P w = .ok (l, h, m) w := by
 rcases hm with ⟨rfl, rfl⟩ | ⟨k1, i1, rfl, a1, b1, rfl⟩ <;> rcases hh with ⟨rfl, rfl, h3⟩ | ⟨k2, i2, rfl, a2, b2, rfl⟩ <;> rcases hl with ⟨rfl, rfl⟩ | ⟨k3, i3, rfl, a3, b3, rfl⟩ <;>
  (try cases h3) <;> simp only [Instr.sliceBounds, Sem.run_bind, Sem.run_pure, Result.andThen_ok] <;>
  (try rw [run_sb a1 b1]) <;> (try simp only [Result.andThen_ok]) <;> (try rw [run_sb a2 b2]) <;> (try simp only [Result.andThen_ok]) <;> (try rw [run_sb a3 b3]) <;> rfl
theorem cutAt_eq (sz : Nat) (a : Option Addr) (l m : Nat) : (if m = l then a else a.map (·.add (l * sz))) = cutAt sz a l m := by
 rcases a with _ | ⟨b, o, _ | s⟩ <;> simp [cutAt, Addr_add]
theorem g_slc {t e : TypeId} {s : Nat} {x : Operand} {lo hi mx : Option Operand} (hok : slcOk hi mx = true) (ht : P.underlying t = some (.slice e)) (hs : sz? P e = some s) (h : pe (.slc s x lo hi mx) f K) :
 Gives P f ⟨dst, .slice t x lo hi mx, ty, pos, aft, gd⟩ K := by
 obtain ⟨a, n, c, hx, h⟩ := kslice_inv h
 obtain ⟨m, h, hm⟩ := bnd_inv h
 obtain ⟨q, h, hq⟩ := bnd_inv h
 obtain ⟨l, h, hl⟩ := bnd_inv h
 refine ⟨_, h, fun w => ?_⟩
 have hq' : hi.map (ev f) = none ∧ q = n ∧ mx.map (ev f) = none ∨ ∃ k i, hi.map (ev f) = some (.int k i) ∧ 0 ≤ i ∧ i ≤ (m : Int) ∧ q = i.toNat := by
  rcases hq with ⟨h1, h2⟩ | h1
  ·refine .inl ⟨h1, h2, ?_⟩
   cases hi <;> simp at h1
   cases mx <;> simp [slcOk] at hok ⊢
  exact .inr h1
 have hb := run_bounds (P := P) (b := true) (w := w) (len := n) hm hq' hl
 simp only [execOp, hx, Instr.sliceAt, Instr.slice, Sem.run_bind, run_und ht, Result.andThen_ok, hb, run_szo hs, Sem.run_pure, cutAt_eq]
theorem g_slcs {t : TypeId} {x : Operand} {lo hi : Option Operand} (ht : P.underlying t = some .string) (h : pe (.slcs x lo hi) f K) :
 Gives P f ⟨dst, .slice t x lo hi none, ty, pos, aft, gd⟩ K := by
 obtain ⟨s, hx, h⟩ := kstr_inv h
 obtain ⟨q, h, hq⟩ := bnd_inv h
 obtain ⟨l, h, hl⟩ := bnd_inv h
 refine ⟨_, h, fun w => ?_⟩
 have hq' : hi.map (ev f) = none ∧ q = s.size ∧ (none : Option Value) = none ∨ ∃ k i, hi.map (ev f) = some (.int k i) ∧ 0 ≤ i ∧ i ≤ (s.size : Int) ∧ q = i.toNat := by
  rcases hq with ⟨h1, h2⟩ | h1
  ·exact .inl ⟨h1, h2, rfl⟩
  exact .inr h1
 have hb := run_bounds (P := P) (b := false) (w := w) (len := s.size) (cap := s.size) (mx := none) (.inl ⟨rfl, rfl⟩) hq' hl
 simp [execOp, hx, Instr.sliceAt, Instr.slice, run_und ht, hb]
theorem g_slca {t e : TypeId} {n s : Nat} {x : Operand} {lo hi : Option Operand} (ht : P.underlying t = some (.array n e)) (hs : sz? P e = some s) (h : pe (.slca n s x lo hi) f K) :
 Gives P f ⟨dst, .slice t x lo hi none, ty, pos, aft, gd⟩ K := by
 obtain ⟨b, o, hx, h⟩ := kptr_inv h
 obtain ⟨q, h, hq⟩ := bnd_inv h
 obtain ⟨l, h, hl⟩ := bnd_inv h
 refine ⟨_, h, fun w => ?_⟩
 have hq' : hi.map (ev f) = none ∧ q = n ∧ (none : Option Value) = none ∨ ∃ k i, hi.map (ev f) = some (.int k i) ∧ 0 ≤ i ∧ i ≤ (n : Int) ∧ q = i.toNat := by
  rcases hq with ⟨h1, h2⟩ | h1
  ·exact .inl ⟨h1, h2, rfl⟩
  exact .inr h1
 have hb := run_bounds (P := P) (b := false) (w := w) (len := n) (cap := n) (mx := none) (.inl ⟨rfl, rfl⟩) hq' hl
 simp only [execOp, hx, Instr.sliceAt, Instr.sureAddr, Sem.run_bind, run_und ht, Result.andThen_ok, Option.map_none, hb, run_szo hs, Sem.run_pure]
 rw [← cutAt_eq]
 by_cases hnl : n = l <;> simp [hnl]
theorem mm_run' (mx : Bool) (k : IntKind) : ∀ (vs : List Value) (m : Int) (K : Value → Prop), mmI mx k m vs K → ∃ v, K v ∧ ∀ w,
 (vs.foldlM (m := Sem) (if mx then Builtin.max2 else Builtin.min2) (.int k m)).run P w = .ok v w := by
 intro vs
 induction vs with
 | nil => intro m K h; exact ⟨_, h, fun w => by simp⟩
 | cons v vs ih =>
  intro m K h
  obtain ⟨n, rfl, h2⟩ := kint_inv h
  obtain ⟨v, hv, hr⟩ := ih _ K h2
  refine ⟨v, hv, fun w => ?_⟩
  rw [List.foldlM_cons]
  simp only [Sem.run_bind]
  rw [← hr]
  cases mx <;> simp [Builtin.max2, Builtin.min2]
theorem g_mm {mx : Bool} {k : IntKind} {x : Operand} {xs : List Operand} {av : Array Operand} {ats : Array TypeId} (ha : av.toList = x :: xs) (h : pe (.mm mx k x xs) f K) :
 Gives P f ⟨dst, .call ⟨.builtin (if mx then .max else .min), av, ats⟩, ty, pos, aft, gd⟩ K := by
 obtain ⟨a, hx, h⟩ := kint_inv h
 obtain ⟨v, hv, hr⟩ := mm_run' (P := P) mx k _ _ K h
 refine ⟨v, hv, fun w => ?_⟩
 have e : (av.map (ev f)).toList = .int k a :: xs.map (ev f) := by simp [ha, hx]
 cases mx
 ·simp only [Bool.false_eq_true, if_false] at hr ⊢
  simp [execOp, resolve, invoke, builtin, Builtin.min_]
  simp [ha, hx, hr]
 simp only [if_true] at hr ⊢
 simp [execOp, resolve, invoke, builtin, Builtin.max_]
 simp [ha, hx, hr]
end
theorem pure_sound {f : Fr} {K : Value → Prop} {o : Oper} {p : PO} (hc : comp P o = some (.inl p)) (h : pe p f K) : Gives P f o K := by
 obtain ⟨dst, op, ty, pos, aft, gd⟩ := o
 cases op <;> simp only [comp] at hc
 case move x => cases hc; exact (g_mv h).1
 case assign x => cases hc; exact (g_mv h).2
 case pick c a b => cases hc; exact g_pick h
 case binOp op t x y u =>
  cases hb : compBin P op t x y with
  | none => simp [hb] at hc
  | some q =>
   simp [hb] at hc
   subst hc
   unfold compBin at hb
   split at hb
   ·rename_i k hu
    split at hb <;> cases hb <;> first | exact g_shf h | exact g_div h | exact g_bin (by simp [isCmp]) h
   ·rename_i hu
    split at hb <;> cases hb
    ·exact g_beq (n := false) hu h
    exact g_beq (n := true) hu h
   ·rename_i hu
    split at hb <;> cases hb <;> exact g_sbin h
   ·rename_i e hu
    split at hb <;> cases hb
    ·exact g_isnil (n := false) (.inl ⟨rfl, ⟨e, hu⟩, rfl⟩) h
    exact g_isnil (n := true) (.inl ⟨rfl, ⟨e, hu⟩, rfl⟩) h
   ·rename_i e hu
    split at hb <;> cases hb
    ·exact g_isnil (n := false) (.inr (.inl ⟨rfl, ⟨e, hu⟩, _, _, rfl⟩)) h
    exact g_isnil (n := true) (.inr (.inl ⟨rfl, ⟨e, hu⟩, _, _, rfl⟩)) h
   ·rename_i e1 e2 e3 hu
    split at hb <;> cases hb
    ·exact g_isnil (n := false) (.inr (.inr ⟨rfl, ⟨_, _, _, hu⟩, rfl⟩)) h
    exact g_isnil (n := true) (.inr (.inr ⟨rfl, ⟨_, _, _, hu⟩, rfl⟩)) h
   ·rename_i fs hu
    split at hb
    ·rename_i ks hf
     split at hb
     ·rename_i hcc
      simp only [Bool.and_eq_true, Bool.not_eq_true'] at hcc
      split at hb <;> cases hb
      ·exact g_aeq (n := false) hu hf hcc.1 hcc.2 h
      exact g_aeq (n := true) hu hf hcc.1 hcc.2 h
     cases hb
    cases hb
   cases hb
 case unOp op t x =>
  cases op <;> simp only [comp] at hc
  case not => cases hc; exact g_not h
  case neg =>
   cases hk : kind? P t with
   | none => simp [hk] at hc
   | some k => simp [hk] at hc; subst hc; exact g_neg h
  case xor =>
   cases hk : kind? P t with
   | none => simp [hk] at hc
   | some k => simp [hk] at hc; subst hc; exact g_cpl (by simpa using h)
  all_goals cases hc
 case convert s d x =>
  split at hc
  ·rename_i k' k hs hd; cases hc; exact g_conv ⟨_, hs⟩ hd h
  ·rename_i hs hd; cases hc; exact g_convId hs hd h
  ·split at hc <;> cases hc
  ·split at hc <;> cases hc
  ·cases hc
  cases hc
 case fieldAddr s x j =>
  split at hc
  ·rename_i fs hs
   split at hc
   ·rename_i fl hf
    split at hc
    ·rename_i n hn
     split at hc
     ·cases hc
     rename_i h0; cases hc; exact g_fa hs hf hn h0 h
    cases hc
   cases hc
  cases hc
 case field t x j =>
  split at hc
  ·rename_i fs hs
   split at hc
   ·rename_i fl hf
    cases hl : ldsz P fl.type with
    | none => simp [hl] at hc
    | some s => simp [hl] at hc; subst hc; exact g_fld hs hf hl h
   cases hc
  cases hc
 case extract x i => cases hc; exact g_ext h
 case makeFunc fn a c => cases hc; exact g_mkf h
 case nilCheck x => cases hc; exact g_nilchk h
 case build t parts =>
  split at hc
  ·rename_i fs z ht hz
   split at hc
   ·rename_i pl hp
    cases hl : compParts (fun i => pl[i]?) parts.toList with
    | none => simp [hl] at hc
    | some l => simp [hl] at hc; subst hc; exact g_bldS ht hz hp hl h
   cases hc
  ·rename_i n e z ht hz
   split at hc
   ·rename_i s hs
    cases hl : compParts (fun i => some (i * s, s)) parts.toList with
    | none => simp [hl] at hc
    | some l => simp [hl] at hc; subst hc; exact g_bldA ht hz hs hl h
   cases hc
  cases hc
 case indexAddr t x i =>
  split at hc
  ·rename_i e ht
   cases hs : sz? P e with
   | none => simp [hs] at hc
   | some s => simp [hs] at hc; subst hc; exact g_idx ht hs h
  ·rename_i n e ht
   cases hs : sz? P e with
   | none => simp [hs] at hc
   | some s => simp [hs] at hc; subst hc; exact g_idxa ht hs h
  cases hc
 case index t x i =>
  split at hc
  ·rename_i ht; cases hc; exact g_idxs ht h
  ·rename_i n e ht
   split at hc
   ·rename_i b s hg hs; cases hc; exact g_idxv ht hg hs h
   cases hc
  cases hc
 case slice t x lo hi mx =>
  split at hc
  ·rename_i e ht
   split at hc
   ·rename_i hok
    cases hs : sz? P e with
    | none => simp [hs] at hc
    | some s => simp [hs] at hc; subst hc; exact g_slc hok ht hs h
   cases hc
  ·rename_i ht
   split at hc
   ·rename_i hm; cases hc; cases mx <;> simp at hm; exact g_slcs ht h
   cases hc
  ·rename_i n e ht
   split at hc
   ·rename_i hm
    cases mx <;> simp at hm
    cases hs : sz? P e with
    | none => simp [hs] at hc
    | some s => simp [hs] at hc; subst hc; exact g_slca ht hs h
   cases hc
  cases hc
 case buildSlice t n parts => repeat (first | cases hc | split at hc)
 case load t x => cases hl : ldsz P t <;> simp [hl] at hc
 case store t a x => cases hl : sz? P t <;> simp [hl] at hc
 case alloc t => cases hl : zero? P t <;> simp [hl] at hc
 case makeSlice t l c => repeat (first | cases hc | split at hc)
 case makeMap t r => cases r <;> simp at hc
 case call c =>
  obtain ⟨callee, av, ats⟩ := c
  cases callee with
  | value q => cases q <;> simp only [comp] at hc <;> repeat (first | cases hc | split at hc)
  | invoke r m => cases hc
  | builtin b =>
   simp only at hc
   unfold builtinOp at hc
   split at hc
   ·rename_i x t ha ht
    have ha' : av = #[x] := by cases av; simp_all
    have ht' : ats[0]? = some t := by cases ats; simp_all
    subst ha'
    split at hc <;> cases hc
    ·rename_i hu; exact g_lens ht' hu h
    ·rename_i e hu; exact g_len ht' hu h
    rename_i n e hu; exact g_lenc ht' hu h
   ·repeat (first | cases hc | split at hc)
   ·rename_i x y t u ha ht
    split at hc
    ·rename_i e hu
     cases hs : sz? P e <;> simp [hs] at hc
    cases hc
   ·rename_i x xs t ts ha ht
    cases hk : kind? P t with
    | none => simp [hk] at hc
    | some k => simp [hk] at hc; subst hc; exact g_mm (mx := false) ha h
   ·rename_i x xs t ts ha ht
    cases hk : kind? P t with
    | none => simp [hk] at hc
    | some k => simp [hk] at hc; subst hc; exact g_mm (mx := true) ha h
   cases hc
 all_goals cases hc
end Go.Proofs.YtifnmbmijljhfaaGreat.E
namespace Go.Proofs.YtifnmbmijljhfaaGreat.E
open Go
variable {P : Program}
theorem run_st (b o : Nat) : ∀ (vs : List Value) (i : Nat) (w : World), Writable w b (o + i) vs.length → oneCells vs →
 (storeCells ⟨b, o, none⟩ vs i).run P w = .ok () (World.stores w b (o + i) vs) := by
 intro vs
 induction vs with
 | nil => intro i w _ _; simp [storeCells, World.stores]
 | cons v vs ih =>
  intro i w hw hv
  obtain ⟨⟨u, hc⟩, hf⟩ := hw 0 (by simp)
  simp only [Nat.add_zero] at hc hf
  simp only [storeCells, Addr_add, World.stores, Sem.run_bind]
  rw [run_store P w _ v _ (hv v (by simp)), hc]
  simp only [hf, Bool.false_eq_true, if_false, Result.andThen_ok]
  rw [ih (i + 1) _ ?_ (fun c hc => hv c (by simp [hc]))]
  ·rfl
  intro j hj
  obtain ⟨⟨u', hc'⟩, hf'⟩ := hw (j + 1) (by simp; omega)
  have e : o + i + (j + 1) = o + (i + 1) + j := by omega
  rw [e] at hc' hf'
  refine ⟨⟨u', ?_⟩, by rw [World.frozen?_setCell]; exact hf'⟩
  rw [World.cell?_setCell_other (w := w) (v := v) (a := ⟨b, o + i, none⟩) (b := ⟨b, o + (i + 1) + j, none⟩) (by intro h; injection h with _ h2; omega)]
  exact hc'
theorem run_row {w : World} {b o : Nat} {cs : List Value} (h : Row w (some ⟨b, o, none⟩) cs) : (loadCells ⟨b, o, none⟩ cs.length).run P w = .ok cs.toArray w := by
 refine run_loadCells_list w _ cs fun j v hv => ?_
 have hj : j < cs.length := by
  rcases Nat.lt_or_ge j cs.length with h | h
  ·exact h
  rw [List.getElem?_eq_none h] at hv; cases hv
 rw [Addr_add, h j hj, hv]
theorem run_src {w : World} {x : Value} {n sz : Nat} {cs : List Value} (h : Src w x n sz cs) : (Builtin.firstCells sz n x).run P w = .ok cs.toArray w := by
 unfold Src at h
 split at h
 ·rename_i a l c
  obtain ⟨h1, h2⟩ := h
  cases a with
  | none => simp at h1; subst h1; simp [Builtin.firstCells]
  | some a =>
   obtain ⟨b, o, sp⟩ := a
   cases sp with
   | some s => simp only [Row] at h2; subst h2; simp at h1; simp only [Builtin.firstCells]; rw [← h1]; simp [loadCells, loadCellsFrom]
   | none =>
    simp only [Option.isNone_some, Bool.false_eq_true, if_false] at h1
    simp only [Builtin.firstCells]
    rw [← h1]
    exact run_row h2
 ·subst h
  simp only [Builtin.firstCells, Sem.run_pure]
  congr 1
  apply Array.toList_inj.mp
  simp
 exact h.elim
theorem rep_eq (zero : List Value) (n : Nat) : (Builtin.zeroCells zero.toArray n).toList = repC zero n := by
 induction n with
 | zero => simp [Builtin.zeroCells, repC]
 | succ n ih =>
  have e : (n + 1) * zero.length = zero.length + n * zero.length := by rw [Nat.add_mul, Nat.one_mul, Nat.add_comm]
  simp only [Builtin.zeroCells, List.size_toArray, Array.toList_map, Array.toList_range] at ih ⊢
  rw [e, List.range_add, List.map_append, repC]
  congr 1
  ·apply List.ext_getElem (by simp)
   intro i h1 h2
   simp at h1
   simp [Nat.mod_eq_of_lt h1, h1]
  rw [← ih, List.map_map]
  apply List.map_congr_left
  intro i _
  simp
theorem lenN_inv {x : Value} {K : Nat → Prop} (h : lenN x K) : ∃ n, K n ∧ ∀ w : World, (Builtin.lenOf x).run P w = .ok n w := by
 unfold lenN at h
 split at h
 ·exact ⟨_, h, fun w => by simp [Builtin.lenOf]⟩
 ·exact ⟨_, h, fun w => by simp [Builtin.lenOf]⟩
 exact h.elim
section
variable {f : Fr} {w : World} {K : Value → World → Prop} {dst : Option Tmp} {ty : TypeId} {pos : String} {aft : Array Edge} {gd : Option (Nat × Bool)} {a : Act} {next : Act → World → Prop} {Q : Exit → Act → World → Prop}
theorem wp_val {o : Oper} {v : Value} {w' : World} (ha : a.eval = ev f) (h : (execOp (ev f) o).run P w = .ok (.value v) w') (hk : next (a.put o.dst v) w') : o.wp P a w next Q := by
 unfold Oper.wp
 rw [ha, h]
 exact hk
theorem wp_skp {o : Oper} {w' : World} (ha : a.eval = ev f) (h : (execOp (ev f) o).run P w = .ok .skip w') (hk : next (a.put o.dst undef) w') : o.wp P a w next Q := by
 unfold Oper.wp
 rw [ha, h]
 exact hk
theorem wp_ent {o : Oper} {g : FuncId} {args : Array Value} (ha : a.eval = ev f) (h : (execOp (ev f) o).run P w = .ok (.enter g args) w)
 (hk : Calls P g args w (Rt fun v w' => next (a.put o.dst v) w')) : o.wp P a w next Q := by
 unfold Oper.wp
 rw [ha, h]
 exact hk.mono fun e w' ⟨v, he, hv⟩ => by subst he; exact hv
theorem l_ld {t : TypeId} {s : Option Nat} {x : Operand} (hs : ldsz P t = some s) (ha : a.eval = ev f) (h : vl P (.ld s x) f w K) (hK : ∀ v w', K v w' → next (a.put dst v) w') :
 (⟨dst, .load t x, ty, pos, aft, gd⟩ : Oper).wp P a w next Q := by
 cases s with
 | none =>
  obtain ⟨b, o, hx, v, hv, h⟩ := kptr_inv h
  refine wp_val ha ?_ (hK v w h)
  unfold ldsz at hs
  split at hs <;> cases hs
  rename_i n hg hz
  simp [execOp, hx, Instr.loadAt, Instr.sureAddr, loadVar, run_isAgg hg, run_load, hv]
 | some n =>
  obtain ⟨b, o, hx, cs, hl, hr, h⟩ := kptr_inv h
  refine wp_val ha ?_ (hK _ w h)
  unfold ldsz at hs
  split at hs <;> cases hs
  rename_i hg hz
  have := run_row (P := P) hr
  rw [hl] at this
  simp [execOp, hx, Instr.loadAt, Instr.sureAddr, loadVar, run_isAgg hg, run_szo hz, this]
theorem l_st {t : TypeId} {s : Nat} {p x : Operand} (hs : sz? P t = some s) (ha : a.eval = ev f) (h : vl P (.st s p x) f w K) (hK : ∀ v w', K v w' → next (a.put dst v) w') :
 (⟨dst, .store t p x, ty, pos, aft, gd⟩ : Oper).wp P a w next Q := by
 obtain ⟨b, o, hx, h1, h2, h3, h⟩ := kptr_inv h
 refine wp_skp ha ?_ (hK _ _ h)
 have := run_st (P := P) b o (ev f x).cells.toList 0 w (by simpa [h1] using h3) h2
 simp only [execOp, hx, Instr.storeAt, Instr.sureAddr, storeVar, Sem.run_bind, Sem.run_pure, Result.andThen_ok, run_szo hs, h1]
 simp [this]
theorem l_al {t : TypeId} {z : Value} (hz : zero? P t = some z) (ha : a.eval = ev f) (h : vl P (.al t z.cells.toList) f w K) (hK : ∀ v w', K v w' → next (a.put dst v) w') :
 (⟨dst, .alloc t, ty, pos, aft, gd⟩ : Oper).wp P a w next Q := by
 refine wp_val ha ?_ (hK _ _ h)
 simp [execOp, Instr.alloc, run_zero hz, newVar, newRow, allocW]
theorem l_bx {t : TypeId} {x : Operand} (ha : a.eval = ev f) (h : vl P (.bx t x) f w K) (hK : ∀ v w', K v w' → next (a.put dst v) w') :
 (⟨dst, .box t x, ty, pos, aft, gd⟩ : Oper).wp P a w next Q := by
 refine wp_val ha ?_ (hK _ _ h)
 simp [execOp, Instr.box, newVar, newRow, allocW]
theorem l_bs {t e : TypeId} {n s : Nat} {z : Value} {parts : Array (Nat × Operand)} {l : List (Nat × Nat × Operand)} (ht : P.underlying t = some (.slice e)) (hs : sz? P e = some s) (hz : zero? P e = some z)
 (hl : compParts (fun i => some (i * s, s)) parts.toList = some l) (hle : ¬ n * s > 2 ^ 24) (ha : a.eval = ev f)
 (h : vl P (.bs e n s ((Array.range (n * s)).map ((if n * s = 0 then #[] else z.cells)[· % (if n * s = 0 then #[] else z.cells).size]!)).toList l) f w K) (hK : ∀ v w', K v w' → next (a.put dst v) w') :
 (⟨dst, .buildSlice t n parts, ty, pos, aft, gd⟩ : Oper).wp P a w next Q := by
 simp only [vl] at h
 split at h
 ·rename_i cs hc
  refine wp_val ha ?_ (hK _ _ h)
  have hfill := fill_spec (fun i => some (i * s, s)) f parts.toList l _ cs hl hc
  have e1 : (parts.map fun (i, x) => (i, ev f x)).toList = parts.toList.map fun (i, x) => (i, ev f x) := by simp
  by_cases h0 : n * s = 0
  ·simp only [h0, if_true] at hfill
   simp only [execOp, Instr.buildSlice, Sem.run_bind, run_und ht, Result.andThen_ok, run_szo hs, h0, if_true, e1]
   rw [if_neg (by omega)]
   simp only [Sem.run_bind, Sem.run_pure, Result.andThen_ok, hfill]
   simp [newRow, allocW]
  simp only [h0, if_false] at hfill
  simp only [execOp, Instr.buildSlice, Sem.run_bind, run_und ht, Result.andThen_ok, run_szo hs, if_neg hle, h0, if_false, e1]
  simp only [Sem.run_bind, Sem.run_pure, Result.andThen_ok, run_zero hz, hfill]
  simp [newRow, allocW]
 exact h.elim
theorem l_mks {t e : TypeId} {l c : Operand} {i : TypeInfo} {z : Value} (ht : P.underlying t = some (.slice e)) (hi : P.info? e = some i) (hz : zero? P e = some z) (hsz : i.size = z.cells.size) (ha : a.eval = ev f)
 (h : vl P (.mks e i.bytes i.size z.cells.toList l c) f w K) (hK : ∀ v w', K v w' → next (a.put dst v) w') : (⟨dst, .makeSlice t l c, ty, pos, aft, gd⟩ : Oper).wp P a w next Q := by
 obtain ⟨k1, l', hl, h⟩ := anyint_inv h
 obtain ⟨k2, c', hc, ⟨h0, h1, h2, h3⟩, h⟩ := anyint_inv h
 refine wp_val ha ?_ (hK _ _ h)
 have w1 : IntKind.i64.wrap l' = l' := by simp [IntKind.wrap, IntKind.bits, IntKind.signed]; omega
 have w2 : IntKind.i64.wrap c' = c' := by simp [IntKind.wrap, IntKind.bits, IntKind.signed]; omega
 have b1 : ¬ c' < 0 := by omega
 have b2 : ¬ (i.bytes : Int) * c' > 2 ^ 48 := by omega
 have b3 : ¬ l' < 0 := by omega
 have b4 : ¬ l' > c' := by omega
 have hso : sz? P e = some i.size := by simp [sz?, hi]
 have hrep := rep_eq z.cells.toList c'.toNat
 have hcells : ((Array.range (c'.toNat * i.size)).map fun j => (if c'.toNat * i.size = 0 then #[] else z.cells)[j % (if c'.toNat * i.size = 0 then #[] else z.cells).size]!) = (repC z.cells.toList c'.toNat).toArray := by
  rw [← hrep, hsz]
  by_cases h0 : c'.toNat * z.cells.size = 0
  ·simp [h0, Builtin.zeroCells]
  simp only [h0, if_false, Builtin.zeroCells]
 simp only [execOp, hl, hc, Instr.makeSlice, Sem.run_bind, run_und ht, Result.andThen_ok, asInt, asIntOf, Sem.run_pure, run_tinfo hi, w1, w2, b1, b2, b3, b4, decide_false, Bool.or_self, Bool.false_eq_true, if_false, run_askRoom, run_szo hso]
 by_cases h0 : c'.toNat * i.size = 0
 ·simp only [h0, if_true] at hcells ⊢
  simp only [Sem.run_bind, Sem.run_pure, Result.andThen_ok, hcells]
  simp [newRow, allocW]
 simp only [h0, if_false] at hcells ⊢
 simp only [Sem.run_bind, Sem.run_pure, Result.andThen_ok, run_zero hz, hcells]
 simp [newRow, allocW]
theorem grow_run {e : TypeId} {i : TypeInfo} {z : Value} {b : Option Addr} {n c m : Nat} {new : List Value} (hi : P.info? e = some i) (hz : zero? P e = some z)
 (h : growVC w e i.bytes i.size z.cells.toList b n c m new K) (app : Sem (Array Value)) (hnew : ∀ w' : World, w'.heap = w.heap → app.run P w' = .ok new.toArray w') (zeros : Bool) (hzr : zeros = true → ((n + m : Nat) : Int) ≤ IntKind.i64.max) (x : Value) (xs : Value) (hx : xs = .slice b n c) :
 ∃ v w', K v w' ∧
 (do
  let need := n + m
  if need ≤ c then
   let new ← app
   if let some a := b then storeCells (a.add (n * i.size)) new.toList
   pure (.slice b need c)
  else
   if (need : Int) > IntKind.i64.max ∧ (zeros ∨ (← typeInfo e).bytes = 0) then runtimePanic (.error "growslice: len out of range")
   if Builtin.nextslicecap need c * (← typeInfo e).bytes > 2 ^ 48 then (if zeros then runtimePanic (.error "growslice: len out of range") else do
    if !(← Builtin.mayShare i.size n m b x) then mark .noRoom
    unsupported (.resourceLimit "append: a slice or a string whose bytes no memory bears"))
   let newCap ← choose (.appendCap need c e)
   askRoom (newCap * (← typeInfo e).bytes)
   let old ← Builtin.firstCells i.size n xs
   let new ← app
   let rest := Builtin.zeroCells (← zeroValue e).cells (newCap - need)
   pure (.slice (some (← newRow e (old ++ new ++ rest))) need newCap) : Sem Value).run P w = .ok v w' := by
 by_cases hc : n + m ≤ c
 ·have h1 := h.1 hc
  simp only [hc, if_true, Sem.run_bind, hnew w rfl, Result.andThen_ok]
  split at h1
  ·rename_i bb o
   obtain ⟨h2, h3, h4⟩ := h1
   refine ⟨_, _, h4, ?_⟩
   have := run_st (P := P) bb (o + n * i.size) new 0 w (by simpa using h2) h3
   simp only [Addr_add, Sem.run_bind]
   simp [this]
  ·exact ⟨_, _, h1, by simp⟩
  exact h1.elim
 obtain ⟨h1, h2, old, h3, h4⟩ := h.2 (by omega)
 have hno : ¬ (((n + m : Nat) : Int) > IntKind.i64.max ∧ (zeros = true ∨ i.bytes = 0)) := by
  rintro ⟨p, q | q⟩
  ·have := hzr q; omega
  have := h2 q; omega
 have hno2 : ¬ (Builtin.nextslicecap (n + m) c * i.bytes > 2 ^ 48) := by omega
 have hsrc : Src w.drew (.slice b n c) n i.size old := by
  refine ⟨h3.1, ?_⟩
  have := h3.2
  unfold Row at this ⊢
  split <;> simp_all
 have hcut : n + m ≤ (Question.appendCap (n + m) c e).cut (w.tape w.drawn (.appendCap (n + m) c e)) := by simp [Question.cut]
 refine ⟨_, _, h4 _ hcut, ?_⟩
 subst hx
 have hrep := rep_eq z.cells.toList ((Question.appendCap (n + m) c e).cut (w.tape w.drawn (.appendCap (n + m) c e)) - (n + m))
 simp only [hc, if_false, Sem.run_bind, run_tinfo hi, Result.andThen_ok, hno, hno2, Sem.run_pure, run_choose, Question.forced, Bool.false_eq_true, run_askRoom]
 have e1 : ({ w with drawn := w.drawn + 1 } : World) = w.drew := rfl
 simp only [e1, run_src hsrc, hnew w.drew rfl, run_zero hz, Result.andThen_ok]
 simp only [newRow, Sem.run_bind, Sem.run_pure]
 simp only [allocW, drewW, ← hrep]
 have ea : ∀ q : Array Value, (old ++ new ++ q.toList).toArray = old.toArray ++ new.toArray ++ q := fun q => by apply Array.toList_inj.mp; simp
 rw [ea]
 rfl
def isIntD : TypeDesc → Bool
 | .int _ => true
 | _ => false
theorem src_heap {w w' : World} {x : Value} {n sz : Nat} {cs : List Value} (hh : w'.heap = w.heap) (h : Src w x n sz cs) : Src w' x n sz cs := by
 unfold Src Row World.cell? at *
 rw [hh]
 exact h
theorem l_app {t u e : TypeId} {i : TypeInfo} {z : Value} {x y : Operand} {ats : Array TypeId} (h0 : ats[0]? = some t) (h1 : ats[1]? = some u) (ht : P.underlying t = some (.slice e)) (hi : P.info? e = some i) (hz : zero? P e = some z)
 {d : TypeDesc} (hu : P.underlying u = some d) (hnu : isIntD d = false) (ha : a.eval = ev f) (h : vl P (.app e i.bytes i.size z.cells.toList x y) f w K) (hK : ∀ v w', K v w' → next (a.put dst v) w') :
 (⟨dst, .call ⟨.builtin .append, #[x, y], ats⟩, ty, pos, aft, gd⟩ : Oper).wp P a w next Q := by
 obtain ⟨b, n, c, hx, h⟩ := kslice_inv h
 obtain ⟨m, ⟨new, hsrc, h⟩, hm⟩ := lenN_inv (P := P) h
 have hso : sz? P e = some i.size := by simp [sz?, hi]
 obtain ⟨v, w', hv, hr⟩ := grow_run hi hz h (Builtin.firstCells i.size m (ev f y)) (fun w' hh => run_src (src_heap hh hsrc)) false (by simp) (ev f y) _ rfl
 refine wp_val ha ?_ (hK v w' hv)
 have key : (Builtin.append_ ats ty #[.slice b n c, ev f y]).run P w = .ok v w' := by
  rw [← hr]
  simp only [Builtin.append_, h0, h1]
  simp only [List.getElem?_toArray, List.getElem?_cons_zero, List.getElem?_cons_succ, Sem.run_bind, run_und ht, Result.andThen_ok, run_szo hso, run_und hu, Sem.run_pure]
  cases d <;> simp only [isIntD, Bool.true_eq_false] at hnu <;> simp only [Bool.false_eq_true, if_false, Sem.run_bind, hm, Result.andThen_ok, Bool.not_false, if_true] <;> rfl
 simp only [execOp, resolve, Sem.run_bind, Sem.run_pure, Result.andThen_ok, invoke, builtin, List.map_toArray, List.map_cons, List.map_nil, hx, key]
theorem l_appz {t u e : TypeId} {k : IntKind} {i : TypeInfo} {z : Value} {x y : Operand} {ats : Array TypeId} (h0 : ats[0]? = some t) (h1 : ats[1]? = some u) (ht : P.underlying t = some (.slice e)) (hi : P.info? e = some i) (hz : zero? P e = some z)
 (hsz : i.size = z.cells.size) (hu : P.underlying u = some (.int k)) (ha : a.eval = ev f) (h : vl P (.appz e i.bytes i.size z.cells.toList x y) f w K) (hK : ∀ v w', K v w' → next (a.put dst v) w') :
 (⟨dst, .call ⟨.builtin .append, #[x, y], ats⟩, ty, pos, aft, gd⟩ : Oper).wp P a w next Q := by
 obtain ⟨b, n, c, hx, h⟩ := kslice_inv h
 obtain ⟨k', m, hy, ⟨h2, h3, h4⟩, h5, h⟩ := anyint_inv h
 have hso : sz? P e = some i.size := by simp [sz?, hi]
 have w1 : IntKind.i64.wrap m = m := by simp [IntKind.wrap, IntKind.bits, IntKind.signed]; omega
 have hrep := rep_eq z.cells.toList m.toNat
 have hrun : ∀ w' : World, (if m.toNat * i.size = 0 then (pure #[] : Sem (Array Value)) else do pure (Builtin.zeroCells (← zeroValue e).cells m.toNat)).run P w' = .ok (repC z.cells.toList m.toNat).toArray w' := by
  intro w'
  rw [← hrep, hsz]
  by_cases hq : m.toNat * z.cells.size = 0
  ·simp [hq, Builtin.zeroCells]
  simp [hq, run_zero hz]
 obtain ⟨v, w', hv, hr⟩ := grow_run hi hz h _ (fun w' _ => hrun w') true (fun _ => h5) (ev f y) _ rfl
 refine wp_val ha ?_ (hK v w' hv)
 have key : (Builtin.append_ ats ty #[.slice b n c, ev f y]).run P w = .ok v w' := by
  rw [← hr]
  simp only [Builtin.append_, h0, h1]
  simp only [List.getElem?_toArray, List.getElem?_cons_zero, List.getElem?_cons_succ, Sem.run_bind, run_und ht, Result.andThen_ok, run_szo hso, run_und hu, Sem.run_pure]
  have b1 : ¬ m < 0 := by omega
  have b2 : ¬ m * (i.bytes : Int) > 2 ^ 48 := by rw [Int.mul_comm]; omega
  simp only [if_true, Sem.run_bind, hy, asInt, asIntOf, Sem.run_pure, Result.andThen_ok, w1, b1, if_false, run_tinfo hi, b2, Bool.not_true, Bool.false_eq_true]
  rfl
 simp only [execOp, resolve, Sem.run_bind, Sem.run_pure, Result.andThen_ok, invoke, builtin, List.map_toArray, List.map_cons, List.map_nil, hx, key]
theorem l_cpy {t e : TypeId} {s : Nat} {x y : Operand} {ats : Array TypeId} (h0 : ats[0]? = some t) (ht : P.underlying t = some (.slice e)) (hs : sz? P e = some s) (ha : a.eval = ev f)
 (h : vl P (.cpy s x y) f w K) (hK : ∀ v w', K v w' → next (a.put dst v) w') : (⟨dst, .call ⟨.builtin .copy, #[x, y], ats⟩, ty, pos, aft, gd⟩ : Oper).wp P a w next Q := by
 obtain ⟨b, n, c, hx, h⟩ := kslice_inv h
 obtain ⟨m, ⟨new, hsrc, h⟩, hm⟩ := lenN_inv (P := P) h
 have hmin : Nat.min m n = min m n := rfl
 rcases b with _ | ⟨bb, o, _ | sp⟩
 ·refine wp_val ha ?_ (hK _ _ h)
  simp only [execOp, resolve, Sem.run_bind, Sem.run_pure, Result.andThen_ok, invoke, builtin, List.map_toArray, List.map_cons, List.map_nil, hx, Builtin.copy_, h0]
  simp only [List.getElem?_toArray, List.getElem?_cons_zero, List.getElem?_cons_succ, Sem.run_bind, run_und ht, Result.andThen_ok, hm, run_szo hs, hmin, run_src hsrc, Sem.run_pure, goInt]
 ·obtain ⟨h2, h3, h4⟩ := h
  refine wp_val ha ?_ (hK _ _ h4)
  have := run_st (P := P) bb o new 0 w (by simpa using h2) h3
  simp only [execOp, resolve, Sem.run_bind, Sem.run_pure, Result.andThen_ok, invoke, builtin, List.map_toArray, List.map_cons, List.map_nil, hx, Builtin.copy_, h0]
  simp only [List.getElem?_toArray, List.getElem?_cons_zero, List.getElem?_cons_succ, Sem.run_bind, run_und ht, Result.andThen_ok, hm, run_szo hs, hmin, run_src hsrc, Sem.run_pure, goInt]
  simp [this]
 exact h.elim
theorem l_b2s {s d e : TypeId} {x : Operand} (hs : P.underlying s = some (.slice e)) (he : P.underlying e = some (.int .u8)) (hd : P.underlying d = some .string) (ha : a.eval = ev f)
 (h : vl P (.b2s x) f w K) (hK : ∀ v w', K v w' → next (a.put dst v) w') : (⟨dst, .convert s d x, ty, pos, aft, gd⟩ : Oper).wp P a w next Q := by
 obtain ⟨b, n, c, hx, bs, hl, hr, h⟩ := kslice_inv h
 refine wp_val ha ?_ (hK _ _ h)
 simp only [execOp, hx, Sem.run_bind, run_convert_bytes_string w s d e b n c hs he hd]
 cases b with
 | none => simp at hl; subst hl; simp [Conv.bytesToString]; rfl
 | some b =>
  obtain ⟨bb, o, sp⟩ := b
  simp at hl
  have hcells : (loadCells ⟨bb, o, sp⟩ n).run P w = .ok ((bs.map fun b => (b.toNat : Int)).map (Value.int .u8)).toArray w := by
   cases sp with
   | none =>
    have := run_row (P := P) hr
    simp only [List.length_map, hl] at this
    rw [this]
    simp [Function.comp_def]
   | some q =>
    simp only [Row, List.map_eq_nil_iff] at hr
    subst hr
    simp at hl
    subst hl
    simp [loadCells, loadCellsFrom]
  rw [run_bytesToString w _ n c _ hcells, foldl_push_bytes]
  simp [Function.comp_def]
theorem l_s2b {s d e : TypeId} {x : Operand} (hs : P.underlying s = some .string) (hd : P.underlying d = some (.slice e)) (he : P.underlying e = some (.int .u8)) (ha : a.eval = ev f)
 (h : vl P (.s2b e x) f w K) (hK : ∀ v w', K v w' → next (a.put dst v) w') : (⟨dst, .convert s d x, ty, pos, aft, gd⟩ : Oper).wp P a w next Q := by
 obtain ⟨t, hx, h⟩ := kstr_inv h
 have hcut : t.size ≤ (Question.appendCap t.size 0 e).cut (w.tape w.drawn (.appendCap t.size 0 e)) := by simp [Question.cut]
 refine wp_val ha ?_ (hK _ _ (h _ hcut))
 generalize hq : (Question.appendCap t.size 0 e).cut (w.tape w.drawn (.appendCap t.size 0 e)) = c at hcut
 have hsz : t.data.toList.length = t.size := by rw [Array.length_toList]; rfl
 have ec : ((t.data.map fun b : UInt8 => Value.int .u8 b.toNat) ++ Array.replicate (c - t.size) (Value.int .u8 0)) = ((t.data.toList.map fun b : UInt8 => Value.int .u8 b.toNat) ++ List.replicate (c - t.size) (Value.int .u8 0)).toArray := by
  apply Array.toList_inj.mp; simp
 have e1 : ({ w with drawn := w.drawn + 1 } : World) = w.drew := rfl
 have e2 : ∀ (o : Obj) (w : World), (newObj o).run P w = .ok w.heap.size (w.alloc o) := fun _ _ => rfl
 have hsh : ∀ l : List Value, l.length = c → (w.drew.alloc (.cells l.toArray e)).shape? w.heap.size = some (e, c) := by
  intro l hl
  have e3 : (w.drew.alloc (.cells l.toArray e)).heap[w.heap.size]? = some (.cells l.toArray e) := by
   show (w.heap.push _)[w.heap.size]? = _
   rw [Array.getElem?_push_size]
  unfold World.shape?
  rw [e3]
  simp [hl]
 simp only [execOp, hx, convert, Sem.run_bind, run_und hs, run_und hd, run_und he, Result.andThen_ok, Conv.stringToBytes, run_choose, Question.forced, Bool.false_eq_true, if_false, hq, e1, newRow, e2, Sem.run_pure, markStringish, run_shape]
 rw [ec, hsh _ (by rw [List.length_append, List.length_map, List.length_replicate, hsz]; omega)]
 simp only [Sem.run_bind, run_freeze, Result.andThen_ok, Sem.run_pure]
 rfl
theorem l_call {g : FuncId} {fn : Func} {av : Array Operand} {ats : Array TypeId} (hg : P.funcs[g]? = some fn) (hn : (fn.name == "runtime.NumGoroutine") = false) (hb : fn.body.isNone = false) (ha : a.eval = ev f)
 (h : vl P (.call g av.toList) f w K) (hK : ∀ v w', K v w' → next (a.put dst v) w') : (⟨dst, .call ⟨.value (.func g), av, ats⟩, ty, pos, aft, gd⟩ : Oper).wp P a w next Q := by
 refine wp_ent (g := g) (args := av.map (ev f)) ha ?_ ?_
 ·have hn' : ¬ fn.name = "runtime.NumGoroutine" := by simpa using hn
  have hb' : ¬ fn.body = none := by intro hh; rw [hh] at hb; cases hb
  simp [execOp, resolve, ev, Deferred.ofValue, invoke, callFunc, hg, hn', hb']
 have e : (av.toList.map (ev f)).toArray = av.map (ev f) := by cases av; simp
 simp only [vl, e] at h
 exact h.mono fun e w' ⟨v, he, hv⟩ => ⟨v, he, hK v w' hv⟩
theorem l_callv {q : Operand} {av : Array Operand} {ats : Array TypeId} (ha : a.eval = ev f)
 (h : vl P (.callv q av.toList) f w K) (hK : ∀ v w', K v w' → next (a.put dst v) w') : (⟨dst, .call ⟨.value q, av, ats⟩, ty, pos, aft, gd⟩ : Oper).wp P a w next Q := by
 simp only [vl] at h
 split at h
 ·rename_i g first cap hq
  obtain ⟨hok, h⟩ := h
  unfold okFn at hok
  split at hok
  ·rename_i fn hg
   simp only [Bool.and_eq_true, Bool.not_eq_true'] at hok
   have hb : fn.body.isNone = false := by cases hb : fn.body <;> simp_all
   refine wp_ent (g := g) (args := first ++ av.map (ev f) ++ cap) ha ?_ ?_
   ·have hn' : ¬ fn.name = "runtime.NumGoroutine" := by simpa using hok.1
    have hb' : ¬ fn.body = none := by intro hh; rw [hh] at hb; cases hb
    simp [execOp, resolve, hq, Deferred.ofValue, invoke, callFunc, hg, hn', hb']
   have e : (av.toList.map (ev f)).toArray = av.map (ev f) := by cases av; simp
   simp only [e] at h
   exact h.mono fun e w' ⟨v, he, hv⟩ => ⟨v, he, hK v w' hv⟩
  cases hok
 exact h.elim
theorem l_mkmap {t : TypeId} (ha : a.eval = ev f) (h : vl P .mkmap f w K) (hK : ∀ v w', K v w' → next (a.put dst v) w') : (⟨dst, .makeMap t none, ty, pos, aft, gd⟩ : Oper).wp P a w next Q := by
 refine wp_val ha ?_ (hK _ _ h)
 simp [execOp, Instr.makeMap]
theorem l_raw {o : Oper} (ho : execOp (ev f) o = execOp (ev f) ⟨none, o.op, 0, "", #[], none⟩) (ha : a.eval = ev f) (h : vl P (.raw o.op) f w K) (hK : ∀ v w', K v w' → next (a.put o.dst v) w') : o.wp P a w next Q := by
 obtain ⟨v, w', ⟨hr, hv⟩ | ⟨hr, hv⟩⟩ := h
 ·exact wp_val ha (ho ▸ hr) (hK _ _ hv)
 exact wp_skp ha (ho ▸ hr) (hK _ _ hv)
end
theorem loud_sound {f : Fr} {w : World} {K : Value → World → Prop} {o : Oper} {p : LO} {a : Act} {next : Act → World → Prop} {Q : Exit → Act → World → Prop} (hc : comp P o = some (.inr p)) (ha : a.eval = ev f) (h : vl P p f w K)
 (hK : ∀ v w', K v w' → next (a.put o.dst v) w') : o.wp P a w next Q := by
 obtain ⟨dst, op, ty, pos, aft, gd⟩ := o
 cases op <;> simp only [comp] at hc
 case binOp op t x y u => cases hb : compBin P op t x y <;> simp [hb] at hc
 case unOp op t x =>
  cases op <;> simp only [comp] at hc
  case neg => cases hk : kind? P t <;> simp [hk] at hc
  case xor => cases hk : kind? P t <;> simp [hk] at hc
  all_goals cases hc
 case convert s d x =>
  split at hc
  ·cases hc
  ·cases hc
  ·rename_i e hs hd
   split at hc
   ·rename_i he; cases hc; exact l_b2s hs he hd ha h hK
   cases hc
  ·rename_i e hs hd
   split at hc
   ·rename_i he; cases hc; exact l_s2b hs hd he ha h hK
   cases hc
  ·cases hc; exact l_raw rfl ha h hK
  cases hc
 case fieldAddr s x j => repeat (first | cases hc | split at hc)
 case field t x j =>
  split at hc
  ·split at hc
   ·rename_i fl _; cases hl : ldsz P fl.type <;> simp [hl] at hc
   cases hc
  cases hc
 case build t parts =>
  split at hc
  ·split at hc
   ·rename_i pl hp; cases hl : compParts (fun i => pl[i]?) parts.toList <;> simp [hl] at hc
   cases hc
  ·split at hc
   ·rename_i s hs; cases hl : compParts (fun i => some (i * s, s)) parts.toList <;> simp [hl] at hc
   cases hc
  cases hc
 case indexAddr t x i =>
  split at hc
  ·rename_i e ht; cases hs : sz? P e <;> simp [hs] at hc
  ·rename_i n e ht; cases hs : sz? P e <;> simp [hs] at hc
  cases hc
 case index t x i => repeat (first | cases hc | split at hc)
 case slice t x lo hi mx =>
  split at hc
  ·rename_i e ht
   split at hc
   ·cases hs : sz? P e <;> simp [hs] at hc
   cases hc
  ·repeat (first | cases hc | split at hc)
  ·rename_i n e ht
   split at hc
   ·cases hs : sz? P e <;> simp [hs] at hc
   cases hc
  cases hc
 case buildSlice t n parts =>
  split at hc
  ·rename_i e ht
   split at hc
   ·rename_i s z hs hz
    split at hc
    ·rename_i l hl
     split at hc
     ·cases hc
     rename_i hle; cases hc; exact l_bs ht hs hz hl hle ha h hK
    cases hc
   cases hc
  cases hc
 case load t x => cases hl : ldsz P t with
  | none => simp [hl] at hc
  | some s => simp [hl] at hc; subst hc; exact l_ld hl ha h hK
 case store t p x => cases hl : sz? P t with
  | none => simp [hl] at hc
  | some s => simp [hl] at hc; subst hc; exact l_st hl ha h hK
 case alloc t => cases hl : zero? P t with
  | none => simp [hl] at hc
  | some s => simp [hl] at hc; subst hc; exact l_al hl ha h hK
 case box t x => cases hc; exact l_bx ha h hK
 case makeSlice t l c =>
  split at hc
  ·rename_i e ht
   split at hc
   ·rename_i i z hi hz
    split at hc
    ·rename_i hsz; cases hc; exact l_mks ht hi hz hsz ha h hK
    cases hc
   cases hc
  cases hc
 case makeMap t r =>
  cases r with
  | none => cases hc; exact l_mkmap ha h hK
  | some r => cases hc
 case lookup => cases hc; exact l_raw rfl ha h hK
 case mapUpdate => cases hc; exact l_raw rfl ha h hK
 case mapEntry => cases hc; exact l_raw rfl ha h hK
 case entryStore => cases hc; exact l_raw rfl ha h hK
 case call c =>
  obtain ⟨callee, av, ats⟩ := c
  cases callee with
  | value q =>
   cases q with
   | func g =>
    simp only at hc
    split at hc
    ·rename_i fn hg
     split at hc
     ·cases hc
     rename_i hn
     cases hc
     simp only [Bool.or_eq_true, not_or, Bool.not_eq_true] at hn
     exact l_call hg hn.1 hn.2 ha h hK
    cases hc
   | tmp t => cases hc; exact l_callv ha h hK
   | const v => cases hc; exact l_callv ha h hK
   | global g => cases hc; exact l_callv ha h hK
  | invoke r m => cases hc
  | builtin b =>
   simp only at hc
   unfold builtinOp at hc
   split at hc
   ·split at hc <;> cases hc
   ·rename_i x y t u hav hat
    have ha' : av = #[x, y] := by cases av; simp_all
    have h0 : ats[0]? = some t := by cases ats; simp_all
    have h1 : ats[1]? = some u := by cases ats; simp_all
    subst ha'
    split at hc
    ·rename_i e ht
     split at hc
     ·rename_i i z d hi hz hu
      split at hc
      ·split at hc
       ·rename_i hsz; cases hc; exact l_appz h0 h1 ht hi hz hsz hu ha h hK
       cases hc
      ·cases hc; exact l_app h0 h1 ht hi hz hu rfl ha h hK
      ·cases hc; exact l_app h0 h1 ht hi hz hu rfl ha h hK
      cases hc
     cases hc
    cases hc
   ·rename_i x y t u hav hat
    have ha' : av = #[x, y] := by cases av; simp_all
    have h0 : ats[0]? = some t := by cases ats; simp_all
    subst ha'
    split at hc
    ·rename_i e ht
     cases hs : sz? P e with
     | none => simp [hs] at hc
     | some s => simp [hs] at hc; subst hc; exact l_cpy h0 ht hs ha h hK
    cases hc
   ·rename_i x xs t ts _ _; cases hk : kind? P t <;> simp [hk] at hc
   ·rename_i x xs t ts _ _; cases hk : kind? P t <;> simp [hk] at hc
   cases hc
 all_goals cases hc
end Go.Proofs.YtifnmbmijljhfaaGreat.E
