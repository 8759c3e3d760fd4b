/- The engine, part 4: the rest of the pure operations, and those that read or change memory. -/
import Derived.Test.YtnkilhmkegmenaaE3
import Derived.Laws.Append
import Derived.Laws.BytesString
import Derived.Laws.BytesArg
import Derived.Laws.CopyRow
namespace Go.Proofs.Ytnkilhmkegmenaa.E
open Go

variable {P : Program}

theorem fold_set (l : List Value) : ∀ (cs : Array Value) (o k : Nat), o + k + l.length ≤ cs.size →
    ((l.zipIdx k).foldl (fun (cs : Array Value) (p : Value × Nat) => cs.setIfInBounds (o + p.2) p.1) cs).toList = cs.toList.take (o + k) ++ l ++ cs.toList.drop (o + k + l.length) := by
  induction l with
  | nil => intro cs o k h; simp
  | cons v l ih =>
    intro cs o k h
    simp only [List.zipIdx_cons, List.foldl_cons, List.length_cons] at h ⊢
    rw [ih _ o (k + 1) (by simp; omega)]
    simp only [Array.toList_setIfInBounds]
    have hlt : o + k < cs.toList.length := by simp; omega
    have e1 : (cs.toList.set (o + k) v).take (o + (k + 1)) = cs.toList.take (o + k) ++ [v] := by
      rw [show o + (k + 1) = (o + k) + 1 by omega, List.take_add_one, List.take_set_of_le (by omega)]
      simp [List.getElem?_set]
      omega
    have e2 : (cs.toList.set (o + k) v).drop (o + (k + 1) + l.length) = cs.toList.drop (o + k + (l.length + 1)) := by
      rw [List.drop_set_of_lt (by omega)]
      congr 1
      omega
    rw [e1, e2]
    simp

theorem fill_spec (place : Nat → Option (Nat × Nat)) (f : Fr) : ∀ (parts : List (Nat × Operand)) (l : List (Nat × Nat × Operand)) (cells : Array Value) (r : List Value),
    compParts place parts = some l → fillC cells.toList (l.map fun (o, s, x) => (o, s, ev f x)) = some r →
    Instr.fill place cells (parts.map fun (i, x) => (i, ev f x)) = some r.toArray := by
  intro parts
  induction parts with
  | nil => intro l cells r h1 h2; simp [compParts] at h1; subst h1; simp [fillC] at h2; subst h2; simp [Instr.fill]
  | cons p parts ih =>
    intro l cells r h1 h2
    obtain ⟨i, x⟩ := p
    simp only [compParts] at h1
    split at h1
    · rename_i o s l' hp hl
      cases h1
      simp only [List.map_cons, fillC] at h2
      split at h2
      · rename_i hc
        obtain ⟨hc1, hc2⟩ := hc
        simp only [List.map_cons, Instr.fill, hp]
        have hb : ((decide ((ev f x).cells.size ≠ s) || decide (o + (ev f x).cells.size > cells.size)) : Bool) = false := by
          simp at hc2 ⊢; omega
        have hcond : ¬ ((decide ((ev f x).cells.size ≠ s) || decide (o + (ev f x).cells.size > cells.size)) = true) := by rw [hb]; simp
        rw [if_neg hcond]
        refine ih l' _ r hl ?_
        rw [← h2]
        congr 1
        rw [← Array.foldl_toList]
        have := fold_set (ev f x).cells.toList cells o 0 (by simp at hc2 ⊢; omega)
        simp only [Nat.add_zero, Array.length_toList, hc1] at this
        rw [← this]
        simp
      · cases h2
    · cases h1

section
variable {f : Fr} {K : Value → Prop} {dst : Option Tmp} {ty : TypeId} {pos : String} {aft : Array Edge} {gd : Option (Nat × Bool)}

theorem run_places (w : World) : ∀ (fs : List Field) (pl : List (Nat × Nat)), (fs.mapM fun f => (sz? P f.type).map fun s => (f.offset, s)) = some pl →
    (fs.mapM (m := Sem) fun f => do pure (f.offset, ← sizeOf f.type)).run P w = .ok pl w := by
  intro fs
  induction fs with
  | nil => intro pl h; simp at h; subst h; simp
  | cons a fs ih =>
    intro pl h
    rw [List.mapM_cons] at h
    cases hs : sz? P a.type with
    | none => simp [hs] at h
    | some s =>
      cases hr : (fs.mapM fun f => (sz? P f.type).map fun s => (f.offset, s)) with
      | none => simp [hs, hr] at h
      | some pl' =>
        simp [hs, hr] at h
        subst h
        rw [List.mapM_cons]
        simp only [Sem.run_bind, run_szo hs, Result.andThen_ok, Sem.run_pure]
        rw [ih pl' hr]
        rfl

theorem g_bldS {t : TypeId} {parts : Array (Nat × Operand)} {fs : Array Field} {z : Value} {pl : List (Nat × Nat)} {l : List (Nat × Nat × Operand)} (ht : P.underlying t = some (.struct fs)) (hz : zero? P t = some z)
    (hp : (fs.toList.mapM fun f => (sz? P f.type).map fun s => (f.offset, s)) = some pl) (hl : compParts (fun i => pl[i]?) parts.toList = some l) (h : pe (.bld z.cells.toList l) f K) :
    Gives P f ⟨dst, .build t parts, ty, pos, aft, gd⟩ K := by
  simp only [pe] at h
  split at h
  · rename_i cs hc
    refine ⟨_, h, fun w => ?_⟩
    have hpl := run_places (P := P) w fs.toList pl hp
    have hfill := fill_spec (fun i => pl[i]?) f parts.toList l z.cells cs hl hc
    have hmm : (fs.mapM (m := Sem) fun f => do pure (f.offset, ← sizeOf f.type)).run P w = .ok pl.toArray w := by
      rw [Array.mapM_eq_mapM_toList]
      simp only [Sem.run_map, hpl, Result.andThen_ok]
    have hfill' : Instr.fill (fun i => pl.toArray[i]?) z.cells (parts.map fun (i, x) => (i, ev f x)).toList = some cs.toArray := by
      rw [← hfill]; simp
    simp only [execOp, Instr.build, Sem.run_bind, run_zero hz, Result.andThen_ok, run_und ht, hmm, hfill', Sem.run_pure]
  · exact h.elim
theorem g_bldA {t e : TypeId} {n s : Nat} {parts : Array (Nat × Operand)} {z : Value} {l : List (Nat × Nat × Operand)} (ht : P.underlying t = some (.array n e)) (hz : zero? P t = some z)
    (hs : sz? P e = some s) (hl : compParts (fun i => some (i * s, s)) parts.toList = some l) (h : pe (.bld z.cells.toList l) f K) :
    Gives P f ⟨dst, .build t parts, ty, pos, aft, gd⟩ K := by
  simp only [pe] at h
  split at h
  · rename_i cs hc
    refine ⟨_, h, fun w => ?_⟩
    have hfill := fill_spec (fun i => some (i * s, s)) f parts.toList l z.cells cs hl hc
    have hfill' : Instr.fill (fun i => some (i * s, s)) z.cells (parts.map fun (i, x) => (i, ev f x)).toList = some cs.toArray := by
      rw [← hfill]; simp
    simp only [execOp, Instr.build, Sem.run_bind, run_zero hz, Result.andThen_ok, run_und ht, run_szo hs, hfill', Sem.run_pure]
  · exact h.elim

theorem bnd_inv {x : Option Value} {d y : Nat} {K : Nat → Prop} (h : bnd x d y K) : ∃ n, K n ∧ (x = none ∧ n = d ∨ ∃ k i, x = some (.int k i) ∧ 0 ≤ i ∧ i ≤ (y : Int) ∧ n = i.toNat) := by
  unfold bnd at h
  split at h
  · exact ⟨d, h, .inl ⟨rfl, rfl⟩⟩
  · obtain ⟨k, i, rfl, ⟨h0, h1⟩, h⟩ := anyint_inv h
    exact ⟨_, h, .inr ⟨k, i, rfl, h0, h1, rfl⟩⟩
theorem run_sb {k : IntKind} {i : Int} {y : Nat} {code : BoundsCode} {w : World} (h0 : 0 ≤ i) (h1 : i ≤ (y : Int)) : (Instr.sliceBound (.int k i) y code).run P w = .ok i.toNat w := by
  simp [Instr.sliceBound, asIntOf, h0, h1]
theorem run_bounds {b : Bool} {len cap : Nat} {lo hi mx : Option Value} {l h m : Nat} {w : World}
    (hm : mx = none ∧ m = cap ∨ ∃ k i, mx = some (.int k i) ∧ 0 ≤ i ∧ i ≤ (cap : Int) ∧ m = i.toNat)
    (hh : hi = none ∧ h = len ∧ mx = none ∨ ∃ k i, hi = some (.int k i) ∧ 0 ≤ i ∧ i ≤ (m : Int) ∧ h = i.toNat)
    (hl : lo = none ∧ l = 0 ∨ ∃ k i, lo = some (.int k i) ∧ 0 ≤ i ∧ i ≤ (h : Int) ∧ l = i.toNat) : (Instr.sliceBounds b len cap lo hi mx).run P w = .ok (l, h, m) w := by
  rcases hm with ⟨rfl, rfl⟩ | ⟨k1, i1, rfl, a1, b1, rfl⟩ <;> rcases hh with ⟨rfl, rfl, h3⟩ | ⟨k2, i2, rfl, a2, b2, rfl⟩ <;> rcases hl with ⟨rfl, rfl⟩ | ⟨k3, i3, rfl, a3, b3, rfl⟩ <;>
    (try cases h3) <;> simp only [Instr.sliceBounds, Sem.run_bind, Sem.run_pure, Result.andThen_ok] <;>
    (try rw [run_sb a1 b1]) <;> (try simp only [Result.andThen_ok]) <;> (try rw [run_sb a2 b2]) <;> (try simp only [Result.andThen_ok]) <;> (try rw [run_sb a3 b3]) <;> rfl
theorem cutAt_eq (sz : Nat) (a : Option Addr) (l m : Nat) : (if m = l then a else a.map (·.add (l * sz))) = cutAt sz a l m := by
  rcases a with _ | ⟨b, o, _ | s⟩ <;> simp [cutAt, Addr_add]
theorem g_slc {t e : TypeId} {s : Nat} {x : Operand} {lo hi mx : Option Operand} (hok : slcOk hi mx = true) (ht : P.underlying t = some (.slice e)) (hs : sz? P e = some s) (h : pe (.slc s x lo hi mx) f K) :
    Gives P f ⟨dst, .slice t x lo hi mx, ty, pos, aft, gd⟩ K := by
  obtain ⟨a, n, c, hx, h⟩ := kslice_inv h
  obtain ⟨m, h, hm⟩ := bnd_inv h
  obtain ⟨q, h, hq⟩ := bnd_inv h
  obtain ⟨l, h, hl⟩ := bnd_inv h
  refine ⟨_, h, fun w => ?_⟩
  have hq' : hi.map (ev f) = none ∧ q = n ∧ mx.map (ev f) = none ∨ ∃ k i, hi.map (ev f) = some (.int k i) ∧ 0 ≤ i ∧ i ≤ (m : Int) ∧ q = i.toNat := by
    rcases hq with ⟨h1, h2⟩ | h1
    · refine .inl ⟨h1, h2, ?_⟩
      cases hi <;> simp at h1
      cases mx <;> simp [slcOk] at hok ⊢
    · exact .inr h1
  have hb := run_bounds (P := P) (b := true) (w := w) (len := n) hm hq' hl
  simp only [execOp, hx, Instr.sliceAt, Instr.slice, Sem.run_bind, run_und ht, Result.andThen_ok, hb, run_szo hs, Sem.run_pure, cutAt_eq]
theorem g_slcs {t : TypeId} {x : Operand} {lo hi : Option Operand} (ht : P.underlying t = some .string) (h : pe (.slcs x lo hi) f K) :
    Gives P f ⟨dst, .slice t x lo hi none, ty, pos, aft, gd⟩ K := by
  obtain ⟨s, hx, h⟩ := kstr_inv h
  obtain ⟨q, h, hq⟩ := bnd_inv h
  obtain ⟨l, h, hl⟩ := bnd_inv h
  refine ⟨_, h, fun w => ?_⟩
  have hq' : hi.map (ev f) = none ∧ q = s.size ∧ (none : Option Value) = none ∨ ∃ k i, hi.map (ev f) = some (.int k i) ∧ 0 ≤ i ∧ i ≤ (s.size : Int) ∧ q = i.toNat := by
    rcases hq with ⟨h1, h2⟩ | h1
    · exact .inl ⟨h1, h2, rfl⟩
    · exact .inr h1
  have hb := run_bounds (P := P) (b := false) (w := w) (len := s.size) (cap := s.size) (mx := none) (.inl ⟨rfl, rfl⟩) hq' hl
  simp [execOp, hx, Instr.sliceAt, Instr.slice, run_und ht, hb]
theorem g_slca {t e : TypeId} {n s : Nat} {x : Operand} {lo hi : Option Operand} (ht : P.underlying t = some (.array n e)) (hs : sz? P e = some s) (h : pe (.slca n s x lo hi) f K) :
    Gives P f ⟨dst, .slice t x lo hi none, ty, pos, aft, gd⟩ K := by
  obtain ⟨b, o, hx, h⟩ := kptr_inv h
  obtain ⟨q, h, hq⟩ := bnd_inv h
  obtain ⟨l, h, hl⟩ := bnd_inv h
  refine ⟨_, h, fun w => ?_⟩
  have hq' : hi.map (ev f) = none ∧ q = n ∧ (none : Option Value) = none ∨ ∃ k i, hi.map (ev f) = some (.int k i) ∧ 0 ≤ i ∧ i ≤ (n : Int) ∧ q = i.toNat := by
    rcases hq with ⟨h1, h2⟩ | h1
    · exact .inl ⟨h1, h2, rfl⟩
    · exact .inr h1
  have hb := run_bounds (P := P) (b := false) (w := w) (len := n) (cap := n) (mx := none) (.inl ⟨rfl, rfl⟩) hq' hl
  simp only [execOp, hx, Instr.sliceAt, Instr.sureAddr, Sem.run_bind, run_und ht, Result.andThen_ok, Option.map_none, hb, run_szo hs, Sem.run_pure]
  rw [← cutAt_eq]
  by_cases hnl : n = l <;> simp [hnl]

theorem mm_run' (mx : Bool) (k : IntKind) : ∀ (vs : List Value) (m : Int) (K : Value → Prop), mmI mx k m vs K → ∃ v, K v ∧ ∀ w,
    (vs.foldlM (m := Sem) (if mx then Builtin.max2 else Builtin.min2) (.int k m)).run P w = .ok v w := by
  intro vs
  induction vs with
  | nil => intro m K h; exact ⟨_, h, fun w => by simp⟩
  | cons v vs ih =>
    intro m K h
    obtain ⟨n, rfl, h2⟩ := kint_inv h
    obtain ⟨v, hv, hr⟩ := ih _ K h2
    refine ⟨v, hv, fun w => ?_⟩
    rw [List.foldlM_cons]
    simp only [Sem.run_bind]
    rw [← hr]
    cases mx <;> simp [Builtin.max2, Builtin.min2]
theorem g_mm {mx : Bool} {k : IntKind} {x : Operand} {xs : List Operand} {av : Array Operand} {ats : Array TypeId} (ha : av.toList = x :: xs) (h : pe (.mm mx k x xs) f K) :
    Gives P f ⟨dst, .call ⟨.builtin (if mx then .max else .min), av, ats⟩, ty, pos, aft, gd⟩ K := by
  obtain ⟨a, hx, h⟩ := kint_inv h
  obtain ⟨v, hv, hr⟩ := mm_run' (P := P) mx k _ _ K h
  refine ⟨v, hv, fun w => ?_⟩
  have e : (av.map (ev f)).toList = .int k a :: xs.map (ev f) := by simp [ha, hx]
  cases mx
  · simp only [Bool.false_eq_true, if_false] at hr ⊢
    simp [execOp, resolve, invoke, builtin, Builtin.min_]
    simp [ha, hx, hr]
  · simp only [if_true] at hr ⊢
    simp [execOp, resolve, invoke, builtin, Builtin.max_]
    simp [ha, hx, hr]
end

/-- What is pure gives its value in whatever world. -/
theorem pure_sound {f : Fr} {K : Value → Prop} {o : Oper} {p : PO} (hc : comp P o = some (.inl p)) (h : pe p f K) : Gives P f o K := by
  obtain ⟨dst, op, ty, pos, aft, gd⟩ := o
  cases op <;> simp only [comp] at hc
  case move x => cases hc; exact (g_mv h).1
  case assign x => cases hc; exact (g_mv h).2
  case pick c a b => cases hc; exact g_pick h
  case binOp op t x y u =>
    cases hb : compBin P op t x y with
    | none => simp [hb] at hc
    | some q =>
      simp [hb] at hc
      subst hc
      unfold compBin at hb
      split at hb
      · rename_i k hu
        split at hb <;> cases hb <;> first | exact g_shf h | exact g_div h | exact g_bin (by simp [isCmp]) h
      · rename_i hu
        split at hb <;> cases hb
        · exact g_beq (n := false) hu h
        · exact g_beq (n := true) hu h
      · rename_i hu
        split at hb <;> cases hb <;> exact g_sbin h
      · rename_i e hu
        split at hb <;> cases hb
        · exact g_isnil (n := false) (.inl ⟨rfl, ⟨e, hu⟩, rfl⟩) h
        · exact g_isnil (n := true) (.inl ⟨rfl, ⟨e, hu⟩, rfl⟩) h
      · rename_i e hu
        split at hb <;> cases hb
        · exact g_isnil (n := false) (.inr (.inl ⟨rfl, ⟨e, hu⟩, _, _, rfl⟩)) h
        · exact g_isnil (n := true) (.inr (.inl ⟨rfl, ⟨e, hu⟩, _, _, rfl⟩)) h
      · rename_i e1 e2 e3 hu
        split at hb <;> cases hb
        · exact g_isnil (n := false) (.inr (.inr ⟨rfl, ⟨_, _, _, hu⟩, rfl⟩)) h
        · exact g_isnil (n := true) (.inr (.inr ⟨rfl, ⟨_, _, _, hu⟩, rfl⟩)) h
      · rename_i fs hu
        split at hb
        · rename_i ks hf
          split at hb
          · rename_i hcc
            simp only [Bool.and_eq_true, Bool.not_eq_true'] at hcc
            split at hb <;> cases hb
            · exact g_aeq (n := false) hu hf hcc.1 hcc.2 h
            · exact g_aeq (n := true) hu hf hcc.1 hcc.2 h
          · cases hb
        · cases hb
      · cases hb
  case unOp op t x =>
    cases op <;> simp only [comp] at hc
    case not => cases hc; exact g_not h
    case neg =>
      cases hk : kind? P t with
      | none => simp [hk] at hc
      | some k => simp [hk] at hc; subst hc; exact g_neg h
    case xor =>
      cases hk : kind? P t with
      | none => simp [hk] at hc
      | some k => simp [hk] at hc; subst hc; exact g_cpl (by simpa using h)
    all_goals cases hc
  case convert s d x =>
    split at hc
    · rename_i k' k hs hd; cases hc; exact g_conv ⟨_, hs⟩ hd h
    · rename_i hs hd; cases hc; exact g_convId hs hd h
    · split at hc <;> cases hc
    · split at hc <;> cases hc
    · cases hc
    · cases hc
  case fieldAddr s x j =>
    split at hc
    · rename_i fs hs
      split at hc
      · rename_i fl hf
        split at hc
        · rename_i n hn
          split at hc
          · cases hc
          · rename_i h0; cases hc; exact g_fa hs hf hn h0 h
        · cases hc
      · cases hc
    · cases hc
  case field t x j =>
    split at hc
    · rename_i fs hs
      split at hc
      · rename_i fl hf
        cases hl : ldsz P fl.type with
        | none => simp [hl] at hc
        | some s => simp [hl] at hc; subst hc; exact g_fld hs hf hl h
      · cases hc
    · cases hc
  case extract x i => cases hc; exact g_ext h
  case makeFunc fn a c => cases hc; exact g_mkf h
  case nilCheck x => cases hc; exact g_nilchk h
  case build t parts =>
    split at hc
    · rename_i fs z ht hz
      split at hc
      · rename_i pl hp
        cases hl : compParts (fun i => pl[i]?) parts.toList with
        | none => simp [hl] at hc
        | some l => simp [hl] at hc; subst hc; exact g_bldS ht hz hp hl h
      · cases hc
    · rename_i n e z ht hz
      split at hc
      · rename_i s hs
        cases hl : compParts (fun i => some (i * s, s)) parts.toList with
        | none => simp [hl] at hc
        | some l => simp [hl] at hc; subst hc; exact g_bldA ht hz hs hl h
      · cases hc
    · cases hc
  case indexAddr t x i =>
    split at hc
    · rename_i e ht
      cases hs : sz? P e with
      | none => simp [hs] at hc
      | some s => simp [hs] at hc; subst hc; exact g_idx ht hs h
    · rename_i n e ht
      cases hs : sz? P e with
      | none => simp [hs] at hc
      | some s => simp [hs] at hc; subst hc; exact g_idxa ht hs h
    · cases hc
  case index t x i =>
    split at hc
    · rename_i ht; cases hc; exact g_idxs ht h
    · rename_i n e ht
      split at hc
      · rename_i b s hg hs; cases hc; exact g_idxv ht hg hs h
      · cases hc
    · cases hc
  case slice t x lo hi mx =>
    split at hc
    · rename_i e ht
      split at hc
      · rename_i hok
        cases hs : sz? P e with
        | none => simp [hs] at hc
        | some s => simp [hs] at hc; subst hc; exact g_slc hok ht hs h
      · cases hc
    · rename_i ht
      split at hc
      · rename_i hm; cases hc; cases mx <;> simp at hm; exact g_slcs ht h
      · cases hc
    · rename_i n e ht
      split at hc
      · rename_i hm
        cases mx <;> simp at hm
        cases hs : sz? P e with
        | none => simp [hs] at hc
        | some s => simp [hs] at hc; subst hc; exact g_slca ht hs h
      · cases hc
    · cases hc
  case buildSlice t n parts => repeat (first | cases hc | split at hc)
  case load t x => cases hl : ldsz P t <;> simp [hl] at hc
  case store t a x => cases hl : sz? P t <;> simp [hl] at hc
  case alloc t => cases hl : zero? P t <;> simp [hl] at hc
  case makeSlice t l c => repeat (first | cases hc | split at hc)
  case makeMap t r => cases r <;> simp at hc
  case call c =>
    obtain ⟨callee, av, ats⟩ := c
    cases callee with
    | value q => cases q <;> simp only [comp] at hc <;> repeat (first | cases hc | split at hc)
    | invoke r m => cases hc
    | builtin b =>
      simp only at hc
      unfold builtinOp at hc
      split at hc
      · rename_i x t ha ht
        have ha' : av = #[x] := by cases av; simp_all
        have ht' : ats[0]? = some t := by cases ats; simp_all
        subst ha'
        split at hc <;> cases hc
        · rename_i hu; exact g_lens ht' hu h
        · rename_i e hu; exact g_len ht' hu h
        · rename_i n e hu; exact g_lenc ht' hu h
      · repeat (first | cases hc | split at hc)
      · rename_i x y t u ha ht
        split at hc
        · rename_i e hu
          cases hs : sz? P e <;> simp [hs] at hc
        · cases hc
      · rename_i x xs t ts ha ht
        cases hk : kind? P t with
        | none => simp [hk] at hc
        | some k => simp [hk] at hc; subst hc; exact g_mm (mx := false) ha h
      · rename_i x xs t ts ha ht
        cases hk : kind? P t with
        | none => simp [hk] at hc
        | some k => simp [hk] at hc; subst hc; exact g_mm (mx := true) ha h
      · cases hc
  all_goals cases hc
end Go.Proofs.Ytnkilhmkegmenaa.E
