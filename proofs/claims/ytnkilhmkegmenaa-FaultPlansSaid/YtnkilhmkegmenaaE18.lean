/- Maps whose keys are structs of whole numbers: what 'm[k]++' and 'm[k]' do. -/
import Derived.Test.YtnkilhmkegmenaaE17
import Derived.MapKept
namespace Go.Proofs.Ytnkilhmkegmenaa.E
open Go

/-- A map as an object: the entries in the order in which they were made. -/
def mapEs {α : Type} (kC : α → List Value) (i : Nat) : List (α × Int) → List MapEntry
  | [] => []
  | x :: l => ⟨.agg (kC x.1).toArray, .int .i64 x.2, i⟩ :: mapEs kC (i + 1) l
def mapOb {α : Type} (kC : α → List Value) (l : List (α × Int)) : Obj := .map (mapEs kC 0 l).toArray l.length
/-- What is told of keys that can be compared. -/
structure KeyT {α : Type} (P : Program) (mt kt et : TypeId) (kC : α → List Value) [DecidableEq α] : Prop where
  map : P.underlying mt = some (.map kt et)
  eq : ∀ (a b : α) w, (Op.equal kt (.agg (kC a).toArray) (.agg (kC b).toArray)).run P w = .ok (decide (a = b)) w
  check : ∀ (a : α) e w, (Instr.checkKey e 10000 kt (.agg (kC a).toArray)).run P w = .ok () w
  und : ∃ fs, P.underlying kt = some (.struct fs)
  same : ∀ (a : α), Instr.sameBits 10000 (.agg (kC a).toArray) (.agg (kC a).toArray) = true
  zero : ∀ w, (zeroValue et).run P w = .ok (.int .i64 0) w
section
variable {α : Type} [DecidableEq α] {P : Program} {mt kt et : TypeId} {kC : α → List Value}
/-- the first entry of a key -/
def findM (k : α) : List (α × Int) → Nat → Option (Nat × Int)
  | [], _ => none
  | x :: l, i => if k = x.1 then some (i, x.2) else findM k l (i + 1)
theorem find_run (h : KeyT P mt kt et kC) (k : α) (w : World) : ∀ (l : List (α × Int)) (i j : Nat), (Instr.findAsking kt (.agg (kC k).toArray) (mapEs kC j l) i).run P w = .ok ((findM k l i).map fun x => (x.1, .int .i64 x.2)) w
  | [], i, j => by simp [mapEs, Instr.findAsking, findM]
  | x :: l, i, j => by
    simp only [mapEs, Instr.findAsking, Sem.run_bind, h.eq k x.1 w, Result.andThen_ok, findM]
    by_cases e : k = x.1
    · simp [e]
    · simp only [e, decide_false, Bool.false_eq_true, if_false]
      exact find_run h k w l (i + 1) (j + 1)
theorem findNow_struct {fs : Array Field} (k : Value) (hk : ∃ cs, k = .agg cs) : ∀ (es : List MapEntry) (i : Nat), Instr.findNow (.struct fs) k es i = if es = [] then some none else none
  | [], i => rfl
  | e :: es, i => by
    obtain ⟨cs, rfl⟩ := hk
    simp [Instr.findNow, Instr.sameNow]
theorem findKey_run (h : KeyT P mt kt et kC) (k : α) (w : World) (l : List (α × Int)) : (Instr.findKey kt (.agg (kC k).toArray) (mapEs kC 0 l)).run P w = .ok ((findM k l 0).map fun x => (x.1, .int .i64 x.2)) w := by
  obtain ⟨fs, hu⟩ := h.und
  unfold Instr.findKey
  simp only [Sem.run_bind, run_und hu, Result.andThen_ok, findNow_struct _ ⟨_, rfl⟩]
  cases l with
  | nil => simp [mapEs, findM]
  | cons x l =>
    rw [if_neg (by simp [mapEs])]
    exact find_run h k w (x :: l) 0 0
theorem lookup_run (h : KeyT P mt kt et kC) {b : Nat} {l : List (α × Int)} (k : α) {w : World} (hb : w.heap[b]? = some (mapOb kC l)) :
    (Instr.lookup mt (.map (some b)) (.agg (kC k).toArray) false).run P w = .ok (.int .i64 (((findM k l 0).map (·.2)).getD 0)) w := by
  have hg := MapKept.run_getObj_map (P := P) hb
  unfold Instr.lookup
  simp only [Sem.run_bind, run_und h.map, Result.andThen_ok, hg, Sem.run_pure, h.check, findKey_run h k w l]
  cases findM k l 0 with
  | none => simp [Sem.run_bind, h.zero]
  | some x => simp
omit [DecidableEq α] in
theorem mapEs_length (l : List (α × Int)) : ∀ j, (mapEs kC j l).length = l.length := by
  induction l with
  | nil => intro j; rfl
  | cons x l ih => intro j; simp [mapEs, ih]
omit [DecidableEq α] in
theorem mapEs_get (l : List (α × Int)) : ∀ (j i : Nat), (mapEs kC j l)[i]? = (l[i]?).map fun x => ⟨.agg (kC x.1).toArray, .int .i64 x.2, j + i⟩ := by
  induction l with
  | nil => intro j i; simp [mapEs]
  | cons x l ih =>
    intro j i
    cases i with
    | zero => simp [mapEs]
    | succ i => simp only [mapEs, List.getElem?_cons_succ, ih, Nat.add_assoc, Nat.add_comm 1 i]
omit [DecidableEq α] in
theorem mapEs_snoc (l : List (α × Int)) (x : α × Int) : ∀ j, mapEs kC j (l ++ [x]) = mapEs kC j l ++ [⟨.agg (kC x.1).toArray, .int .i64 x.2, j + l.length⟩] := by
  induction l with
  | nil => intro j; rfl
  | cons y l ih => intro j; simp only [List.cons_append, mapEs, ih, List.length_cons, Nat.add_assoc, Nat.add_comm 1 l.length]
theorem findM_some {k : α} : ∀ {l : List (α × Int)} {j i : Nat} {v : Int}, findM k l j = some (i, v) → j ≤ i ∧ l[i - j]? = some (k, v)
  | [], _, _, _, h => by cases h
  | x :: l, j, i, v, h => by
    simp only [findM] at h
    split at h
    · rename_i e; cases h; subst e; simp
    · obtain ⟨h1, h2⟩ := findM_some h
      refine ⟨by omega, ?_⟩
      rw [show i - j = i - (j + 1) + 1 by omega]; exact h2
theorem findM_snoc {k : α} {v : Int} : ∀ {l : List (α × Int)} {j : Nat}, findM k l j = none → findM k (l ++ [(k, v)]) j = some (j + l.length, v)
  | [], j, _ => by simp [findM]
  | x :: l, j, h => by
    simp only [findM] at h
    split at h
    · cases h
    · rename_i e
      simp only [List.cons_append, findM, if_neg e, findM_snoc h, List.length_cons]; congr 2; omega
/-- A map with other entries. -/
def setMap (kC : α → List Value) (w : World) (b : Nat) (l : List (α × Int)) : World := { w with heap := w.heap.setIfInBounds b (mapOb kC l) }
theorem heap_lt {w : World} {b : Nat} {o : Obj} (hb : w.heap[b]? = some o) : b < w.heap.size := by
  rcases Nat.lt_or_ge b w.heap.size with h | h
  · exact h
  · rw [Array.getElem?_eq_none h] at hb; cases hb
omit [DecidableEq α] in
theorem setMap_at {w : World} {b : Nat} {o : Obj} {l : List (α × Int)} (hb : w.heap[b]? = some o) : (setMap kC w b l).heap[b]? = some (mapOb kC l) := by
  show (w.heap.setIfInBounds b _)[b]? = _
  rw [Array.getElem?_setIfInBounds, if_pos rfl, if_pos (heap_lt hb)]
omit [DecidableEq α] in
theorem setMap_upd (w : World) (b : Nat) (l : List (α × Int)) : Upd [b] w (setMap kC w b l) := by
  refine ⟨rfl, rfl, rfl, by simp [setMap], fun c hc hn => ?_⟩
  show (w.heap.setIfInBounds b _)[c]? = _
  rw [Array.getElem?_setIfInBounds, if_neg (fun e => hn (by simp [e]))]
theorem entry_new (h : KeyT P mt kt et kC) {b : Nat} {l : List (α × Int)} {k : α} {w : World} (hb : w.heap[b]? = some (mapOb kC l)) (hn : findM k l 0 = none) :
    (Instr.mapEntry mt (.map (some b)) (.agg (kC k).toArray)).run P w = .ok (.tuple #[.int .i64 0, .int .i64 l.length]) (setMap kC w b (l ++ [(k, 0)])) := by
  have hg := MapKept.run_getObj_map (P := P) hb
  unfold Instr.mapEntry
  simp only [Sem.run_bind, run_und h.map, Result.andThen_ok, hg, h.check, findKey_run h k w l, hn, Option.map_none, h.zero]
  rw [MapKept.run_setObj_map _ hb]
  simp only [Result.andThen_ok, Sem.run_pure, setMap, mapOb, mapEs_snoc, Nat.zero_add, List.length_append, List.length_singleton, List.push_toArray]
  rfl
theorem entry_old (h : KeyT P mt kt et kC) {b : Nat} {l : List (α × Int)} {k : α} {i : Nat} {v : Int} {w : World} (hb : w.heap[b]? = some (mapOb kC l)) (hn : findM k l 0 = some (i, v)) :
    (Instr.mapEntry mt (.map (some b)) (.agg (kC k).toArray)).run P w = .ok (.tuple #[.int .i64 v, .int .i64 i]) (setMap kC w b l) := by
  have hg := MapKept.run_getObj_map (P := P) hb
  obtain ⟨_, hl⟩ := findM_some hn
  rw [Nat.sub_zero] at hl
  have he : (mapEs kC 0 l).toArray[i]? = some ⟨.agg (kC k).toArray, .int .i64 v, i⟩ := by
    rw [List.getElem?_toArray, mapEs_get, hl]; simp
  unfold Instr.mapEntry
  simp only [Sem.run_bind, run_und h.map, Result.andThen_ok, hg, h.check, findKey_run h k w l, hn, Option.map_some, he, Option.getD_some, Instr.keyThatStays, h.same, if_true, Sem.run_pure]
  rw [MapKept.run_setObj_map _ hb]
  simp only [Result.andThen_ok, Sem.run_pure, setMap, mapOb, goInt]
  have e : (mapEs kC 0 l).toArray.modify i (fun e => { e with key := .agg (kC k).toArray }) = (mapEs kC 0 l).toArray := by
    apply Array.ext_getElem?
    intro j
    rw [Array.getElem?_modify]
    split
    · rename_i e; subst e; rw [he]; rfl
    · rfl
  rw [e]
omit [DecidableEq α] in
theorem store_run {b : Nat} {l : List (α × Int)} {k : α} {i : Nat} {v v0 : Int} {w : World} (hb : w.heap[b]? = some (mapOb kC l)) (hl : l[i]? = some (k, v0)) :
    (Instr.entryStore mt (.map (some b)) (.int .i64 (i : Int)) (.int .i64 v)).run P w = .ok () (setMap kC w b (l.set i (k, v))) := by
  have hg := MapKept.run_getObj_map (P := P) hb
  have hi : i < l.length := by
    rcases Nat.lt_or_ge i l.length with h | h
    · exact h
    · rw [List.getElem?_eq_none h] at hl; cases hl
  have hf : (mapEs kC 0 l).toArray.findIdx? (fun e => (e.born : Int) == (i : Int)) = some i := by
    rw [List.findIdx?_toArray, List.findIdx?_eq_some_iff_getElem]
    refine ⟨by rw [mapEs_length]; exact hi, ?_, ?_⟩
    · have := mapEs_get (kC := kC) l 0 i
      rw [List.getElem?_eq_getElem (by rw [mapEs_length]; exact hi), hl] at this
      simp only [Option.map_some, Option.some.injEq] at this
      rw [this]; simp
    · intro j hj
      have := mapEs_get (kC := kC) l 0 j
      rw [List.getElem?_eq_getElem (by rw [mapEs_length]; omega), List.getElem?_eq_getElem (show j < l.length by omega)] at this
      simp only [Option.map_some, Option.some.injEq] at this
      rw [this]; simp; omega
  have ha : (asInt (.int .i64 (i : Int))).run P w = .ok (i : Int) w := by simp [asInt, asIntOf]
  unfold Instr.entryStore
  simp only [Sem.run_bind, hg, Result.andThen_ok, ha, hf]
  rw [MapKept.run_setObj_map _ hb]
  simp only [setMap, mapOb, List.length_set]
  congr 3
  apply congrArg (Obj.map · l.length)
  apply Array.ext_getElem?
  intro j
  rw [Array.getElem?_modify, List.getElem?_toArray, List.getElem?_toArray, mapEs_get, mapEs_get, List.getElem?_set]
  split
  · rename_i e; subst e; rw [hl]; rfl
  · rfl
/-- what 'm[k]++' leaves -/
def incM (k : α) (l : List (α × Int)) : List (α × Int) := match findM k l 0 with
  | some (i, v) => l.set i (k, v + 1)
  | none => l ++ [(k, 1)]
def getM (k : α) (l : List (α × Int)) : Int := ((findM k l 0).map (·.2)).getD 0
end
theorem check_flat {P : Program} {t : TypeId} {q : Nat} (h : flatK P t = some q) (v : Value) (e : Bool) (n : Nat) (w : World) : (Instr.checkKey e (n + 1) t v).run P w = .ok () w := by
  obtain ⟨_, hk⟩ := flatK_spec h
  unfold Instr.checkKey
  rcases hk with ⟨_, hu⟩ | ⟨_, q2, hu⟩ | ⟨_, hu⟩ <;> simp [run_und hu]
theorem each_flat {P : Program} {cs : Array Value} : ∀ (L : List Field) (k : Nat) (ks : List Nat), fieldsFrom P k L = some ks → k + L.length ≤ cs.size → ∀ f ∈ L, f.name ≠ "_" ∧ ∃ q, flatK P f.type = some q ∧ ∃ v, ∀ w, (part f.type cs f.offset).run P w = .ok v w := by
  intro L
  induction L with
  | nil => intro k ks _ _ f hf; cases hf
  | cons f L ih =>
    intro k ks h hl g hg
    simp only [fieldsFrom] at h
    split at h
    · rename_i q l hq hl'
      simp only [Bool.and_eq_true, beq_iff_eq, bne_iff_ne] at h
      split at h
      · rename_i hc
        obtain ⟨ho, hn⟩ := hc
        simp only [List.length_cons] at hl
        rcases List.mem_cons.1 hg with rfl | hg
        · obtain ⟨hz, hk⟩ := flatK_spec hq
          have hld : ldsz P g.type = some none := by
            unfold ldsz agg?
            rcases hk with ⟨_, hu⟩ | ⟨_, q2, hu⟩ | ⟨_, hu⟩ <;> simp [hu, hz]
          exact ⟨hn, q, hq, cs[k]'(by omega), fun w => run_part (P := P) hld (cs := cs) (off := g.offset) (v := cs[k]'(by omega)) (by simp [ho]) w⟩
        · exact ih (k + 1) l hl' (by omega) g hg
      · cases h
    · cases h
theorem check_struct {P : Program} {t : TypeId} {fs : Array Field} {ks : List Nat} (hu : P.underlying t = some (.struct fs)) (hf : fieldsFrom P 0 fs.toList = some ks) {cs : Array Value} (hl : fs.size ≤ cs.size) (n : Nat) (e : Bool) (w : World) :
    (Instr.checkKey e (n + 2) t (.agg cs)).run P w = .ok () w := by
  have each := each_flat (cs := cs) fs.toList 0 ks hf (by simpa using hl)
  rw [Instr.checkKey]
  simp only [Sem.run_bind, run_und hu, Result.andThen_ok]
  rw [← Array.forIn_toList]
  generalize fs.toList = L at each
  induction L with
  | nil => simp
  | cons f L ih =>
    obtain ⟨hn, q, hq, v, p1⟩ := each f (by simp)
    simp only [List.forIn_cons, Sem.run_bind, hn, ne_eq, not_false_eq_true, if_true, Result.andThen_ok, p1, check_flat hq, Sem.run_pure]
    exact ih (fun y hy => each y (by simp [hy]))
theorem keyT_of {α : Type} [DecidableEq α] {P : Program} {mt kt et : TypeId} {kC : α → List Value} {fs : Array Field} {ks : List Nat} (hm : P.underlying mt = some (.map kt et)) (hu : P.underlying kt = some (.struct fs)) (hf : fieldsFrom P 0 fs.toList = some ks) (h1 : P.stoodInHeld kt = false)
    (hl : ∀ a, fs.size ≤ (kC a).length) (he : ∀ a b, eqCs ks (kC a) (kC b) = some (decide (a = b))) (hs : ∀ (a : α), Instr.sameBits 10000 (.agg (kC a).toArray) (.agg (kC a).toArray) = true) (hz : zero? P et = some (.int .i64 0)) : KeyT P mt kt et kC where
  map := hm
  eq := fun a b w => by
    have hfo : P.fieldsOf kt = fs := by simp [Program.fieldsOf, hu]
    show (Op.equalIn (9998 + 1 + 1) kt _ _).run P w = _
    rw [run_equalIn_struct w (9998 + 1) kt _ _ (by rw [hfo]; exact hu) h1, hfo]
    exact eqFields_run 9998 _ _ w fs.toList 0 ks _ hf (by simpa using he a b)
  check := fun a e w => check_struct hu hf (by simpa using hl a) 9998 e w
  und := ⟨fs, hu⟩
  same := hs
  zero := fun w => run_zero hz
def fsOf (P : Program) (t : TypeId) : Array Field := match P.underlying t with
  | some (.struct fs) => fs
  | _ => #[]
/-! the steps -/
section
variable {α : Type} [DecidableEq α] {P : Program} {mt kt et : TypeId} {kC : α → List Value} {hh : Option (List Nat)} {wr w : World} {r : List SI} {f : Fr} {K : Fr → World → Prop} {i d b : Nat} {k : α} {l : List (α × Int)}
theorem d_lookup {x y : Operand} (h : KeyT P mt kt et kC) (hx : ev f x = .map (some b)) (hy : ev f y = .agg (kC k).toArray) (hb : w.heap[b]? = some (mapOb kC l)) (hH : Held hh wr w)
    (hk : vd P hh wr r (upd f d (.int .i64 (getM k l))) w K) : vd P hh wr (.l i none (some d) (.raw (.lookup mt x y false)) :: r) f w K := by
  show vl P (.raw (.lookup mt x y false)) f w _
  refine ⟨_, w, .inl ⟨?_, hH, hk⟩⟩
  show (do pure (Next.value (← Instr.lookup mt (ev f x) (ev f y) false)) : Sem Next).run P w = _
  rw [hx, hy]
  simp only [Sem.run_bind, lookup_run h k hb, Result.andThen_ok, Sem.run_pure]; rfl
theorem v_lookup {r : List MI} {x y : Operand} (h : KeyT P mt kt et kC) (hx : ev f x = .map (some b)) (hy : ev f y = .agg (kC k).toArray) (hb : w.heap[b]? = some (mapOb kC l))
    (hk : vr P r (upd f d (.int .i64 (getM k l))) w K) : vr P (.l none (some d) (.raw (.lookup mt x y false)) :: r) f w K := by
  show vl P (.raw (.lookup mt x y false)) f w _
  refine ⟨_, w, .inl ⟨?_, hk⟩⟩
  show (do pure (Next.value (← Instr.lookup mt (ev f x) (ev f y) false)) : Sem Next).run P w = _
  rw [hx, hy]
  simp only [Sem.run_bind, lookup_run h k hb, Result.andThen_ok, Sem.run_pure]; rfl
theorem d_new {x y : Operand} (h : KeyT P mt kt et kC) (hx : ev f x = .map (some b)) (hy : ev f y = .agg (kC k).toArray) (hb : w.heap[b]? = some (mapOb kC l)) (hn : findM k l 0 = none)
    (hk : Held hh wr (setMap kC w b (l ++ [(k, 0)])) ∧ vd P hh wr r (upd f d (.tuple #[.int .i64 0, .int .i64 l.length])) (setMap kC w b (l ++ [(k, 0)])) K) : vd P hh wr (.l i none (some d) (.raw (.mapEntry mt x y)) :: r) f w K := by
  show vl P (.raw (.mapEntry mt x y)) f w _
  refine ⟨_, _, .inl ⟨?_, hk⟩⟩
  show (do pure (Next.value (← Instr.mapEntry mt (ev f x) (ev f y))) : Sem Next).run P w = _
  rw [hx, hy]
  simp only [Sem.run_bind, entry_new h hb hn, Result.andThen_ok, Sem.run_pure]
theorem d_old {x y : Operand} {j : Nat} {v : Int} (h : KeyT P mt kt et kC) (hx : ev f x = .map (some b)) (hy : ev f y = .agg (kC k).toArray) (hb : w.heap[b]? = some (mapOb kC l)) (hn : findM k l 0 = some (j, v))
    (hk : Held hh wr (setMap kC w b l) ∧ vd P hh wr r (upd f d (.tuple #[.int .i64 v, .int .i64 j])) (setMap kC w b l) K) : vd P hh wr (.l i none (some d) (.raw (.mapEntry mt x y)) :: r) f w K := by
  show vl P (.raw (.mapEntry mt x y)) f w _
  refine ⟨_, _, .inl ⟨?_, hk⟩⟩
  show (do pure (Next.value (← Instr.mapEntry mt (ev f x) (ev f y))) : Sem Next).run P w = _
  rw [hx, hy]
  simp only [Sem.run_bind, entry_old h hb hn, Result.andThen_ok, Sem.run_pure]
omit [DecidableEq α] in
theorem d_store {x y z : Operand} {j : Nat} {v v0 : Int} (hx : ev f x = .map (some b)) (hy : ev f y = .int .i64 (j : Int)) (hz : ev f z = .int .i64 v) (hb : w.heap[b]? = some (mapOb kC l)) (hl : l[j]? = some (k, v0))
    (hk : Held hh wr (setMap kC w b (l.set j (k, v))) ∧ vd P hh wr r f (setMap kC w b (l.set j (k, v))) K) : vd P hh wr (.l i none none (.raw (.entryStore mt x y z)) :: r) f w K := by
  show vl P (.raw (.entryStore mt x y z)) f w _
  refine ⟨undef, _, .inr ⟨?_, hk⟩⟩
  show (do Instr.entryStore mt (ev f x) (ev f y) (ev f z); pure Next.skip : Sem Next).run P w = _
  rw [hx, hy, hz]
  simp only [Sem.run_bind, store_run hb hl, Result.andThen_ok, Sem.run_pure]
end
theorem m_mkmap {α : Type} {P : Program} {r : List MI} {f : Fr} {w w0 : World} {K : Fr → World → Prop} {d : Nat} {R : List (List Ent)} {S : List Nat} (kC : α → List Value) (hM : Mem w0 S w R)
    (h : ∀ mb w', w'.heap[mb]? = some (mapOb kC []) → w0.heap.size ≤ mb → Mem w0 S w' R → vr P r (upd f d (.map (some mb))) w' K) : vr P (.l none (some d) .mkmap :: r) f w K := by
  refine h w.heap.size _ ?_ hM.upd.size (hM.pure ⟨rfl, rfl, rfl, by show _ ≤ (w.heap.push _).size; rw [Array.size_push]; omega, fun b hb _ => ?_⟩)
  · show (w.heap.push _)[w.heap.size]? = _
    rw [Array.getElem?_push_size]; rfl
  · show (w.heap.push _)[b]? = _
    rw [Array.getElem?_push, if_neg (by omega)]
theorem Mem.after {w0 w wp : World} {R : List (List Ent)} {b : Nat} (h : Mem w0 [] w R) (u : Upd [b] w wp) (hb : b ∉ ids R.flatten) : Mem w0 [b] wp R :=
  ⟨(h.upd.mono (by simp)).trans u, fun e he => (h.own e he).upd u (by
    rw [List.mem_singleton]; intro e1; exact hb (e1 ▸ List.mem_map.2 ⟨e, he, rfl⟩)), h.nd, fun e he => (h.new e he).elim (fun h => by simp at h) .inr⟩
theorem Mem.fresh {w0 w : World} {R : List (List Ent)} {i j : Nat} {r : List Ent} {e : Ent} (h : Mem w0 [] w R) (hi : R[i]? = some r) (hj : r[j]? = some e) : w0.heap.size ≤ e.b :=
  (h.new e (List.mem_flatten.2 ⟨r, List.mem_of_getElem? hi, List.mem_of_getElem? hj⟩)).elim (fun h => by simp at h) id
/-- The change since a call's beginning, when blocks that are newer have been changed by other means. -/
theorem Upd.over {S : List Nat} {w wb wf : World} (h : Upd [] w wb) (u : Upd S wb wf) (hS : ∀ b ∈ S, w.heap.size ≤ b) : Upd [] w wf :=
  ⟨u.os.trans h.os, u.tape.trans h.tape, u.output.trans h.output, Nat.le_trans h.size u.size, fun i hi hn => (u.block i (Nat.lt_of_lt_of_le hi h.size) fun hm => by have := hS i hm; omega).trans (h.block i hi hn)⟩
end Go.Proofs.Ytnkilhmkegmenaa.E
