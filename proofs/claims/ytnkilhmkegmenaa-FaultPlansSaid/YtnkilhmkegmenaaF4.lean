/- Whether entries may be. -/
import Derived.Test.YtnkilhmkegmenaaF1
import Derived.Test.YtnkilhmkegmenaaE18
namespace Go.Proofs.Ytnkilhmkegmenaa.E
open Go
def fz : Flt := ⟨0, 0, 0, 0, 0, 0, 0, 0⟩
abbrev Plc := Int × Int × Int × Int
def placeP (f : Flt) : Plc := (f.kind, f.tk, f.task, f.att)
def plC (p : Plc) : List Value := [.int .i64 p.1, .int .i64 p.2.1, .int .i64 p.2.2.1, .int .i64 p.2.2.2]
def fineI (l : List Flt) (i : Nat) : Prop := goodP (l.getD i fz) ∧ ∀ k, k < i → ¬ placeP (l.getD k fz) = placeP (l.getD i fz)
instance (l : List Flt) (i : Nat) : Decidable (fineI l i) := by unfold fineI; infer_instance
def fine (l : List Flt) : Prop := ∀ i, i < l.length → fineI l i
instance (l : List Flt) : Decidable (fine l) := by unfold fine; infer_instance
/-- what Check tells -/
def check (l : List Flt) : Int := if 256 < l.length then 2 else if fine l then 0 else 160
theorem check_long {l : List Flt} (h : 256 < l.length) : check l = 2 := by unfold check; rw [if_pos h]
theorem check_fine {l : List Flt} (h : ¬ 256 < l.length) (hf : fine l) : check l = 0 := by unfold check; rw [if_neg h, if_pos hf]
theorem check_not {l : List Flt} (h : ¬ 256 < l.length) (hf : ¬ fine l) : check l = 160 := by unfold check; rw [if_neg h, if_neg hf]
/-- the map behind the first i entries -/
def mapL (l : List Flt) (i : Nat) : List (Plc × Int) := (List.range i).map fun j => (placeP (l.getD j fz), 1)
theorem mapL_succ (l : List Flt) (i : Nat) : mapL l (i + 1) = mapL l i ++ [(placeP (l.getD i fz), 1)] := by simp [mapL, List.range_succ]
theorem findM_none {α : Type} [DecidableEq α] {k : α} : ∀ {m : List (α × Int)} {j : Nat}, (∀ x ∈ m, ¬ x.1 = k) → findM k m j = none
  | [], _, _ => rfl
  | x :: m, j, h => by
    simp only [findM]
    rw [if_neg (fun e => h x (by simp) e.symm)]
    exact findM_none fun y hy => h y (List.mem_cons_of_mem _ hy)
theorem findM_one {α : Type} [DecidableEq α] {k : α} : ∀ {m : List (α × Int)} {j : Nat}, (∀ x ∈ m, x.2 = 1) → (∃ x ∈ m, x.1 = k) → ∃ i, findM k m j = some (i, 1)
  | [], _, _, ⟨x, hx, _⟩ => by cases hx
  | x :: m, j, h, ⟨y, hy, e⟩ => by
    simp only [findM]
    by_cases c : k = x.1
    · rw [if_pos c]; exact ⟨j, by rw [h x (by simp)]⟩
    · rw [if_neg c]
      refine findM_one (fun z hz => h z (List.mem_cons_of_mem _ hz)) ⟨y, ?_, e⟩
      rcases List.mem_cons.1 hy with rfl | hy
      · exact absurd e.symm c
      · exact hy
theorem findM_set {α : Type} [DecidableEq α] {k : α} {u : Int} : ∀ {m : List (α × Int)} {j i : Nat} {v : Int}, findM k m j = some (j + i, v) → findM k (m.set i (k, u)) j = some (j + i, u)
  | [], _, _, _, h => by cases h
  | x :: m, j, i, v, h => by
    simp only [findM] at h
    split at h
    · rename_i e
      simp only [Option.some.injEq, Prod.mk.injEq] at h
      obtain rfl : i = 0 := by omega
      simp [findM]
    · rename_i e
      have h1 := (findM_some h).1
      obtain ⟨i', rfl⟩ : ∃ i', i = i' + 1 := ⟨i - 1, by omega⟩
      simp only [List.set_cons_succ, findM, if_neg e]
      rw [show j + (i' + 1) = j + 1 + i' by omega] at h ⊢
      exact findM_set h
theorem getM_new {α : Type} [DecidableEq α] {k : α} {m : List (α × Int)} (h : findM k m 0 = none) : getM k (incM k m) = 1 := by
  unfold getM incM; rw [h]; simp only [findM_snoc h]; rfl
theorem getM_old {α : Type} [DecidableEq α] {k : α} {m : List (α × Int)} {i : Nat} {v : Int} (h : findM k m 0 = some (i, v)) : getM k (incM k m) = v + 1 := by
  unfold getM incM; rw [h]
  have := findM_set (u := v + 1) (m := m) (j := 0) (i := i) (v := v) (by rw [Nat.zero_add]; exact h)
  rw [Nat.zero_add] at this
  simp only [this]; rfl
theorem mapL_none {l : List Flt} {i : Nat} (h : ∀ k, k < i → ¬ placeP (l.getD k fz) = placeP (l.getD i fz)) : findM (placeP (l.getD i fz)) (mapL l i) 0 = none := by
  refine findM_none fun x hx => ?_
  obtain ⟨k, hk, rfl⟩ := List.mem_map.1 hx
  exact h k (by simpa using hk)
theorem mapL_some {l : List Flt} {i : Nat} (h : ¬ ∀ k, k < i → ¬ placeP (l.getD k fz) = placeP (l.getD i fz)) : ∃ j, findM (placeP (l.getD i fz)) (mapL l i) 0 = some (j, 1) := by
  refine findM_one (fun x hx => ?_) ?_
  · obtain ⟨k, hk, rfl⟩ := List.mem_map.1 hx; rfl
  · simp only [Classical.not_forall, Decidable.not_not] at h
    obtain ⟨k, hk, e⟩ := h
    exact ⟨_, List.mem_map.2 ⟨k, by simpa using hk, rfl⟩, e⟩
/-- no entry before was of that place: what 'seen' tells then -/
theorem seen_new {l : List Flt} {i : Nat} (h : ¬ (1 : Int) < getM (placeP (l.getD i fz)) (incM (placeP (l.getD i fz)) (mapL l i))) : (∀ k, k < i → ¬ placeP (l.getD k fz) = placeP (l.getD i fz)) ∧ incM (placeP (l.getD i fz)) (mapL l i) = mapL l (i + 1) := by
  by_cases c : ∀ k, k < i → ¬ placeP (l.getD k fz) = placeP (l.getD i fz)
  · refine ⟨c, ?_⟩
    unfold incM
    rw [mapL_none c, mapL_succ]
  · obtain ⟨j, hj⟩ := mapL_some c
    rw [getM_old hj] at h
    omega
theorem seen_old {l : List Flt} {i : Nat} (h : (1 : Int) < getM (placeP (l.getD i fz)) (incM (placeP (l.getD i fz)) (mapL l i))) : ¬ ∀ k, k < i → ¬ placeP (l.getD k fz) = placeP (l.getD i fz) := fun c => by
  rw [getM_new (mapL_none c)] at h; omega
theorem plK : KeyT Try.prog 89 68 3 plC := keyT_of (fs := fsOf Try.prog 68) (ks := [1, 1, 1, 1]) (by kernel_rfl) (by kernel_rfl) (by kernel_rfl) (by kernel_rfl) (fun a => by
    rw [show (fsOf Try.prog 68).size = 4 by kernel_rfl]; exact Nat.le_refl _) (fun a b => by
    obtain ⟨a1, a2, a3, a4⟩ := a
    obtain ⟨b1, b2, b3, b4⟩ := b
    simp [plC, eqCs, eqC, Prod.ext_iff]) (fun a => by simp [Instr.sameBits, plC]) (by kernel_rfl)

theorem getL_ok {l : List Flt} (h : ∀ x ∈ l, x.ok) {i : Nat} (hi : i < l.length) : (l.getD i fz).ok := by
  rw [List.getD_eq_getElem?_getD, List.getElem?_eq_getElem hi]; exact h _ (List.getElem_mem hi)
theorem fine_all {l : List Flt} {i : Nat} (h : l.length ≤ i) (hp : ∀ j, j < i → fineI l j) : fine l := fun j hj => hp j (by omega)
theorem fine_no {l : List Flt} {i : Nat} (h : i < l.length) (hp : ¬ fineI l i) : ¬ fine l := fun hf => hp (hf i h)
theorem all_next {p : Nat → Prop} {i : Nat} (h : ∀ j, j < i → p j) (hi : p i) : ∀ j, j < i + 1 → p j := fun j hj => by
  rcases Nat.lt_succ_iff_lt_or_eq.1 hj with h1 | rfl
  · exact h j h1
  · exact hi

set_option maxRecDepth 100000 in
/-- fault.placeOf -/
theorem placeOf_ok (f : Flt) (w : World) : Calls Try.prog 41 [.agg (fltC f).toArray].toArray w (Rt fun r w' => r = .agg (plC (placeP f)).toArray ∧ Upd [] w w') := by
  have hM0 : Mem w [] w [] := Mem.nil w []
  refine calls_vc mixed Try.func41 rfl C41 (by simp [Try.ntmps41]) ?_
  refine seq fun K1 h1 => ?_
  refine m_bx (v := .agg ([.int .i64 f.kind, .int .i64 f.tk, .int .i64 f.task, .int .i64 f.att, .int .i64 f.mom, .int .i64 f.rd, .int .i64 f.at_, .int .u32 f.mask] : List Value).toArray) hM0 rfl rfl fun b2 w3 (hM3 : Mem w [] w3 [[⟨b2, 25, [.int .i64 f.kind, .int .i64 f.tk, .int .i64 f.task, .int .i64 f.att, .int .i64 f.mom, .int .i64 f.rd, .int .i64 f.at_, .int .u32 f.mask]⟩]]) => ?_
  refine m_al hM3 fun b4 w5 (hM5 : Mem w [] w5 [[⟨b2, 25, [.int .i64 f.kind, .int .i64 f.tk, .int .i64 f.task, .int .i64 f.att, .int .i64 f.mom, .int .i64 f.rd, .int .i64 f.at_, .int .u32 f.mask]⟩], [⟨b4, 68, [.int .i64 0, .int .i64 0, .int .i64 0, .int .i64 0]⟩]]) => ?_
  refine h1 _ _ ?_
  clear h1
  refine seq fun K6 h6 => ?_
  refine stp (v := .pointer (some ⟨b2, 0, none⟩)) (o_fa rfl rfl) ?_
  refine m_ld (v := .int .i64 f.kind) hM5 (i := 0) (j := 0) rfl rfl rfl rfl ?_
  refine stp (v := .pointer (some ⟨b2, 1, none⟩)) (o_fa rfl rfl) ?_
  refine m_ld (v := .int .i64 f.tk) hM5 (i := 0) (j := 0) rfl rfl rfl rfl ?_
  refine stp (v := .pointer (some ⟨b2, 2, none⟩)) (o_fa rfl rfl) ?_
  refine m_ld (v := .int .i64 f.task) hM5 (i := 0) (j := 0) rfl rfl rfl rfl ?_
  refine stp (v := .pointer (some ⟨b2, 3, none⟩)) (o_fa rfl rfl) ?_
  refine m_ld (v := .int .i64 f.att) hM5 (i := 0) (j := 0) rfl rfl rfl rfl ?_
  refine stp (v := .agg ([.int .i64 f.kind, .int .i64 f.tk, .int .i64 f.task, .int .i64 f.att] : List Value).toArray) (o_bld rfl rfl) ?_
  refine m_stA (l := [.int .i64 f.kind, .int .i64 f.tk, .int .i64 f.task, .int .i64 f.att]) hM5 (i := 1) rfl rfl rfl rfl (by simp [oneCells, Value.oneCell', byteV]) (by simp) fun w7 (hM7 : Mem w [] w7 [[⟨b2, 25, [.int .i64 f.kind, .int .i64 f.tk, .int .i64 f.task, .int .i64 f.att, .int .i64 f.mom, .int .i64 f.rd, .int .i64 f.at_, .int .u32 f.mask]⟩], [⟨b4, 68, [.int .i64 f.kind, .int .i64 f.tk, .int .i64 f.task, .int .i64 f.att]⟩]]) => ?_
  refine h6 _ _ ?_
  clear h6
  show resV _ _ _ _ _
  refine res_cell (s := some 4) (by kernel_rfl) ?_
  refine vl_ldA (cs := [.int .i64 f.kind, .int .i64 f.tk, .int .i64 f.task, .int .i64 f.att]) rfl rfl ((hM7.at (i := 1) (j := 0) rfl rfl).agg rfl rfl) ?_
  refine ⟨(.agg ([.int .i64 f.kind, .int .i64 f.tk, .int .i64 f.task, .int .i64 f.att] : List Value).toArray), rfl, ?_⟩
  exact ⟨rfl, hM7.upd⟩

/-- winnowref16.Check -/
theorem refCheck_ok (x : Value) (l : List Flt) (w : World) (hx : RdS fltC w x l) (hok : ∀ y ∈ l, y.ok) (hl : l.length * 64 ≤ 175921860444160) : Calls Try.prog 28 [x].toArray w (Rt fun r w' => r = .int .i64 (check l) ∧ Upd [] w w') := by
  have hM0 : Mem w [] w [] := Mem.nil w []
  refine calls_vc mixed Try.func28 rfl C28 (by simp [Try.ntmps28]) ?_
  refine seq fun K1 h1 => ?_
  refine stp (v := .int .i64 0) (o_mv rfl) ?_
  refine h1 _ _ ?_
  clear h1
  refine seq fun K2 h2 => ?_
  refine seq fun K3 h3 => ?_
  refine stp (v := x) (o_mv rfl) ?_
  refine stp (v := .int .i64 (l.length : Nat)) (o_lenR (hx.upd hM0.upd) rfl rfl) ?_
  refine stp (v := .bool (decide ((256 : Int) < ((l.length : Nat) : Int)))) (o_bin rfl rfl rfl) ?_
  refine h3 _ _ ?_
  clear h3
  refine cndP rfl (fun c4 => ?_) (fun c4 => ?_)
  ·
    refine seq fun K5 h5 => ?_
    refine stp (v := .int .i64 2) (o_mv rfl) ?_
    refine h5 _ _ ?_
    clear h5
    refine ⟨(.int .i64 2), rfl, ?_⟩
    exact ⟨by rw [check_long (by omega)], hM0.upd⟩
  ·
    refine h2 _ _ ?_
    clear h2
    refine seq fun K6 h6 => ?_
    refine seq fun K7 h7 => ?_
    refine stp (v := .int .i64 0) (o_mv rfl) ?_
    refine h7 _ _ ?_
    clear h7
    refine lp (n := fun _ _ => False) (ι := (Nat)) (fun i f w' => f 3 = .int .i64 (i : Nat) ∧ f 0 = x ∧ Mem w [] w' [] ∧ (i ≤ l.length) ∧ (∀ j, j < i → fineI l j)) (fun i => l.length - i) (0) ?_ ?_
    · exact ⟨by first | rfl | exact v_int (by omega) | exact v_int (by simp) | exact v_int (by simp; omega), rfl, hM0, by omega, by omega⟩
    · rintro i f w8 ⟨e8_3, e8_0, hM8, hi, hp⟩ K9 h9
      obtain ⟨frm, rfl⟩ : ∃ frm, f = (upd (upd frm 3 (.int .i64 (i : Nat))) 0 (x)) := ⟨f, by rw [upd_self e8_3, upd_self e8_0]⟩
      clear e8_3 e8_0
      refine seq fun K10 h10 => ?_
      refine seq fun K11 h11 => ?_
      refine stp (v := .int .i64 (i : Nat)) (o_mv rfl) ?_
      refine stp (v := x) (o_mv rfl) ?_
      refine stp (v := .int .i64 (l.length : Nat)) (o_lenR (hx.upd hM8.upd) rfl rfl) ?_
      refine stp (v := .bool (decide (((i : Nat) : Int) < (l.length : Nat)))) (o_bin rfl rfl rfl) ?_
      refine h11 _ _ ?_
      clear h11
      refine cndP rfl (fun c12 => ?_) (fun c12 => ?_)
      ·
        refine h10 _ _ ?_
        clear h10
        refine seq fun K13 h13 => ?_
        refine seq fun K14 h14 => ?_
        refine seq fun K15 h15 => ?_
        refine stp (v := x) (o_mv rfl) ?_
        refine stp (v := .int .i64 (i : Nat)) (o_mv rfl) ?_
        refine m_idxS fz (j := i) (hx.upd hM8.upd) rfl rfl (by omega) fun b16 o16 hp16 => ?_
        have hok1 := getL_ok hok (i := i) (by omega)
        refine ldA (cs := [.int .i64 ((l.getD i fz).kind), .int .i64 ((l.getD i fz).tk), .int .i64 ((l.getD i fz).task), .int .i64 ((l.getD i fz).att), .int .i64 ((l.getD i fz).mom), .int .i64 ((l.getD i fz).rd), .int .i64 ((l.getD i fz).at_), .int .u32 ((l.getD i fz).mask)]) rfl rfl (hp16.row (k := 0) rfl rfl) ?_
        refine m_call (refgood_ok (l.getD i fz) w8 (by first | assumption | omega)) rfl fun v17 w17 ⟨hr17, hu17⟩ => ?_
        have hM17 : Mem w [] w17 [] := hM8.pure hu17
        subst hr17
        refine stp (v := .bool (decide (¬ (goodP (l.getD i fz))))) (o_not rfl v_not) ?_
        refine h15 _ _ ?_
        clear h15
        refine cndP rfl (fun c18 => ?_) (fun c18 => ?_)
        ·
          refine seq fun K19 h19 => ?_
          refine stp (v := .int .i64 160) (o_mv rfl) ?_
          refine h19 _ _ ?_
          clear h19
          refine ⟨(.int .i64 160), rfl, ?_⟩
          exact ⟨by rw [check_not (by omega) (fine_no (i := i) (by omega) (fun h => absurd h.1 (by assumption)))], hM17.upd⟩
        ·
          refine h14 _ _ ?_
          clear h14
          refine seq fun K20 h20 => ?_
          refine stp (v := .int .i64 0) (o_mv rfl) ?_
          refine h20 _ _ ?_
          clear h20
          refine lp (n := fun _ _ => False) (ι := (Nat)) (fun k f w' => f 4 = .int .i64 (k : Nat) ∧ f 0 = x ∧ f 3 = .int .i64 (i : Nat) ∧ Mem w [] w' [] ∧ (k ≤ i) ∧ (∀ j, j < k → ¬ placeP (l.getD j fz) = placeP (l.getD i fz))) (fun k => i - k) (0) ?_ ?_
          · exact ⟨by first | rfl | exact v_int (by omega) | exact v_int (by simp) | exact v_int (by simp; omega), rfl, by first | rfl | exact v_int (by omega) | exact v_int (by simp) | exact v_int (by simp; omega), hM17, by omega, by omega⟩
          · rintro k f w21 ⟨e21_4, e21_0, e21_3, hM21, hk, hq⟩ K22 h22
            obtain ⟨frm, rfl⟩ : ∃ frm, f = (upd (upd (upd frm 4 (.int .i64 (k : Nat))) 0 (x)) 3 (.int .i64 (i : Nat))) := ⟨f, by rw [upd_self e21_4, upd_self e21_0, upd_self e21_3]⟩
            clear e21_4 e21_0 e21_3
            refine seq fun K23 h23 => ?_
            refine seq fun K24 h24 => ?_
            refine stp (v := .int .i64 (k : Nat)) (o_mv rfl) ?_
            refine stp (v := .int .i64 (i : Nat)) (o_mv rfl) ?_
            refine stp (v := .bool (decide (((k : Nat) : Int) < (i : Nat)))) (o_bin rfl rfl rfl) ?_
            refine h24 _ _ ?_
            clear h24
            refine cndP rfl (fun c25 => ?_) (fun c25 => ?_)
            ·
              refine h23 _ _ ?_
              clear h23
              refine seq fun K26 h26 => ?_
              refine seq fun K27 h27 => ?_
              refine stp (v := x) (o_mv rfl) ?_
              refine stp (v := .int .i64 (i : Nat)) (o_mv rfl) ?_
              refine m_idxS fz (j := i) (hx.upd hM21.upd) rfl rfl (by omega) fun b28 o28 hp28 => ?_
              refine ldA (cs := [.int .i64 ((l.getD i fz).kind), .int .i64 ((l.getD i fz).tk), .int .i64 ((l.getD i fz).task), .int .i64 ((l.getD i fz).att), .int .i64 ((l.getD i fz).mom), .int .i64 ((l.getD i fz).rd), .int .i64 ((l.getD i fz).at_), .int .u32 ((l.getD i fz).mask)]) rfl rfl (hp28.row (k := 0) rfl rfl) ?_
              refine m_al hM21 fun b29 w30 (hM30 : Mem w [] w30 [[⟨b29, 25, [.int .i64 0, .int .i64 0, .int .i64 0, .int .i64 0, .int .i64 0, .int .i64 0, .int .i64 0, .int .u32 0]⟩]]) => ?_
              refine m_stA (l := [.int .i64 ((l.getD i fz).kind), .int .i64 ((l.getD i fz).tk), .int .i64 ((l.getD i fz).task), .int .i64 ((l.getD i fz).att), .int .i64 ((l.getD i fz).mom), .int .i64 ((l.getD i fz).rd), .int .i64 ((l.getD i fz).at_), .int .u32 ((l.getD i fz).mask)]) hM30 (i := 0) rfl rfl rfl rfl (by simp [oneCells, Value.oneCell', byteV]) (by simp) fun w31 (hM31 : Mem w [] w31 [[⟨b29, 25, [.int .i64 ((l.getD i fz).kind), .int .i64 ((l.getD i fz).tk), .int .i64 ((l.getD i fz).task), .int .i64 ((l.getD i fz).att), .int .i64 ((l.getD i fz).mom), .int .i64 ((l.getD i fz).rd), .int .i64 ((l.getD i fz).at_), .int .u32 ((l.getD i fz).mask)]⟩]]) => ?_
              refine h27 _ _ ?_
              clear h27
              refine seq fun K32 h32 => ?_
              refine stp (v := x) (o_mv rfl) ?_
              refine stp (v := .int .i64 (k : Nat)) (o_mv rfl) ?_
              refine m_idxS fz (j := k) (hx.upd hM31.upd) rfl rfl (by omega) fun b33 o33 hp33 => ?_
              refine ldA (cs := [.int .i64 ((l.getD k fz).kind), .int .i64 ((l.getD k fz).tk), .int .i64 ((l.getD k fz).task), .int .i64 ((l.getD k fz).att), .int .i64 ((l.getD k fz).mom), .int .i64 ((l.getD k fz).rd), .int .i64 ((l.getD k fz).at_), .int .u32 ((l.getD k fz).mask)]) rfl rfl (hp33.row (k := 0) rfl rfl) ?_
              refine m_al hM31 fun b34 w35 (hM35 : Mem w [] w35 [[⟨b29, 25, [.int .i64 ((l.getD i fz).kind), .int .i64 ((l.getD i fz).tk), .int .i64 ((l.getD i fz).task), .int .i64 ((l.getD i fz).att), .int .i64 ((l.getD i fz).mom), .int .i64 ((l.getD i fz).rd), .int .i64 ((l.getD i fz).at_), .int .u32 ((l.getD i fz).mask)]⟩], [⟨b34, 25, [.int .i64 0, .int .i64 0, .int .i64 0, .int .i64 0, .int .i64 0, .int .i64 0, .int .i64 0, .int .u32 0]⟩]]) => ?_
              refine m_stA (l := [.int .i64 ((l.getD k fz).kind), .int .i64 ((l.getD k fz).tk), .int .i64 ((l.getD k fz).task), .int .i64 ((l.getD k fz).att), .int .i64 ((l.getD k fz).mom), .int .i64 ((l.getD k fz).rd), .int .i64 ((l.getD k fz).at_), .int .u32 ((l.getD k fz).mask)]) hM35 (i := 1) rfl rfl rfl rfl (by simp [oneCells, Value.oneCell', byteV]) (by simp) fun w36 (hM36 : Mem w [] w36 [[⟨b29, 25, [.int .i64 ((l.getD i fz).kind), .int .i64 ((l.getD i fz).tk), .int .i64 ((l.getD i fz).task), .int .i64 ((l.getD i fz).att), .int .i64 ((l.getD i fz).mom), .int .i64 ((l.getD i fz).rd), .int .i64 ((l.getD i fz).at_), .int .u32 ((l.getD i fz).mask)]⟩], [⟨b34, 25, [.int .i64 ((l.getD k fz).kind), .int .i64 ((l.getD k fz).tk), .int .i64 ((l.getD k fz).task), .int .i64 ((l.getD k fz).att), .int .i64 ((l.getD k fz).mom), .int .i64 ((l.getD k fz).rd), .int .i64 ((l.getD k fz).at_), .int .u32 ((l.getD k fz).mask)]⟩]]) => ?_
              refine h32 _ _ ?_
              clear h32
              refine seq fun K37 h37 => ?_
              refine stp (v := .pointer (some ⟨b29, 0, none⟩)) (o_fa rfl rfl) ?_
              refine m_ld (v := .int .i64 ((l.getD i fz).kind)) hM36 (i := 0) (j := 0) rfl rfl rfl rfl ?_
              refine stp (v := .pointer (some ⟨b34, 0, none⟩)) (o_fa rfl rfl) ?_
              refine m_ld (v := .int .i64 ((l.getD k fz).kind)) hM36 (i := 1) (j := 0) rfl rfl rfl rfl ?_
              refine stp (v := .bool (decide (((l.getD i fz).kind) = ((l.getD k fz).kind)))) (o_bin rfl rfl rfl) ?_
              refine stp (v := .bool (decide (((l.getD i fz).kind) = ((l.getD k fz).kind)))) (o_mv rfl) ?_
              refine splitP rfl (fun c38 => ?_) (fun c38 => ?_)
              ·
                refine stg rfl (v := .pointer (some ⟨b29, 1, none⟩)) (o_fa rfl rfl) ?_
                refine gyesl rfl ?_
                refine m_ld (v := .int .i64 ((l.getD i fz).tk)) hM36 (i := 0) (j := 0) rfl rfl rfl rfl ?_
                refine stg rfl (v := .pointer (some ⟨b34, 1, none⟩)) (o_fa rfl rfl) ?_
                refine gyesl rfl ?_
                refine m_ld (v := .int .i64 ((l.getD k fz).tk)) hM36 (i := 1) (j := 0) rfl rfl rfl rfl ?_
                refine stg rfl (v := .bool (decide (((l.getD i fz).tk) = ((l.getD k fz).tk)))) (o_bin rfl rfl rfl) ?_
                refine stp (v := .bool (decide (((l.getD i fz).tk) = ((l.getD k fz).tk)))) (o_pickT rfl rfl) ?_
                refine stp (v := .bool (decide (((l.getD i fz).tk) = ((l.getD k fz).tk)))) (o_mv rfl) ?_
                refine splitP rfl (fun c39 => ?_) (fun c39 => ?_)
                ·
                  refine stg rfl (v := .pointer (some ⟨b29, 2, none⟩)) (o_fa rfl rfl) ?_
                  refine gyesl rfl ?_
                  refine m_ld (v := .int .i64 ((l.getD i fz).task)) hM36 (i := 0) (j := 0) rfl rfl rfl rfl ?_
                  refine stg rfl (v := .pointer (some ⟨b34, 2, none⟩)) (o_fa rfl rfl) ?_
                  refine gyesl rfl ?_
                  refine m_ld (v := .int .i64 ((l.getD k fz).task)) hM36 (i := 1) (j := 0) rfl rfl rfl rfl ?_
                  refine stg rfl (v := .bool (decide (((l.getD i fz).task) = ((l.getD k fz).task)))) (o_bin rfl rfl rfl) ?_
                  refine stp (v := .bool (decide (((l.getD i fz).task) = ((l.getD k fz).task)))) (o_pickT rfl rfl) ?_
                  refine stp (v := .bool (decide (((l.getD i fz).task) = ((l.getD k fz).task)))) (o_mv rfl) ?_
                  refine splitP rfl (fun c40 => ?_) (fun c40 => ?_)
                  ·
                    refine stg rfl (v := .pointer (some ⟨b29, 3, none⟩)) (o_fa rfl rfl) ?_
                    refine gyesl rfl ?_
                    refine m_ld (v := .int .i64 ((l.getD i fz).att)) hM36 (i := 0) (j := 0) rfl rfl rfl rfl ?_
                    refine stg rfl (v := .pointer (some ⟨b34, 3, none⟩)) (o_fa rfl rfl) ?_
                    refine gyesl rfl ?_
                    refine m_ld (v := .int .i64 ((l.getD k fz).att)) hM36 (i := 1) (j := 0) rfl rfl rfl rfl ?_
                    refine stg rfl (v := .bool (decide (((l.getD i fz).att) = ((l.getD k fz).att)))) (o_bin rfl rfl rfl) ?_
                    refine stp (v := .bool (decide (((l.getD i fz).att) = ((l.getD k fz).att)))) (o_pickT rfl rfl) ?_
                    refine h37 _ _ ?_
                    clear h37
                    refine cndP rfl (fun c41 => ?_) (fun c41 => ?_)
                    ·
                      refine seq fun K42 h42 => ?_
                      refine stp (v := .int .i64 160) (o_mv rfl) ?_
                      refine h42 _ _ ?_
                      clear h42
                      refine ⟨(.int .i64 160), rfl, ?_⟩
                      exact ⟨by rw [check_not (by omega) (fine_no (i := i) (by omega) (fun h => h.2 k (by omega) (by unfold placeP; simp only [Prod.mk.injEq]; omega)))], hM36.upd⟩
                    ·
                      refine h26 _ _ ?_
                      clear h26
                      refine stp (v := .int .i64 (k : Nat)) (o_mv rfl) ?_
                      refine stp (v := .int .i64 ((k : Nat) + 1)) (o_bin rfl rfl (v_add64 (by constructor <;> omega))) ?_
                      refine stp (v := .int .i64 ((k : Nat) + 1)) (o_mv rfl) ?_
                      refine h22 (k + 1) _ _ ⟨by first | rfl | exact v_int (by omega) | exact v_int (by simp) | exact v_int (by simp; omega), rfl, by first | rfl | exact v_int (by omega) | exact v_int (by simp) | exact v_int (by simp; omega), hM36.keep (by simp), by omega, all_next hq (by unfold placeP; simp only [Prod.mk.injEq]; omega)⟩ (by (try dsimp only); omega)
                  ·
                    refine gno rfl (by simp) ?_
                    refine gnol rfl (by simp) ?_
                    refine gno rfl (by simp) ?_
                    refine gnol rfl (by simp) ?_
                    refine gno rfl (by simp) ?_
                    refine stp (v := .bool false) (o_pickF rfl rfl) ?_
                    refine h37 _ _ ?_
                    clear h37
                    refine cndF rfl ?_
                    refine h26 _ _ ?_
                    clear h26
                    refine stp (v := .int .i64 (k : Nat)) (o_mv rfl) ?_
                    refine stp (v := .int .i64 ((k : Nat) + 1)) (o_bin rfl rfl (v_add64 (by constructor <;> omega))) ?_
                    refine stp (v := .int .i64 ((k : Nat) + 1)) (o_mv rfl) ?_
                    refine h22 (k + 1) _ _ ⟨by first | rfl | exact v_int (by omega) | exact v_int (by simp) | exact v_int (by simp; omega), rfl, by first | rfl | exact v_int (by omega) | exact v_int (by simp) | exact v_int (by simp; omega), hM36.keep (by simp), by omega, all_next hq (by unfold placeP; simp only [Prod.mk.injEq]; omega)⟩ (by (try dsimp only); omega)
                ·
                  refine gno rfl (by simp) ?_
                  refine gnol rfl (by simp) ?_
                  refine gno rfl (by simp) ?_
                  refine gnol rfl (by simp) ?_
                  refine gno rfl (by simp) ?_
                  refine stp (v := .bool false) (o_pickF rfl rfl) ?_
                  refine stp (v := .bool false) (o_mv rfl) ?_
                  refine splitF rfl ?_
                  refine gno rfl (by simp) ?_
                  refine gnol rfl (by simp) ?_
                  refine gno rfl (by simp) ?_
                  refine gnol rfl (by simp) ?_
                  refine gno rfl (by simp) ?_
                  refine stp (v := .bool false) (o_pickF rfl rfl) ?_
                  refine h37 _ _ ?_
                  clear h37
                  refine cndF rfl ?_
                  refine h26 _ _ ?_
                  clear h26
                  refine stp (v := .int .i64 (k : Nat)) (o_mv rfl) ?_
                  refine stp (v := .int .i64 ((k : Nat) + 1)) (o_bin rfl rfl (v_add64 (by constructor <;> omega))) ?_
                  refine stp (v := .int .i64 ((k : Nat) + 1)) (o_mv rfl) ?_
                  refine h22 (k + 1) _ _ ⟨by first | rfl | exact v_int (by omega) | exact v_int (by simp) | exact v_int (by simp; omega), rfl, by first | rfl | exact v_int (by omega) | exact v_int (by simp) | exact v_int (by simp; omega), hM36.keep (by simp), by omega, all_next hq (by unfold placeP; simp only [Prod.mk.injEq]; omega)⟩ (by (try dsimp only); omega)
              ·
                refine gno rfl (by simp) ?_
                refine gnol rfl (by simp) ?_
                refine gno rfl (by simp) ?_
                refine gnol rfl (by simp) ?_
                refine gno rfl (by simp) ?_
                refine stp (v := .bool false) (o_pickF rfl rfl) ?_
                refine stp (v := .bool false) (o_mv rfl) ?_
                refine splitF rfl ?_
                refine gno rfl (by simp) ?_
                refine gnol rfl (by simp) ?_
                refine gno rfl (by simp) ?_
                refine gnol rfl (by simp) ?_
                refine gno rfl (by simp) ?_
                refine stp (v := .bool false) (o_pickF rfl rfl) ?_
                refine stp (v := .bool false) (o_mv rfl) ?_
                refine splitF rfl ?_
                refine gno rfl (by simp) ?_
                refine gnol rfl (by simp) ?_
                refine gno rfl (by simp) ?_
                refine gnol rfl (by simp) ?_
                refine gno rfl (by simp) ?_
                refine stp (v := .bool false) (o_pickF rfl rfl) ?_
                refine h37 _ _ ?_
                clear h37
                refine cndF rfl ?_
                refine h26 _ _ ?_
                clear h26
                refine stp (v := .int .i64 (k : Nat)) (o_mv rfl) ?_
                refine stp (v := .int .i64 ((k : Nat) + 1)) (o_bin rfl rfl (v_add64 (by constructor <;> omega))) ?_
                refine stp (v := .int .i64 ((k : Nat) + 1)) (o_mv rfl) ?_
                refine h22 (k + 1) _ _ ⟨by first | rfl | exact v_int (by omega) | exact v_int (by simp) | exact v_int (by simp; omega), rfl, by first | rfl | exact v_int (by omega) | exact v_int (by simp) | exact v_int (by simp; omega), hM36.keep (by simp), by omega, all_next hq (by unfold placeP; simp only [Prod.mk.injEq]; omega)⟩ (by (try dsimp only); omega)
            ·
              refine h13 _ _ ?_
              clear h13
              refine stp (v := .int .i64 (i : Nat)) (o_mv rfl) ?_
              refine stp (v := .int .i64 ((i : Nat) + 1)) (o_bin rfl rfl (v_add64 (by constructor <;> omega))) ?_
              refine stp (v := .int .i64 ((i : Nat) + 1)) (o_mv rfl) ?_
              refine h9 (i + 1) _ _ ⟨by first | rfl | exact v_int (by omega) | exact v_int (by simp) | exact v_int (by simp; omega), rfl, hM21, by omega, all_next hp ⟨Decidable.not_not.1 (by assumption), fun j hj => hq j (by omega)⟩⟩ (by (try dsimp only); omega)
      ·
        refine h6 _ _ ?_
        clear h6
        refine seq fun K43 h43 => ?_
        refine stp (v := .int .i64 0) (o_mv rfl) ?_
        refine h43 _ _ ?_
        clear h43
        refine ⟨(.int .i64 0), rfl, ?_⟩
        exact ⟨by rw [check_fine (by omega) (fine_all (i := i) (by omega) hp)], hM8.upd⟩

/-- fault.Check -/
theorem Check_ok (x : Value) (l : List Flt) (w : World) (hx : RdS fltC w x l) (hok : ∀ y ∈ l, y.ok) (hl : l.length * 64 ≤ 175921860444160) : Calls Try.prog 35 [x].toArray w (Rt fun r w' => r = .int .i64 (check l) ∧ Upd [] w w') := by
  have hM0 : Mem w [] w [] := Mem.nil w []
  refine calls_vc mixed Try.func35 rfl C35 (by simp [Try.ntmps35]) ?_
  refine seq fun K1 h1 => ?_
  refine stp (v := .int .i64 0) (o_mv rfl) ?_
  refine h1 _ _ ?_
  clear h1
  refine seq fun K2 h2 => ?_
  refine seq fun K3 h3 => ?_
  refine stp (v := x) (o_mv rfl) ?_
  refine stp (v := .int .i64 (l.length : Nat)) (o_lenR (hx.upd hM0.upd) rfl rfl) ?_
  refine stp (v := .bool (decide ((256 : Int) < ((l.length : Nat) : Int)))) (o_bin rfl rfl rfl) ?_
  refine h3 _ _ ?_
  clear h3
  refine cndP rfl (fun c4 => ?_) (fun c4 => ?_)
  ·
    refine seq fun K5 h5 => ?_
    refine stp (v := .int .i64 2) (o_mv rfl) ?_
    refine h5 _ _ ?_
    clear h5
    refine ⟨(.int .i64 2), rfl, ?_⟩
    exact ⟨by rw [check_long (by omega)], hM0.upd⟩
  ·
    refine h2 _ _ ?_
    clear h2
    refine seq fun K6 h6 => ?_
    refine m_mkmap plC hM0 fun mb w1_ hmap0 hmb hMm => ?_
    refine stp (v := .map (some mb)) (o_mv rfl) ?_
    refine h6 _ _ ?_
    clear h6
    refine seq fun K7 h7 => ?_
    refine seq fun K8 h8 => ?_
    have hS : ∀ b ∈ [mb], w.heap.size ≤ b := fun b hb => by rw [List.mem_singleton.1 hb]; exact hmb
    refine stp (v := x) (o_mv rfl) ?_
    refine stp (v := .int .i64 (l.length : Nat)) (o_lenR (hx.upd hMm.upd) rfl rfl) ?_
    refine stp (v := .int .i64 0) (o_mv rfl) ?_
    refine h8 _ _ ?_
    clear h8
    refine lp (n := fun _ _ => False) (ι := (Nat) × (World)) (fun ⟨i, wb⟩ f w' => f 13 = .int .i64 (i : Nat) ∧ f 3 = .map (some mb) ∧ f 11 = x ∧ f 12 = .int .i64 (l.length : Nat) ∧ Mem wb [] w' [] ∧ (i ≤ l.length) ∧ (∀ j, j < i → fineI l j) ∧ (Upd [] w wb) ∧ (wb.heap[mb]? = some (mapOb plC (mapL l i)))) (fun ⟨i, wb⟩ => l.length - i) (0, w1_) ?_ ?_
    · exact ⟨by first | rfl | exact v_int (by omega) | exact v_int (by simp) | exact v_int (by simp; omega), rfl, rfl, by first | rfl | exact v_int (by omega) | exact v_int (by simp) | exact v_int (by simp; omega), Mem.nil _ [], by omega, by omega, hMm.upd, hmap0⟩
    · rintro ⟨i, wb⟩ f w9 ⟨e9_13, e9_3, e9_11, e9_12, hM9, hi, hp, hU, hmap⟩ K10 h10
      obtain ⟨frm, rfl⟩ : ∃ frm, f = (upd (upd (upd (upd frm 13 (.int .i64 (i : Nat))) 3 (.map (some mb))) 11 (x)) 12 (.int .i64 (l.length : Nat))) := ⟨f, by rw [upd_self e9_13, upd_self e9_3, upd_self e9_11, upd_self e9_12]⟩
      clear e9_13 e9_3 e9_11 e9_12
      refine seq fun K11 h11 => ?_
      refine stp (v := .bool (decide (((i : Nat) : Int) < (l.length : Nat)))) (o_bin rfl rfl rfl) ?_
      refine h11 _ _ ?_
      clear h11
      refine seq fun K12 h12 => ?_
      refine cndP rfl (fun c13 => ?_) (fun c13 => ?_)
      ·
        refine h12 _ _ ?_
        clear h12
        refine seq fun K14 h14 => ?_
        refine seq fun K15 h15 => ?_
        refine m_idxS fz (j := i) (hx.upd (hU.trans hM9.upd)) rfl rfl (by omega) fun b16 o16 hp16 => ?_
        have hok1 := getL_ok hok (i := i) (by omega)
        refine ldA (cs := [.int .i64 ((l.getD i fz).kind), .int .i64 ((l.getD i fz).tk), .int .i64 ((l.getD i fz).task), .int .i64 ((l.getD i fz).att), .int .i64 ((l.getD i fz).mom), .int .i64 ((l.getD i fz).rd), .int .i64 ((l.getD i fz).at_), .int .u32 ((l.getD i fz).mask)]) rfl rfl (hp16.row (k := 0) rfl rfl) ?_
        refine m_al hM9 fun b17 w18 (hM18 : Mem wb [] w18 [[⟨b17, 25, [.int .i64 0, .int .i64 0, .int .i64 0, .int .i64 0, .int .i64 0, .int .i64 0, .int .i64 0, .int .u32 0]⟩]]) => ?_
        refine m_stA (l := [.int .i64 ((l.getD i fz).kind), .int .i64 ((l.getD i fz).tk), .int .i64 ((l.getD i fz).task), .int .i64 ((l.getD i fz).att), .int .i64 ((l.getD i fz).mom), .int .i64 ((l.getD i fz).rd), .int .i64 ((l.getD i fz).at_), .int .u32 ((l.getD i fz).mask)]) hM18 (i := 0) rfl rfl rfl rfl (by simp [oneCells, Value.oneCell', byteV]) (by simp) fun w19 (hM19 : Mem wb [] w19 [[⟨b17, 25, [.int .i64 ((l.getD i fz).kind), .int .i64 ((l.getD i fz).tk), .int .i64 ((l.getD i fz).task), .int .i64 ((l.getD i fz).att), .int .i64 ((l.getD i fz).mom), .int .i64 ((l.getD i fz).rd), .int .i64 ((l.getD i fz).at_), .int .u32 ((l.getD i fz).mask)]⟩]]) => ?_
        refine h15 _ _ ?_
        clear h15
        refine seq fun K20 h20 => ?_
        refine m_ldA (l := [.int .i64 ((l.getD i fz).kind), .int .i64 ((l.getD i fz).tk), .int .i64 ((l.getD i fz).task), .int .i64 ((l.getD i fz).att), .int .i64 ((l.getD i fz).mom), .int .i64 ((l.getD i fz).rd), .int .i64 ((l.getD i fz).at_), .int .u32 ((l.getD i fz).mask)]) hM19 (i := 0) (j := 0) rfl rfl rfl rfl rfl ?_
        refine m_call (placeOf_ok (l.getD i fz) w19) rfl fun v21 w21 ⟨hr21, hu21⟩ => ?_
        have hM21 : Mem wb [] w21 [[⟨b17, 25, [.int .i64 ((l.getD i fz).kind), .int .i64 ((l.getD i fz).tk), .int .i64 ((l.getD i fz).task), .int .i64 ((l.getD i fz).att), .int .i64 ((l.getD i fz).mom), .int .i64 ((l.getD i fz).rd), .int .i64 ((l.getD i fz).at_), .int .u32 ((l.getD i fz).mask)]⟩]] := hM19.pure hu21
        subst hr21
        refine m_al hM21 fun b22 w23 (hM23 : Mem wb [] w23 [[⟨b17, 25, [.int .i64 ((l.getD i fz).kind), .int .i64 ((l.getD i fz).tk), .int .i64 ((l.getD i fz).task), .int .i64 ((l.getD i fz).att), .int .i64 ((l.getD i fz).mom), .int .i64 ((l.getD i fz).rd), .int .i64 ((l.getD i fz).at_), .int .u32 ((l.getD i fz).mask)]⟩], [⟨b22, 68, [.int .i64 0, .int .i64 0, .int .i64 0, .int .i64 0]⟩]]) => ?_
        refine m_stA (l := [.int .i64 ((l.getD i fz).kind), .int .i64 ((l.getD i fz).tk), .int .i64 ((l.getD i fz).task), .int .i64 ((l.getD i fz).att)]) hM23 (i := 1) rfl rfl rfl rfl (by simp [oneCells, Value.oneCell', byteV]) (by simp) fun w24 (hM24 : Mem wb [] w24 [[⟨b17, 25, [.int .i64 ((l.getD i fz).kind), .int .i64 ((l.getD i fz).tk), .int .i64 ((l.getD i fz).task), .int .i64 ((l.getD i fz).att), .int .i64 ((l.getD i fz).mom), .int .i64 ((l.getD i fz).rd), .int .i64 ((l.getD i fz).at_), .int .u32 ((l.getD i fz).mask)]⟩], [⟨b22, 68, [.int .i64 ((l.getD i fz).kind), .int .i64 ((l.getD i fz).tk), .int .i64 ((l.getD i fz).task), .int .i64 ((l.getD i fz).att)]⟩]]) => ?_
        refine h20 _ _ ?_
        clear h20
        refine seqc (fun f w' => f 3 = .map (some mb) ∧ f 5 = .pointer (some ⟨b17, 0, none⟩) ∧ f 6 = .pointer (some ⟨b22, 0, none⟩) ∧ f 11 = x ∧ f 12 = .int .i64 (l.length : Nat) ∧ f 13 = .int .i64 (i : Nat) ∧ Mem wb ([mb]) w' [[⟨b17, 25, [.int .i64 ((l.getD i fz).kind), .int .i64 ((l.getD i fz).tk), .int .i64 ((l.getD i fz).task), .int .i64 ((l.getD i fz).att), .int .i64 ((l.getD i fz).mom), .int .i64 ((l.getD i fz).rd), .int .i64 ((l.getD i fz).at_), .int .u32 ((l.getD i fz).mask)]⟩], [⟨b22, 68, [.int .i64 ((l.getD i fz).kind), .int .i64 ((l.getD i fz).tk), .int .i64 ((l.getD i fz).task), .int .i64 ((l.getD i fz).att)]⟩]] ∧ (w'.heap[mb]? = some (mapOb plC (incM (placeP (l.getD i fz)) (mapL l i))))) ?_ ?_
        · intro K25 h25
          intro wd e1 e2 e3 e4
          have hd := Upd.same e1 e2 e3 e4 []
          have hMd := hM24.pure hd
          clear e1 e2 e3 e4
          have hmd : wd.heap[mb]? = some (mapOb plC (mapL l i)) := (hMd.upd.block mb (heap_lt hmap) (by simp)).trans hmap
          have hn5 : ¬ b17 = mb := fun e => by have h1 := hMd.fresh (i := 0) (j := 0) rfl rfl; have h2 := heap_lt hmap; simp only at h1; omega
          have hn6 : ¬ b22 = mb := fun e => by have h1 := hMd.fresh (i := 1) (j := 0) rfl rfl; have h2 := heap_lt hmap; simp only at h1; omega
          refine ⟨some [], ?_⟩
          show vd _ _ _ _ _ _ _
          refine dq (v := .map (some mb)) (o_mv rfl) ?_
          refine dl (m_ldA (l := plC (placeP (l.getD i fz))) hMd (i := 1) (j := 0) rfl rfl rfl rfl rfl ?_)
          refine ⟨(fun b hb => by cases hb), ?_⟩
          show _ ∧ _
          by_cases c : ∀ k, k < i → ¬ placeP (l.getD k fz) = (placeP (l.getD i fz))
          · have hfm := mapL_none c
            have hg0 : getM (placeP (l.getD i fz)) (mapL l i) = 0 := by unfold getM; rw [hfm]; rfl
            have hg1 : getM (placeP (l.getD i fz)) (mapL l i ++ [((placeP (l.getD i fz)), 0)]) = 0 := by unfold getM; rw [findM_snoc hfm]; rfl
            refine ⟨?_, ?_⟩
            · show vd _ _ _ _ _ _ _
              refine d_lookup plK rfl rfl hmd (fun b hb => by cases hb) ?_
              refine dq (o_bin rfl rfl (v_add64 (by rw [hg0]; omega))) ?_
              refine d_new plK rfl rfl hmd hfm ⟨(fun b hb => by cases hb), ?_⟩
              refine dq (o_ext rfl rfl) ?_
              refine d_store (k := (placeP (l.getD i fz))) (v0 := 0) (j := (mapL l i).length) rfl rfl rfl (setMap_at (kC := plC) (l := (mapL l i ++ [((placeP (l.getD i fz)), 0)])) hmd) (by rw [List.getElem?_append_right (Nat.le_refl _), Nat.sub_self]; rfl) ⟨(fun b hb => by cases hb), ?_⟩
              have hm1 := hMd.after ((setMap_upd (kC := plC) wd mb (mapL l i ++ [((placeP (l.getD i fz)), 0)])).trans (setMap_upd (kC := plC) _ mb ((mapL l i ++ [((placeP (l.getD i fz)), 0)]).set (mapL l i).length ((placeP (l.getD i fz)), getM (placeP (l.getD i fz)) (mapL l i) + 1)))) (by simp [ids]; exact ⟨fun e => hn5 e.symm, fun e => hn6 e.symm⟩)
              have hm2 : (setMap plC (setMap plC wd mb (mapL l i ++ [((placeP (l.getD i fz)), 0)])) mb ((mapL l i ++ [((placeP (l.getD i fz)), 0)]).set (mapL l i).length ((placeP (l.getD i fz)), getM (placeP (l.getD i fz)) (mapL l i) + 1))).heap[mb]? = some (mapOb plC (incM (placeP (l.getD i fz)) (mapL l i))) := by
                rw [setMap_at (setMap_at (kC := plC) (l := (mapL l i ++ [((placeP (l.getD i fz)), 0)])) hmd), hg0]; congr 2; unfold incM; rw [hfm]; simp only
                rw [List.set_append_right _ _ (Nat.le_refl _), Nat.sub_self]; rfl
              refine h25 _ _ ?_
              and_intros
              all_goals first | rfl | exact hm1 | exact hm2
            · show vd _ _ _ _ _ _ _
              refine d_new plK rfl rfl hmd hfm ⟨(fun b hb => by cases hb), ?_⟩
              refine dq (o_ext rfl rfl) ?_
              refine d_lookup plK rfl rfl (setMap_at (kC := plC) (l := (mapL l i ++ [((placeP (l.getD i fz)), 0)])) hmd) (fun b hb => by cases hb) ?_
              refine dq (o_bin rfl rfl (v_add64 (by rw [hg1]; omega))) ?_
              refine d_store (k := (placeP (l.getD i fz))) (v0 := 0) (j := (mapL l i).length) rfl rfl rfl (setMap_at (kC := plC) (l := (mapL l i ++ [((placeP (l.getD i fz)), 0)])) hmd) (by rw [List.getElem?_append_right (Nat.le_refl _), Nat.sub_self]; rfl) ⟨(fun b hb => by cases hb), ?_⟩
              have hm1 := hMd.after ((setMap_upd (kC := plC) wd mb (mapL l i ++ [((placeP (l.getD i fz)), 0)])).trans (setMap_upd (kC := plC) _ mb ((mapL l i ++ [((placeP (l.getD i fz)), 0)]).set (mapL l i).length ((placeP (l.getD i fz)), getM (placeP (l.getD i fz)) (mapL l i ++ [((placeP (l.getD i fz)), 0)]) + 1)))) (by simp [ids]; exact ⟨fun e => hn5 e.symm, fun e => hn6 e.symm⟩)
              have hm2 : (setMap plC (setMap plC wd mb (mapL l i ++ [((placeP (l.getD i fz)), 0)])) mb ((mapL l i ++ [((placeP (l.getD i fz)), 0)]).set (mapL l i).length ((placeP (l.getD i fz)), getM (placeP (l.getD i fz)) (mapL l i ++ [((placeP (l.getD i fz)), 0)]) + 1))).heap[mb]? = some (mapOb plC (incM (placeP (l.getD i fz)) (mapL l i))) := by
                rw [setMap_at (setMap_at (kC := plC) (l := (mapL l i ++ [((placeP (l.getD i fz)), 0)])) hmd), hg1]; congr 2; unfold incM; rw [hfm]; simp only
                rw [List.set_append_right _ _ (Nat.le_refl _), Nat.sub_self]; rfl
              refine h25 _ _ ?_
              and_intros
              all_goals first | rfl | exact hm1 | exact hm2
          · obtain ⟨jx, hfm⟩ := mapL_some c
            have hg0 : getM (placeP (l.getD i fz)) (mapL l i) = 1 := by unfold getM; rw [hfm]; rfl
            have hg1 := hg0
            refine ⟨?_, ?_⟩
            · show vd _ _ _ _ _ _ _
              refine d_lookup plK rfl rfl hmd (fun b hb => by cases hb) ?_
              refine dq (o_bin rfl rfl (v_add64 (by rw [hg0]; omega))) ?_
              refine d_old plK rfl rfl hmd hfm ⟨(fun b hb => by cases hb), ?_⟩
              refine dq (o_ext rfl rfl) ?_
              refine d_store (k := (placeP (l.getD i fz))) (v0 := 1) (j := jx) rfl rfl rfl (setMap_at (kC := plC) (l := (mapL l i)) hmd) (by have := (findM_some hfm).2; rwa [Nat.sub_zero] at this) ⟨(fun b hb => by cases hb), ?_⟩
              have hm1 := hMd.after ((setMap_upd (kC := plC) wd mb (mapL l i)).trans (setMap_upd (kC := plC) _ mb ((mapL l i).set jx ((placeP (l.getD i fz)), getM (placeP (l.getD i fz)) (mapL l i) + 1)))) (by simp [ids]; exact ⟨fun e => hn5 e.symm, fun e => hn6 e.symm⟩)
              have hm2 : (setMap plC (setMap plC wd mb (mapL l i)) mb ((mapL l i).set jx ((placeP (l.getD i fz)), getM (placeP (l.getD i fz)) (mapL l i) + 1))).heap[mb]? = some (mapOb plC (incM (placeP (l.getD i fz)) (mapL l i))) := by
                rw [setMap_at (setMap_at (kC := plC) (l := (mapL l i)) hmd), hg0]; congr 2; unfold incM; rw [hfm]
              refine h25 _ _ ?_
              and_intros
              all_goals first | rfl | exact hm1 | exact hm2
            · show vd _ _ _ _ _ _ _
              refine d_old plK rfl rfl hmd hfm ⟨(fun b hb => by cases hb), ?_⟩
              refine dq (o_ext rfl rfl) ?_
              refine d_lookup plK rfl rfl (setMap_at (kC := plC) (l := (mapL l i)) hmd) (fun b hb => by cases hb) ?_
              refine dq (o_bin rfl rfl (v_add64 (by rw [hg1]; omega))) ?_
              refine d_store (k := (placeP (l.getD i fz))) (v0 := 1) (j := jx) rfl rfl rfl (setMap_at (kC := plC) (l := (mapL l i)) hmd) (by have := (findM_some hfm).2; rwa [Nat.sub_zero] at this) ⟨(fun b hb => by cases hb), ?_⟩
              have hm1 := hMd.after ((setMap_upd (kC := plC) wd mb (mapL l i)).trans (setMap_upd (kC := plC) _ mb ((mapL l i).set jx ((placeP (l.getD i fz)), getM (placeP (l.getD i fz)) (mapL l i) + 1)))) (by simp [ids]; exact ⟨fun e => hn5 e.symm, fun e => hn6 e.symm⟩)
              have hm2 : (setMap plC (setMap plC wd mb (mapL l i)) mb ((mapL l i).set jx ((placeP (l.getD i fz)), getM (placeP (l.getD i fz)) (mapL l i) + 1))).heap[mb]? = some (mapOb plC (incM (placeP (l.getD i fz)) (mapL l i))) := by
                rw [setMap_at (setMap_at (kC := plC) (l := (mapL l i)) hmd), hg1]; congr 2; unfold incM; rw [hfm]
              refine h25 _ _ ?_
              and_intros
              all_goals first | rfl | exact hm1 | exact hm2
        · rintro f w26 ⟨e26_3, e26_5, e26_6, e26_11, e26_12, e26_13, hM26, hmap2⟩
          obtain ⟨frm, rfl⟩ : ∃ frm, f = (upd (upd (upd (upd (upd (upd frm 3 (.map (some mb))) 5 (.pointer (some ⟨b17, 0, none⟩))) 6 (.pointer (some ⟨b22, 0, none⟩))) 11 (x)) 12 (.int .i64 (l.length : Nat))) 13 (.int .i64 (i : Nat))) := ⟨f, by rw [upd_self e26_3, upd_self e26_5, upd_self e26_6, upd_self e26_11, upd_self e26_12, upd_self e26_13]⟩
          clear e26_3 e26_5 e26_6 e26_11 e26_12 e26_13
          refine seq fun K27 h27 => ?_
          refine m_ldA (l := [.int .i64 ((l.getD i fz).kind), .int .i64 ((l.getD i fz).tk), .int .i64 ((l.getD i fz).task), .int .i64 ((l.getD i fz).att), .int .i64 ((l.getD i fz).mom), .int .i64 ((l.getD i fz).rd), .int .i64 ((l.getD i fz).at_), .int .u32 ((l.getD i fz).mask)]) hM26 (i := 0) (j := 0) rfl rfl rfl rfl rfl ?_
          refine m_call (right_ok (l.getD i fz) w26 (by first | assumption | omega)) rfl fun v28 w28 ⟨hr28, hu28⟩ => ?_
          have hM28 : Mem wb ([mb]) w28 [[⟨b17, 25, [.int .i64 ((l.getD i fz).kind), .int .i64 ((l.getD i fz).tk), .int .i64 ((l.getD i fz).task), .int .i64 ((l.getD i fz).att), .int .i64 ((l.getD i fz).mom), .int .i64 ((l.getD i fz).rd), .int .i64 ((l.getD i fz).at_), .int .u32 ((l.getD i fz).mask)]⟩], [⟨b22, 68, [.int .i64 ((l.getD i fz).kind), .int .i64 ((l.getD i fz).tk), .int .i64 ((l.getD i fz).task), .int .i64 ((l.getD i fz).att)]⟩]] := hM26.pure hu28
          subst hr28
          have hlast := hu28
          refine stp (v := .bool (decide (¬ (goodP (l.getD i fz))))) (o_not rfl v_not) ?_
          refine stp (v := .bool (decide (¬ (goodP (l.getD i fz))))) (o_mv rfl) ?_
          refine splitP rfl (fun c29 => ?_) (fun c29 => ?_)
          ·
            refine gno rfl (by simp) ?_
            refine gnol rfl (by simp) ?_
            refine gnol rfl (by simp) ?_
            refine gno rfl (by simp) ?_
            refine stp (v := .bool true) (o_pickT rfl rfl) ?_
            refine h27 _ _ ?_
            clear h27
            refine cndT rfl ?_
            refine seq fun K30 h30 => ?_
            refine stp (v := .int .i64 160) (o_mv rfl) ?_
            refine h30 _ _ ?_
            clear h30
            refine ⟨(.int .i64 160), rfl, ?_⟩
            exact ⟨by rw [check_not (by omega) (fine_no (i := i) (by omega) (fun h => absurd h.1 (by assumption)))], (hU.over hM28.upd hS)⟩
          ·
            refine stg rfl (v := .map (some mb)) (o_mv rfl) ?_
            refine gyesl rfl ?_
            refine m_ldA (l := [.int .i64 ((l.getD i fz).kind), .int .i64 ((l.getD i fz).tk), .int .i64 ((l.getD i fz).task), .int .i64 ((l.getD i fz).att)]) hM28 (i := 1) (j := 0) rfl rfl rfl rfl rfl ?_
            refine gyesl rfl ?_
            refine v_lookup (k := (placeP (l.getD i fz))) plK rfl rfl ((hlast.block mb (heap_lt hmap2) (by simp)).trans hmap2) ?_
            refine stg rfl (v := .bool (decide ((1 : Int) < (getM (placeP (l.getD i fz)) (incM (placeP (l.getD i fz)) (mapL l i)))))) (o_bin rfl rfl rfl) ?_
            refine stp (v := .bool (decide ((1 : Int) < (getM (placeP (l.getD i fz)) (incM (placeP (l.getD i fz)) (mapL l i)))))) (o_pickF rfl rfl) ?_
            refine h27 _ _ ?_
            clear h27
            refine cndP rfl (fun c31 => ?_) (fun c31 => ?_)
            ·
              refine seq fun K32 h32 => ?_
              refine stp (v := .int .i64 160) (o_mv rfl) ?_
              refine h32 _ _ ?_
              clear h32
              refine ⟨(.int .i64 160), rfl, ?_⟩
              exact ⟨by rw [check_not (by omega) (fine_no (i := i) (by omega) (fun h => seen_old (by assumption) h.2))], (hU.over hM28.upd hS)⟩
            ·
              refine h14 _ _ ?_
              clear h14
              refine stp (v := .int .i64 ((i : Nat) + 1)) (o_bin rfl rfl (v_add64 (by constructor <;> omega))) ?_
              refine stp (v := .int .i64 ((i : Nat) + 1)) (o_mv rfl) ?_
              refine h10 (i + 1, w28) _ _ ⟨by first | rfl | exact v_int (by omega) | exact v_int (by simp) | exact v_int (by simp; omega), rfl, rfl, by first | rfl | exact v_int (by omega) | exact v_int (by simp) | exact v_int (by simp; omega), Mem.nil _ [], by omega, all_next hp ⟨Decidable.not_not.1 (by assumption), (seen_new (by assumption)).1⟩, (hU.over hM28.upd hS), by rw [← (seen_new (by assumption)).2]; exact (hlast.block mb (heap_lt hmap2) (by simp)).trans hmap2⟩ (by (try dsimp only); omega)
      ·
        refine h7 _ _ ?_
        clear h7
        refine seq fun K33 h33 => ?_
        refine stp (v := .int .i64 0) (o_mv rfl) ?_
        refine h33 _ _ ?_
        clear h33
        refine ⟨(.int .i64 0), rfl, ?_⟩
        exact ⟨by rw [check_fine (by omega) (fine_all (i := i) (by omega) hp)], (hU.trans hM9.upd)⟩
