/- Each entry once. -/
import Derived.Test.YtnkilhmkegmenaaF8
namespace Go.Proofs.Ytnkilhmkegmenaa.E
open Go
theorem flt_ne {f g : Flt} (h : ¬ f = g) : (decide (f.kind = g.kind) && (decide (f.tk = g.tk) && (decide (f.task = g.task) && (decide (f.att = g.att) && (decide (f.mom = g.mom) && (decide (f.rd = g.rd) && (decide (f.at_ = g.at_) && (decide (f.mask = g.mask) && true)))))))) = false := by
  rw [Bool.eq_false_iff]
  intro h2
  simp only [Bool.and_eq_true, decide_eq_true_eq] at h2
  apply h
  obtain ⟨a1, a2, a3, a4, a5, a6, a7, a8⟩ := f
  obtain ⟨b1, b2, b3, b4, b5, b6, b7, b8⟩ := g
  simp only at h2
  obtain ⟨rfl, rfl, rfl, rfl, rfl, rfl, rfl, rfl, _⟩ := h2
  rfl
theorem fine_inj {l : List Flt} (h : fine l) {i j : Nat} (hi : i < l.length) (hj : j < l.length) (e : placeP (l.getD i fz) = placeP (l.getD j fz)) : i = j := by
  rcases Nat.lt_trichotomy i j with c | c | c
  · exact absurd e ((h j hj).2 i c)
  · exact c
  · exact absurd e.symm ((h i hi).2 j c)
/-- the places of the entries that are still to come -/
def pend (l : List Flt) (t : List Bool) : List Nat := (List.range l.length).filter (fun i => !t.getD i false)
def leftL (l : List Flt) (t : List Bool) : List Flt := (pend l t).map (l.getD · fz)
theorem pend_lt {l : List Flt} {t : List Bool} {i : Nat} (h : i ∈ pend l t) : i < l.length ∧ t.getD i false = false := by
  obtain ⟨h1, h2⟩ := List.mem_filter.1 h
  exact ⟨List.mem_range.1 h1, by simpa using h2⟩
theorem pend_mem {l : List Flt} {t : List Bool} {i : Nat} (h : i < l.length) (h2 : t.getD i false = false) : i ∈ pend l t := List.mem_filter.2 ⟨List.mem_range.2 h, by simpa using h2⟩
theorem leftL_zero (l : List Flt) : leftL l (List.replicate l.length false) = l := by
  unfold leftL pend
  rw [List.filter_eq_self.2 (by intro a ha; rw [List.getD_eq_getElem?_getD, List.getElem?_replicate]; split <;> rfl)]
  apply List.ext_getElem (by simp)
  intro i h1 h2
  rw [List.getElem_map, List.getElem_range, List.getD_eq_getElem?_getD, List.getElem?_eq_getElem h2]; rfl
theorem left_len (l : List Flt) (t : List Bool) : (leftL l t).length = (pend l t).length := by unfold leftL; simp
theorem left_get {l : List Flt} {J : List Nat} {k : Nat} (h : k < J.length) : (J.map (l.getD · fz)).getD k fz = l.getD (J.getD k 0) fz := by
  rw [List.getD_eq_getElem?_getD, List.getElem?_map, List.getElem?_eq_getElem h, List.getD_eq_getElem?_getD (l := J), List.getElem?_eq_getElem h]; rfl
theorem getN_mem {J : List Nat} {k : Nat} (h : k < J.length) : J.getD k 0 ∈ J := by
  rw [List.getD_eq_getElem?_getD, List.getElem?_eq_getElem h]; exact List.getElem_mem h
theorem left_filter (l : List Flt) (t : List Bool) (q : Flt → Bool) : (leftL l t).filter q = ((pend l t).filter (fun i => q (l.getD i fz))).map (l.getD · fz) := by
  unfold leftL; rw [List.filter_map]; rfl
/-- told anew: those of J -/
def toldJ (t t' : List Bool) (J : List Nat) : Prop := ∀ i, t'.getD i false = (t.getD i false || decide (i ∈ J))
theorem told_left {l : List Flt} {t t' : List Bool} {q : Flt → Bool} (h : toldJ t t' ((pend l t).filter (fun i => q (l.getD i fz)))) : leftL l t' = (leftL l t).filter (!q ·) := by
  rw [left_filter]
  unfold leftL
  congr 1
  unfold pend
  rw [List.filter_filter]
  apply List.filter_congr
  intro i hi
  have hil := List.mem_range.1 hi
  rw [h i]
  by_cases c : t.getD i false = false
  · have hp := pend_mem hil c
    rw [c, Bool.false_or]
    by_cases c2 : q (l.getD i fz) = true
    · have hm : i ∈ (pend l t).filter (fun i => q (l.getD i fz)) := List.mem_filter.2 ⟨hp, c2⟩
      rw [decide_eq_true hm, c2]; rfl
    · have hm : ¬ i ∈ (pend l t).filter (fun i => q (l.getD i fz)) := fun hm => c2 (List.mem_filter.1 hm).2
      rw [decide_eq_false hm]
      have : q (l.getD i fz) = false := by simpa using c2
      rw [this]; rfl
  · have : t.getD i false = true := by simpa using c
    rw [this]; simp
theorem toldJ_zero (t : List Bool) (J : List Nat) : toldJ t t (J.take 0) := fun i => by simp
theorem toldJ_set {t t' : List Bool} {J : List Nat} {k : Nat} (h : toldJ t t' (J.take k)) (hk : k < J.length) (hl : J.getD k 0 < t'.length) : toldJ t (t'.set (J.getD k 0) true) (J.take (k + 1)) := fun i => by
  rw [takeG 0 hk]
  by_cases e : i = J.getD k 0
  · subst e
    rw [List.getD_eq_getElem?_getD, List.getElem?_set_self hl, decide_eq_true (by simp)]; simp
  · rw [List.getD_eq_getElem?_getD, List.getElem?_set_ne (by omega), ← List.getD_eq_getElem?_getD, h i]
    congr 1
    rw [decide_eq_decide]
    constructor
    · exact fun h => List.mem_append_left _ h
    · intro h
      rcases List.mem_append.1 h with h | h
      · exact h
      · exact absurd (List.mem_singleton.1 h) e
theorem drop_lt {J : List Nat} (hJ : J.Pairwise (· < ·)) {k : Nat} (hk : k < J.length) : ∀ m ∈ J.drop (k + 1), J.getD k 0 < m := by
  have e : J.drop k = J.getD k 0 :: J.drop (k + 1) := by
    rw [List.drop_eq_getElem_cons hk, List.getD_eq_getElem?_getD, List.getElem?_eq_getElem hk]; rfl
  have h := hJ.drop (i := k)
  rw [e, List.pairwise_cons] at h
  exact h.1
theorem drop_head {J : List Nat} {k : Nat} (hk : k < J.length) : J.getD k 0 ∈ J.drop k := by
  rw [List.drop_eq_getElem_cons hk, List.getD_eq_getElem?_getD, List.getElem?_eq_getElem hk]; exact List.mem_cons_self ..
theorem pend_sorted (l : List Flt) (t : List Bool) (q : Nat → Bool) : ((pend l t).filter q).Pairwise (· < ·) := (List.pairwise_lt_range.filter _).filter _
theorem not_taken {J : List Nat} (hJ : J.Pairwise (· < ·)) {k : Nat} (hk : k < J.length) : J.getD k 0 ∉ J.take k := by
  intro hm
  obtain ⟨j, hj, e⟩ := List.getElem_of_mem hm
  rw [List.length_take] at hj
  rw [List.getElem_take, List.getD_eq_getElem?_getD, List.getElem?_eq_getElem hk] at e
  have := (List.pairwise_iff_getElem.1 hJ) j k (by omega) hk (by omega)
  have e2 : J[j] = J[k] := e
  omega
/-- a stop that is told: where it stands -/
theorem stop_found {l : List Flt} {t : List Bool} (hf : fine l) (ht : t.length = l.length) {k a b : Int} (h : (stopV (leftL l t) (0, k, a, b)).2 = true) :
    ∃ j, j < l.length ∧ t.getD j false = false ∧ stopQ (0, k, a, b) (l.getD j fz) = true ∧ (stopV (leftL l t) (0, k, a, b)).1 = (l.getD j fz).at_ ∧ leftL l (t.set j true) = (leftL l t).filter (!stopQ (0, k, a, b) ·) ∧ ((leftL l t).filter (!stopQ (0, k, a, b) ·)).length + 1 = (leftL l t).length := by
  unfold stopV at h ⊢
  cases hq : (leftL l t).filter (stopQ (0, k, a, b)) with
  | nil => rw [hq] at h; cases h
  | cons f r =>
    have hm : f ∈ (leftL l t).filter (stopQ (0, k, a, b)) := by rw [hq]; simp
    obtain ⟨hm1, hm2⟩ := List.mem_filter.1 hm
    obtain ⟨j, hj, rfl⟩ := List.mem_map.1 hm1
    obtain ⟨hj1, hj2⟩ := pend_lt hj
    have hJ : (pend l t).filter (fun i => stopQ (0, k, a, b) (l.getD i fz)) = [j] := by
      have hs := pend_sorted l t (fun i => stopQ (0, k, a, b) (l.getD i fz))
      have hall : ∀ i ∈ (pend l t).filter (fun i => stopQ (0, k, a, b) (l.getD i fz)), i = j := fun i hi => by
        obtain ⟨h1, h2⟩ := List.mem_filter.1 hi
        have e1 : placeP (l.getD i fz) = (0, k, a, b) := of_decide_eq_true h2
        have e2 : placeP (l.getD j fz) = (0, k, a, b) := of_decide_eq_true hm2
        exact fine_inj hf (pend_lt h1).1 hj1 (e1.trans e2.symm)
      have hmem : j ∈ (pend l t).filter (fun i => stopQ (0, k, a, b) (l.getD i fz)) := List.mem_filter.2 ⟨hj, hm2⟩
      generalize (pend l t).filter (fun i => stopQ (0, k, a, b) (l.getD i fz)) = J at hs hall hmem
      match J with
      | [] => cases hmem
      | [x] => rw [hall x (by simp)]
      | x :: y :: J =>
        rw [List.pairwise_cons] at hs
        have := hs.1 y (by simp)
        have h1 := hall x (by simp)
        have h2 := hall y (by simp)
        omega
    have hl : leftL l (t.set j true) = (leftL l t).filter (!stopQ (0, k, a, b) ·) := by
      refine told_left fun i => ?_
      rw [hJ]
      by_cases e : i = j
      · subst e
        rw [List.getD_eq_getElem?_getD, List.getElem?_set_self (by omega)]; simp
      · rw [List.getD_eq_getElem?_getD, List.getElem?_set_ne (by omega), ← List.getD_eq_getElem?_getD, decide_eq_false (by simpa using e)]; simp
    refine ⟨j, hj1, hj2, hm2, rfl, hl, ?_⟩
    have := len_split (stopQ (0, k, a, b)) (leftL l t)
    rw [left_filter, hJ] at this
    simp only [List.map_cons, List.map_nil, List.length_singleton] at this
    omega
theorem stop_none {l : List Flt} {p : Plc} (h : ¬ (stopV l p).2 = true) : l.filter (!stopQ p ·) = l := by
  unfold stopV at h
  cases hq : l.filter (stopQ p) with
  | nil =>
    rw [List.filter_eq_self]
    intro x hx
    have := (List.filter_eq_nil_iff.1 hq) x hx
    simpa using this
  | cons f r => rw [hq] at h; exact absurd rfl h
/-- the entry i is the next of those that are left -/
def cntL (t : List Bool) (i : Nat) : Nat := ((List.range i).filter (fun i => !t.getD i false)).length
theorem cnt_told {t : List Bool} {i : Nat} (h : t.getD i false = true) : cntL t (i + 1) = cntL t i := by
  unfold cntL; rw [List.range_succ, List.filter_append, List.filter_cons_of_neg (by simpa using h)]; simp
theorem cnt_left {t : List Bool} {i : Nat} (h : ¬ t.getD i false = true) : cntL t (i + 1) = cntL t i + 1 := by
  unfold cntL; rw [List.range_succ, List.filter_append, List.filter_cons_of_pos (by simpa using h)]; simp
theorem cnt_all (l : List Flt) (t : List Bool) : cntL t l.length = (leftL l t).length := by rw [left_len]; rfl
theorem cnt_at {l : List Flt} {t : List Bool} {i : Nat} (hi : i < l.length) (h : ¬ t.getD i false = true) : cntL t i < (leftL l t).length ∧ (leftL l t).getD (cntL t i) fz = l.getD i fz := by
  have e : pend l t = (List.range i).filter (fun i => !t.getD i false) ++ i :: (((List.range (l.length - i - 1)).map (i + 1 + ·)).filter (fun i => !t.getD i false)) := by
    unfold pend
    have e1 : l.length = i + 1 + (l.length - i - 1) := by omega
    conv => lhs; rw [e1]
    rw [List.range_add, List.range_succ, List.filter_append, List.filter_append, List.filter_cons_of_pos (by simpa using h), List.filter_nil, List.append_assoc]; rfl
  have hl : cntL t i < (pend l t).length := by rw [e, List.length_append]; unfold cntL; simp
  refine ⟨by rw [left_len]; exact hl, ?_⟩
  unfold leftL
  rw [left_get hl, e]
  unfold cntL
  rw [List.getD_eq_getElem?_getD (l := _ ++ _), List.getElem?_append_right (Nat.le_refl _), Nat.sub_self]; rfl

structure Ask where
  op : Int
  a : Int
  b : Int
  c : Int
  d : Int
def askC (x : Ask) : List Value := [.int .i64 x.op, .int .i64 x.a, .int .i64 x.b, .int .i64 x.c, .int .i64 x.d]
instance : Enc askC 5 := ⟨fun _ => rfl, by omega, fun c => by intro v hv; simp only [askC, List.mem_cons, List.not_mem_nil, or_false] at hv; rcases hv with rfl | rfl | rfl | rfl | rfl <;> rfl⟩
def Ask.ok (x : Ask) : Prop := inK .i64 x.op ∧ inK .i64 x.a ∧ inK .i64 x.b ∧ inK .i64 x.c ∧ inK .i64 x.d
def az : Ask := ⟨0, 0, 0, 0, 0⟩

/-- winnowlaw16.stopAt -/
theorem stopAt_ok (x : Value) (l : List Flt) (a : Ask) (j : Nat) (w : World) (hx : RdS fltC w x l) (hl : l.length ≤ 256) (hf : fine l) (hj : j < l.length) (hs : stopQ (0, a.a, a.b, a.c) (l.getD j fz) = true) : Calls Try.prog 30 [x, .agg (askC a).toArray].toArray w (Rt fun r w' => r = .int .i64 (j : Nat) ∧ Upd [] w w') := by
  have hM0 : Mem w [] w [] := Mem.nil w []
  have hs2 := hs
  unfold stopQ placeP at hs2
  rw [decide_eq_true_eq] at hs2
  simp only [Prod.mk.injEq] at hs2
  refine calls_vc mixed Try.func30 rfl C30 (by simp [Try.ntmps30]) ?_
  refine seq fun K1 h1 => ?_
  refine m_bx (v := .agg ([.int .i64 a.op, .int .i64 a.a, .int .i64 a.b, .int .i64 a.c, .int .i64 a.d] : List Value).toArray) hM0 rfl rfl fun b2 w3 (hM3 : Mem w [] w3 [[⟨b2, 49, [.int .i64 a.op, .int .i64 a.a, .int .i64 a.b, .int .i64 a.c, .int .i64 a.d]⟩]]) => ?_
  refine stp (v := .int .i64 0) (o_mv rfl) ?_
  refine h1 _ _ ?_
  clear h1
  refine seq fun K4 h4 => ?_
  refine seq fun K5 h5 => ?_
  refine stp (v := .int .i64 0) (o_mv rfl) ?_
  refine h5 _ _ ?_
  clear h5
  refine lp (n := fun _ _ => False) (ι := (Nat)) (fun i f w' => f 5 = .int .i64 (i : Nat) ∧ f 0 = x ∧ f 3 = .pointer (some ⟨b2, 0, none⟩) ∧ Mem w [] w' [[⟨b2, 49, [.int .i64 a.op, .int .i64 a.a, .int .i64 a.b, .int .i64 a.c, .int .i64 a.d]⟩]] ∧ (i ≤ j)) (fun i => j - i) (0) ?_ ?_
  · exact ⟨by first | rfl | exact v_int (by omega) | exact v_int (by simp) | exact v_int (by simp; omega), rfl, rfl, hM3, by omega⟩
  · rintro i f w6 ⟨e6_5, e6_0, e6_3, hM6, hi⟩ K7 h7
    obtain ⟨frm, rfl⟩ : ∃ frm, f = (upd (upd (upd frm 5 (.int .i64 (i : Nat))) 0 (x)) 3 (.pointer (some ⟨b2, 0, none⟩))) := ⟨f, by rw [upd_self e6_5, upd_self e6_0, upd_self e6_3]⟩
    clear e6_5 e6_0 e6_3
    refine seq fun K8 h8 => ?_
    refine seq fun K9 h9 => ?_
    refine stp (v := .int .i64 (i : Nat)) (o_mv rfl) ?_
    refine stp (v := x) (o_mv rfl) ?_
    refine stp (v := .int .i64 (l.length : Nat)) (o_lenR (hx.upd hM6.upd) rfl rfl) ?_
    refine stp (v := .bool (decide (((i : Nat) : Int) < (l.length : Nat)))) (o_bin rfl rfl rfl) ?_
    refine h9 _ _ ?_
    clear h9
    refine cndP rfl (fun c10 => ?_) (fun c10 => (c10 (by omega)).elim)
    refine h8 _ _ ?_
    clear h8
    refine seq fun K11 h11 => ?_
    refine seq fun K12 h12 => ?_
    intro wd e1 e2 e3 e4
    have hd := Upd.same e1 e2 e3 e4 []
    have hM13 := hM6.pure hd
    clear e1 e2 e3 e4
    refine ⟨none, ?_⟩
    show vd _ _ _ _ _ _ _
    rcases (Nat.lt_or_ge i j) with hlt | hge
    ·
      refine dq (v := x) (o_mv rfl) ?_
      refine dq (v := .int .i64 (i : Nat)) (o_mv rfl) ?_
      refine dqp (m_idxS fz (j := i) (hx.upd hM13.upd) rfl rfl (by omega) fun b14 o14 hp14 => ?_)
      show vd _ _ _ _ _ _ _
      refine dq (v := .pointer (some ⟨b14, o14, none⟩)) (o_fa rfl rfl) ?_
      refine dl (ld (v := .int .i64 ((l.getD i fz).kind)) rfl (hp14.get 0 rfl) ?_)
      refine ⟨rfl, ?_⟩
      refine dq (v := .bool (decide (((l.getD i fz).kind) = 0))) (o_bin rfl rfl rfl) ?_
      refine dq (v := .bool (decide (((l.getD i fz).kind) = 0))) (o_mv rfl) ?_
      refine dsplitP rfl (fun c15 => ?_) (fun c15 => ?_)
      ·
        refine dqg rfl (v := x) (o_mv rfl) ?_
        refine dqg rfl (v := .int .i64 (i : Nat)) (o_mv rfl) ?_
        refine dgyes rfl rfl (dqp (m_idxS fz (j := i) (hx.upd hM13.upd) rfl rfl (by omega) fun b16 o16 hp16 => ?_))
        show vd _ _ _ _ _ _ _
        refine dqg rfl (v := .pointer (some ⟨b16, o16 + 1, none⟩)) (o_fa rfl rfl) ?_
        refine dqg rfl (v := .pointer (some ⟨b2, 1, none⟩)) (o_fa rfl rfl) ?_
        refine dqgyes rfl rfl ?_
        refine dqld rfl (trivial) (v := .int .i64 a.a) ((hM13.at (i := 0) (j := 0) rfl rfl).cell 1) ?_
        refine dgyesl rfl ?_
        refine dl (ld (v := .int .i64 ((l.getD i fz).tk)) rfl (hp16.get 1 rfl) ?_)
        refine ⟨rfl, ?_⟩
        refine dqg rfl (v := .bool (decide (((l.getD i fz).tk) = a.a))) (o_bin rfl rfl rfl) ?_
        refine dq (v := .bool (decide (((l.getD i fz).tk) = a.a))) (o_pickT rfl rfl) ?_
        refine dq (v := .bool (decide (((l.getD i fz).tk) = a.a))) (o_mv rfl) ?_
        refine dsplitP rfl (fun c17 => ?_) (fun c17 => ?_)
        ·
          refine dqg rfl (v := x) (o_mv rfl) ?_
          refine dqg rfl (v := .int .i64 (i : Nat)) (o_mv rfl) ?_
          refine dgyes rfl rfl (dqp (m_idxS fz (j := i) (hx.upd hM13.upd) rfl rfl (by omega) fun b18 o18 hp18 => ?_))
          show vd _ _ _ _ _ _ _
          refine dqg rfl (v := .pointer (some ⟨b18, o18 + 2, none⟩)) (o_fa rfl rfl) ?_
          refine dqg rfl (v := .pointer (some ⟨b2, 2, none⟩)) (o_fa rfl rfl) ?_
          refine dqgyes rfl rfl ?_
          refine dqld rfl (trivial) (v := .int .i64 a.b) ((hM13.at (i := 0) (j := 0) rfl rfl).cell 2) ?_
          refine dgyesl rfl ?_
          refine dl (ld (v := .int .i64 ((l.getD i fz).task)) rfl (hp18.get 2 rfl) ?_)
          refine ⟨rfl, ?_⟩
          refine dqg rfl (v := .bool (decide (((l.getD i fz).task) = a.b))) (o_bin rfl rfl rfl) ?_
          refine dq (v := .bool (decide (((l.getD i fz).task) = a.b))) (o_pickT rfl rfl) ?_
          refine dq (v := .bool (decide (((l.getD i fz).task) = a.b))) (o_mv rfl) ?_
          refine dsplitP rfl (fun c19 => ?_) (fun c19 => ?_)
          ·
            refine dqg rfl (v := x) (o_mv rfl) ?_
            refine dqg rfl (v := .int .i64 (i : Nat)) (o_mv rfl) ?_
            refine dgyes rfl rfl (dqp (m_idxS fz (j := i) (hx.upd hM13.upd) rfl rfl (by omega) fun b20 o20 hp20 => ?_))
            show vd _ _ _ _ _ _ _
            refine dqg rfl (v := .pointer (some ⟨b20, o20 + 3, none⟩)) (o_fa rfl rfl) ?_
            refine dqg rfl (v := .pointer (some ⟨b2, 3, none⟩)) (o_fa rfl rfl) ?_
            refine dqgyes rfl rfl ?_
            refine dqld rfl (trivial) (v := .int .i64 a.c) ((hM13.at (i := 0) (j := 0) rfl rfl).cell 3) ?_
            refine dgyesl rfl ?_
            refine dl (ld (v := .int .i64 ((l.getD i fz).att)) rfl (hp20.get 3 rfl) ?_)
            refine ⟨rfl, ?_⟩
            refine dqg rfl (v := .bool (decide (((l.getD i fz).att) = a.c))) (o_bin rfl rfl rfl) ?_
            refine dq (v := .bool (decide (((l.getD i fz).att) = a.c))) (o_pickT rfl rfl) ?_
            refine h12 _ _ ?_
            clear h12
            refine cndP rfl (fun c21 => absurd c21 (fun h => by have h2 := fine_inj hf (show i < l.length by omega) hj (by unfold placeP; simp only [Prod.mk.injEq]; omega); omega)) (fun c21 => ?_)
            refine h11 _ _ ?_
            clear h11
            refine stp (v := .int .i64 (i : Nat)) (o_mv rfl) ?_
            refine stp (v := .int .i64 ((i : Nat) + 1)) (o_bin rfl rfl (v_add64 (by constructor <;> omega))) ?_
            refine stp (v := .int .i64 ((i : Nat) + 1)) (o_mv rfl) ?_
            refine h7 (i + 1) _ _ ⟨by first | rfl | exact v_int (by omega) | exact v_int (by simp) | exact v_int (by simp; omega), rfl, rfl, hM13, by omega⟩ (by (try dsimp only); omega)
          ·
            refine dgno rfl (by simp) ?_
            refine dgno rfl (by simp) ?_
            refine dgno rfl (by simp) ?_
            refine dgno rfl (by simp) ?_
            refine dgno rfl (by simp) ?_
            refine dqgno rfl (by simp) ?_
            refine dgnol rfl (by simp) ?_
            refine dgno rfl (by simp) ?_
            refine dq (v := .bool false) (o_pickF rfl rfl) ?_
            refine h12 _ _ ?_
            clear h12
            refine cndF rfl ?_
            refine h11 _ _ ?_
            clear h11
            refine stp (v := .int .i64 (i : Nat)) (o_mv rfl) ?_
            refine stp (v := .int .i64 ((i : Nat) + 1)) (o_bin rfl rfl (v_add64 (by constructor <;> omega))) ?_
            refine stp (v := .int .i64 ((i : Nat) + 1)) (o_mv rfl) ?_
            refine h7 (i + 1) _ _ ⟨by first | rfl | exact v_int (by omega) | exact v_int (by simp) | exact v_int (by simp; omega), rfl, rfl, hM13, by omega⟩ (by (try dsimp only); omega)
        ·
          refine dgno rfl (by simp) ?_
          refine dgno rfl (by simp) ?_
          refine dgno rfl (by simp) ?_
          refine dgno rfl (by simp) ?_
          refine dgno rfl (by simp) ?_
          refine dqgno rfl (by simp) ?_
          refine dgnol rfl (by simp) ?_
          refine dgno rfl (by simp) ?_
          refine dq (v := .bool false) (o_pickF rfl rfl) ?_
          refine dq (v := .bool false) (o_mv rfl) ?_
          refine dsplitF rfl ?_
          refine dgno rfl (by simp) ?_
          refine dgno rfl (by simp) ?_
          refine dgno rfl (by simp) ?_
          refine dgno rfl (by simp) ?_
          refine dgno rfl (by simp) ?_
          refine dqgno rfl (by simp) ?_
          refine dgnol rfl (by simp) ?_
          refine dgno rfl (by simp) ?_
          refine dq (v := .bool false) (o_pickF rfl rfl) ?_
          refine h12 _ _ ?_
          clear h12
          refine cndF rfl ?_
          refine h11 _ _ ?_
          clear h11
          refine stp (v := .int .i64 (i : Nat)) (o_mv rfl) ?_
          refine stp (v := .int .i64 ((i : Nat) + 1)) (o_bin rfl rfl (v_add64 (by constructor <;> omega))) ?_
          refine stp (v := .int .i64 ((i : Nat) + 1)) (o_mv rfl) ?_
          refine h7 (i + 1) _ _ ⟨by first | rfl | exact v_int (by omega) | exact v_int (by simp) | exact v_int (by simp; omega), rfl, rfl, hM13, by omega⟩ (by (try dsimp only); omega)
      ·
        refine dgno rfl (by simp) ?_
        refine dgno rfl (by simp) ?_
        refine dgno rfl (by simp) ?_
        refine dgno rfl (by simp) ?_
        refine dgno rfl (by simp) ?_
        refine dqgno rfl (by simp) ?_
        refine dgnol rfl (by simp) ?_
        refine dgno rfl (by simp) ?_
        refine dq (v := .bool false) (o_pickF rfl rfl) ?_
        refine dq (v := .bool false) (o_mv rfl) ?_
        refine dsplitF rfl ?_
        refine dgno rfl (by simp) ?_
        refine dgno rfl (by simp) ?_
        refine dgno rfl (by simp) ?_
        refine dgno rfl (by simp) ?_
        refine dgno rfl (by simp) ?_
        refine dqgno rfl (by simp) ?_
        refine dgnol rfl (by simp) ?_
        refine dgno rfl (by simp) ?_
        refine dq (v := .bool false) (o_pickF rfl rfl) ?_
        refine dq (v := .bool false) (o_mv rfl) ?_
        refine dsplitF rfl ?_
        refine dgno rfl (by simp) ?_
        refine dgno rfl (by simp) ?_
        refine dgno rfl (by simp) ?_
        refine dgno rfl (by simp) ?_
        refine dgno rfl (by simp) ?_
        refine dqgno rfl (by simp) ?_
        refine dgnol rfl (by simp) ?_
        refine dgno rfl (by simp) ?_
        refine dq (v := .bool false) (o_pickF rfl rfl) ?_
        refine h12 _ _ ?_
        clear h12
        refine cndF rfl ?_
        refine h11 _ _ ?_
        clear h11
        refine stp (v := .int .i64 (i : Nat)) (o_mv rfl) ?_
        refine stp (v := .int .i64 ((i : Nat) + 1)) (o_bin rfl rfl (v_add64 (by constructor <;> omega))) ?_
        refine stp (v := .int .i64 ((i : Nat) + 1)) (o_mv rfl) ?_
        refine h7 (i + 1) _ _ ⟨by first | rfl | exact v_int (by omega) | exact v_int (by simp) | exact v_int (by simp; omega), rfl, rfl, hM13, by omega⟩ (by (try dsimp only); omega)
    ·
      refine dq (v := x) (o_mv rfl) ?_
      obtain rfl : i = j := by omega
      refine dq (v := .int .i64 (i : Nat)) (o_mv rfl) ?_
      refine dqp (m_idxS fz (j := i) (hx.upd hM13.upd) rfl rfl (by omega) fun b22 o22 hp22 => ?_)
      show vd _ _ _ _ _ _ _
      refine dq (v := .pointer (some ⟨b22, o22, none⟩)) (o_fa rfl rfl) ?_
      refine dl (ld (v := .int .i64 ((l.getD i fz).kind)) rfl (hp22.get 0 rfl) ?_)
      refine ⟨rfl, ?_⟩
      refine dq (v := .bool (decide (((l.getD i fz).kind) = 0))) (o_bin rfl rfl rfl) ?_
      refine dq (v := .bool (decide (((l.getD i fz).kind) = 0))) (o_mv rfl) ?_
      refine dsplitP rfl (fun c23 => ?_) (fun c23 => (c23 (by omega)).elim)
      refine dqg rfl (v := x) (o_mv rfl) ?_
      refine dqg rfl (v := .int .i64 (i : Nat)) (o_mv rfl) ?_
      refine dgyes rfl rfl (dqp (m_idxS fz (j := i) (hx.upd hM13.upd) rfl rfl (by omega) fun b24 o24 hp24 => ?_))
      show vd _ _ _ _ _ _ _
      refine dqg rfl (v := .pointer (some ⟨b24, o24 + 1, none⟩)) (o_fa rfl rfl) ?_
      refine dqg rfl (v := .pointer (some ⟨b2, 1, none⟩)) (o_fa rfl rfl) ?_
      refine dqgyes rfl rfl ?_
      refine dqld rfl (trivial) (v := .int .i64 a.a) ((hM13.at (i := 0) (j := 0) rfl rfl).cell 1) ?_
      refine dgyesl rfl ?_
      refine dl (ld (v := .int .i64 ((l.getD i fz).tk)) rfl (hp24.get 1 rfl) ?_)
      refine ⟨rfl, ?_⟩
      refine dqg rfl (v := .bool (decide (((l.getD i fz).tk) = a.a))) (o_bin rfl rfl rfl) ?_
      refine dq (v := .bool (decide (((l.getD i fz).tk) = a.a))) (o_pickT rfl rfl) ?_
      refine dq (v := .bool (decide (((l.getD i fz).tk) = a.a))) (o_mv rfl) ?_
      refine dsplitP rfl (fun c25 => ?_) (fun c25 => (c25 (by omega)).elim)
      refine dqg rfl (v := x) (o_mv rfl) ?_
      refine dqg rfl (v := .int .i64 (i : Nat)) (o_mv rfl) ?_
      refine dgyes rfl rfl (dqp (m_idxS fz (j := i) (hx.upd hM13.upd) rfl rfl (by omega) fun b26 o26 hp26 => ?_))
      show vd _ _ _ _ _ _ _
      refine dqg rfl (v := .pointer (some ⟨b26, o26 + 2, none⟩)) (o_fa rfl rfl) ?_
      refine dqg rfl (v := .pointer (some ⟨b2, 2, none⟩)) (o_fa rfl rfl) ?_
      refine dqgyes rfl rfl ?_
      refine dqld rfl (trivial) (v := .int .i64 a.b) ((hM13.at (i := 0) (j := 0) rfl rfl).cell 2) ?_
      refine dgyesl rfl ?_
      refine dl (ld (v := .int .i64 ((l.getD i fz).task)) rfl (hp26.get 2 rfl) ?_)
      refine ⟨rfl, ?_⟩
      refine dqg rfl (v := .bool (decide (((l.getD i fz).task) = a.b))) (o_bin rfl rfl rfl) ?_
      refine dq (v := .bool (decide (((l.getD i fz).task) = a.b))) (o_pickT rfl rfl) ?_
      refine dq (v := .bool (decide (((l.getD i fz).task) = a.b))) (o_mv rfl) ?_
      refine dsplitP rfl (fun c27 => ?_) (fun c27 => (c27 (by omega)).elim)
      refine dqg rfl (v := x) (o_mv rfl) ?_
      refine dqg rfl (v := .int .i64 (i : Nat)) (o_mv rfl) ?_
      refine dgyes rfl rfl (dqp (m_idxS fz (j := i) (hx.upd hM13.upd) rfl rfl (by omega) fun b28 o28 hp28 => ?_))
      show vd _ _ _ _ _ _ _
      refine dqg rfl (v := .pointer (some ⟨b28, o28 + 3, none⟩)) (o_fa rfl rfl) ?_
      refine dqg rfl (v := .pointer (some ⟨b2, 3, none⟩)) (o_fa rfl rfl) ?_
      refine dqgyes rfl rfl ?_
      refine dqld rfl (trivial) (v := .int .i64 a.c) ((hM13.at (i := 0) (j := 0) rfl rfl).cell 3) ?_
      refine dgyesl rfl ?_
      refine dl (ld (v := .int .i64 ((l.getD i fz).att)) rfl (hp28.get 3 rfl) ?_)
      refine ⟨rfl, ?_⟩
      refine dqg rfl (v := .bool (decide (((l.getD i fz).att) = a.c))) (o_bin rfl rfl rfl) ?_
      refine dq (v := .bool (decide (((l.getD i fz).att) = a.c))) (o_pickT rfl rfl) ?_
      refine h12 _ _ ?_
      clear h12
      refine cndP rfl (fun c29 => ?_) (fun c29 => (c29 (by omega)).elim)
      refine seq fun K30 h30 => ?_
      refine stp (v := .int .i64 (i : Nat)) (o_mv rfl) ?_
      refine stp (v := .int .i64 (i : Nat)) (o_mv rfl) ?_
      refine h30 _ _ ?_
      clear h30
      refine ⟨(.int .i64 (i : Nat)), rfl, ?_⟩
      exact ⟨rfl, hM13.upd⟩

set_option maxRecDepth 100000 in
/-- winnowlaw16.FaultOnce -/
theorem FaultOnce_ok (x : Value) (l : List Flt) (y : Value) (al : List Ask) (w : World) (hx : RdS fltC w x l) (hok : ∀ f ∈ l, f.ok) (hl : l.length * 64 ≤ 140737488351232) (hy : RdS askC w y al) (hoka : ∀ f ∈ al, f.ok) (hla : al.length * 40 ≤ 140737488351232) : Calls Try.prog 6 [x, y].toArray w (Rt fun r w' => r = .bool true ∧ Upd [] w w') := by
  have hM0 : Mem w [] w [] := Mem.nil w []
  refine calls_vc mixed Try.func6 rfl C6 (by simp [Try.ntmps6]) ?_
  refine seq fun K1 h1 => ?_
  refine stp (v := .bool false) (o_mv rfl) ?_
  refine h1 _ _ ?_
  clear h1
  refine seq fun K2 h2 => ?_
  refine stp (v := x) (o_mv rfl) ?_
  rcases (Classical.em (check l = 0)) with hc | hc
  ·
    refine m_call (New_good _ l w (hx.upd hM0.upd) (by first | exact hok | assumption) (by first | omega | (simp; done) | (simp; omega)) (by first | exact hc | assumption)) rfl fun v3 w3 ⟨v_3, rs3, hr3, hp3, hm3⟩ => ?_
    have hM3 : Mem w [] w3 [rs3] := hM0.add hm3
    subst hr3
    obtain ⟨bp3, rfl⟩ := PlanS.ptr hp3
    refine stp (v := .tuple [.pointer (some ⟨bp3, 0, none⟩), .int .i64 0].toArray) (o_mv rfl) ?_
    refine stp (v := .pointer (some ⟨bp3, 0, none⟩)) (o_ext rfl rfl) ?_
    refine stp (v := .int .i64 0) (o_ext rfl rfl) ?_
    refine stp (v := .pointer (some ⟨bp3, 0, none⟩)) (o_mv rfl) ?_
    refine stp (v := .int .i64 0) (o_mv rfl) ?_
    refine h2 _ _ ?_
    clear h2
    refine seq fun K4 h4 => ?_
    refine seq fun K5 h5 => ?_
    refine stp (v := .int .i64 0) (o_mv rfl) ?_
    refine stp (v := .bool false) (o_bin rfl rfl v_neF) ?_
    refine h5 _ _ ?_
    clear h5
    refine cndF rfl ?_
    refine h4 _ _ ?_
    clear h4
    refine seq fun K6 h6 => ?_
    refine stp (v := x) (o_mv rfl) ?_
    have hc256 := (check_zero hc).1
    have hfi := (check_zero hc).2
    refine stp (v := .int .i64 (l.length : Nat)) (o_lenR (hx.upd hM3.upd) rfl rfl) ?_
    refine m_mksE (E := boolV) (z := false) (n := l.length) (c := l.length) rfl hM3 rfl rfl (by omega) (by omega) (by omega) fun v7 w7 r7 hs7 (hM7 : Mem w [] w7 [rs3, r7]) => ?_
    refine stp (v := v7) (o_mv rfl) ?_
    refine h6 _ _ ?_
    clear h6
    refine seq fun K8 h8 => ?_
    refine stp (v := .int .i64 0) (o_mv rfl) ?_
    refine h8 _ _ ?_
    clear h8
    refine seq fun K9 h9 => ?_
    refine seq fun K10 h10 => ?_
    refine stp (v := .int .i64 0) (o_mv rfl) ?_
    refine h10 _ _ ?_
    clear h10
    refine lp (n := fun _ _ => False) (ι := (Nat) × (Nat) × (List Bool) × (List Ent) × (Value) × (List Ent)) (fun ⟨i, n, t, rp, y7_, r7_⟩ f w' => f 5 = .pointer (some ⟨bp3, 0, none⟩) ∧ f 7 = y7_ ∧ f 8 = .int .i64 (n : Nat) ∧ f 9 = .int .i64 (i : Nat) ∧ f 0 = x ∧ f 1 = y ∧ Mem w [] w' [rp, r7_] ∧ (PlanS 72 (.pointer (some ⟨bp3, 0, none⟩)) (leftL l t) rp) ∧ (t.length = l.length) ∧ (n + (leftL l t).length = l.length) ∧ (i ≤ al.length) ∧ (SlE boolV 4 y7_ (t) r7_)) (fun ⟨i, n, t, rp, y7_, r7_⟩ => al.length - i) (0, 0, List.replicate l.length false, rs3, v7, r7) ?_ ?_
    · exact ⟨rfl, rfl, by first | rfl | exact v_int (by omega) | exact v_int (by simp) | exact v_int (by simp; omega), by first | rfl | exact v_int (by omega) | exact v_int (by simp) | exact v_int (by simp; omega), rfl, rfl, hM7, by rw [leftL_zero]; exact hp3, by simp, by rw [leftL_zero]; omega, by omega, by first | exact hs7 | simpa using hs7⟩
    · rintro ⟨i, n, t, rp, y7_, r7_⟩ f w11 ⟨e11_5, e11_7, e11_8, e11_9, e11_0, e11_1, hM11, hpl, htl, hn, hi, hy7_⟩ K12 h12
      obtain ⟨frm, rfl⟩ : ∃ frm, f = (upd (upd (upd (upd (upd (upd frm 5 (.pointer (some ⟨bp3, 0, none⟩))) 7 (y7_)) 8 (.int .i64 (n : Nat))) 9 (.int .i64 (i : Nat))) 0 (x)) 1 (y)) := ⟨f, by rw [upd_self e11_5, upd_self e11_7, upd_self e11_8, upd_self e11_9, upd_self e11_0, upd_self e11_1]⟩
      clear e11_5 e11_7 e11_8 e11_9 e11_0 e11_1
      refine seq fun K13 h13 => ?_
      refine seq fun K14 h14 => ?_
      refine stp (v := .int .i64 (i : Nat)) (o_mv rfl) ?_
      refine stp (v := y) (o_mv rfl) ?_
      refine stp (v := .int .i64 (al.length : Nat)) (o_lenR (hy.upd hM11.upd) rfl rfl) ?_
      refine stp (v := .bool (decide (((i : Nat) : Int) < (al.length : Nat)))) (o_bin rfl rfl rfl) ?_
      refine h14 _ _ ?_
      clear h14
      refine cndP rfl (fun c15 => ?_) (fun c15 => ?_)
      ·
        refine h13 _ _ ?_
        clear h13
        refine seq fun K16 h16 => ?_
        refine seq fun K17 h17 => ?_
        refine stp (v := y) (o_mv rfl) ?_
        refine stp (v := .int .i64 (i : Nat)) (o_mv rfl) ?_
        refine m_idxS az (j := i) (hy.upd hM11.upd) rfl rfl (by omega) fun b18 o18 hp18 => ?_
        obtain ⟨J, hJ⟩ : ∃ J, J = (pend l t).filter (fun m => dueQ (al.getD i az).a (al.getD i az).b (al.getD i az).c (al.getD i az).d (l.getD m fz)) := ⟨_, rfl⟩
        have hJs := pend_sorted l t (fun m => dueQ (al.getD i az).a (al.getD i az).b (al.getD i az).c (al.getD i az).d (l.getD m fz))
        rw [← hJ] at hJs
        have hdu : ((leftL l t).filter (dueQ (al.getD i az).a (al.getD i az).b (al.getD i az).c (al.getD i az).d)) = J.map (l.getD · fz) := by rw [left_filter, hJ]
        have hJl : ((leftL l t).filter (dueQ (al.getD i az).a (al.getD i az).b (al.getD i az).c (al.getD i az).d)).length = J.length := by rw [hdu, List.length_map]
        have hJle : J.length ≤ (leftL l t).length := by rw [← hJl]; exact List.length_filter_le _ _
        have hJm : ∀ m ∈ J, m < l.length ∧ t.getD m false = false ∧ dueQ (al.getD i az).a (al.getD i az).b (al.getD i az).c (al.getD i az).d (l.getD m fz) = true := fun m hm => by
          rw [hJ] at hm
          obtain ⟨h1, h2⟩ := List.mem_filter.1 hm
          exact ⟨(pend_lt h1).1, (pend_lt h1).2, h2⟩
        refine ldA (cs := [.int .i64 ((al.getD i az).op), .int .i64 ((al.getD i az).a), .int .i64 ((al.getD i az).b), .int .i64 ((al.getD i az).c), .int .i64 ((al.getD i az).d)]) rfl rfl (hp18.row (k := 0) rfl rfl) ?_
        refine m_al hM11 fun b19 w20 (hM20 : Mem w [] w20 [rp, r7_, [⟨b19, 49, [.int .i64 0, .int .i64 0, .int .i64 0, .int .i64 0, .int .i64 0]⟩]]) => ?_
        refine m_stA (l := [.int .i64 ((al.getD i az).op), .int .i64 ((al.getD i az).a), .int .i64 ((al.getD i az).b), .int .i64 ((al.getD i az).c), .int .i64 ((al.getD i az).d)]) hM20 (i := 2) rfl rfl rfl rfl (by simp [oneCells, Value.oneCell', byteV]) (by simp) fun w21 (hM21 : Mem w [] w21 [rp, r7_, [⟨b19, 49, [.int .i64 ((al.getD i az).op), .int .i64 ((al.getD i az).a), .int .i64 ((al.getD i az).b), .int .i64 ((al.getD i az).c), .int .i64 ((al.getD i az).d)]⟩]]) => ?_
        refine h17 _ _ ?_
        clear h17
        refine seq fun K22 h22 => ?_
        refine seq fun K23 h23 => ?_
        refine stp (v := .pointer (some ⟨b19, 0, none⟩)) (o_fa rfl rfl) ?_
        refine m_ld (v := .int .i64 ((al.getD i az).op)) hM21 (i := 2) (j := 0) rfl rfl rfl rfl ?_
        refine stp (v := .bool (decide (((al.getD i az).op) = 0))) (o_bin rfl rfl rfl) ?_
        refine h23 _ _ ?_
        clear h23
        refine cndP rfl (fun c24 => ?_) (fun c24 => ?_)
        ·
          refine seq fun K25 h25 => ?_
          refine stp (v := .pointer (some ⟨bp3, 0, none⟩)) (o_mv rfl) ?_
          refine stp (v := .pointer (some ⟨b19, 1, none⟩)) (o_fa rfl rfl) ?_
          refine m_ld (v := .int .i64 ((al.getD i az).a)) hM21 (i := 2) (j := 0) rfl rfl rfl rfl ?_
          refine stp (v := .pointer (some ⟨b19, 2, none⟩)) (o_fa rfl rfl) ?_
          refine m_ld (v := .int .i64 ((al.getD i az).b)) hM21 (i := 2) (j := 0) rfl rfl rfl rfl ?_
          refine stp (v := .pointer (some ⟨b19, 3, none⟩)) (o_fa rfl rfl) ?_
          refine m_ld (v := .int .i64 ((al.getD i az).c)) hM21 (i := 2) (j := 0) rfl rfl rfl rfl ?_
          refine m_call (Stop_ok _ (leftL l t) rp ((al.getD i az).a) ((al.getD i az).b) ((al.getD i az).c) w21 hpl (hM21.res (i := 0) rfl) (by first | assumption | omega | (simp; done) | (simp; omega) | decide +kernel)) rfl fun v26 w26 ⟨r'26, hr26, hp26, hm26⟩ => ?_
          have hM26 : Mem w [] w26 [r'26, r7_, [⟨b19, 49, [.int .i64 ((al.getD i az).op), .int .i64 ((al.getD i az).a), .int .i64 ((al.getD i az).b), .int .i64 ((al.getD i az).c), .int .i64 ((al.getD i az).d)]⟩]] := hM21.step 0 rfl hm26
          subst hr26
          refine stp (v := .tuple [.int .i64 ((stopV (leftL l t) (0, ((al.getD i az).a), ((al.getD i az).b), ((al.getD i az).c))).1), .bool ((stopV (leftL l t) (0, ((al.getD i az).a), ((al.getD i az).b), ((al.getD i az).c))).2)].toArray) (o_mv rfl) ?_
          refine stp (v := .int .i64 ((stopV (leftL l t) (0, ((al.getD i az).a), ((al.getD i az).b), ((al.getD i az).c))).1)) (o_ext rfl rfl) ?_
          refine stp (v := .bool ((stopV (leftL l t) (0, ((al.getD i az).a), ((al.getD i az).b), ((al.getD i az).c))).2)) (o_ext rfl rfl) ?_
          refine stp (v := .int .i64 ((stopV (leftL l t) (0, ((al.getD i az).a), ((al.getD i az).b), ((al.getD i az).c))).1)) (o_mv rfl) ?_
          refine stp (v := .bool ((stopV (leftL l t) (0, ((al.getD i az).a), ((al.getD i az).b), ((al.getD i az).c))).2)) (o_mv rfl) ?_
          refine h25 _ _ ?_
          clear h25
          refine seq fun K27 h27 => ?_
          refine seq fun K28 h28 => ?_
          refine stp (v := .bool ((stopV (leftL l t) (0, ((al.getD i az).a), ((al.getD i az).b), ((al.getD i az).c))).2)) (o_mv rfl) ?_
          refine stp (v := .bool (!((stopV (leftL l t) (0, ((al.getD i az).a), ((al.getD i az).b), ((al.getD i az).c))).2))) (o_not rfl rfl) ?_
          refine h28 _ _ ?_
          clear h28
          refine cnd rfl (fun hsT => ?_) (fun hsF => ?_)
          ·
            refine h16 _ _ ?_
            clear h16
            refine stp (v := .int .i64 (i : Nat)) (o_mv rfl) ?_
            refine stp (v := .int .i64 ((i : Nat) + 1)) (o_bin rfl rfl (v_add64 (by constructor <;> omega))) ?_
            refine stp (v := .int .i64 ((i : Nat) + 1)) (o_mv rfl) ?_
            refine h12 (i + 1, n, t, r'26, y7_, r7_) _ _ ⟨rfl, rfl, by first | rfl | exact v_int (by omega) | exact v_int (by simp) | exact v_int (by simp; omega), by first | rfl | exact v_int (by omega) | exact v_int (by simp) | exact v_int (by simp; omega), rfl, rfl, hM26.keep (by simp), by have q := hp26; rw [stop_none (by simpa using hsT)] at q; exact q, by omega, by omega, by omega, by first | exact hy7_ | simpa using hy7_⟩ (by (try dsimp only); omega)
          ·
            refine h27 _ _ ?_
            clear h27
            refine seq fun K30 h30 => ?_
            obtain ⟨j, hj, htj, hsj, haj, hlj, hcj⟩ := stop_found hfi htl (by simpa using hsF)
            refine stp (v := x) (o_mv rfl) ?_
            refine m_ldA (l := [.int .i64 ((al.getD i az).op), .int .i64 ((al.getD i az).a), .int .i64 ((al.getD i az).b), .int .i64 ((al.getD i az).c), .int .i64 ((al.getD i az).d)]) hM26 (i := 2) (j := 0) rfl rfl rfl rfl rfl ?_
            refine m_call (stopAt_ok _ l (al.getD i az) j w26 (hx.upd hM26.upd) hc256 hfi hj hsj) rfl fun v31 w31 ⟨hr31, hu31⟩ => ?_
            have hM31 : Mem w [] w31 [r'26, r7_, [⟨b19, 49, [.int .i64 ((al.getD i az).op), .int .i64 ((al.getD i az).a), .int .i64 ((al.getD i az).b), .int .i64 ((al.getD i az).c), .int .i64 ((al.getD i az).d)]⟩]] := hM26.pure hu31
            subst hr31
            refine stp (v := .int .i64 (j : Nat)) (o_mv rfl) ?_
            refine h30 _ _ ?_
            clear h30
            refine seq fun K32 h32 => ?_
            refine seq fun K33 h33 => ?_
            refine stp (v := .int .i64 (j : Nat)) (o_mv rfl) ?_
            refine stp (v := .bool (decide (((j : Nat) : Int) < 0))) (o_bin rfl rfl rfl) ?_
            refine stp (v := .bool (decide (((j : Nat) : Int) < 0))) (o_mv rfl) ?_
            refine splitP rfl (fun c34 => absurd c34 (by omega)) (fun c34 => ?_)
            refine stg rfl (v := y7_) (o_mv rfl) ?_
            refine stg rfl (v := .int .i64 (j : Nat)) (o_mv rfl) ?_
            refine gyes rfl rfl (m_idxE false (j := j) (hy7_.rd hM31 (i := 1) rfl) rfl rfl (by omega) fun b35 o35 hp35 => ?_)
            refine gyesl rfl ?_
            refine ld (v := .bool (t.getD j false)) rfl (hp35) ?_
            refine stp (v := .bool (t.getD j false)) (o_pickF rfl rfl) ?_
            refine stp (v := .bool (t.getD j false)) (o_mv rfl) ?_
            refine split rfl (fun c36 => absurd c36 (show ¬ (t.getD j false) = true from (by rw [htj]; decide))) (fun c36 => ?_)
            refine stg rfl (v := x) (o_mv rfl) ?_
            refine stg rfl (v := .int .i64 (j : Nat)) (o_mv rfl) ?_
            refine gyes rfl rfl (m_idxS fz (j := j) (hx.upd hM31.upd) rfl rfl (by omega) fun b37 o37 hp37 => ?_)
            refine stg rfl (v := .pointer (some ⟨b37, o37 + 6, none⟩)) (o_fa rfl rfl) ?_
            refine gyesl rfl ?_
            refine ld (v := .int .i64 ((l.getD j fz).at_)) rfl (hp37.get 6 rfl) ?_
            refine stg rfl (v := .int .i64 ((stopV (leftL l t) (0, ((al.getD i az).a), ((al.getD i az).b), ((al.getD i az).c))).1)) (o_mv rfl) ?_
            refine stg rfl (v := .bool (decide (¬ ((l.getD j fz).at_) = ((stopV (leftL l t) (0, ((al.getD i az).a), ((al.getD i az).b), ((al.getD i az).c))).1)))) (o_bin rfl rfl v_neq) ?_
            refine stp (v := .bool (decide (¬ ((l.getD j fz).at_) = ((stopV (leftL l t) (0, ((al.getD i az).a), ((al.getD i az).b), ((al.getD i az).c))).1)))) (o_pickF rfl rfl) ?_
            refine h33 _ _ ?_
            clear h33
            refine cndP rfl (fun c38 => absurd c38 (fun h => h haj.symm)) (fun c38 => ?_)
            refine h32 _ _ ?_
            clear h32
            refine seq fun K39 h39 => ?_
            refine stp (v := y7_) (o_mv rfl) ?_
            refine stp (v := .int .i64 (j : Nat)) (o_mv rfl) ?_
            refine m_set (E := boolV) (q := true) (j := j) hM31 (i := 1) rfl hy7_ rfl rfl (by omega) (by simp) (rfl) fun w40 r40 u40 he40 hs40 (hM40 : Mem w [] w40 [r'26, r40, [⟨b19, 49, [.int .i64 ((al.getD i az).op), .int .i64 ((al.getD i az).a), .int .i64 ((al.getD i az).b), .int .i64 ((al.getD i az).c), .int .i64 ((al.getD i az).d)]⟩]]) => ?_
            refine h39 _ _ ?_
            clear h39
            refine stp (v := .int .i64 (n : Nat)) (o_mv rfl) ?_
            refine stp (v := .int .i64 ((n : Nat) + 1)) (o_bin rfl rfl (v_add64 (by constructor <;> omega))) ?_
            refine stp (v := .int .i64 ((n : Nat) + 1)) (o_mv rfl) ?_
            refine h22 _ _ ?_
            clear h22
            refine seq fun K41 h41 => ?_
            refine stp (v := .pointer (some ⟨b19, 0, none⟩)) (o_fa rfl rfl) ?_
            refine m_ld (v := .int .i64 ((al.getD i az).op)) hM40 (i := 2) (j := 0) rfl rfl rfl rfl ?_
            refine stp (v := .bool (decide (((al.getD i az).op) = 1))) (o_bin rfl rfl rfl) ?_
            refine h41 _ _ ?_
            clear h41
            refine cndP rfl (fun c42 => absurd c42 (by omega)) (fun c42 => ?_)
            refine h16 _ _ ?_
            clear h16
            refine stp (v := .int .i64 (i : Nat)) (o_mv rfl) ?_
            refine stp (v := .int .i64 ((i : Nat) + 1)) (o_bin rfl rfl (v_add64 (by constructor <;> omega))) ?_
            refine stp (v := .int .i64 ((i : Nat) + 1)) (o_mv rfl) ?_
            refine h12 (i + 1, n + 1, t.set j true, r'26, y7_, r40) _ _ ⟨rfl, rfl, by first | rfl | exact v_int (by omega) | exact v_int (by simp) | exact v_int (by simp; omega), by first | rfl | exact v_int (by omega) | exact v_int (by simp) | exact v_int (by simp; omega), rfl, rfl, hM40.keep (by simp), by rw [hlj]; exact hp26, by simp; omega, by rw [hlj]; omega, by omega, by first | exact hs40 | simpa using hs40⟩ (by (try dsimp only); omega)
        ·
          refine h22 _ _ ?_
          clear h22
          refine seq fun K43 h43 => ?_
          refine stp (v := .pointer (some ⟨b19, 0, none⟩)) (o_fa rfl rfl) ?_
          refine m_ld (v := .int .i64 ((al.getD i az).op)) hM21 (i := 2) (j := 0) rfl rfl rfl rfl ?_
          refine stp (v := .bool (decide (((al.getD i az).op) = 1))) (o_bin rfl rfl rfl) ?_
          refine h43 _ _ ?_
          clear h43
          refine cndP rfl (fun h1T => ?_) (fun h1F => ?_)
          ·
            refine seq fun K45 h45 => ?_
            refine stp (v := .pointer (some ⟨bp3, 0, none⟩)) (o_mv rfl) ?_
            refine stp (v := .pointer (some ⟨b19, 1, none⟩)) (o_fa rfl rfl) ?_
            refine m_ld (v := .int .i64 ((al.getD i az).a)) hM21 (i := 2) (j := 0) rfl rfl rfl rfl ?_
            refine stp (v := .pointer (some ⟨b19, 2, none⟩)) (o_fa rfl rfl) ?_
            refine m_ld (v := .int .i64 ((al.getD i az).b)) hM21 (i := 2) (j := 0) rfl rfl rfl rfl ?_
            refine stp (v := .pointer (some ⟨b19, 3, none⟩)) (o_fa rfl rfl) ?_
            refine m_ld (v := .int .i64 ((al.getD i az).c)) hM21 (i := 2) (j := 0) rfl rfl rfl rfl ?_
            refine stp (v := .pointer (some ⟨b19, 4, none⟩)) (o_fa rfl rfl) ?_
            refine m_ld (v := .int .i64 ((al.getD i az).d)) hM21 (i := 2) (j := 0) rfl rfl rfl rfl ?_
            refine m_call (Due_ok _ (leftL l t) rp ((al.getD i az).a) ((al.getD i az).b) ((al.getD i az).c) ((al.getD i az).d) w21 hpl (hM21.res (i := 0) rfl) (by first | assumption | omega | (simp; done) | (simp; omega) | decide +kernel)) rfl fun v46 w46 ⟨r'46, rs46, hs46, hp46, hm46⟩ => ?_
            have hM46 : Mem w [] w46 [r'46, r7_, [⟨b19, 49, [.int .i64 ((al.getD i az).op), .int .i64 ((al.getD i az).a), .int .i64 ((al.getD i az).b), .int .i64 ((al.getD i az).c), .int .i64 ((al.getD i az).d)]⟩], rs46] := hM21.stepAdd 0 rfl hm46
            refine stp (v := v46) (o_mv rfl) ?_
            refine h45 _ _ ?_
            clear h45
            refine seq fun K47 h47 => ?_
            refine stp (v := .int .i64 0) (o_mv rfl) ?_
            refine h47 _ _ ?_
            clear h47
            refine seq fun K48 h48 => ?_
            refine stp (v := .int .i64 0) (o_mv rfl) ?_
            refine h48 _ _ ?_
            clear h48
            refine lp (n := fun _ _ => False) (ι := (Nat) × (Nat) × (List Bool) × (Value) × (List Ent)) (fun ⟨k, fr, t2, y7_, r7_⟩ f w' => f 16 = .int .i64 (k : Nat) ∧ f 15 = .int .i64 (fr : Nat) ∧ f 7 = y7_ ∧ f 8 = .int .i64 ((n + k) : Nat) ∧ f 0 = x ∧ f 1 = y ∧ f 5 = .pointer (some ⟨bp3, 0, none⟩) ∧ f 9 = .int .i64 (i : Nat) ∧ f 10 = .pointer (some ⟨b19, 0, none⟩) ∧ f 14 = v46 ∧ Mem w [] w' [r'46, r7_, [⟨b19, 49, [.int .i64 ((al.getD i az).op), .int .i64 ((al.getD i az).a), .int .i64 ((al.getD i az).b), .int .i64 ((al.getD i az).c), .int .i64 ((al.getD i az).d)]⟩], rs46] ∧ (k ≤ J.length) ∧ (t2.length = l.length) ∧ (toldJ t t2 (J.take k)) ∧ (∀ m ∈ J.drop k, fr ≤ m) ∧ (fr ≤ l.length) ∧ (SlE boolV 4 y7_ (t2) r7_)) (fun ⟨k, fr, t2, y7_, r7_⟩ => J.length - k) (0, 0, t, y7_, r7_) ?_ ?_
            · exact ⟨by first | rfl | exact v_int (by omega) | exact v_int (by simp) | exact v_int (by simp; omega), by first | rfl | exact v_int (by omega) | exact v_int (by simp) | exact v_int (by simp; omega), rfl, by first | rfl | exact v_int (by omega) | exact v_int (by simp) | exact v_int (by simp; omega), rfl, rfl, rfl, by first | rfl | exact v_int (by omega) | exact v_int (by simp) | exact v_int (by simp; omega), rfl, rfl, hM46, by omega, htl, toldJ_zero _ _, fun m _ => Nat.zero_le m, by omega, by first | exact hy7_ | simpa using hy7_⟩
            · rintro ⟨k, fr, t2, y7_, r7_⟩ f w49 ⟨e49_16, e49_15, e49_7, e49_8, e49_0, e49_1, e49_5, e49_9, e49_10, e49_14, hM49, hk, ht2, htd, hfr, hfl, hy7_⟩ K50 h50
              obtain ⟨frm, rfl⟩ : ∃ frm, f = (upd (upd (upd (upd (upd (upd (upd (upd (upd (upd frm 16 (.int .i64 (k : Nat))) 15 (.int .i64 (fr : Nat))) 7 (y7_)) 8 (.int .i64 ((n + k) : Nat))) 0 (x)) 1 (y)) 5 (.pointer (some ⟨bp3, 0, none⟩))) 9 (.int .i64 (i : Nat))) 10 (.pointer (some ⟨b19, 0, none⟩))) 14 (v46)) := ⟨f, by rw [upd_self e49_16, upd_self e49_15, upd_self e49_7, upd_self e49_8, upd_self e49_0, upd_self e49_1, upd_self e49_5, upd_self e49_9, upd_self e49_10, upd_self e49_14]⟩
              clear e49_16 e49_15 e49_7 e49_8 e49_0 e49_1 e49_5 e49_9 e49_10 e49_14
              refine seq fun K51 h51 => ?_
              refine seq fun K52 h52 => ?_
              refine stp (v := .int .i64 (k : Nat)) (o_mv rfl) ?_
              refine stp (v := v46) (o_mv rfl) ?_
              refine stp (v := .int .i64 (((leftL l t).filter (dueQ ((al.getD i az).a) ((al.getD i az).b) ((al.getD i az).c) ((al.getD i az).d))).length : Nat)) (o_lenR (hs46.rd hM49 (i := 3) rfl) rfl rfl) ?_
              refine stp (v := .bool (decide (((k : Nat) : Int) < (((leftL l t).filter (dueQ ((al.getD i az).a) ((al.getD i az).b) ((al.getD i az).c) ((al.getD i az).d))).length : Nat)))) (o_bin rfl rfl rfl) ?_
              refine h52 _ _ ?_
              clear h52
              refine cndP rfl (fun c53 => ?_) (fun c53 => ?_)
              ·
                refine h51 _ _ ?_
                clear h51
                refine seq fun K54 h54 => ?_
                refine seq fun K55 h55 => ?_
                refine lp (n := fun _ _ => False) (ι := (Nat)) (fun f2 f w' => f 15 = .int .i64 (f2 : Nat) ∧ f 0 = x ∧ f 1 = y ∧ f 5 = .pointer (some ⟨bp3, 0, none⟩) ∧ f 7 = y7_ ∧ f 8 = .int .i64 ((n + k) : Nat) ∧ f 9 = .int .i64 (i : Nat) ∧ f 10 = .pointer (some ⟨b19, 0, none⟩) ∧ f 14 = v46 ∧ f 16 = .int .i64 (k : Nat) ∧ Mem w [] w' [r'46, r7_, [⟨b19, 49, [.int .i64 ((al.getD i az).op), .int .i64 ((al.getD i az).a), .int .i64 ((al.getD i az).b), .int .i64 ((al.getD i az).c), .int .i64 ((al.getD i az).d)]⟩], rs46] ∧ (f2 ≤ J.getD k 0) ∧ (J.getD k 0 < l.length) ∧ (k < J.length)) (fun f2 => l.length - f2) (fr) ?_ ?_
                · exact ⟨by first | rfl | exact v_int (by omega) | exact v_int (by simp) | exact v_int (by simp; omega), rfl, rfl, rfl, rfl, by first | rfl | exact v_int (by omega) | exact v_int (by simp) | exact v_int (by simp; omega), by first | rfl | exact v_int (by omega) | exact v_int (by simp) | exact v_int (by simp; omega), rfl, rfl, by first | rfl | exact v_int (by omega) | exact v_int (by simp) | exact v_int (by simp; omega), hM49, hfr _ (drop_head (by omega)), (hJm _ (getN_mem (by omega))).1, by omega⟩
                · rintro f2 f w56 ⟨e56_15, e56_0, e56_1, e56_5, e56_7, e56_8, e56_9, e56_10, e56_14, e56_16, hM56, hf2, hJb, hkJ⟩ K57 h57
                  obtain ⟨frm, rfl⟩ : ∃ frm, f = (upd (upd (upd (upd (upd (upd (upd (upd (upd (upd frm 15 (.int .i64 (f2 : Nat))) 0 (x)) 1 (y)) 5 (.pointer (some ⟨bp3, 0, none⟩))) 7 (y7_)) 8 (.int .i64 ((n + k) : Nat))) 9 (.int .i64 (i : Nat))) 10 (.pointer (some ⟨b19, 0, none⟩))) 14 (v46)) 16 (.int .i64 (k : Nat))) := ⟨f, by rw [upd_self e56_15, upd_self e56_0, upd_self e56_1, upd_self e56_5, upd_self e56_7, upd_self e56_8, upd_self e56_9, upd_self e56_10, upd_self e56_14, upd_self e56_16]⟩
                  clear e56_15 e56_0 e56_1 e56_5 e56_7 e56_8 e56_9 e56_10 e56_14 e56_16
                  refine seq fun K58 h58 => ?_
                  refine seq fun K59 h59 => ?_
                  intro wd e1 e2 e3 e4
                  have hd := Upd.same e1 e2 e3 e4 []
                  have hM60 := hM56.pure hd
                  clear e1 e2 e3 e4
                  refine ⟨none, ?_⟩
                  show vd _ _ _ _ _ _ _
                  rcases (Nat.lt_or_ge f2 (J.getD k 0)) with hlt | hge
                  ·
                    refine dq (v := .int .i64 (f2 : Nat)) (o_mv rfl) ?_
                    have hdk : (((leftL l t).filter (dueQ (al.getD i az).a (al.getD i az).b (al.getD i az).c (al.getD i az).d)).getD k fz) = l.getD (J.getD k 0) fz := by rw [hdu, left_get hkJ]
                    refine dq (v := x) (o_mv rfl) ?_
                    refine dq (v := .int .i64 (l.length : Nat)) (o_lenR (hx.upd hM60.upd) rfl rfl) ?_
                    refine dq (v := .bool (decide (((f2 : Nat) : Int) < (l.length : Nat)))) (o_bin rfl rfl rfl) ?_
                    refine dq (v := .bool (decide (((f2 : Nat) : Int) < (l.length : Nat)))) (o_mv rfl) ?_
                    refine dsplitP rfl (fun c61 => ?_) (fun c61 => (c61 (by omega)).elim)
                    refine dqg rfl (v := x) (o_mv rfl) ?_
                    refine dqg rfl (v := .int .i64 (f2 : Nat)) (o_mv rfl) ?_
                    refine dgyes rfl rfl (dqp (m_idxS fz (j := f2) (hx.upd hM60.upd) rfl rfl (by omega) fun b62 o62 hp62 => ?_))
                    show vd _ _ _ _ _ _ _
                    refine dqg rfl (v := v46) (o_mv rfl) ?_
                    refine dqg rfl (v := .int .i64 (k : Nat)) (o_mv rfl) ?_
                    refine dgyes rfl rfl (dqp (m_idxS fz (j := k) (hs46.rd hM60 (i := 3) rfl) rfl rfl (by omega) fun b63 o63 hp63 => ?_))
                    show vd _ _ _ _ _ _ _
                    refine dqgyes rfl rfl ?_
                    refine dqldA (cs := [.int .i64 ((((leftL l t).filter (dueQ ((al.getD i az).a) ((al.getD i az).b) ((al.getD i az).c) ((al.getD i az).d))).getD k fz).kind), .int .i64 ((((leftL l t).filter (dueQ ((al.getD i az).a) ((al.getD i az).b) ((al.getD i az).c) ((al.getD i az).d))).getD k fz).tk), .int .i64 ((((leftL l t).filter (dueQ ((al.getD i az).a) ((al.getD i az).b) ((al.getD i az).c) ((al.getD i az).d))).getD k fz).task), .int .i64 ((((leftL l t).filter (dueQ ((al.getD i az).a) ((al.getD i az).b) ((al.getD i az).c) ((al.getD i az).d))).getD k fz).att), .int .i64 ((((leftL l t).filter (dueQ ((al.getD i az).a) ((al.getD i az).b) ((al.getD i az).c) ((al.getD i az).d))).getD k fz).mom), .int .i64 ((((leftL l t).filter (dueQ ((al.getD i az).a) ((al.getD i az).b) ((al.getD i az).c) ((al.getD i az).d))).getD k fz).rd), .int .i64 ((((leftL l t).filter (dueQ ((al.getD i az).a) ((al.getD i az).b) ((al.getD i az).c) ((al.getD i az).d))).getD k fz).at_), .int .u32 ((((leftL l t).filter (dueQ ((al.getD i az).a) ((al.getD i az).b) ((al.getD i az).c) ((al.getD i az).d))).getD k fz).mask)]) rfl (trivial) rfl (hp63.row (k := 0) rfl rfl) ?_
                    refine dgyesl rfl ?_
                    refine dl (ldA (cs := [.int .i64 ((l.getD f2 fz).kind), .int .i64 ((l.getD f2 fz).tk), .int .i64 ((l.getD f2 fz).task), .int .i64 ((l.getD f2 fz).att), .int .i64 ((l.getD f2 fz).mom), .int .i64 ((l.getD f2 fz).rd), .int .i64 ((l.getD f2 fz).at_), .int .u32 ((l.getD f2 fz).mask)]) rfl rfl (hp62.row (k := 0) rfl rfl) ?_)
                    refine ⟨rfl, ?_⟩
                    refine dqg rfl (v := .bool (!(decide (((l.getD f2 fz).kind) = ((((leftL l t).filter (dueQ ((al.getD i az).a) ((al.getD i az).b) ((al.getD i az).c) ((al.getD i az).d))).getD k fz).kind)) && (decide (((l.getD f2 fz).tk) = ((((leftL l t).filter (dueQ ((al.getD i az).a) ((al.getD i az).b) ((al.getD i az).c) ((al.getD i az).d))).getD k fz).tk)) && (decide (((l.getD f2 fz).task) = ((((leftL l t).filter (dueQ ((al.getD i az).a) ((al.getD i az).b) ((al.getD i az).c) ((al.getD i az).d))).getD k fz).task)) && (decide (((l.getD f2 fz).att) = ((((leftL l t).filter (dueQ ((al.getD i az).a) ((al.getD i az).b) ((al.getD i az).c) ((al.getD i az).d))).getD k fz).att)) && (decide (((l.getD f2 fz).mom) = ((((leftL l t).filter (dueQ ((al.getD i az).a) ((al.getD i az).b) ((al.getD i az).c) ((al.getD i az).d))).getD k fz).mom)) && (decide (((l.getD f2 fz).rd) = ((((leftL l t).filter (dueQ ((al.getD i az).a) ((al.getD i az).b) ((al.getD i az).c) ((al.getD i az).d))).getD k fz).rd)) && (decide (((l.getD f2 fz).at_) = ((((leftL l t).filter (dueQ ((al.getD i az).a) ((al.getD i az).b) ((al.getD i az).c) ((al.getD i az).d))).getD k fz).at_)) && (decide (((l.getD f2 fz).mask) = ((((leftL l t).filter (dueQ ((al.getD i az).a) ((al.getD i az).b) ((al.getD i az).c) ((al.getD i az).d))).getD k fz).mask)) && true)))))))))) (o_aeq (t := (decide (((l.getD f2 fz).kind) = ((((leftL l t).filter (dueQ ((al.getD i az).a) ((al.getD i az).b) ((al.getD i az).c) ((al.getD i az).d))).getD k fz).kind)) && (decide (((l.getD f2 fz).tk) = ((((leftL l t).filter (dueQ ((al.getD i az).a) ((al.getD i az).b) ((al.getD i az).c) ((al.getD i az).d))).getD k fz).tk)) && (decide (((l.getD f2 fz).task) = ((((leftL l t).filter (dueQ ((al.getD i az).a) ((al.getD i az).b) ((al.getD i az).c) ((al.getD i az).d))).getD k fz).task)) && (decide (((l.getD f2 fz).att) = ((((leftL l t).filter (dueQ ((al.getD i az).a) ((al.getD i az).b) ((al.getD i az).c) ((al.getD i az).d))).getD k fz).att)) && (decide (((l.getD f2 fz).mom) = ((((leftL l t).filter (dueQ ((al.getD i az).a) ((al.getD i az).b) ((al.getD i az).c) ((al.getD i az).d))).getD k fz).mom)) && (decide (((l.getD f2 fz).rd) = ((((leftL l t).filter (dueQ ((al.getD i az).a) ((al.getD i az).b) ((al.getD i az).c) ((al.getD i az).d))).getD k fz).rd)) && (decide (((l.getD f2 fz).at_) = ((((leftL l t).filter (dueQ ((al.getD i az).a) ((al.getD i az).b) ((al.getD i az).c) ((al.getD i az).d))).getD k fz).at_)) && (decide (((l.getD f2 fz).mask) = ((((leftL l t).filter (dueQ ((al.getD i az).a) ((al.getD i az).b) ((al.getD i az).c) ((al.getD i az).d))).getD k fz).mask)) && true))))))))) rfl rfl (by simp [eqCs, eqC, toList_str, Int.natCast_inj]) rfl) ?_
                    refine dqg rfl (v := .bool (!(decide (((l.getD f2 fz).kind) = ((((leftL l t).filter (dueQ ((al.getD i az).a) ((al.getD i az).b) ((al.getD i az).c) ((al.getD i az).d))).getD k fz).kind)) && (decide (((l.getD f2 fz).tk) = ((((leftL l t).filter (dueQ ((al.getD i az).a) ((al.getD i az).b) ((al.getD i az).c) ((al.getD i az).d))).getD k fz).tk)) && (decide (((l.getD f2 fz).task) = ((((leftL l t).filter (dueQ ((al.getD i az).a) ((al.getD i az).b) ((al.getD i az).c) ((al.getD i az).d))).getD k fz).task)) && (decide (((l.getD f2 fz).att) = ((((leftL l t).filter (dueQ ((al.getD i az).a) ((al.getD i az).b) ((al.getD i az).c) ((al.getD i az).d))).getD k fz).att)) && (decide (((l.getD f2 fz).mom) = ((((leftL l t).filter (dueQ ((al.getD i az).a) ((al.getD i az).b) ((al.getD i az).c) ((al.getD i az).d))).getD k fz).mom)) && (decide (((l.getD f2 fz).rd) = ((((leftL l t).filter (dueQ ((al.getD i az).a) ((al.getD i az).b) ((al.getD i az).c) ((al.getD i az).d))).getD k fz).rd)) && (decide (((l.getD f2 fz).at_) = ((((leftL l t).filter (dueQ ((al.getD i az).a) ((al.getD i az).b) ((al.getD i az).c) ((al.getD i az).d))).getD k fz).at_)) && (decide (((l.getD f2 fz).mask) = ((((leftL l t).filter (dueQ ((al.getD i az).a) ((al.getD i az).b) ((al.getD i az).c) ((al.getD i az).d))).getD k fz).mask)) && true)))))))))) (o_mv rfl) ?_
                    refine dsplit rfl (fun c64 => ?_) (fun c64 => absurd ((show (!(decide (((l.getD f2 fz).kind) = ((((leftL l t).filter (dueQ ((al.getD i az).a) ((al.getD i az).b) ((al.getD i az).c) ((al.getD i az).d))).getD k fz).kind)) && (decide (((l.getD f2 fz).tk) = ((((leftL l t).filter (dueQ ((al.getD i az).a) ((al.getD i az).b) ((al.getD i az).c) ((al.getD i az).d))).getD k fz).tk)) && (decide (((l.getD f2 fz).task) = ((((leftL l t).filter (dueQ ((al.getD i az).a) ((al.getD i az).b) ((al.getD i az).c) ((al.getD i az).d))).getD k fz).task)) && (decide (((l.getD f2 fz).att) = ((((leftL l t).filter (dueQ ((al.getD i az).a) ((al.getD i az).b) ((al.getD i az).c) ((al.getD i az).d))).getD k fz).att)) && (decide (((l.getD f2 fz).mom) = ((((leftL l t).filter (dueQ ((al.getD i az).a) ((al.getD i az).b) ((al.getD i az).c) ((al.getD i az).d))).getD k fz).mom)) && (decide (((l.getD f2 fz).rd) = ((((leftL l t).filter (dueQ ((al.getD i az).a) ((al.getD i az).b) ((al.getD i az).c) ((al.getD i az).d))).getD k fz).rd)) && (decide (((l.getD f2 fz).at_) = ((((leftL l t).filter (dueQ ((al.getD i az).a) ((al.getD i az).b) ((al.getD i az).c) ((al.getD i az).d))).getD k fz).at_)) && (decide (((l.getD f2 fz).mask) = ((((leftL l t).filter (dueQ ((al.getD i az).a) ((al.getD i az).b) ((al.getD i az).c) ((al.getD i az).d))).getD k fz).mask)) && true))))))))) = true from (by rw [hdk, flt_ne (fun e => by have := fine_inj hfi (show f2 < l.length by omega) hJb (by rw [e]); omega)]; rfl)).symm.trans c64) (by decide))
                    refine dgno rfl (by simp) ?_
                    refine dgno rfl (by simp) ?_
                    refine dgno rfl (by simp) ?_
                    refine dgnol rfl (by simp) ?_
                    refine dqg rfl (v := .bool true) (o_pickT rfl rfl) ?_
                    refine dq (v := .bool true) (o_pickT rfl rfl) ?_
                    refine h59 _ _ ?_
                    clear h59
                    refine cndT rfl ?_
                    refine h58 _ _ ?_
                    clear h58
                    refine stp (v := .int .i64 (f2 : Nat)) (o_mv rfl) ?_
                    refine stp (v := .int .i64 ((f2 : Nat) + 1)) (o_bin rfl rfl (v_add64 (by constructor <;> omega))) ?_
                    refine stp (v := .int .i64 ((f2 : Nat) + 1)) (o_mv rfl) ?_
                    refine h57 (f2 + 1) _ _ ⟨by first | rfl | exact v_int (by omega) | exact v_int (by simp) | exact v_int (by simp; omega), rfl, rfl, rfl, rfl, by first | rfl | exact v_int (by omega) | exact v_int (by simp) | exact v_int (by simp; omega), by first | rfl | exact v_int (by omega) | exact v_int (by simp) | exact v_int (by simp; omega), rfl, rfl, by first | rfl | exact v_int (by omega) | exact v_int (by simp) | exact v_int (by simp; omega), hM60, by omega, by omega, by omega⟩ (by (try dsimp only); omega)
                  ·
                    refine dq (v := .int .i64 (f2 : Nat)) (o_mv rfl) ?_
                    have hdk : (((leftL l t).filter (dueQ (al.getD i az).a (al.getD i az).b (al.getD i az).c (al.getD i az).d)).getD k fz) = l.getD (J.getD k 0) fz := by rw [hdu, left_get hkJ]
                    refine dq (v := x) (o_mv rfl) ?_
                    refine dq (v := .int .i64 (l.length : Nat)) (o_lenR (hx.upd hM60.upd) rfl rfl) ?_
                    refine dq (v := .bool (decide (((f2 : Nat) : Int) < (l.length : Nat)))) (o_bin rfl rfl rfl) ?_
                    refine dq (v := .bool (decide (((f2 : Nat) : Int) < (l.length : Nat)))) (o_mv rfl) ?_
                    refine dsplitP rfl (fun c65 => ?_) (fun c65 => (c65 (by omega)).elim)
                    refine dqg rfl (v := x) (o_mv rfl) ?_
                    refine dqg rfl (v := .int .i64 (f2 : Nat)) (o_mv rfl) ?_
                    refine dgyes rfl rfl (dqp (m_idxS fz (j := f2) (hx.upd hM60.upd) rfl rfl (by omega) fun b66 o66 hp66 => ?_))
                    show vd _ _ _ _ _ _ _
                    refine dqg rfl (v := v46) (o_mv rfl) ?_
                    refine dqg rfl (v := .int .i64 (k : Nat)) (o_mv rfl) ?_
                    refine dgyes rfl rfl (dqp (m_idxS fz (j := k) (hs46.rd hM60 (i := 3) rfl) rfl rfl (by omega) fun b67 o67 hp67 => ?_))
                    show vd _ _ _ _ _ _ _
                    refine dqgyes rfl rfl ?_
                    refine dqldA (cs := [.int .i64 ((((leftL l t).filter (dueQ ((al.getD i az).a) ((al.getD i az).b) ((al.getD i az).c) ((al.getD i az).d))).getD k fz).kind), .int .i64 ((((leftL l t).filter (dueQ ((al.getD i az).a) ((al.getD i az).b) ((al.getD i az).c) ((al.getD i az).d))).getD k fz).tk), .int .i64 ((((leftL l t).filter (dueQ ((al.getD i az).a) ((al.getD i az).b) ((al.getD i az).c) ((al.getD i az).d))).getD k fz).task), .int .i64 ((((leftL l t).filter (dueQ ((al.getD i az).a) ((al.getD i az).b) ((al.getD i az).c) ((al.getD i az).d))).getD k fz).att), .int .i64 ((((leftL l t).filter (dueQ ((al.getD i az).a) ((al.getD i az).b) ((al.getD i az).c) ((al.getD i az).d))).getD k fz).mom), .int .i64 ((((leftL l t).filter (dueQ ((al.getD i az).a) ((al.getD i az).b) ((al.getD i az).c) ((al.getD i az).d))).getD k fz).rd), .int .i64 ((((leftL l t).filter (dueQ ((al.getD i az).a) ((al.getD i az).b) ((al.getD i az).c) ((al.getD i az).d))).getD k fz).at_), .int .u32 ((((leftL l t).filter (dueQ ((al.getD i az).a) ((al.getD i az).b) ((al.getD i az).c) ((al.getD i az).d))).getD k fz).mask)]) rfl (trivial) rfl (hp67.row (k := 0) rfl rfl) ?_
                    refine dgyesl rfl ?_
                    refine dl (ldA (cs := [.int .i64 ((l.getD f2 fz).kind), .int .i64 ((l.getD f2 fz).tk), .int .i64 ((l.getD f2 fz).task), .int .i64 ((l.getD f2 fz).att), .int .i64 ((l.getD f2 fz).mom), .int .i64 ((l.getD f2 fz).rd), .int .i64 ((l.getD f2 fz).at_), .int .u32 ((l.getD f2 fz).mask)]) rfl rfl (hp66.row (k := 0) rfl rfl) ?_)
                    refine ⟨rfl, ?_⟩
                    refine dqg rfl (v := .bool (!(decide (((l.getD f2 fz).kind) = ((((leftL l t).filter (dueQ ((al.getD i az).a) ((al.getD i az).b) ((al.getD i az).c) ((al.getD i az).d))).getD k fz).kind)) && (decide (((l.getD f2 fz).tk) = ((((leftL l t).filter (dueQ ((al.getD i az).a) ((al.getD i az).b) ((al.getD i az).c) ((al.getD i az).d))).getD k fz).tk)) && (decide (((l.getD f2 fz).task) = ((((leftL l t).filter (dueQ ((al.getD i az).a) ((al.getD i az).b) ((al.getD i az).c) ((al.getD i az).d))).getD k fz).task)) && (decide (((l.getD f2 fz).att) = ((((leftL l t).filter (dueQ ((al.getD i az).a) ((al.getD i az).b) ((al.getD i az).c) ((al.getD i az).d))).getD k fz).att)) && (decide (((l.getD f2 fz).mom) = ((((leftL l t).filter (dueQ ((al.getD i az).a) ((al.getD i az).b) ((al.getD i az).c) ((al.getD i az).d))).getD k fz).mom)) && (decide (((l.getD f2 fz).rd) = ((((leftL l t).filter (dueQ ((al.getD i az).a) ((al.getD i az).b) ((al.getD i az).c) ((al.getD i az).d))).getD k fz).rd)) && (decide (((l.getD f2 fz).at_) = ((((leftL l t).filter (dueQ ((al.getD i az).a) ((al.getD i az).b) ((al.getD i az).c) ((al.getD i az).d))).getD k fz).at_)) && (decide (((l.getD f2 fz).mask) = ((((leftL l t).filter (dueQ ((al.getD i az).a) ((al.getD i az).b) ((al.getD i az).c) ((al.getD i az).d))).getD k fz).mask)) && true)))))))))) (o_aeq (t := (decide (((l.getD f2 fz).kind) = ((((leftL l t).filter (dueQ ((al.getD i az).a) ((al.getD i az).b) ((al.getD i az).c) ((al.getD i az).d))).getD k fz).kind)) && (decide (((l.getD f2 fz).tk) = ((((leftL l t).filter (dueQ ((al.getD i az).a) ((al.getD i az).b) ((al.getD i az).c) ((al.getD i az).d))).getD k fz).tk)) && (decide (((l.getD f2 fz).task) = ((((leftL l t).filter (dueQ ((al.getD i az).a) ((al.getD i az).b) ((al.getD i az).c) ((al.getD i az).d))).getD k fz).task)) && (decide (((l.getD f2 fz).att) = ((((leftL l t).filter (dueQ ((al.getD i az).a) ((al.getD i az).b) ((al.getD i az).c) ((al.getD i az).d))).getD k fz).att)) && (decide (((l.getD f2 fz).mom) = ((((leftL l t).filter (dueQ ((al.getD i az).a) ((al.getD i az).b) ((al.getD i az).c) ((al.getD i az).d))).getD k fz).mom)) && (decide (((l.getD f2 fz).rd) = ((((leftL l t).filter (dueQ ((al.getD i az).a) ((al.getD i az).b) ((al.getD i az).c) ((al.getD i az).d))).getD k fz).rd)) && (decide (((l.getD f2 fz).at_) = ((((leftL l t).filter (dueQ ((al.getD i az).a) ((al.getD i az).b) ((al.getD i az).c) ((al.getD i az).d))).getD k fz).at_)) && (decide (((l.getD f2 fz).mask) = ((((leftL l t).filter (dueQ ((al.getD i az).a) ((al.getD i az).b) ((al.getD i az).c) ((al.getD i az).d))).getD k fz).mask)) && true))))))))) rfl rfl (by simp [eqCs, eqC, toList_str, Int.natCast_inj]) rfl) ?_
                    refine dqg rfl (v := .bool (!(decide (((l.getD f2 fz).kind) = ((((leftL l t).filter (dueQ ((al.getD i az).a) ((al.getD i az).b) ((al.getD i az).c) ((al.getD i az).d))).getD k fz).kind)) && (decide (((l.getD f2 fz).tk) = ((((leftL l t).filter (dueQ ((al.getD i az).a) ((al.getD i az).b) ((al.getD i az).c) ((al.getD i az).d))).getD k fz).tk)) && (decide (((l.getD f2 fz).task) = ((((leftL l t).filter (dueQ ((al.getD i az).a) ((al.getD i az).b) ((al.getD i az).c) ((al.getD i az).d))).getD k fz).task)) && (decide (((l.getD f2 fz).att) = ((((leftL l t).filter (dueQ ((al.getD i az).a) ((al.getD i az).b) ((al.getD i az).c) ((al.getD i az).d))).getD k fz).att)) && (decide (((l.getD f2 fz).mom) = ((((leftL l t).filter (dueQ ((al.getD i az).a) ((al.getD i az).b) ((al.getD i az).c) ((al.getD i az).d))).getD k fz).mom)) && (decide (((l.getD f2 fz).rd) = ((((leftL l t).filter (dueQ ((al.getD i az).a) ((al.getD i az).b) ((al.getD i az).c) ((al.getD i az).d))).getD k fz).rd)) && (decide (((l.getD f2 fz).at_) = ((((leftL l t).filter (dueQ ((al.getD i az).a) ((al.getD i az).b) ((al.getD i az).c) ((al.getD i az).d))).getD k fz).at_)) && (decide (((l.getD f2 fz).mask) = ((((leftL l t).filter (dueQ ((al.getD i az).a) ((al.getD i az).b) ((al.getD i az).c) ((al.getD i az).d))).getD k fz).mask)) && true)))))))))) (o_mv rfl) ?_
                    refine dsplit rfl (fun c68 => absurd c68 (show ¬ (!(decide (((l.getD f2 fz).kind) = ((((leftL l t).filter (dueQ ((al.getD i az).a) ((al.getD i az).b) ((al.getD i az).c) ((al.getD i az).d))).getD k fz).kind)) && (decide (((l.getD f2 fz).tk) = ((((leftL l t).filter (dueQ ((al.getD i az).a) ((al.getD i az).b) ((al.getD i az).c) ((al.getD i az).d))).getD k fz).tk)) && (decide (((l.getD f2 fz).task) = ((((leftL l t).filter (dueQ ((al.getD i az).a) ((al.getD i az).b) ((al.getD i az).c) ((al.getD i az).d))).getD k fz).task)) && (decide (((l.getD f2 fz).att) = ((((leftL l t).filter (dueQ ((al.getD i az).a) ((al.getD i az).b) ((al.getD i az).c) ((al.getD i az).d))).getD k fz).att)) && (decide (((l.getD f2 fz).mom) = ((((leftL l t).filter (dueQ ((al.getD i az).a) ((al.getD i az).b) ((al.getD i az).c) ((al.getD i az).d))).getD k fz).mom)) && (decide (((l.getD f2 fz).rd) = ((((leftL l t).filter (dueQ ((al.getD i az).a) ((al.getD i az).b) ((al.getD i az).c) ((al.getD i az).d))).getD k fz).rd)) && (decide (((l.getD f2 fz).at_) = ((((leftL l t).filter (dueQ ((al.getD i az).a) ((al.getD i az).b) ((al.getD i az).c) ((al.getD i az).d))).getD k fz).at_)) && (decide (((l.getD f2 fz).mask) = ((((leftL l t).filter (dueQ ((al.getD i az).a) ((al.getD i az).b) ((al.getD i az).c) ((al.getD i az).d))).getD k fz).mask)) && true))))))))) = true from (by rw [hdk, show f2 = J.getD k 0 by omega]; simp))) (fun c68 => ?_)
                    refine dqg rfl (v := y7_) (o_mv rfl) ?_
                    refine dqg rfl (v := .int .i64 (f2 : Nat)) (o_mv rfl) ?_
                    refine dgyes rfl rfl (dqp (m_idxE false (j := f2) (hy7_.rd hM60 (i := 1) rfl) rfl rfl (by omega) fun b69 o69 hp69 => ?_))
                    show vd _ _ _ _ _ _ _
                    refine dgyesl rfl ?_
                    refine dl (ld (v := .bool (t2.getD f2 false)) rfl (hp69) ?_)
                    refine ⟨rfl, ?_⟩
                    refine dqg rfl (v := .bool (t2.getD f2 false)) (o_pickF rfl rfl) ?_
                    refine dq (v := .bool (t2.getD f2 false)) (o_pickT rfl rfl) ?_
                    refine h59 _ _ ?_
                    clear h59
                    refine cnd rfl (fun c70 => absurd c70 (show ¬ (t2.getD f2 false) = true from (by rw [show f2 = J.getD k 0 by omega, htd, (hJm _ (getN_mem hkJ)).2.1, decide_eq_false (not_taken hJs hkJ)]; decide))) (fun c70 => ?_)
                    refine h55 _ _ ?_
                    clear h55
                    refine seq fun K71 h71 => ?_
                    refine seq fun K72 h72 => ?_
                    intro wd e1 e2 e3 e4
                    have hd := Upd.same e1 e2 e3 e4 []
                    have hM73 := hM60.pure hd
                    clear e1 e2 e3 e4
                    refine ⟨none, ?_⟩
                    show vd _ _ _ _ _ _ _
                    have he : f2 = J.getD k 0 := by omega
                    have hdp := of_decide_eq_true (hJm _ (getN_mem hkJ)).2.2
                    rw [← hdk] at hdp
                    unfold dueP at hdp
                    refine dq (v := .int .i64 (f2 : Nat)) (o_mv rfl) ?_
                    refine dq (v := x) (o_mv rfl) ?_
                    refine dq (v := .int .i64 (l.length : Nat)) (o_lenR (hx.upd hM73.upd) rfl rfl) ?_
                    refine dq (v := .bool (decide (((f2 : Nat) : Int) = (l.length : Nat)))) (o_bin rfl rfl rfl) ?_
                    refine dq (v := .bool (decide (((f2 : Nat) : Int) = (l.length : Nat)))) (o_mv rfl) ?_
                    refine dsplitP rfl (fun c74 => absurd c74 (by omega)) (fun c74 => ?_)
                    refine dqg rfl (v := v46) (o_mv rfl) ?_
                    refine dqg rfl (v := .int .i64 (k : Nat)) (o_mv rfl) ?_
                    refine dgyes rfl rfl (dqp (m_idxS fz (j := k) (hs46.rd hM73 (i := 3) rfl) rfl rfl (by omega) fun b75 o75 hp75 => ?_))
                    show vd _ _ _ _ _ _ _
                    refine dqg rfl (v := .pointer (some ⟨b75, o75, none⟩)) (o_fa rfl rfl) ?_
                    refine dgyesl rfl ?_
                    refine dl (ld (v := .int .i64 ((((leftL l t).filter (dueQ ((al.getD i az).a) ((al.getD i az).b) ((al.getD i az).c) ((al.getD i az).d))).getD k fz).kind)) rfl (hp75.get 0 rfl) ?_)
                    refine ⟨rfl, ?_⟩
                    refine dqg rfl (v := .bool (decide (((((leftL l t).filter (dueQ ((al.getD i az).a) ((al.getD i az).b) ((al.getD i az).c) ((al.getD i az).d))).getD k fz).kind) = 0))) (o_bin rfl rfl rfl) ?_
                    refine dq (v := .bool (decide (((((leftL l t).filter (dueQ ((al.getD i az).a) ((al.getD i az).b) ((al.getD i az).c) ((al.getD i az).d))).getD k fz).kind) = 0))) (o_pickF rfl rfl) ?_
                    refine dq (v := .bool (decide (((((leftL l t).filter (dueQ ((al.getD i az).a) ((al.getD i az).b) ((al.getD i az).c) ((al.getD i az).d))).getD k fz).kind) = 0))) (o_mv rfl) ?_
                    refine dsplitP rfl (fun c76 => absurd c76 (by omega)) (fun c76 => ?_)
                    refine dqg rfl (v := v46) (o_mv rfl) ?_
                    refine dqg rfl (v := .int .i64 (k : Nat)) (o_mv rfl) ?_
                    refine dgyes rfl rfl (dqp (m_idxS fz (j := k) (hs46.rd hM73 (i := 3) rfl) rfl rfl (by omega) fun b77 o77 hp77 => ?_))
                    show vd _ _ _ _ _ _ _
                    refine dqg rfl (v := .pointer (some ⟨b77, o77 + 2, none⟩)) (o_fa rfl rfl) ?_
                    refine dqg rfl (v := .pointer (some ⟨b19, 1, none⟩)) (o_fa rfl rfl) ?_
                    refine dqgyes rfl rfl ?_
                    refine dqld rfl (trivial) (v := .int .i64 ((al.getD i az).a)) ((hM73.at (i := 2) (j := 0) rfl rfl).cell 1) ?_
                    refine dgyesl rfl ?_
                    refine dl (ld (v := .int .i64 ((((leftL l t).filter (dueQ ((al.getD i az).a) ((al.getD i az).b) ((al.getD i az).c) ((al.getD i az).d))).getD k fz).task)) rfl (hp77.get 2 rfl) ?_)
                    refine ⟨rfl, ?_⟩
                    refine dqg rfl (v := .bool (decide (¬ ((((leftL l t).filter (dueQ ((al.getD i az).a) ((al.getD i az).b) ((al.getD i az).c) ((al.getD i az).d))).getD k fz).task) = ((al.getD i az).a)))) (o_bin rfl rfl v_neq) ?_
                    refine dq (v := .bool (decide (¬ ((((leftL l t).filter (dueQ ((al.getD i az).a) ((al.getD i az).b) ((al.getD i az).c) ((al.getD i az).d))).getD k fz).task) = ((al.getD i az).a)))) (o_pickF rfl rfl) ?_
                    refine dq (v := .bool (decide (¬ ((((leftL l t).filter (dueQ ((al.getD i az).a) ((al.getD i az).b) ((al.getD i az).c) ((al.getD i az).d))).getD k fz).task) = ((al.getD i az).a)))) (o_mv rfl) ?_
                    refine dsplitP rfl (fun c78 => absurd c78 (by omega)) (fun c78 => ?_)
                    refine dqg rfl (v := v46) (o_mv rfl) ?_
                    refine dqg rfl (v := .int .i64 (k : Nat)) (o_mv rfl) ?_
                    refine dgyes rfl rfl (dqp (m_idxS fz (j := k) (hs46.rd hM73 (i := 3) rfl) rfl rfl (by omega) fun b79 o79 hp79 => ?_))
                    show vd _ _ _ _ _ _ _
                    refine dqg rfl (v := .pointer (some ⟨b79, o79 + 3, none⟩)) (o_fa rfl rfl) ?_
                    refine dqg rfl (v := .pointer (some ⟨b19, 2, none⟩)) (o_fa rfl rfl) ?_
                    refine dqgyes rfl rfl ?_
                    refine dqld rfl (trivial) (v := .int .i64 ((al.getD i az).b)) ((hM73.at (i := 2) (j := 0) rfl rfl).cell 2) ?_
                    refine dgyesl rfl ?_
                    refine dl (ld (v := .int .i64 ((((leftL l t).filter (dueQ ((al.getD i az).a) ((al.getD i az).b) ((al.getD i az).c) ((al.getD i az).d))).getD k fz).att)) rfl (hp79.get 3 rfl) ?_)
                    refine ⟨rfl, ?_⟩
                    refine dqg rfl (v := .bool (decide (¬ ((((leftL l t).filter (dueQ ((al.getD i az).a) ((al.getD i az).b) ((al.getD i az).c) ((al.getD i az).d))).getD k fz).att) = ((al.getD i az).b)))) (o_bin rfl rfl v_neq) ?_
                    refine dq (v := .bool (decide (¬ ((((leftL l t).filter (dueQ ((al.getD i az).a) ((al.getD i az).b) ((al.getD i az).c) ((al.getD i az).d))).getD k fz).att) = ((al.getD i az).b)))) (o_pickF rfl rfl) ?_
                    refine dq (v := .bool (decide (¬ ((((leftL l t).filter (dueQ ((al.getD i az).a) ((al.getD i az).b) ((al.getD i az).c) ((al.getD i az).d))).getD k fz).att) = ((al.getD i az).b)))) (o_mv rfl) ?_
                    refine dsplitP rfl (fun c80 => absurd c80 (by omega)) (fun c80 => ?_)
                    refine dqg rfl (v := v46) (o_mv rfl) ?_
                    refine dqg rfl (v := .int .i64 (k : Nat)) (o_mv rfl) ?_
                    refine dgyes rfl rfl (dqp (m_idxS fz (j := k) (hs46.rd hM73 (i := 3) rfl) rfl rfl (by omega) fun b81 o81 hp81 => ?_))
                    show vd _ _ _ _ _ _ _
                    refine dqg rfl (v := .pointer (some ⟨b81, o81 + 4, none⟩)) (o_fa rfl rfl) ?_
                    refine dqg rfl (v := .pointer (some ⟨b19, 3, none⟩)) (o_fa rfl rfl) ?_
                    refine dqgyes rfl rfl ?_
                    refine dqld rfl (trivial) (v := .int .i64 ((al.getD i az).c)) ((hM73.at (i := 2) (j := 0) rfl rfl).cell 3) ?_
                    refine dgyesl rfl ?_
                    refine dl (ld (v := .int .i64 ((((leftL l t).filter (dueQ ((al.getD i az).a) ((al.getD i az).b) ((al.getD i az).c) ((al.getD i az).d))).getD k fz).mom)) rfl (hp81.get 4 rfl) ?_)
                    refine ⟨rfl, ?_⟩
                    refine dqg rfl (v := .bool (decide (¬ ((((leftL l t).filter (dueQ ((al.getD i az).a) ((al.getD i az).b) ((al.getD i az).c) ((al.getD i az).d))).getD k fz).mom) = ((al.getD i az).c)))) (o_bin rfl rfl v_neq) ?_
                    refine dq (v := .bool (decide (¬ ((((leftL l t).filter (dueQ ((al.getD i az).a) ((al.getD i az).b) ((al.getD i az).c) ((al.getD i az).d))).getD k fz).mom) = ((al.getD i az).c)))) (o_pickF rfl rfl) ?_
                    refine dq (v := .bool (decide (¬ ((((leftL l t).filter (dueQ ((al.getD i az).a) ((al.getD i az).b) ((al.getD i az).c) ((al.getD i az).d))).getD k fz).mom) = ((al.getD i az).c)))) (o_mv rfl) ?_
                    refine dsplitP rfl (fun c82 => absurd c82 (by omega)) (fun c82 => ?_)
                    refine dqg rfl (v := .pointer (some ⟨b19, 3, none⟩)) (o_fa rfl rfl) ?_
                    refine dgyesl rfl ?_
                    refine dl (m_ld (v := .int .i64 ((al.getD i az).c)) hM73 (i := 2) (j := 0) rfl rfl rfl rfl ?_)
                    refine ⟨rfl, ?_⟩
                    refine dqg rfl (v := .bool (decide (((al.getD i az).c) = 2))) (o_bin rfl rfl rfl) ?_
                    refine dqg rfl (v := .bool (decide (((al.getD i az).c) = 2))) (o_mv rfl) ?_
                    refine dsplitP rfl (fun c83 => ?_) (fun c83 => ?_)
                    ·
                      refine dqg rfl (v := v46) (o_mv rfl) ?_
                      refine dqg rfl (v := .int .i64 (k : Nat)) (o_mv rfl) ?_
                      refine dgyes rfl rfl (dqp (m_idxS fz (j := k) (hs46.rd hM73 (i := 3) rfl) rfl rfl (by omega) fun b84 o84 hp84 => ?_))
                      show vd _ _ _ _ _ _ _
                      refine dqg rfl (v := .pointer (some ⟨b84, o84 + 5, none⟩)) (o_fa rfl rfl) ?_
                      refine dqg rfl (v := .pointer (some ⟨b19, 4, none⟩)) (o_fa rfl rfl) ?_
                      refine dqgyes rfl rfl ?_
                      refine dqld rfl (trivial) (v := .int .i64 ((al.getD i az).d)) ((hM73.at (i := 2) (j := 0) rfl rfl).cell 4) ?_
                      refine dgyesl rfl ?_
                      refine dl (ld (v := .int .i64 ((((leftL l t).filter (dueQ ((al.getD i az).a) ((al.getD i az).b) ((al.getD i az).c) ((al.getD i az).d))).getD k fz).rd)) rfl (hp84.get 5 rfl) ?_)
                      refine ⟨rfl, ?_⟩
                      refine dqg rfl (v := .bool (decide (¬ ((((leftL l t).filter (dueQ ((al.getD i az).a) ((al.getD i az).b) ((al.getD i az).c) ((al.getD i az).d))).getD k fz).rd) = ((al.getD i az).d)))) (o_bin rfl rfl v_neq) ?_
                      refine dqg rfl (v := .bool (decide (¬ ((((leftL l t).filter (dueQ ((al.getD i az).a) ((al.getD i az).b) ((al.getD i az).c) ((al.getD i az).d))).getD k fz).rd) = ((al.getD i az).d)))) (o_pickT rfl rfl) ?_
                      refine dq (v := .bool (decide (¬ ((((leftL l t).filter (dueQ ((al.getD i az).a) ((al.getD i az).b) ((al.getD i az).c) ((al.getD i az).d))).getD k fz).rd) = ((al.getD i az).d)))) (o_pickF rfl rfl) ?_
                      refine h72 _ _ ?_
                      clear h72
                      refine cndP rfl (fun c85 => absurd c85 (by omega)) (fun c85 => ?_)
                      refine h71 _ _ ?_
                      clear h71
                      refine seq fun K86 h86 => ?_
                      refine stp (v := y7_) (o_mv rfl) ?_
                      refine stp (v := .int .i64 (f2 : Nat)) (o_mv rfl) ?_
                      refine m_set (E := boolV) (q := true) (j := f2) hM73 (i := 1) rfl hy7_ rfl rfl (by omega) (by simp) (rfl) fun w87 r87 u87 he87 hs87 (hM87 : Mem w [] w87 [r'46, r87, [⟨b19, 49, [.int .i64 ((al.getD i az).op), .int .i64 ((al.getD i az).a), .int .i64 ((al.getD i az).b), .int .i64 ((al.getD i az).c), .int .i64 ((al.getD i az).d)]⟩], rs46]) => ?_
                      refine h86 _ _ ?_
                      clear h86
                      refine stp (v := .int .i64 ((n + k) : Nat)) (o_mv rfl) ?_
                      refine stp (v := .int .i64 (((n + k) : Nat) + 1)) (o_bin rfl rfl (v_add64 (by constructor <;> omega))) ?_
                      refine stp (v := .int .i64 (((n + k) : Nat) + 1)) (o_mv rfl) ?_
                      refine h54 _ _ ?_
                      clear h54
                      refine stp (v := .int .i64 (k : Nat)) (o_mv rfl) ?_
                      refine stp (v := .int .i64 ((k : Nat) + 1)) (o_bin rfl rfl (v_add64 (by constructor <;> omega))) ?_
                      refine stp (v := .int .i64 ((k : Nat) + 1)) (o_mv rfl) ?_
                      refine h50 (k + 1, f2, t2.set f2 true, y7_, r87) _ _ ⟨by first | rfl | exact v_int (by omega) | exact v_int (by simp) | exact v_int (by simp; omega), by first | rfl | exact v_int (by omega) | exact v_int (by simp) | exact v_int (by simp; omega), rfl, by first | rfl | exact v_int (by omega) | exact v_int (by simp) | exact v_int (by simp; omega), rfl, rfl, rfl, by first | rfl | exact v_int (by omega) | exact v_int (by simp) | exact v_int (by simp; omega), rfl, rfl, hM87, by omega, by simp; omega, by rw [he]; exact toldJ_set htd (by omega) (by omega), fun m hm => by have := drop_lt hJs (k := k) (by omega) m hm; omega, by omega, by first | exact hs87 | simpa using hs87⟩ (by (try dsimp only); omega)
                    ·
                      refine dgno rfl (by simp) ?_
                      refine dgno rfl (by simp) ?_
                      refine dgno rfl (by simp) ?_
                      refine dgno rfl (by simp) ?_
                      refine dgno rfl (by simp) ?_
                      refine dqgno rfl (by simp) ?_
                      refine dgnol rfl (by simp) ?_
                      refine dgno rfl (by simp) ?_
                      refine dqg rfl (v := .bool false) (o_pickF rfl rfl) ?_
                      refine dq (v := .bool false) (o_pickF rfl rfl) ?_
                      refine h72 _ _ ?_
                      clear h72
                      refine cndF rfl ?_
                      refine h71 _ _ ?_
                      clear h71
                      refine seq fun K88 h88 => ?_
                      refine stp (v := y7_) (o_mv rfl) ?_
                      refine stp (v := .int .i64 (f2 : Nat)) (o_mv rfl) ?_
                      refine m_set (E := boolV) (q := true) (j := f2) hM73 (i := 1) rfl hy7_ rfl rfl (by omega) (by simp) (rfl) fun w89 r89 u89 he89 hs89 (hM89 : Mem w [] w89 [r'46, r89, [⟨b19, 49, [.int .i64 ((al.getD i az).op), .int .i64 ((al.getD i az).a), .int .i64 ((al.getD i az).b), .int .i64 ((al.getD i az).c), .int .i64 ((al.getD i az).d)]⟩], rs46]) => ?_
                      refine h88 _ _ ?_
                      clear h88
                      refine stp (v := .int .i64 ((n + k) : Nat)) (o_mv rfl) ?_
                      refine stp (v := .int .i64 (((n + k) : Nat) + 1)) (o_bin rfl rfl (v_add64 (by constructor <;> omega))) ?_
                      refine stp (v := .int .i64 (((n + k) : Nat) + 1)) (o_mv rfl) ?_
                      refine h54 _ _ ?_
                      clear h54
                      refine stp (v := .int .i64 (k : Nat)) (o_mv rfl) ?_
                      refine stp (v := .int .i64 ((k : Nat) + 1)) (o_bin rfl rfl (v_add64 (by constructor <;> omega))) ?_
                      refine stp (v := .int .i64 ((k : Nat) + 1)) (o_mv rfl) ?_
                      refine h50 (k + 1, f2, t2.set f2 true, y7_, r89) _ _ ⟨by first | rfl | exact v_int (by omega) | exact v_int (by simp) | exact v_int (by simp; omega), by first | rfl | exact v_int (by omega) | exact v_int (by simp) | exact v_int (by simp; omega), rfl, by first | rfl | exact v_int (by omega) | exact v_int (by simp) | exact v_int (by simp; omega), rfl, rfl, rfl, by first | rfl | exact v_int (by omega) | exact v_int (by simp) | exact v_int (by simp; omega), rfl, rfl, hM89, by omega, by simp; omega, by rw [he]; exact toldJ_set htd (by omega) (by omega), fun m hm => by have := drop_lt hJs (k := k) (by omega) m hm; omega, by omega, by first | exact hs89 | simpa using hs89⟩ (by (try dsimp only); omega)
              ·
                refine h16 _ _ ?_
                clear h16
                refine stp (v := .int .i64 (i : Nat)) (o_mv rfl) ?_
                refine stp (v := .int .i64 ((i : Nat) + 1)) (o_bin rfl rfl (v_add64 (by constructor <;> omega))) ?_
                refine stp (v := .int .i64 ((i : Nat) + 1)) (o_mv rfl) ?_
                refine h12 (i + 1, n + k, t2, r'46, y7_, r7_) _ _ ⟨rfl, rfl, by first | rfl | exact v_int (by omega) | exact v_int (by simp) | exact v_int (by simp; omega), by first | rfl | exact v_int (by omega) | exact v_int (by simp) | exact v_int (by simp; omega), rfl, rfl, hM49.keep (by simp), by rw [told_left (t := t) (q := dueQ (al.getD i az).a (al.getD i az).b (al.getD i az).c (al.getD i az).d) (by rw [← hJ]; rw [List.take_of_length_le (by omega)] at htd; exact htd)]; exact hp46, by omega, by rw [told_left (t := t) (q := dueQ (al.getD i az).a (al.getD i az).b (al.getD i az).c (al.getD i az).d) (by rw [← hJ]; rw [List.take_of_length_le (by omega)] at htd; exact htd)]; have := len_split (dueQ (al.getD i az).a (al.getD i az).b (al.getD i az).c (al.getD i az).d) (leftL l t); omega, by omega, by first | exact hy7_ | simpa using hy7_⟩ (by (try dsimp only); omega)
          ·
            refine h16 _ _ ?_
            clear h16
            refine stp (v := .int .i64 (i : Nat)) (o_mv rfl) ?_
            refine stp (v := .int .i64 ((i : Nat) + 1)) (o_bin rfl rfl (v_add64 (by constructor <;> omega))) ?_
            refine stp (v := .int .i64 ((i : Nat) + 1)) (o_mv rfl) ?_
            refine h12 (i + 1, n, t, rp, y7_, r7_) _ _ ⟨rfl, rfl, by first | rfl | exact v_int (by omega) | exact v_int (by simp) | exact v_int (by simp; omega), by first | rfl | exact v_int (by omega) | exact v_int (by simp) | exact v_int (by simp; omega), rfl, rfl, hM21.keep (by simp), hpl, by omega, by omega, by omega, by first | exact hy7_ | simpa using hy7_⟩ (by (try dsimp only); omega)
      ·
        refine h9 _ _ ?_
        clear h9
        refine seq fun K90 h90 => ?_
        refine stp (v := .pointer (some ⟨bp3, 0, none⟩)) (o_mv rfl) ?_
        refine m_call (Left_ok _ (leftL l t) rp w11 hpl (hM11.res (i := 0) rfl) (by first | assumption | omega | (simp; done) | (simp; omega) | decide +kernel)) rfl fun v91 w91 ⟨rs91, hs91, hm91⟩ => ?_
        have hM91 : Mem w [] w91 [rp, r7_, rs91] := hM11.stepAdd 0 rfl hm91
        refine stp (v := v91) (o_mv rfl) ?_
        refine h90 _ _ ?_
        clear h90
        refine seq fun K92 h92 => ?_
        refine stp (v := .int .i64 0) (o_mv rfl) ?_
        refine h92 _ _ ?_
        clear h92
        refine seq fun K93 h93 => ?_
        refine seq fun K94 h94 => ?_
        refine stp (v := .int .i64 0) (o_mv rfl) ?_
        refine h94 _ _ ?_
        clear h94
        refine lp (n := fun _ _ => False) (ι := (Nat) × (Nat)) (fun ⟨i2, k⟩ f w' => f 19 = .int .i64 (i2 : Nat) ∧ f 18 = .int .i64 (k : Nat) ∧ f 0 = x ∧ f 7 = y7_ ∧ f 8 = .int .i64 (n : Nat) ∧ f 17 = v91 ∧ Mem w [] w' [rp, r7_, rs91] ∧ (i2 ≤ l.length) ∧ (k = cntL t i2)) (fun ⟨i2, k⟩ => l.length - i2) (0, 0) ?_ ?_
        · exact ⟨by first | rfl | exact v_int (by omega) | exact v_int (by simp) | exact v_int (by simp; omega), by first | rfl | exact v_int (by omega) | exact v_int (by simp) | exact v_int (by simp; omega), rfl, rfl, by first | rfl | exact v_int (by omega) | exact v_int (by simp) | exact v_int (by simp; omega), rfl, hM91, by omega, rfl⟩
        · rintro ⟨i2, k⟩ f w95 ⟨e95_19, e95_18, e95_0, e95_7, e95_8, e95_17, hM95, hi2, hk⟩ K96 h96
          obtain ⟨frm, rfl⟩ : ∃ frm, f = (upd (upd (upd (upd (upd (upd frm 19 (.int .i64 (i2 : Nat))) 18 (.int .i64 (k : Nat))) 0 (x)) 7 (y7_)) 8 (.int .i64 (n : Nat))) 17 (v91)) := ⟨f, by rw [upd_self e95_19, upd_self e95_18, upd_self e95_0, upd_self e95_7, upd_self e95_8, upd_self e95_17]⟩
          clear e95_19 e95_18 e95_0 e95_7 e95_8 e95_17
          refine seq fun K97 h97 => ?_
          refine seq fun K98 h98 => ?_
          refine stp (v := .int .i64 (i2 : Nat)) (o_mv rfl) ?_
          refine stp (v := x) (o_mv rfl) ?_
          refine stp (v := .int .i64 (l.length : Nat)) (o_lenR (hx.upd hM95.upd) rfl rfl) ?_
          refine stp (v := .bool (decide (((i2 : Nat) : Int) < (l.length : Nat)))) (o_bin rfl rfl rfl) ?_
          refine h98 _ _ ?_
          clear h98
          refine cndP rfl (fun c99 => ?_) (fun c99 => ?_)
          ·
            refine h97 _ _ ?_
            clear h97
            refine seq fun K100 h100 => ?_
            refine seq fun K101 h101 => ?_
            refine seq fun K102 h102 => ?_
            refine stp (v := y7_) (o_mv rfl) ?_
            refine stp (v := .int .i64 (i2 : Nat)) (o_mv rfl) ?_
            refine m_idxE false (j := i2) (hy7_.rd hM95 (i := 1) rfl) rfl rfl (by omega) fun b103 o103 hp103 => ?_
            refine ld (v := .bool (t.getD i2 false)) rfl (hp103) ?_
            refine h102 _ _ ?_
            clear h102
            refine cnd rfl (fun hTt => ?_) (fun hTf => ?_)
            ·
              refine h100 _ _ ?_
              clear h100
              refine stp (v := .int .i64 (i2 : Nat)) (o_mv rfl) ?_
              refine stp (v := .int .i64 ((i2 : Nat) + 1)) (o_bin rfl rfl (v_add64 (by constructor <;> omega))) ?_
              refine stp (v := .int .i64 ((i2 : Nat) + 1)) (o_mv rfl) ?_
              refine h96 (i2 + 1, k) _ _ ⟨by first | rfl | exact v_int (by omega) | exact v_int (by simp) | exact v_int (by simp; omega), by first | rfl | exact v_int (by omega) | exact v_int (by simp) | exact v_int (by simp; omega), rfl, rfl, by first | rfl | exact v_int (by omega) | exact v_int (by simp) | exact v_int (by simp; omega), rfl, hM95, by omega, by rw [cnt_told hTt]; exact hk⟩ (by (try dsimp only); omega)
            ·
              refine h101 _ _ ?_
              clear h101
              refine seq fun K105 h105 => ?_
              refine seq fun K106 h106 => ?_
              intro wd e1 e2 e3 e4
              have hd := Upd.same e1 e2 e3 e4 []
              have hM107 := hM95.pure hd
              clear e1 e2 e3 e4
              refine ⟨none, ?_⟩
              show vd _ _ _ _ _ _ _
              have hca := cnt_at (l := l) (t := t) (i := i2) (by omega) (by rw [hTf]; decide)
              refine dq (v := .int .i64 (k : Nat)) (o_mv rfl) ?_
              refine dq (v := v91) (o_mv rfl) ?_
              refine dq (v := .int .i64 ((leftL l t).length : Nat)) (o_lenR (hs91.rd hM107 (i := 2) rfl) rfl rfl) ?_
              refine dq (v := .bool (decide ((((leftL l t).length : Nat) : Int) ≤ ((k : Nat) : Int)))) (o_bin rfl rfl rfl) ?_
              refine dq (v := .bool (decide ((((leftL l t).length : Nat) : Int) ≤ ((k : Nat) : Int)))) (o_mv rfl) ?_
              refine dsplitP rfl (fun c108 => absurd c108 (by omega)) (fun c108 => ?_)
              refine dqg rfl (v := v91) (o_mv rfl) ?_
              refine dqg rfl (v := .int .i64 (k : Nat)) (o_mv rfl) ?_
              refine dgyes rfl rfl (dqp (m_idxS fz (j := k) (hs91.rd hM107 (i := 2) rfl) rfl rfl (by omega) fun b109 o109 hp109 => ?_))
              show vd _ _ _ _ _ _ _
              refine dqg rfl (v := x) (o_mv rfl) ?_
              refine dqg rfl (v := .int .i64 (i2 : Nat)) (o_mv rfl) ?_
              refine dgyes rfl rfl (dqp (m_idxS fz (j := i2) (hx.upd hM107.upd) rfl rfl (by omega) fun b110 o110 hp110 => ?_))
              show vd _ _ _ _ _ _ _
              refine dqgyes rfl rfl ?_
              refine dqldA (cs := [.int .i64 ((l.getD i2 fz).kind), .int .i64 ((l.getD i2 fz).tk), .int .i64 ((l.getD i2 fz).task), .int .i64 ((l.getD i2 fz).att), .int .i64 ((l.getD i2 fz).mom), .int .i64 ((l.getD i2 fz).rd), .int .i64 ((l.getD i2 fz).at_), .int .u32 ((l.getD i2 fz).mask)]) rfl (trivial) rfl (hp110.row (k := 0) rfl rfl) ?_
              refine dgyesl rfl ?_
              refine dl (ldA (cs := [.int .i64 (((leftL l t).getD k fz).kind), .int .i64 (((leftL l t).getD k fz).tk), .int .i64 (((leftL l t).getD k fz).task), .int .i64 (((leftL l t).getD k fz).att), .int .i64 (((leftL l t).getD k fz).mom), .int .i64 (((leftL l t).getD k fz).rd), .int .i64 (((leftL l t).getD k fz).at_), .int .u32 (((leftL l t).getD k fz).mask)]) rfl rfl (hp109.row (k := 0) rfl rfl) ?_)
              refine ⟨rfl, ?_⟩
              refine dqg rfl (v := .bool (!(decide ((((leftL l t).getD k fz).kind) = ((l.getD i2 fz).kind)) && (decide ((((leftL l t).getD k fz).tk) = ((l.getD i2 fz).tk)) && (decide ((((leftL l t).getD k fz).task) = ((l.getD i2 fz).task)) && (decide ((((leftL l t).getD k fz).att) = ((l.getD i2 fz).att)) && (decide ((((leftL l t).getD k fz).mom) = ((l.getD i2 fz).mom)) && (decide ((((leftL l t).getD k fz).rd) = ((l.getD i2 fz).rd)) && (decide ((((leftL l t).getD k fz).at_) = ((l.getD i2 fz).at_)) && (decide ((((leftL l t).getD k fz).mask) = ((l.getD i2 fz).mask)) && true)))))))))) (o_aeq (t := (decide ((((leftL l t).getD k fz).kind) = ((l.getD i2 fz).kind)) && (decide ((((leftL l t).getD k fz).tk) = ((l.getD i2 fz).tk)) && (decide ((((leftL l t).getD k fz).task) = ((l.getD i2 fz).task)) && (decide ((((leftL l t).getD k fz).att) = ((l.getD i2 fz).att)) && (decide ((((leftL l t).getD k fz).mom) = ((l.getD i2 fz).mom)) && (decide ((((leftL l t).getD k fz).rd) = ((l.getD i2 fz).rd)) && (decide ((((leftL l t).getD k fz).at_) = ((l.getD i2 fz).at_)) && (decide ((((leftL l t).getD k fz).mask) = ((l.getD i2 fz).mask)) && true))))))))) rfl rfl (by simp [eqCs, eqC, toList_str, Int.natCast_inj]) rfl) ?_
              refine dq (v := .bool (!(decide ((((leftL l t).getD k fz).kind) = ((l.getD i2 fz).kind)) && (decide ((((leftL l t).getD k fz).tk) = ((l.getD i2 fz).tk)) && (decide ((((leftL l t).getD k fz).task) = ((l.getD i2 fz).task)) && (decide ((((leftL l t).getD k fz).att) = ((l.getD i2 fz).att)) && (decide ((((leftL l t).getD k fz).mom) = ((l.getD i2 fz).mom)) && (decide ((((leftL l t).getD k fz).rd) = ((l.getD i2 fz).rd)) && (decide ((((leftL l t).getD k fz).at_) = ((l.getD i2 fz).at_)) && (decide ((((leftL l t).getD k fz).mask) = ((l.getD i2 fz).mask)) && true)))))))))) (o_pickF rfl rfl) ?_
              refine h106 _ _ ?_
              clear h106
              refine cnd rfl (fun c111 => absurd c111 (show ¬ (!(decide ((((leftL l t).getD k fz).kind) = ((l.getD i2 fz).kind)) && (decide ((((leftL l t).getD k fz).tk) = ((l.getD i2 fz).tk)) && (decide ((((leftL l t).getD k fz).task) = ((l.getD i2 fz).task)) && (decide ((((leftL l t).getD k fz).att) = ((l.getD i2 fz).att)) && (decide ((((leftL l t).getD k fz).mom) = ((l.getD i2 fz).mom)) && (decide ((((leftL l t).getD k fz).rd) = ((l.getD i2 fz).rd)) && (decide ((((leftL l t).getD k fz).at_) = ((l.getD i2 fz).at_)) && (decide ((((leftL l t).getD k fz).mask) = ((l.getD i2 fz).mask)) && true))))))))) = true from (by rw [hk, hca.2]; simp))) (fun c111 => ?_)
              refine h105 _ _ ?_
              clear h105
              refine stp (v := .int .i64 (k : Nat)) (o_mv rfl) ?_
              refine stp (v := .int .i64 ((k : Nat) + 1)) (o_bin rfl rfl (v_add64 (by constructor <;> omega))) ?_
              refine stp (v := .int .i64 ((k : Nat) + 1)) (o_mv rfl) ?_
              refine h100 _ _ ?_
              clear h100
              refine stp (v := .int .i64 (i2 : Nat)) (o_mv rfl) ?_
              refine stp (v := .int .i64 ((i2 : Nat) + 1)) (o_bin rfl rfl (v_add64 (by constructor <;> omega))) ?_
              refine stp (v := .int .i64 ((i2 : Nat) + 1)) (o_mv rfl) ?_
              refine h96 (i2 + 1, k + 1) _ _ ⟨by first | rfl | exact v_int (by omega) | exact v_int (by simp) | exact v_int (by simp; omega), by first | rfl | exact v_int (by omega) | exact v_int (by simp) | exact v_int (by simp; omega), rfl, rfl, by first | rfl | exact v_int (by omega) | exact v_int (by simp) | exact v_int (by simp; omega), rfl, hM107, by omega, by rw [cnt_left (by rw [hTf]; decide), hk]⟩ (by (try dsimp only); omega)
          ·
            refine h93 _ _ ?_
            clear h93
            refine seq fun K112 h112 => ?_
            have hca := cnt_all l t
            rw [show l.length = i2 by omega] at hca
            refine stp (v := .int .i64 (k : Nat)) (o_mv rfl) ?_
            refine stp (v := v91) (o_mv rfl) ?_
            refine stp (v := .int .i64 ((leftL l t).length : Nat)) (o_lenR (hs91.rd hM95 (i := 2) rfl) rfl rfl) ?_
            refine stp (v := .bool (decide (((k : Nat) : Int) = ((leftL l t).length : Nat)))) (o_bin rfl rfl rfl) ?_
            refine stp (v := .bool (decide (((k : Nat) : Int) = ((leftL l t).length : Nat)))) (o_mv rfl) ?_
            refine splitP rfl (fun c113 => ?_) (fun c113 => (c113 (by omega)).elim)
            refine stg rfl (v := .int .i64 (n : Nat)) (o_mv rfl) ?_
            refine stg rfl (v := .int .i64 (k : Nat)) (o_mv rfl) ?_
            refine stg rfl (v := .int .i64 ((n : Nat) + (k : Nat))) (o_bin rfl rfl (v_add64 (by constructor <;> omega))) ?_
            refine stg rfl (v := x) (o_mv rfl) ?_
            refine stg rfl (v := .int .i64 (l.length : Nat)) (o_lenR (hx.upd hM95.upd) rfl rfl) ?_
            refine stg rfl (v := .bool (decide (((n : Nat) + (k : Nat) : Int) = (l.length : Nat)))) (o_bin rfl rfl rfl) ?_
            refine stp (v := .bool (decide (((n : Nat) + (k : Nat) : Int) = (l.length : Nat)))) (o_pickT rfl rfl) ?_
            refine stp (v := .bool (decide (((n : Nat) + (k : Nat) : Int) = (l.length : Nat)))) (o_mv rfl) ?_
            refine splitP rfl (fun c114 => ?_) (fun c114 => (c114 (by omega)).elim)
            refine gyesl rfl ?_
            refine m_call (works_ok w95) rfl fun v115 w115 ⟨hr115, hu115⟩ => ?_
            have hM115 : Mem w [] w115 [rp, r7_, rs91] := hM95.pure hu115
            subst hr115
            refine stp (v := .bool true) (o_pickT rfl rfl) ?_
            refine stp (v := .bool true) (o_mv rfl) ?_
            refine h112 _ _ ?_
            clear h112
            refine ⟨(.bool true), rfl, ?_⟩
            exact ⟨rfl, hM115.upd⟩
  ·
    refine m_call (New_bad _ l w (hx.upd hM0.upd) (by first | exact hok | assumption) (by first | omega | (simp; done) | (simp; omega)) (by first | exact hc | assumption)) rfl fun v116 w116 ⟨hr116, hu116⟩ => ?_
    have hM116 : Mem w [] w116 [] := hM0.pure hu116
    subst hr116
    refine stp (v := .tuple [.pointer none, .int .i64 (check l)].toArray) (o_mv rfl) ?_
    refine stp (v := .pointer none) (o_ext rfl rfl) ?_
    refine stp (v := .int .i64 (check l)) (o_ext rfl rfl) ?_
    refine stp (v := .pointer none) (o_mv rfl) ?_
    refine stp (v := .int .i64 (check l)) (o_mv rfl) ?_
    refine h2 _ _ ?_
    clear h2
    refine seq fun K117 h117 => ?_
    refine seq fun K118 h118 => ?_
    refine stp (v := .int .i64 (check l)) (o_mv rfl) ?_
    refine stp (v := .bool (decide (¬ (check l) = 0))) (o_bin rfl rfl v_neq) ?_
    refine h118 _ _ ?_
    clear h118
    refine cndP rfl (fun c119 => ?_) (fun c119 => (c119 (hc)).elim)
    refine seq fun K120 h120 => ?_
    refine stp (v := .pointer none) (o_mv rfl) ?_
    refine stp (v := .bool true) (o_isnil rfl rfl) ?_
    refine stp (v := .bool true) (o_mv rfl) ?_
    refine splitT rfl ?_
    refine gyesl rfl ?_
    refine m_call (works_ok w116) rfl fun v121 w121 ⟨hr121, hu121⟩ => ?_
    have hM121 : Mem w [] w121 [] := hM116.pure hu121
    subst hr121
    refine stp (v := .bool true) (o_pickT rfl rfl) ?_
    refine stp (v := .bool true) (o_mv rfl) ?_
    refine h120 _ _ ?_
    clear h120
    refine ⟨(.bool true), rfl, ?_⟩
    exact ⟨rfl, hM121.upd⟩

theorem open_ask {W : World} {cs : List Value} (h : Arg Try.prog W 49 cs) : ∃ f : Ask, cs = askC f ∧ f.ok := by
  obtain ⟨hl, hf⟩ := h.struct Try.underlying49
  have c3 : Try.prog.cellsOf 3 = 1 := by kernel_rfl
  rw [show Try.prog.cellsOf 49 = 5 by kernel_rfl] at hl
  match cs, hl with
  | [a0, a1, a2, a3, a4], _ =>
    obtain ⟨n0, e0, k0⟩ := (hf 0 _ rfl).int Try.underlying3
    obtain rfl : a0 = .int .i64 n0 := by simpa [c3] using e0
    obtain ⟨n1, e1, k1⟩ := (hf 1 _ rfl).int Try.underlying3
    obtain rfl : a1 = .int .i64 n1 := by simpa [c3] using e1
    obtain ⟨n2, e2, k2⟩ := (hf 2 _ rfl).int Try.underlying3
    obtain rfl : a2 = .int .i64 n2 := by simpa [c3] using e2
    obtain ⟨n3, e3, k3⟩ := (hf 3 _ rfl).int Try.underlying3
    obtain rfl : a3 = .int .i64 n3 := by simpa [c3] using e3
    obtain ⟨n4, e4, k4⟩ := (hf 4 _ rfl).int Try.underlying3
    obtain rfl : a4 = .int .i64 n4 := by simpa [c3] using e4
    exact ⟨⟨n0, n1, n2, n3, n4⟩, rfl, k0, k1, k2, k3, k4⟩

theorem open_asks {W : World} {cs : List Value} (h : Arg Try.prog W 33 cs) : ∃ (v : Value) (l : List Ask), cs = [v] ∧ RdS askC W v l ∧ (∀ x ∈ l, x.ok) ∧ l.length * 40 ≤ 140737488351232 := by
  have := h.slices Try.underlying33 (fun c hc _ => open_ask hc)
  rwa [show Try.prog.bytesOf 49 = 40 by kernel_rfl] at this
