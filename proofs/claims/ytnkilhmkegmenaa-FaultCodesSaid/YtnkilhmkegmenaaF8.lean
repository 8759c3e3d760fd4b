/- Whoever asks rightly is told. -/
import Derived.Test.YtnkilhmkegmenaaF7
namespace Go.Proofs.Ytnkilhmkegmenaa.E
open Go
theorem len_split (q : Flt → Bool) : ∀ l : List Flt, (l.filter q).length + (l.filter (!q ·)).length = l.length
  | [] => rfl
  | f :: l => by
    have ih := len_split q l
    by_cases c : q f = true
    · rw [List.filter_cons_of_pos c, List.filter_cons_of_neg (by simpa using c)]; simp only [List.length_cons]; omega
    · rw [List.filter_cons_of_neg c, List.filter_cons_of_pos (by simpa using c)]; simp only [List.length_cons]; omega
theorem comes_filter {l : List Flt} {f : Flt} (hu : uniq l) (hm : f ∈ l) (hk : f.kind = 0) : l.filter (stopQ (0, f.tk, f.task, f.att)) = [f] := by
  have h1 := filter_one (p := (0, f.tk, f.task, f.att)) hu
  have h2 : f ∈ l.filter (stopQ (0, f.tk, f.task, f.att)) := List.mem_filter.2 ⟨hm, sq_yes ⟨hk, rfl, rfl, rfl⟩⟩
  cases hf : l.filter (stopQ (0, f.tk, f.task, f.att)) with
  | nil => rw [hf] at h2; cases h2
  | cons g r =>
    cases r with
    | nil => rw [hf, List.mem_singleton] at h2; rw [h2]
    | cons g2 r => rw [hf] at h1; simp at h1
theorem comes_stop {l : List Flt} {f : Flt} (hu : uniq l) (hm : f ∈ l) (hk : f.kind = 0) : stopV l (0, f.tk, f.task, f.att) = (f.at_, true) := by
  unfold stopV; rw [comes_filter hu hm hk]
theorem comes_len {l : List Flt} {f : Flt} (hu : uniq l) (hm : f ∈ l) (hk : f.kind = 0) : (l.filter (!stopQ (0, f.tk, f.task, f.att) ·)).length + 1 = l.length := by
  have := len_split (stopQ (0, f.tk, f.task, f.att)) l
  rw [comes_filter hu hm hk, List.length_singleton] at this; omega
/-- what is kept of the entries that are still to come, behind the question for entry i -/
def Inv (l lp : List Flt) (i : Nat) : Prop := uniq lp ∧ (∀ x ∈ lp, x ∈ l) ∧ (∀ j, j < i → l.getD j fz ∉ lp) ∧ (∀ j, i ≤ j → j < l.length → (l.getD j fz).kind = 0 → l.getD j fz ∈ lp)
theorem getL_mem {l : List Flt} {i : Nat} (h : i < l.length) : l.getD i fz ∈ l := by
  rw [List.getD_eq_getElem?_getD, List.getElem?_eq_getElem h]; exact List.getElem_mem h
theorem Inv.zero {l : List Flt} (h : fine l) : Inv l l 0 := ⟨fine_uniq h, fun _ hx => hx, fun j hj => by omega, fun j _ hj _ => getL_mem hj⟩
theorem Inv.stop {l lp : List Flt} {i : Nat} (hf : fine l) (h : Inv l lp i) (hi : i < l.length) (hk : (l.getD i fz).kind = 0) : Inv l (lp.filter (!stopQ (0, (l.getD i fz).tk, (l.getD i fz).task, (l.getD i fz).att) ·)) (i + 1) := by
  obtain ⟨h1, h2, h3, h4⟩ := h
  refine ⟨uniq_filter h1 _, fun x hx => h2 x (List.mem_filter.1 hx).1, fun j hj hm => ?_, fun j hij hj hk2 => ?_⟩
  · obtain ⟨hm1, hm2⟩ := List.mem_filter.1 hm
    by_cases e : j = i
    · subst e
      rw [sq_yes ⟨hk, rfl, rfl, rfl⟩] at hm2; simp at hm2
    · exact h3 j (by omega) hm1
  · refine List.mem_filter.2 ⟨h4 j (by omega) hj hk2, ?_⟩
    have : ¬ stopQ (0, (l.getD i fz).tk, (l.getD i fz).task, (l.getD i fz).att) (l.getD j fz) = true := sq_no fun ⟨_, a, b, c⟩ => (hf j hj).2 i (by omega) (by unfold placeP; rw [hk, hk2, a, b, c])
    simpa using this
theorem Inv.due {l lp : List Flt} {i : Nat} (h : Inv l lp i) (hk : ¬ (l.getD i fz).kind = 0) : Inv l (lp.filter (!dueQ (l.getD i fz).task (l.getD i fz).att (l.getD i fz).mom (l.getD i fz).rd ·)) (i + 1) := by
  obtain ⟨h1, h2, h3, h4⟩ := h
  refine ⟨uniq_filter h1 _, fun x hx => h2 x (List.mem_filter.1 hx).1, fun j hj hm => ?_, fun j hij hj hk2 => ?_⟩
  · obtain ⟨hm1, hm2⟩ := List.mem_filter.1 hm
    by_cases e : j = i
    · subst e
      rw [dq_yes ⟨hk, rfl, rfl, rfl, .inr rfl⟩] at hm2; simp at hm2
    · exact h3 j (by omega) hm1
  · refine List.mem_filter.2 ⟨h4 j (by omega) hj hk2, ?_⟩
    have : ¬ dueQ (l.getD i fz).task (l.getD i fz).att (l.getD i fz).mom (l.getD i fz).rd (l.getD j fz) = true := dq_no fun hd => hd.1 hk2
    simpa using this
theorem Inv.last {l lp : List Flt} {i : Nat} (h : Inv l lp i) (hi : l.length ≤ i) : lp.length = 0 := by
  obtain ⟨h1, h2, h3, h4⟩ := h
  cases lp with
  | nil => rfl
  | cons x r =>
    exfalso
    obtain ⟨j, hj, e⟩ := List.getElem_of_mem (h2 x (by simp))
    apply h3 j (by omega)
    rw [List.getD_eq_getElem?_getD, List.getElem?_eq_getElem hj]
    show l[j] ∈ _
    rw [e]; simp

/-- winnowlaw16.FaultComes -/
theorem FaultComes_ok (x : Value) (l : List Flt) (w : World) (hx : RdS fltC w x l) (hok : ∀ y ∈ l, y.ok) (hl : l.length * 64 ≤ 140737488351232) : Calls Try.prog 7 [x].toArray w (Rt fun r w' => r = .bool true ∧ Upd [] w w') := by
  have hM0 : Mem w [] w [] := Mem.nil w []
  refine calls_vc mixed Try.func7 rfl C7 (by simp [Try.ntmps7]) ?_
  refine seq fun K1 h1 => ?_
  refine stp (v := .bool false) (o_mv rfl) ?_
  refine h1 _ _ ?_
  clear h1
  refine seq fun K2 h2 => ?_
  rcases (Classical.em (check l = 0)) with hc | hc
  ·
    refine stp (v := x) (o_mv rfl) ?_
    refine m_call (New_good _ l w (hx.upd hM0.upd) (by first | exact hok | assumption) (by first | omega | (simp; done) | (simp; omega)) (by first | exact hc | assumption)) rfl fun v3 w3 ⟨v_3, rs3, hr3, hp3, hm3⟩ => ?_
    have hM3 : Mem w [] w3 [rs3] := hM0.add hm3
    subst hr3
    obtain ⟨bp3, rfl⟩ := PlanS.ptr hp3
    refine stp (v := .tuple [.pointer (some ⟨bp3, 0, none⟩), .int .i64 0].toArray) (o_mv rfl) ?_
    refine stp (v := .pointer (some ⟨bp3, 0, none⟩)) (o_ext rfl rfl) ?_
    refine stp (v := .int .i64 0) (o_ext rfl rfl) ?_
    refine stp (v := .pointer (some ⟨bp3, 0, none⟩)) (o_mv rfl) ?_
    refine stp (v := .int .i64 0) (o_mv rfl) ?_
    refine h2 _ _ ?_
    clear h2
    refine seq fun K4 h4 => ?_
    refine seq fun K5 h5 => ?_
    refine stp (v := .int .i64 0) (o_mv rfl) ?_
    refine stp (v := .bool false) (o_bin rfl rfl v_neF) ?_
    refine h5 _ _ ?_
    clear h5
    refine cndF rfl ?_
    refine h4 _ _ ?_
    clear h4
    refine seq fun K6 h6 => ?_
    refine stp (v := .int .i64 0) (o_mv rfl) ?_
    refine h6 _ _ ?_
    clear h6
    refine seq fun K7 h7 => ?_
    refine seq fun K8 h8 => ?_
    refine stp (v := .int .i64 0) (o_mv rfl) ?_
    refine h8 _ _ ?_
    clear h8
    refine lp (n := fun _ _ => False) (ι := (Nat) × (Nat) × (List Flt) × (List Ent)) (fun ⟨i, n, lp, rp⟩ f w' => f 3 = .pointer (some ⟨bp3, 0, none⟩) ∧ f 5 = .int .i64 (n : Nat) ∧ f 6 = .int .i64 (i : Nat) ∧ f 0 = x ∧ Mem w [] w' [rp] ∧ (PlanS 72 (.pointer (some ⟨bp3, 0, none⟩)) lp rp) ∧ (Inv l lp i) ∧ (n + lp.length = l.length) ∧ (i ≤ l.length)) (fun ⟨i, n, lp, rp⟩ => l.length - i) (0, 0, l, rs3) ?_ ?_
    · exact ⟨rfl, by first | rfl | exact v_int (by omega) | exact v_int (by simp) | exact v_int (by simp; omega), by first | rfl | exact v_int (by omega) | exact v_int (by simp) | exact v_int (by simp; omega), rfl, hM3, hp3, Inv.zero (check_zero hc).2, by omega, by omega⟩
    · rintro ⟨i, n, lp, rp⟩ f w9 ⟨e9_3, e9_5, e9_6, e9_0, hM9, hpl, hI, hn, hi⟩ K10 h10
      obtain ⟨frm, rfl⟩ : ∃ frm, f = (upd (upd (upd (upd frm 3 (.pointer (some ⟨bp3, 0, none⟩))) 5 (.int .i64 (n : Nat))) 6 (.int .i64 (i : Nat))) 0 (x)) := ⟨f, by rw [upd_self e9_3, upd_self e9_5, upd_self e9_6, upd_self e9_0]⟩
      clear e9_3 e9_5 e9_6 e9_0
      refine seq fun K11 h11 => ?_
      refine seq fun K12 h12 => ?_
      have hlen := (check_zero hc).1
      refine stp (v := .int .i64 (i : Nat)) (o_mv rfl) ?_
      refine stp (v := x) (o_mv rfl) ?_
      refine stp (v := .int .i64 (l.length : Nat)) (o_lenR (hx.upd hM9.upd) rfl rfl) ?_
      refine stp (v := .bool (decide (((i : Nat) : Int) < (l.length : Nat)))) (o_bin rfl rfl rfl) ?_
      refine h12 _ _ ?_
      clear h12
      refine cndP rfl (fun c13 => ?_) (fun c13 => ?_)
      ·
        refine h11 _ _ ?_
        clear h11
        refine seq fun K14 h14 => ?_
        refine seq fun K15 h15 => ?_
        refine stp (v := x) (o_mv rfl) ?_
        refine stp (v := .int .i64 (i : Nat)) (o_mv rfl) ?_
        refine m_idxS fz (j := i) (hx.upd hM9.upd) rfl rfl (by omega) fun b16 o16 hp16 => ?_
        refine ldA (cs := [.int .i64 ((l.getD i fz).kind), .int .i64 ((l.getD i fz).tk), .int .i64 ((l.getD i fz).task), .int .i64 ((l.getD i fz).att), .int .i64 ((l.getD i fz).mom), .int .i64 ((l.getD i fz).rd), .int .i64 ((l.getD i fz).at_), .int .u32 ((l.getD i fz).mask)]) rfl rfl (hp16.row (k := 0) rfl rfl) ?_
        refine m_al hM9 fun b17 w18 (hM18 : Mem w [] w18 [rp, [⟨b17, 25, [.int .i64 0, .int .i64 0, .int .i64 0, .int .i64 0, .int .i64 0, .int .i64 0, .int .i64 0, .int .u32 0]⟩]]) => ?_
        refine m_stA (l := [.int .i64 ((l.getD i fz).kind), .int .i64 ((l.getD i fz).tk), .int .i64 ((l.getD i fz).task), .int .i64 ((l.getD i fz).att), .int .i64 ((l.getD i fz).mom), .int .i64 ((l.getD i fz).rd), .int .i64 ((l.getD i fz).at_), .int .u32 ((l.getD i fz).mask)]) hM18 (i := 1) rfl rfl rfl rfl (by simp [oneCells, Value.oneCell', byteV]) (by simp) fun w19 (hM19 : Mem w [] w19 [rp, [⟨b17, 25, [.int .i64 ((l.getD i fz).kind), .int .i64 ((l.getD i fz).tk), .int .i64 ((l.getD i fz).task), .int .i64 ((l.getD i fz).att), .int .i64 ((l.getD i fz).mom), .int .i64 ((l.getD i fz).rd), .int .i64 ((l.getD i fz).at_), .int .u32 ((l.getD i fz).mask)]⟩]]) => ?_
        refine h15 _ _ ?_
        clear h15
        refine seq fun K20 h20 => ?_
        refine seq fun K21 h21 => ?_
        refine stp (v := .pointer (some ⟨b17, 0, none⟩)) (o_fa rfl rfl) ?_
        refine m_ld (v := .int .i64 ((l.getD i fz).kind)) hM19 (i := 1) (j := 0) rfl rfl rfl rfl ?_
        refine stp (v := .bool (decide (((l.getD i fz).kind) = 0))) (o_bin rfl rfl rfl) ?_
        refine h21 _ _ ?_
        clear h21
        refine cndP rfl (fun c22 => ?_) (fun c22 => ?_)
        ·
          refine seq fun K23 h23 => ?_
          refine stp (v := .pointer (some ⟨bp3, 0, none⟩)) (o_mv rfl) ?_
          refine stp (v := .pointer (some ⟨b17, 1, none⟩)) (o_fa rfl rfl) ?_
          refine m_ld (v := .int .i64 ((l.getD i fz).tk)) hM19 (i := 1) (j := 0) rfl rfl rfl rfl ?_
          refine stp (v := .pointer (some ⟨b17, 2, none⟩)) (o_fa rfl rfl) ?_
          refine m_ld (v := .int .i64 ((l.getD i fz).task)) hM19 (i := 1) (j := 0) rfl rfl rfl rfl ?_
          refine stp (v := .pointer (some ⟨b17, 3, none⟩)) (o_fa rfl rfl) ?_
          refine m_ld (v := .int .i64 ((l.getD i fz).att)) hM19 (i := 1) (j := 0) rfl rfl rfl rfl ?_
          refine m_call (Stop_ok _ lp rp ((l.getD i fz).tk) ((l.getD i fz).task) ((l.getD i fz).att) w19 hpl (hM19.res (i := 0) rfl) (by first | assumption | omega | (simp; done) | (simp; omega) | decide +kernel)) rfl fun v24 w24 ⟨r'24, hr24, hp24, hm24⟩ => ?_
          have hM24 : Mem w [] w24 [r'24, [⟨b17, 25, [.int .i64 ((l.getD i fz).kind), .int .i64 ((l.getD i fz).tk), .int .i64 ((l.getD i fz).task), .int .i64 ((l.getD i fz).att), .int .i64 ((l.getD i fz).mom), .int .i64 ((l.getD i fz).rd), .int .i64 ((l.getD i fz).at_), .int .u32 ((l.getD i fz).mask)]⟩]] := hM19.step 0 rfl hm24
          subst hr24
          refine stp (v := .tuple [.int .i64 ((stopV lp (0, ((l.getD i fz).tk), ((l.getD i fz).task), ((l.getD i fz).att))).1), .bool ((stopV lp (0, ((l.getD i fz).tk), ((l.getD i fz).task), ((l.getD i fz).att))).2)].toArray) (o_mv rfl) ?_
          refine stp (v := .int .i64 ((stopV lp (0, ((l.getD i fz).tk), ((l.getD i fz).task), ((l.getD i fz).att))).1)) (o_ext rfl rfl) ?_
          refine stp (v := .bool ((stopV lp (0, ((l.getD i fz).tk), ((l.getD i fz).task), ((l.getD i fz).att))).2)) (o_ext rfl rfl) ?_
          refine stp (v := .int .i64 ((stopV lp (0, ((l.getD i fz).tk), ((l.getD i fz).task), ((l.getD i fz).att))).1)) (o_mv rfl) ?_
          refine stp (v := .bool ((stopV lp (0, ((l.getD i fz).tk), ((l.getD i fz).task), ((l.getD i fz).att))).2)) (o_mv rfl) ?_
          refine h23 _ _ ?_
          clear h23
          refine seq fun K25 h25 => ?_
          refine seq fun K26 h26 => ?_
          refine stp (v := .bool ((stopV lp (0, ((l.getD i fz).tk), ((l.getD i fz).task), ((l.getD i fz).att))).2)) (o_mv rfl) ?_
          refine stp (v := .bool (!((stopV lp (0, ((l.getD i fz).tk), ((l.getD i fz).task), ((l.getD i fz).att))).2))) (o_not rfl rfl) ?_
          refine stp (v := .bool (!((stopV lp (0, ((l.getD i fz).tk), ((l.getD i fz).task), ((l.getD i fz).att))).2))) (o_mv rfl) ?_
          refine split rfl (fun c27 => absurd c27 (show ¬ (!((stopV lp (0, ((l.getD i fz).tk), ((l.getD i fz).task), ((l.getD i fz).att))).2)) = true from (by rw [comes_stop hI.1 (hI.2.2.2 i (Nat.le_refl _) (by omega) (by omega)) (by omega)]; simp))) (fun c27 => ?_)
          refine stg rfl (v := .int .i64 ((stopV lp (0, ((l.getD i fz).tk), ((l.getD i fz).task), ((l.getD i fz).att))).1)) (o_mv rfl) ?_
          refine stg rfl (v := .pointer (some ⟨b17, 6, none⟩)) (o_fa rfl rfl) ?_
          refine gyesl rfl ?_
          refine m_ld (v := .int .i64 ((l.getD i fz).at_)) hM24 (i := 1) (j := 0) rfl rfl rfl rfl ?_
          refine stg rfl (v := .bool (decide (¬ ((stopV lp (0, ((l.getD i fz).tk), ((l.getD i fz).task), ((l.getD i fz).att))).1) = ((l.getD i fz).at_)))) (o_bin rfl rfl v_neq) ?_
          refine stp (v := .bool (decide (¬ ((stopV lp (0, ((l.getD i fz).tk), ((l.getD i fz).task), ((l.getD i fz).att))).1) = ((l.getD i fz).at_)))) (o_pickF rfl rfl) ?_
          refine h26 _ _ ?_
          clear h26
          refine cndP rfl (fun c28 => absurd c28 (fun h => h (by rw [comes_stop hI.1 (hI.2.2.2 i (Nat.le_refl _) (by omega) (by omega)) (by omega)]))) (fun c28 => ?_)
          refine h25 _ _ ?_
          clear h25
          refine seq fun K29 h29 => ?_
          refine stp (v := .int .i64 (n : Nat)) (o_mv rfl) ?_
          refine stp (v := .int .i64 ((n : Nat) + 1)) (o_bin rfl rfl (v_add64 (by constructor <;> omega))) ?_
          refine stp (v := .int .i64 ((n : Nat) + 1)) (o_mv rfl) ?_
          refine h29 _ _ ?_
          clear h29
          refine h14 _ _ ?_
          clear h14
          refine stp (v := .int .i64 (i : Nat)) (o_mv rfl) ?_
          refine stp (v := .int .i64 ((i : Nat) + 1)) (o_bin rfl rfl (v_add64 (by constructor <;> omega))) ?_
          refine stp (v := .int .i64 ((i : Nat) + 1)) (o_mv rfl) ?_
          refine h10 (i + 1, n + 1, (lp.filter (!stopQ (0, ((l.getD i fz).tk), ((l.getD i fz).task), ((l.getD i fz).att)) ·)), r'24) _ _ ⟨rfl, by first | rfl | exact v_int (by omega) | exact v_int (by simp) | exact v_int (by simp; omega), by first | rfl | exact v_int (by omega) | exact v_int (by simp) | exact v_int (by simp; omega), rfl, hM24.keep (by simp), hp24, Inv.stop (check_zero hc).2 hI (by omega) (by omega), by have h1 := comes_len hI.1 (hI.2.2.2 i (Nat.le_refl _) (by omega) (by omega)) (by omega); omega, by omega⟩ (by (try dsimp only); omega)
        ·
          refine h20 _ _ ?_
          clear h20
          refine seq fun K30 h30 => ?_
          refine stp (v := .pointer (some ⟨bp3, 0, none⟩)) (o_mv rfl) ?_
          refine stp (v := .pointer (some ⟨b17, 2, none⟩)) (o_fa rfl rfl) ?_
          refine m_ld (v := .int .i64 ((l.getD i fz).task)) hM19 (i := 1) (j := 0) rfl rfl rfl rfl ?_
          refine stp (v := .pointer (some ⟨b17, 3, none⟩)) (o_fa rfl rfl) ?_
          refine m_ld (v := .int .i64 ((l.getD i fz).att)) hM19 (i := 1) (j := 0) rfl rfl rfl rfl ?_
          refine stp (v := .pointer (some ⟨b17, 4, none⟩)) (o_fa rfl rfl) ?_
          refine m_ld (v := .int .i64 ((l.getD i fz).mom)) hM19 (i := 1) (j := 0) rfl rfl rfl rfl ?_
          refine stp (v := .pointer (some ⟨b17, 5, none⟩)) (o_fa rfl rfl) ?_
          refine m_ld (v := .int .i64 ((l.getD i fz).rd)) hM19 (i := 1) (j := 0) rfl rfl rfl rfl ?_
          refine m_call (Due_ok _ lp rp ((l.getD i fz).task) ((l.getD i fz).att) ((l.getD i fz).mom) ((l.getD i fz).rd) w19 hpl (hM19.res (i := 0) rfl) (by first | assumption | omega | (simp; done) | (simp; omega) | decide +kernel)) rfl fun v31 w31 ⟨r'31, rs31, hs31, hp31, hm31⟩ => ?_
          have hM31 : Mem w [] w31 [r'31, [⟨b17, 25, [.int .i64 ((l.getD i fz).kind), .int .i64 ((l.getD i fz).tk), .int .i64 ((l.getD i fz).task), .int .i64 ((l.getD i fz).att), .int .i64 ((l.getD i fz).mom), .int .i64 ((l.getD i fz).rd), .int .i64 ((l.getD i fz).at_), .int .u32 ((l.getD i fz).mask)]⟩], rs31] := hM19.stepAdd 0 rfl hm31
          refine stp (v := v31) (o_mv rfl) ?_
          refine h30 _ _ ?_
          clear h30
          refine stp (v := .int .i64 (n : Nat)) (o_mv rfl) ?_
          refine stp (v := v31) (o_mv rfl) ?_
          refine stp (v := .int .i64 ((lp.filter (dueQ ((l.getD i fz).task) ((l.getD i fz).att) ((l.getD i fz).mom) ((l.getD i fz).rd))).length : Nat)) (o_lenR (hs31.rd hM31 (i := 2) rfl) rfl rfl) ?_
          refine stp (v := .int .i64 ((n : Nat) + ((lp.filter (dueQ ((l.getD i fz).task) ((l.getD i fz).att) ((l.getD i fz).mom) ((l.getD i fz).rd))).length : Nat))) (o_bin rfl rfl (v_add64 (by have := filter_le lp (dueQ (l.getD i fz).task (l.getD i fz).att (l.getD i fz).mom (l.getD i fz).rd); constructor <;> omega))) ?_
          refine stp (v := .int .i64 ((n : Nat) + ((lp.filter (dueQ ((l.getD i fz).task) ((l.getD i fz).att) ((l.getD i fz).mom) ((l.getD i fz).rd))).length : Nat))) (o_mv rfl) ?_
          refine h14 _ _ ?_
          clear h14
          refine stp (v := .int .i64 (i : Nat)) (o_mv rfl) ?_
          refine stp (v := .int .i64 ((i : Nat) + 1)) (o_bin rfl rfl (v_add64 (by constructor <;> omega))) ?_
          refine stp (v := .int .i64 ((i : Nat) + 1)) (o_mv rfl) ?_
          refine h10 (i + 1, n + (lp.filter (dueQ ((l.getD i fz).task) ((l.getD i fz).att) ((l.getD i fz).mom) ((l.getD i fz).rd))).length, (lp.filter (!dueQ ((l.getD i fz).task) ((l.getD i fz).att) ((l.getD i fz).mom) ((l.getD i fz).rd) ·)), r'31) _ _ ⟨rfl, by first | rfl | exact v_int (by omega) | exact v_int (by simp) | exact v_int (by simp; omega), by first | rfl | exact v_int (by omega) | exact v_int (by simp) | exact v_int (by simp; omega), rfl, hM31.keep (by simp), hp31, Inv.due hI (by omega), by have h1 := len_split (dueQ (l.getD i fz).task (l.getD i fz).att (l.getD i fz).mom (l.getD i fz).rd) lp; omega, by omega⟩ (by (try dsimp only); omega)
      ·
        refine h7 _ _ ?_
        clear h7
        refine seq fun K32 h32 => ?_
        refine stp (v := .int .i64 (n : Nat)) (o_mv rfl) ?_
        refine stp (v := x) (o_mv rfl) ?_
        refine stp (v := .int .i64 (l.length : Nat)) (o_lenR (hx.upd hM9.upd) rfl rfl) ?_
        refine stp (v := .bool (decide (((n : Nat) : Int) = (l.length : Nat)))) (o_bin rfl rfl rfl) ?_
        refine stp (v := .bool (decide (((n : Nat) : Int) = (l.length : Nat)))) (o_mv rfl) ?_
        refine splitP rfl (fun c33 => ?_) (fun c33 => (c33 (by have := hI.last (by omega); omega)).elim)
        refine stg rfl (v := .pointer (some ⟨bp3, 0, none⟩)) (o_mv rfl) ?_
        refine gyesl rfl ?_
        refine m_call (Left_ok _ lp rp w9 hpl (hM9.res (i := 0) rfl) (by first | assumption | omega | (simp; done) | (simp; omega) | decide +kernel)) rfl fun v34 w34 ⟨rs34, hs34, hm34⟩ => ?_
        have hM34 : Mem w [] w34 [rp, rs34] := hM9.stepAdd 0 rfl hm34
        refine stg rfl (v := .int .i64 (lp.length : Nat)) (o_lenR (hs34.rd hM34 (i := 1) rfl) rfl rfl) ?_
        refine stg rfl (v := .bool (decide (((lp.length : Nat) : Int) = 0))) (o_bin rfl rfl rfl) ?_
        refine stp (v := .bool (decide (((lp.length : Nat) : Int) = 0))) (o_pickT rfl rfl) ?_
        refine stp (v := .bool (decide (((lp.length : Nat) : Int) = 0))) (o_mv rfl) ?_
        refine splitP rfl (fun c35 => ?_) (fun c35 => (c35 (by have := hI.last (by omega); omega)).elim)
        refine gyesl rfl ?_
        refine m_call (works_ok w34) rfl fun v36 w36 ⟨hr36, hu36⟩ => ?_
        have hM36 : Mem w [] w36 [rp, rs34] := hM34.pure hu36
        subst hr36
        refine stp (v := .bool true) (o_pickT rfl rfl) ?_
        refine stp (v := .bool true) (o_mv rfl) ?_
        refine h32 _ _ ?_
        clear h32
        refine ⟨(.bool true), rfl, ?_⟩
        exact ⟨rfl, hM36.upd⟩
  ·
    refine stp (v := x) (o_mv rfl) ?_
    refine m_call (New_bad _ l w (hx.upd hM0.upd) (by first | exact hok | assumption) (by first | omega | (simp; done) | (simp; omega)) (by first | exact hc | assumption)) rfl fun v37 w37 ⟨hr37, hu37⟩ => ?_
    have hM37 : Mem w [] w37 [] := hM0.pure hu37
    subst hr37
    refine stp (v := .tuple [.pointer none, .int .i64 (check l)].toArray) (o_mv rfl) ?_
    refine stp (v := .pointer none) (o_ext rfl rfl) ?_
    refine stp (v := .int .i64 (check l)) (o_ext rfl rfl) ?_
    refine stp (v := .pointer none) (o_mv rfl) ?_
    refine stp (v := .int .i64 (check l)) (o_mv rfl) ?_
    refine h2 _ _ ?_
    clear h2
    refine seq fun K38 h38 => ?_
    refine seq fun K39 h39 => ?_
    refine stp (v := .int .i64 (check l)) (o_mv rfl) ?_
    refine stp (v := .bool (decide (¬ (check l) = 0))) (o_bin rfl rfl v_neq) ?_
    refine h39 _ _ ?_
    clear h39
    refine cndP rfl (fun c40 => ?_) (fun c40 => (c40 (hc)).elim)
    refine seq fun K41 h41 => ?_
    refine m_call (works_ok w37) rfl fun v42 w42 ⟨hr42, hu42⟩ => ?_
    have hM42 : Mem w [] w42 [] := hM37.pure hu42
    subst hr42
    refine stp (v := .bool true) (o_mv rfl) ?_
    refine h41 _ _ ?_
    clear h41
    refine ⟨(.bool true), rfl, ?_⟩
    exact ⟨rfl, hM42.upd⟩
