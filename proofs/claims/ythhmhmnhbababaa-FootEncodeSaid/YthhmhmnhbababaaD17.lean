/- Footers: alike. -/
import Derived.Test.YthhmhmnhbababaaD28
namespace Go.Proofs.Ythhmhmnhbababaa.E
open Go
theorem map_at {ps qs : List Pr} (h : ps.map Pr.p = qs.map Pr.p) (i : Nat) : (ps.getD i pz).p = (qs.getD i pz).p := by
  have := congrArg (fun l => l.getD i pz.p) h
  simp only [List.getD_eq_getElem?_getD, List.getElem?_map] at this ⊢
  cases h1 : ps[i]? <;> cases h2 : qs[i]? <;> simp [h1, h2] at this ⊢ <;> exact this

/-- winnowlaw8.sameFilter -/
theorem sameFilter_eq (a b : Bool) (h k : Int) (d e : List UInt8) (v u : Value) (w : World) (hv : RdE byteV w v d) (hu : RdE byteV w u e) (hl : d.length ≤ 140737488351232) (hab : a = b) (hhk : h = k) (hde : d = e) : Calls Try.prog 67 [.agg [.bool a, .int .i64 h, v].toArray, .agg [.bool b, .int .i64 k, u].toArray].toArray w (Rt fun r w' => r = .bool true ∧ Upd [] w w') := by
  subst hab hhk hde
  have hM0 : Mem w [] w [] := Mem.nil w []
  refine calls_vc mixed Try.func67 rfl C67 (by simp [Try.ntmps67]) ?_
  refine seq fun K1 h1 => ?_
  refine m_bx (v := .agg ([.bool a, .int .i64 h, v] : List Value).toArray) hM0 rfl rfl fun b2 w3 (hM3 : Mem w [] w3 [[⟨b2, 69, [.bool a, .int .i64 h, v]⟩]]) => ?_
  refine m_bx (v := .agg ([.bool a, .int .i64 h, u] : List Value).toArray) hM3 rfl rfl fun b4 w5 (hM5 : Mem w [] w5 [[⟨b2, 69, [.bool a, .int .i64 h, v]⟩], [⟨b4, 69, [.bool a, .int .i64 h, u]⟩]]) => ?_
  refine stp (v := .bool false) (o_mv rfl) ?_
  refine h1 _ _ ?_
  clear h1
  refine seq fun K6 h6 => ?_
  refine stp (v := .pointer (some ⟨b2, 0, none⟩)) (o_fa rfl rfl) ?_
  refine m_ld (v := .bool a) hM5 (i := 0) (j := 0) rfl rfl rfl rfl ?_
  refine stp (v := .pointer (some ⟨b4, 0, none⟩)) (o_fa rfl rfl) ?_
  refine m_ld (v := .bool a) hM5 (i := 1) (j := 0) rfl rfl rfl rfl ?_
  refine stp (v := .bool true) (o_beq rfl rfl (by simp)) ?_
  refine stp (v := .bool true) (o_mv rfl) ?_
  refine splitT rfl ?_
  refine stg rfl (v := .pointer (some ⟨b2, 1, none⟩)) (o_fa rfl rfl) ?_
  refine gyesl rfl ?_
  refine m_ld (v := .int .i64 h) hM5 (i := 0) (j := 0) rfl rfl rfl rfl ?_
  refine stg rfl (v := .pointer (some ⟨b4, 1, none⟩)) (o_fa rfl rfl) ?_
  refine gyesl rfl ?_
  refine m_ld (v := .int .i64 h) hM5 (i := 1) (j := 0) rfl rfl rfl rfl ?_
  refine stg rfl (v := .bool true) (o_bin rfl rfl v_eqT) ?_
  refine stp (v := .bool true) (o_pickT rfl rfl) ?_
  refine stp (v := .bool true) (o_mv rfl) ?_
  refine splitT rfl ?_
  refine stg rfl (v := .pointer (some ⟨b2, 2, none⟩)) (o_fa rfl rfl) ?_
  refine gyesl rfl ?_
  refine m_ld (v := v) hM5 (i := 0) (j := 0) rfl rfl rfl rfl ?_
  refine stg rfl (v := .pointer (some ⟨b4, 2, none⟩)) (o_fa rfl rfl) ?_
  refine gyesl rfl ?_
  refine m_ld (v := u) hM5 (i := 1) (j := 0) rfl rfl rfl rfl ?_
  refine gyesl rfl ?_
  refine m_call (sameL_ok _ _ d d w5 (hv.upd hM5.upd) (hu.upd hM5.upd) (by first | omega | (simp; done) | (simp; omega))) rfl fun v7 w7 ⟨hr7, hu7⟩ => ?_
  have hM7 : Mem w [] w7 [[⟨b2, 69, [.bool a, .int .i64 h, v]⟩], [⟨b4, 69, [.bool a, .int .i64 h, u]⟩]] := hM5.pure hu7
  obtain rfl : v7 = .bool true := hr7.trans (by simp)
  clear hr7
  refine stp (v := .bool true) (o_pickT rfl rfl) ?_
  refine stp (v := .bool true) (o_mv rfl) ?_
  refine h6 _ _ ?_
  clear h6
  refine ⟨(.bool true), rfl, ?_⟩
  first | exact ⟨rfl, hM7.upd⟩ | (exfalso; omega)

/-- winnowlaw8.sameBlocks -/
theorem sameBlocks_eq (bl cl : List Bi) (v u : Value) (w : World) (hv : RdS biC w v bl) (hu : RdS biC w u cl) (hl : bl.length ≤ 3518437208780) (hbc : bl = cl) : Calls Try.prog 68 [v, u].toArray w (Rt fun r w' => r = .bool true ∧ Upd [] w w') := by
  subst hbc
  have hM0 : Mem w [] w [] := Mem.nil w []
  refine calls_vc mixed Try.func68 rfl C68 (by simp [Try.ntmps68]) ?_
  refine seq fun K1 h1 => ?_
  refine stp (v := .bool false) (o_mv rfl) ?_
  refine h1 _ _ ?_
  clear h1
  refine seq fun K2 h2 => ?_
  refine seq fun K3 h3 => ?_
  refine stp (v := v) (o_mv rfl) ?_
  refine stp (v := .int .i64 (bl.length : Nat)) (o_lenR (hv.upd hM0.upd) rfl rfl) ?_
  refine stp (v := u) (o_mv rfl) ?_
  refine stp (v := .int .i64 (bl.length : Nat)) (o_lenR (hu.upd hM0.upd) rfl rfl) ?_
  refine stp (v := .bool false) (o_bin rfl rfl v_neF) ?_
  refine h3 _ _ ?_
  clear h3
  refine cndF rfl ?_
  refine h2 _ _ ?_
  clear h2
  refine seq fun K4 h4 => ?_
  refine seq fun K5 h5 => ?_
  refine stp (v := .int .i64 0) (o_mv rfl) ?_
  refine h5 _ _ ?_
  clear h5
  refine lp (n := fun _ _ => False) (ι := (Nat)) (fun i f w' => f 5 = .int .i64 (i : Nat) ∧ f 0 = v ∧ f 1 = u ∧ Mem w [] w' [] ∧ (i ≤ bl.length)) (fun i => bl.length - i) (0) ?_ ?_
  · exact ⟨by first | rfl | exact v_int (by omega) | exact v_int (by simp) | exact v_int (by simp; omega), rfl, rfl, hM0, by omega⟩
  · rintro i f w6 ⟨e6_5, e6_0, e6_1, hM6, hi⟩ K7 h7
    obtain ⟨frm, rfl⟩ : ∃ frm, f = (upd (upd (upd frm 5 (.int .i64 (i : Nat))) 0 (v)) 1 (u)) := ⟨f, by rw [upd_self e6_5, upd_self e6_0, upd_self e6_1]⟩
    clear e6_5 e6_0 e6_1
    refine seq fun K8 h8 => ?_
    refine seq fun K9 h9 => ?_
    refine stp (v := .int .i64 (i : Nat)) (o_mv rfl) ?_
    refine stp (v := v) (o_mv rfl) ?_
    refine stp (v := .int .i64 (bl.length : Nat)) (o_lenR (hv.upd hM6.upd) rfl rfl) ?_
    refine stp (v := .bool (decide (((i : Nat) : Int) < (bl.length : Nat)))) (o_bin rfl rfl rfl) ?_
    refine h9 _ _ ?_
    clear h9
    refine cndP rfl (fun c10 => ?_) (fun c10 => ?_)
    ·
      refine h8 _ _ ?_
      clear h8
      refine seq fun K11 h11 => ?_
      refine seq fun K12 h12 => ?_
      intro wd e1 e2 e3 e4
      have hd := Upd.same e1 e2 e3 e4 []
      have hM13 := hM6.pure hd
      clear e1 e2 e3 e4
      refine ⟨none, ?_⟩
      show vd _ _ _ _ _ _ _
      refine dq (v := v) (o_mv rfl) ?_
      refine dq (v := .int .i64 (i : Nat)) (o_mv rfl) ?_
      refine dqp (m_idxS bz (j := i) (hv.upd hM13.upd) rfl rfl (by omega) fun b14 o14 hp14 => ?_)
      show vd _ _ _ _ _ _ _
      refine dq (v := u) (o_mv rfl) ?_
      refine dq (v := .int .i64 (i : Nat)) (o_mv rfl) ?_
      refine dqp (m_idxS bz (j := i) (hu.upd hM13.upd) rfl rfl (by omega) fun b15 o15 hp15 => ?_)
      show vd _ _ _ _ _ _ _
      refine dqldA (cs := [.int .i64 ((bl.getD i bz).st), .int .i64 ((bl.getD i bz).ra), .int .i64 ((bl.getD i bz).ct), .string (str ((bl.getD i bz).cut))]) rfl (trivial) rfl (hp15.row (k := 0) rfl rfl) ?_
      refine dl (ldA (cs := [.int .i64 ((bl.getD i bz).st), .int .i64 ((bl.getD i bz).ra), .int .i64 ((bl.getD i bz).ct), .string (str ((bl.getD i bz).cut))]) rfl rfl (hp14.row (k := 0) rfl rfl) ?_)
      refine ⟨rfl, ?_⟩
      refine dq (v := .bool (!(decide (((bl.getD i bz).st) = ((bl.getD i bz).st)) && (decide (((bl.getD i bz).ra) = ((bl.getD i bz).ra)) && (decide (((bl.getD i bz).ct) = ((bl.getD i bz).ct)) && (decide (((bl.getD i bz).cut) = ((bl.getD i bz).cut)) && true)))))) (o_aeq (t := (decide (((bl.getD i bz).st) = ((bl.getD i bz).st)) && (decide (((bl.getD i bz).ra) = ((bl.getD i bz).ra)) && (decide (((bl.getD i bz).ct) = ((bl.getD i bz).ct)) && (decide (((bl.getD i bz).cut) = ((bl.getD i bz).cut)) && true))))) rfl rfl (by simp [eqCs, eqC, toList_str, Int.natCast_inj]) rfl) ?_
      refine h12 _ _ ?_
      clear h12
      refine cnd rfl (fun c16 => absurd c16 (show ¬ (!(decide (((bl.getD i bz).st) = ((bl.getD i bz).st)) && (decide (((bl.getD i bz).ra) = ((bl.getD i bz).ra)) && (decide (((bl.getD i bz).ct) = ((bl.getD i bz).ct)) && (decide (((bl.getD i bz).cut) = ((bl.getD i bz).cut)) && true))))) = true from (by simp))) (fun c16 => ?_)
      refine h11 _ _ ?_
      clear h11
      refine stp (v := .int .i64 (i : Nat)) (o_mv rfl) ?_
      refine stp (v := .int .i64 ((i : Nat) + 1)) (o_bin rfl rfl (v_add64 (by constructor <;> omega))) ?_
      refine stp (v := .int .i64 ((i : Nat) + 1)) (o_mv rfl) ?_
      refine h7 (i + 1) _ _ ⟨by first | rfl | exact v_int (by omega) | exact v_int (by simp) | exact v_int (by simp; omega), rfl, rfl, hM13, by omega⟩ (by (try dsimp only); omega)
    ·
      refine h4 _ _ ?_
      clear h4
      refine seq fun K17 h17 => ?_
      refine stp (v := .bool true) (o_mv rfl) ?_
      refine h17 _ _ ?_
      clear h17
      refine ⟨(.bool true), rfl, ?_⟩
      exact ⟨rfl, hM6.upd⟩

/-- winnowlaw8.sameFoot -/
theorem sameFoot_eq (parts : Int) (x y : Value) (ps qs : List Pr) (w : World) (hx : RdS prC w x ps) (hok : ∀ p ∈ ps, p.ok w) (hy : RdS prC w y qs) (hok2 : ∀ p ∈ qs, p.ok w) (hl : ps.length ≤ 1954687338211) (he : ps.map Pr.p = qs.map Pr.p) : Calls Try.prog 37 [.agg [.int .i64 parts, x].toArray, .agg [.int .i64 parts, y].toArray].toArray w (Rt fun r w' => r = .bool true ∧ Upd [] w w') := by
  have hM0 : Mem w [] w [] := Mem.nil w []
  have hll : ps.length = qs.length := by have := congrArg List.length he; simpa using this
  refine calls_vc mixed Try.func37 rfl C37 (by simp [Try.ntmps37]) ?_
  refine seq fun K1 h1 => ?_
  refine m_bx (v := .agg ([.int .i64 parts, x] : List Value).toArray) hM0 rfl rfl fun b2 w3 (hM3 : Mem w [] w3 [[⟨b2, 24, [.int .i64 parts, x]⟩]]) => ?_
  refine m_bx (v := .agg ([.int .i64 parts, y] : List Value).toArray) hM3 rfl rfl fun b4 w5 (hM5 : Mem w [] w5 [[⟨b2, 24, [.int .i64 parts, x]⟩], [⟨b4, 24, [.int .i64 parts, y]⟩]]) => ?_
  refine stp (v := .bool false) (o_mv rfl) ?_
  refine h1 _ _ ?_
  clear h1
  refine seq fun K6 h6 => ?_
  refine seq fun K7 h7 => ?_
  refine stp (v := .pointer (some ⟨b2, 0, none⟩)) (o_fa rfl rfl) ?_
  refine m_ld (v := .int .i64 parts) hM5 (i := 0) (j := 0) rfl rfl rfl rfl ?_
  refine stp (v := .pointer (some ⟨b4, 0, none⟩)) (o_fa rfl rfl) ?_
  refine m_ld (v := .int .i64 parts) hM5 (i := 1) (j := 0) rfl rfl rfl rfl ?_
  refine stp (v := .bool false) (o_bin rfl rfl v_neF) ?_
  refine stp (v := .bool false) (o_mv rfl) ?_
  refine splitF rfl ?_
  refine stg rfl (v := .pointer (some ⟨b2, 1, none⟩)) (o_fa rfl rfl) ?_
  refine gyesl rfl ?_
  refine m_ld (v := x) hM5 (i := 0) (j := 0) rfl rfl rfl rfl ?_
  refine stg rfl (v := .int .i64 (ps.length : Nat)) (o_lenR (hx.upd hM5.upd) rfl rfl) ?_
  refine stg rfl (v := .pointer (some ⟨b4, 1, none⟩)) (o_fa rfl rfl) ?_
  refine gyesl rfl ?_
  refine m_ld (v := y) hM5 (i := 1) (j := 0) rfl rfl rfl rfl ?_
  refine stg rfl (v := .int .i64 (qs.length : Nat)) (o_lenR (hy.upd hM5.upd) rfl rfl) ?_
  refine stg rfl (v := .bool (decide (¬ ((ps.length : Nat) : Int) = (qs.length : Nat)))) (o_bin rfl rfl v_neq) ?_
  refine stp (v := .bool (decide (¬ ((ps.length : Nat) : Int) = (qs.length : Nat)))) (o_pickF rfl rfl) ?_
  refine h7 _ _ ?_
  clear h7
  refine cndP rfl (fun c8 => absurd c8 (by omega)) (fun c8 => ?_)
  refine h6 _ _ ?_
  clear h6
  refine seq fun K9 h9 => ?_
  refine seq fun K10 h10 => ?_
  refine stp (v := .int .i64 0) (o_mv rfl) ?_
  refine h10 _ _ ?_
  clear h10
  refine lp (n := fun _ _ => False) (ι := (Nat)) (fun i f w' => f 5 = .int .i64 (i : Nat) ∧ f 2 = .pointer (some ⟨b2, 0, none⟩) ∧ f 3 = .pointer (some ⟨b4, 0, none⟩) ∧ Mem w [] w' [[⟨b2, 24, [.int .i64 parts, x]⟩], [⟨b4, 24, [.int .i64 parts, y]⟩]] ∧ (i ≤ ps.length)) (fun i => ps.length - i) (0) ?_ ?_
  · exact ⟨by first | rfl | exact v_int (by omega) | exact v_int (by simp) | exact v_int (by simp; omega), rfl, rfl, hM5, by omega⟩
  · rintro i f w11 ⟨e11_5, e11_2, e11_3, hM11, hi⟩ K12 h12
    obtain ⟨frm, rfl⟩ : ∃ frm, f = (upd (upd (upd frm 5 (.int .i64 (i : Nat))) 2 (.pointer (some ⟨b2, 0, none⟩))) 3 (.pointer (some ⟨b4, 0, none⟩))) := ⟨f, by rw [upd_self e11_5, upd_self e11_2, upd_self e11_3]⟩
    clear e11_5 e11_2 e11_3
    refine seq fun K13 h13 => ?_
    refine seq fun K14 h14 => ?_
    refine stp (v := .int .i64 (i : Nat)) (o_mv rfl) ?_
    refine stp (v := .pointer (some ⟨b2, 1, none⟩)) (o_fa rfl rfl) ?_
    refine m_ld (v := x) hM11 (i := 0) (j := 0) rfl rfl rfl rfl ?_
    refine stp (v := .int .i64 (ps.length : Nat)) (o_lenR (hx.upd hM11.upd) rfl rfl) ?_
    refine stp (v := .bool (decide (((i : Nat) : Int) < (ps.length : Nat)))) (o_bin rfl rfl rfl) ?_
    refine h14 _ _ ?_
    clear h14
    refine cndP rfl (fun c15 => ?_) (fun c15 => ?_)
    ·
      refine h13 _ _ ?_
      clear h13
      refine seq fun K16 h16 => ?_
      refine seq fun K17 h17 => ?_
      intro wd e1 e2 e3 e4
      have hd := Upd.same e1 e2 e3 e4 []
      have hM18 := hM11.pure hd
      clear e1 e2 e3 e4
      refine ⟨(some [b4, (blkV y)]), ?_⟩
      show vd _ _ _ _ _ _ _
      have he9 := map_at he i
      have hpi := hok _ (getD_memG pz (l := ps) (i := i) (by omega))
      refine dq (v := .pointer (some ⟨b2, 1, none⟩)) (o_fa rfl rfl) ?_
      refine dq (v := .int .i64 (i : Nat)) (o_mv rfl) ?_
      refine dq (v := .pointer (some ⟨b4, 1, none⟩)) (o_fa rfl rfl) ?_
      refine dq (v := .int .i64 (i : Nat)) (o_mv rfl) ?_
      refine dqld rfl (by simp [isHeld]) (v := y) ((hM18.at (i := 1) (j := 0) rfl rfl).cell 1) ?_
      refine dqp (m_idxS3 pz (j := i) (hy.upd hM18.upd) (hy.upd hM18.upd) rfl rfl (by omega) fun b19 o19 hp19 hbb19 => ?_)
      show vd _ _ _ _ _ _ _
      subst hbb19
      refine dq (v := .pointer (some ⟨(blkV y), o19, none⟩)) (o_fa rfl rfl) ?_
      refine dqld rfl (by simp [isHeld]) (v := .int .i64 ((qs.getD i pz).part)) (hp19.get 0 rfl) ?_
      refine dl (m_ld (v := x) hM18 (i := 0) (j := 0) rfl rfl rfl rfl ?_)
      refine ⟨(fun b hb => rfl), ?_⟩
      refine dqp (m_idxS pz (j := i) (hx.upd hM18.upd) rfl rfl (by omega) fun b20 o20 hp20 => ?_)
      show vd _ _ _ _ _ _ _
      refine dq (v := .pointer (some ⟨b20, o20, none⟩)) (o_fa rfl rfl) ?_
      refine dl (ld (v := .int .i64 ((ps.getD i pz).part)) rfl (hp20.get 0 rfl) ?_)
      refine ⟨(fun b hb => rfl), ?_⟩
      refine dq (v := .bool (decide (¬ ((ps.getD i pz).part) = ((qs.getD i pz).part)))) (o_bin rfl rfl v_neq) ?_
      refine dq (v := .bool (decide (¬ ((ps.getD i pz).part) = ((qs.getD i pz).part)))) (o_mv rfl) ?_
      refine dsplitP rfl (fun c21 => absurd c21 (by have := congrArg Pp.part he9; simpa using this)) (fun c21 => ?_)
      refine dqg rfl (v := .pointer (some ⟨b2, 1, none⟩)) (o_fa rfl rfl) ?_
      refine dqg rfl (v := .int .i64 (i : Nat)) (o_mv rfl) ?_
      refine dqg rfl (v := .pointer (some ⟨b4, 1, none⟩)) (o_fa rfl rfl) ?_
      refine dqg rfl (v := .int .i64 (i : Nat)) (o_mv rfl) ?_
      refine dqgyes rfl rfl ?_
      refine dqld rfl (by simp [isHeld]) (v := y) ((hM18.at (i := 1) (j := 0) rfl rfl).cell 1) ?_
      refine dgyes rfl rfl (dqp (m_idxS3 pz (j := i) (hy.upd hM18.upd) (hy.upd hM18.upd) rfl rfl (by omega) fun b22 o22 hp22 hbb22 => ?_))
      show vd _ _ _ _ _ _ _
      subst hbb22
      refine dqg rfl (v := .pointer (some ⟨(blkV y), o22 + 2, none⟩)) (o_fa rfl rfl) ?_
      refine dqgyes rfl rfl ?_
      refine dqldA (cs := [.bool ((qs.getD i pz).a), .int .i64 ((qs.getD i pz).h), (qs.getD i pz).dv]) rfl (by simp [isHeld]) rfl (hp22.row (k := 2) rfl rfl) ?_
      refine dgyesl rfl ?_
      refine dl (m_ld (v := x) hM18 (i := 0) (j := 0) rfl rfl rfl rfl ?_)
      refine ⟨(fun b hb => rfl), ?_⟩
      refine dgyes rfl rfl (dqp (m_idxS pz (j := i) (hx.upd hM18.upd) rfl rfl (by omega) fun b23 o23 hp23 => ?_))
      show vd _ _ _ _ _ _ _
      refine dqg rfl (v := .pointer (some ⟨b23, o23 + 2, none⟩)) (o_fa rfl rfl) ?_
      refine dgyesl rfl ?_
      refine dl (ldA (cs := [.bool ((ps.getD i pz).a), .int .i64 ((ps.getD i pz).h), (ps.getD i pz).dv]) rfl rfl (hp23.row (k := 2) rfl rfl) ?_)
      refine ⟨(fun b hb => rfl), ?_⟩
      refine dgyesl rfl ?_
      refine dl (m_call (sameFilter_eq _ _ _ _ ((ps.getD i pz).d) ((qs.getD i pz).d) _ _ wd (((fun p hp => (hok p hp).upd hM18.upd) _ (getD_memG pz (by omega))).rd) ((hok2 _ (getD_memG pz (l := qs) (i := i) (by omega))).rd.upd hM18.upd) hpi.ld (congrArg Pp.a he9) (congrArg Pp.h he9) (congrArg Pp.d he9)) rfl fun v24 w24 ⟨hr24, hu24⟩ => ?_)
      have hM24 : Mem w [] w24 [[⟨b2, 24, [.int .i64 parts, x]⟩], [⟨b4, 24, [.int .i64 parts, y]⟩]] := hM18.pure hu24
      subst hr24
      have hh24 := held_upd (wr := wd) (bs := [b4, (blkV y)]) hu24 (fun b hb => by
        simp only [List.mem_cons, List.not_mem_nil, or_false] at hb
        rcases hb with h | h
        · rw [h]; exact ⟨(hM18.at (i := 1) (j := 0) rfl rfl).lt, by simp⟩
        · rw [h]; exact ⟨Rd.blkV_ltS (hy.upd hM18.upd) (by omega), by simp⟩) (fun b hb => rfl)
      refine ⟨hh24, ?_⟩
      refine dqg rfl (v := .bool false) (o_not rfl rfl) ?_
      refine dq (v := .bool false) (o_pickF rfl rfl) ?_
      refine dq (v := .bool false) (o_mv rfl) ?_
      refine dsplitF rfl ?_
      refine dqg rfl (v := .pointer (some ⟨b2, 1, none⟩)) (o_fa rfl rfl) ?_
      refine dqg rfl (v := .int .i64 (i : Nat)) (o_mv rfl) ?_
      refine dqg rfl (v := .pointer (some ⟨b4, 1, none⟩)) (o_fa rfl rfl) ?_
      refine dqg rfl (v := .int .i64 (i : Nat)) (o_mv rfl) ?_
      refine dqgyes rfl rfl ?_
      refine dqld rfl (by simp [isHeld]) (v := y) ((hM18.at (i := 1) (j := 0) rfl rfl).cell 1) ?_
      refine dgyes rfl rfl (dqp (m_idxS3 pz (j := i) (hy.upd hM24.upd) (hy.upd hM18.upd) rfl rfl (by omega) fun b25 o25 hp25 hbb25 => ?_))
      show vd _ _ _ _ _ _ _
      subst hbb25
      refine dqg rfl (v := .pointer (some ⟨(blkV y), o25 + 1, none⟩)) (o_fa rfl rfl) ?_
      refine dqgyes rfl rfl ?_
      refine dqld rfl (by simp [isHeld]) (v := (qs.getD i pz).bv) (hp25.get 1 rfl) ?_
      refine dgyesl rfl ?_
      refine dl (m_ld (v := x) hM24 (i := 0) (j := 0) rfl rfl rfl rfl ?_)
      refine ⟨hh24, ?_⟩
      refine dgyes rfl rfl (dqp (m_idxS pz (j := i) (hx.upd hM24.upd) rfl rfl (by omega) fun b26 o26 hp26 => ?_))
      show vd _ _ _ _ _ _ _
      refine dqg rfl (v := .pointer (some ⟨b26, o26 + 1, none⟩)) (o_fa rfl rfl) ?_
      refine dgyesl rfl ?_
      refine dl (ld (v := (ps.getD i pz).bv) rfl (hp26.get 1 rfl) ?_)
      refine ⟨hh24, ?_⟩
      refine dgyesl rfl ?_
      refine dl (m_call (sameBlocks_eq ((ps.getD i pz).bl) ((qs.getD i pz).bl) _ _ w24 (((fun p hp => (hok p hp).upd hM24.upd) _ (getD_memG pz (by omega))).rb) ((hok2 _ (getD_memG pz (l := qs) (i := i) (by omega))).rb.upd hM24.upd) hpi.lb (congrArg Pp.bl he9)) rfl fun v27 w27 ⟨hr27, hu27⟩ => ?_)
      have hM27 : Mem w [] w27 [[⟨b2, 24, [.int .i64 parts, x]⟩], [⟨b4, 24, [.int .i64 parts, y]⟩]] := hM24.pure hu27
      subst hr27
      have hh27 := held_upd (wr := wd) (bs := [b4, (blkV y)]) hu27 (fun b hb => by
        simp only [List.mem_cons, List.not_mem_nil, or_false] at hb
        rcases hb with h | h
        · rw [h]; exact ⟨(hM24.at (i := 1) (j := 0) rfl rfl).lt, by simp⟩
        · rw [h]; exact ⟨Rd.blkV_ltS (hy.upd hM24.upd) (by omega), by simp⟩) hh24
      refine ⟨hh27, ?_⟩
      refine dqg rfl (v := .bool false) (o_not rfl rfl) ?_
      refine dq (v := .bool false) (o_pickF rfl rfl) ?_
      refine h17 _ _ ?_
      clear h17
      refine cndF rfl ?_
      refine h16 _ _ ?_
      clear h16
      refine stp (v := .int .i64 (i : Nat)) (o_mv rfl) ?_
      refine stp (v := .int .i64 ((i : Nat) + 1)) (o_bin rfl rfl (v_add64 (by constructor <;> omega))) ?_
      refine stp (v := .int .i64 ((i : Nat) + 1)) (o_mv rfl) ?_
      refine h12 (i + 1) _ _ ⟨by first | rfl | exact v_int (by omega) | exact v_int (by simp) | exact v_int (by simp; omega), rfl, rfl, hM27, by omega⟩ (by (try dsimp only); omega)
    ·
      refine h9 _ _ ?_
      clear h9
      refine seq fun K28 h28 => ?_
      refine stp (v := .bool true) (o_mv rfl) ?_
      refine h28 _ _ ?_
      clear h28
      refine ⟨(.bool true), rfl, ?_⟩
      exact ⟨rfl, hM11.upd⟩
