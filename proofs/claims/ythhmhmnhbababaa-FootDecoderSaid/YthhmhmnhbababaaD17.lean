/- Footers: alike. -/
import Derived.Test.YthhmhmnhbababaaD28
import Derived.Test.YthhmhmnhbababaaE23
namespace Go.Proofs.Ythhmhmnhbababaa.E
open Go
theorem map_at {ps qs : List Pr} (h : ps.map Pr.p = qs.map Pr.p) (i : Nat) : (ps.getD i pz).p = (qs.getD i pz).p := by
 have := congrArg (fun l => l.getD i pz.p) h
 simp only [List.getD_eq_getElem?_getD, List.getElem?_map] at this ⊢
 cases h1 : ps[i]? <;> cases h2 : qs[i]? <;> simp [h1, h2] at this ⊢ <;> exact this
theorem sameFilter_eq (a b : Bool) (h k : Int) (d e : List UInt8) (v u : Value) (w : World) (hv : RdE byteV w v d) (hu : RdE byteV w u e) (hl : d.length ≤ 140737488351232) (hab : a = b) (hhk : h = k) (hde : d = e) : Calls Try.prog 67 [.agg [.bool a, .int .i64 h, v].toArray, .agg [.bool b, .int .i64 k, u].toArray].toArray w (Rt fun r w' => r = .bool true ∧ Upd [] w w') := by
 subst hab hhk hde
 have hM0 : Mem w [] w [] := Mem.nil w []
 refine calls_vc mixed Try.func67 rfl C67 (by simp [Try.ntmps67]) <| seq fun _ h1 => m_bx (v := .agg ([.bool a, .int .i64 h, v] : List Value).toArray) hM0 rfl rfl fun b2 w3 (hM3 : Mem w [] w3 [[⟨b2, 69, [.bool a, .int .i64 h, v]⟩]]) => m_bx (v := .agg ([.bool a, .int .i64 h, u] : List Value).toArray) hM3 rfl rfl fun b4 w5 (hM5 : Mem w [] w5 [[⟨b2, 69, [.bool a, .int .i64 h, v]⟩], [⟨b4, 69, [.bool a, .int .i64 h, u]⟩]]) => mv <| h1 _ _ <| seq fun _ h6 => fa rfl <| m_ld (v := .bool a) hM5 (i := 0) (j := 0) rfl rfl rfl rfl <| fa rfl <| m_ld (v := .bool a) hM5 (i := 1) (j := 0) rfl rfl rfl rfl <| stp (v := .bool true) (o_beq rfl rfl (by simp)) <| mv <| splitT rfl ?_
 refine gfa rfl rfl <| gyesl rfl <| m_ld (v := .int .i64 h) hM5 (i := 0) (j := 0) rfl rfl rfl rfl <| gfa rfl rfl <| gyesl rfl <| m_ld (v := .int .i64 h) hM5 (i := 1) (j := 0) rfl rfl rfl rfl <| stg rfl (v := .bool true) (o_bin rfl rfl v_eqT) <| pkT rfl <| mv <| splitT rfl <| gfa rfl rfl <| gyesl rfl <| m_ld (v := v) hM5 (i := 0) (j := 0) rfl rfl rfl rfl <| gfa rfl rfl ?_
 refine gyesl rfl <| m_ld (v := u) hM5 (i := 1) (j := 0) rfl rfl rfl rfl <| gyesl rfl <| m_call (sameL_ok _ _ d d w5 (hv.upd hM5.upd) (hu.upd hM5.upd) (by first | omega | (simp; done) | (simp; omega))) rfl fun v7 w7 ⟨hr7, hu7⟩ => ?_
 have hM7 : Mem w [] w7 [[⟨b2, 69, [.bool a, .int .i64 h, v]⟩], [⟨b4, 69, [.bool a, .int .i64 h, u]⟩]] := hM5.pure hu7
 obtain rfl : v7 = .bool true := hr7.trans (by simp)
 clear hr7
 refine pkT rfl <| mv <| h6 _ _ <| ⟨(.bool true), rfl, ⟨rfl, hM7.upd⟩⟩
theorem sameBlocks_eq (bl cl : List Bi) (v u : Value) (w : World) (hv : RdS biC w v bl) (hu : RdS biC w u cl) (hl : bl.length ≤ 3518437208780) (hbc : bl = cl) : Calls Try.prog 68 [v, u].toArray w (Rt fun r w' => r = .bool true ∧ Upd [] w w') := by
 subst hbc
 have hM0 : Mem w [] w [] := Mem.nil w []
 refine calls_vc mixed Try.func68 rfl C68 (by simp [Try.ntmps68]) <| seq fun _ h1 => mv <| h1 _ _ <| seq fun _ h2 => seq fun _ h3 => mv <| stp (v := .int .i64 (bl.length : Nat)) (o_lenR (hv.upd hM0.upd) rfl rfl) <| mv <| stp (v := .int .i64 (bl.length : Nat)) (o_lenR (hu.upd hM0.upd) rfl rfl) <| stp (v := .bool false) (o_bin rfl rfl v_neF) <| h3 _ _ <| cndF rfl <| h2 _ _ ?_
 refine seq fun _ h4 => seq fun _ h5 => mv <| h5 _ _ <| lp (n := fun _ _ => False) (ι := (Nat)) (fun i f w' => f 5 = .int .i64 (i : Nat) ∧ f 0 = v ∧ f 1 = u ∧ Mem w [] w' [] ∧ (i ≤ bl.length)) (fun i => bl.length - i) (0) ?_ ?_
 ·exact ⟨vi, rfl, rfl, hM0, by omega⟩
 rintro i f w6 ⟨e6_5, e6_0, e6_1, hM6, hi⟩ K7 h7
 obtain ⟨frm, rfl⟩ := re3 e6_5 e6_0 e6_1
 refine seq fun _ h8 => seq fun _ h9 => mv <| mv <| stp (v := .int .i64 (bl.length : Nat)) (o_lenR (hv.upd hM6.upd) rfl rfl) <| bn rfl rfl <| h9 _ _ <| cndP rfl (fun c10 => ?_) (fun c10 => ?_)
 ·refine h8 _ _ <| seq fun _ h11 => seq fun _ h12 => ?_
  intro wd e1 e2 e3 e4
  have hd := Upd.same e1 e2 e3 e4 []
  have hM13 := hM6.pure hd
  clear e1 e2 e3 e4
  refine ⟨none, ?_⟩
  show vd _ _ _ _ _ _ _
  refine dmv <| dmv <| dqp (m_idxS bz (j := i) (hv.upd hM13.upd) rfl rfl (by omega) fun b14 o14 hp14 => ?_)
  show vd _ _ _ _ _ _ _
  refine dmv <| dmv <| dqp (m_idxS bz (j := i) (hu.upd hM13.upd) rfl rfl (by omega) fun b15 o15 hp15 => ?_)
  show vd _ _ _ _ _ _ _
  refine dqldA (cs := [.int .i64 ((bl.getD i bz).st), .int .i64 ((bl.getD i bz).ra), .int .i64 ((bl.getD i bz).ct), .string (str ((bl.getD i bz).cut))]) rfl (trivial) rfl (hp15.row (k := 0) rfl rfl) <| dl (ldA (cs := [.int .i64 ((bl.getD i bz).st), .int .i64 ((bl.getD i bz).ra), .int .i64 ((bl.getD i bz).ct), .string (str ((bl.getD i bz).cut))]) rfl rfl (hp14.row (k := 0) rfl rfl) <| ⟨rfl, dq (v := .bool (!(decide (((bl.getD i bz).st) = ((bl.getD i bz).st)) && (decide (((bl.getD i bz).ra) = ((bl.getD i bz).ra)) && (decide (((bl.getD i bz).ct) = ((bl.getD i bz).ct)) && (decide (((bl.getD i bz).cut) = ((bl.getD i bz).cut)) && true)))))) (o_aeq (t := (decide (((bl.getD i bz).st) = ((bl.getD i bz).st)) && (decide (((bl.getD i bz).ra) = ((bl.getD i bz).ra)) && (decide (((bl.getD i bz).ct) = ((bl.getD i bz).ct)) && (decide (((bl.getD i bz).cut) = ((bl.getD i bz).cut)) && true))))) rfl rfl (by simp [eqCs, eqC, toList_str, Int.natCast_inj]) rfl) <| h12 _ _ <| cnd rfl (fun c16 => absurd c16 (show ¬ (!(decide (((bl.getD i bz).st) = ((bl.getD i bz).st)) && (decide (((bl.getD i bz).ra) = ((bl.getD i bz).ra)) && (decide (((bl.getD i bz).ct) = ((bl.getD i bz).ct)) && (decide (((bl.getD i bz).cut) = ((bl.getD i bz).cut)) && true))))) = true from (by simp))) (fun c16 => h11 _ _ <| mv <| stp (v := .int .i64 ((i : Nat) + 1)) (o_bin rfl rfl (v_add64 (by omega))) <| mv <| h7 (i + 1) _ _ ⟨vi, rfl, rfl, hM13, by omega⟩ (by (try dsimp only); omega))⟩)
 refine h4 _ _ <| seq fun _ h17 => mv <| h17 _ _ <| ⟨(.bool true), rfl, ⟨rfl, hM6.upd⟩⟩
theorem sameFoot_eq (parts : Int) (x y : Value) (ps qs : List Pr) (w : World) (hx : RdS prC w x ps) (hok : ∀ p ∈ ps, p.ok w) (hy : RdS prC w y qs) (hok2 : ∀ p ∈ qs, p.ok w) (hl : ps.length ≤ 1954687338211) (he : ps.map Pr.p = qs.map Pr.p) : Calls Try.prog 37 [.agg [.int .i64 parts, x].toArray, .agg [.int .i64 parts, y].toArray].toArray w (Rt fun r w' => r = .bool true ∧ Upd [] w w') := by
 have hM0 : Mem w [] w [] := Mem.nil w []
 have hll : ps.length = qs.length := by have := congrArg List.length he; simpa using this
 refine calls_vc mixed Try.func37 rfl C37 (by simp [Try.ntmps37]) <| seq fun _ h1 => m_bx (v := .agg ([.int .i64 parts, x] : List Value).toArray) hM0 rfl rfl fun b2 w3 (hM3 : Mem w [] w3 [[⟨b2, 24, [.int .i64 parts, x]⟩]]) => m_bx (v := .agg ([.int .i64 parts, y] : List Value).toArray) hM3 rfl rfl fun b4 w5 (hM5 : Mem w [] w5 [[⟨b2, 24, [.int .i64 parts, x]⟩], [⟨b4, 24, [.int .i64 parts, y]⟩]]) => mv <| h1 _ _ <| seq fun _ h6 => seq fun _ h7 => fa rfl <| m_ld (v := .int .i64 parts) hM5 (i := 0) (j := 0) rfl rfl rfl rfl <| fa rfl <| m_ld (v := .int .i64 parts) hM5 (i := 1) (j := 0) rfl rfl rfl rfl <| stp (v := .bool false) (o_bin rfl rfl v_neF) <| mv ?_
 refine splitF rfl <| gfa rfl rfl <| gyesl rfl <| m_ld (v := x) hM5 (i := 0) (j := 0) rfl rfl rfl rfl <| stg rfl (v := .int .i64 (ps.length : Nat)) (o_lenR (hx.upd hM5.upd) rfl rfl) <| gfa rfl rfl <| gyesl rfl <| m_ld (v := y) hM5 (i := 1) (j := 0) rfl rfl rfl rfl <| stg rfl (v := .int .i64 (qs.length : Nat)) (o_lenR (hy.upd hM5.upd) rfl rfl) <| gbneq rfl rfl rfl <| pkF rfl <| h7 _ _ <| cndP rfl (fun c8 => absurd c8 (by omega)) (fun c8 => h6 _ _ ?_)
 refine seq fun _ h9 => seq fun _ h10 => mv <| h10 _ _ <| lp (n := fun _ _ => False) (ι := (Nat)) (fun i f w' => f 5 = .int .i64 (i : Nat) ∧ f 2 = .pointer (some ⟨b2, 0, none⟩) ∧ f 3 = .pointer (some ⟨b4, 0, none⟩) ∧ Mem w [] w' [[⟨b2, 24, [.int .i64 parts, x]⟩], [⟨b4, 24, [.int .i64 parts, y]⟩]] ∧ (i ≤ ps.length)) (fun i => ps.length - i) (0) ?_ ?_
 ·exact ⟨vi, rfl, rfl, hM5, by omega⟩
 rintro i f w11 ⟨e11_5, e11_2, e11_3, hM11, hi⟩ K12 h12
 obtain ⟨frm, rfl⟩ := re3 e11_5 e11_2 e11_3
 refine seq fun _ h13 => seq fun _ h14 => mv <| fa rfl <| m_ld (v := x) hM11 (i := 0) (j := 0) rfl rfl rfl rfl <| stp (v := .int .i64 (ps.length : Nat)) (o_lenR (hx.upd hM11.upd) rfl rfl) <| bn rfl rfl <| h14 _ _ <| cndP rfl (fun c15 => ?_) (fun c15 => ?_)
 ·refine h13 _ _ <| seq fun _ h16 => seq fun _ h17 => ?_
  intro wd e1 e2 e3 e4
  have hd := Upd.same e1 e2 e3 e4 []
  have hM18 := hM11.pure hd
  clear e1 e2 e3 e4
  refine ⟨(some [b4, (blkV y)]), ?_⟩
  show vd _ _ _ _ _ _ _
  have he9 := map_at he i
  have hpi := hok _ (getD_memG pz (l := ps) (i := i) (by omega))
  refine dfa rfl <| dmv <| dfa rfl <| dmv <| dqld rfl (by simp [isHeld]) (v := y) ((hM18.at (i := 1) (j := 0) rfl rfl).cell 1) <| dqp (m_idxS3 pz (j := i) (hy.upd hM18.upd) (hy.upd hM18.upd) rfl rfl (by omega) fun b19 o19 hp19 hbb19 => ?_)
  show vd _ _ _ _ _ _ _
  subst hbb19
  refine dfa rfl <| dqld rfl (by simp [isHeld]) (v := .int .i64 ((qs.getD i pz).part)) (hp19.get 0 rfl) <| dl (m_ld (v := x) hM18 (i := 0) (j := 0) rfl rfl rfl rfl <| ⟨(fun b hb => rfl), dqp (m_idxS pz (j := i) (hx.upd hM18.upd) rfl rfl (by omega) fun b20 o20 hp20 => ?_)⟩)
  show vd _ _ _ _ _ _ _
  refine dfa rfl <| dl (ld (v := .int .i64 ((ps.getD i pz).part)) rfl (hp20.get 0 rfl) <| ⟨(fun b hb => rfl), dq (v := .bool (decide (¬ ((ps.getD i pz).part) = ((qs.getD i pz).part)))) (o_bin rfl rfl v_neq) <| dmv <| dsplitP rfl (fun c21 => absurd c21 (by have := congrArg Pp.part he9; simpa using this)) (fun c21 => dgfa rfl rfl <| dgmv rfl <| dgfa rfl rfl <| dgmv rfl <| dqgyes rfl rfl <| dqld rfl (by simp [isHeld]) (v := y) ((hM18.at (i := 1) (j := 0) rfl rfl).cell 1) <| dgyes rfl rfl (dqp (m_idxS3 pz (j := i) (hy.upd hM18.upd) (hy.upd hM18.upd) rfl rfl (by omega) fun b22 o22 hp22 hbb22 => ?_)))⟩)
  show vd _ _ _ _ _ _ _
  subst hbb22
  refine dgfa rfl rfl <| dqgyes rfl rfl <| dqldA (cs := [.bool ((qs.getD i pz).a), .int .i64 ((qs.getD i pz).h), (qs.getD i pz).dv]) rfl (by simp [isHeld]) rfl (hp22.row (k := 2) rfl rfl) <| dgyesl rfl <| dl (m_ld (v := x) hM18 (i := 0) (j := 0) rfl rfl rfl rfl <| ⟨(fun b hb => rfl), dgyes rfl rfl (dqp (m_idxS pz (j := i) (hx.upd hM18.upd) rfl rfl (by omega) fun b23 o23 hp23 => ?_))⟩)
  show vd _ _ _ _ _ _ _
  refine dgfa rfl rfl <| dgyesl rfl <| dl (ldA (cs := [.bool ((ps.getD i pz).a), .int .i64 ((ps.getD i pz).h), (ps.getD i pz).dv]) rfl rfl (hp23.row (k := 2) rfl rfl) <| ⟨(fun b hb => rfl), dgyesl rfl <| dl (m_call (sameFilter_eq _ _ _ _ ((ps.getD i pz).d) ((qs.getD i pz).d) _ _ wd (((fun p hp => (hok p hp).upd hM18.upd) _ (getD_memG pz (by omega))).rd) ((hok2 _ (getD_memG pz (l := qs) (i := i) (by omega))).rd.upd hM18.upd) hpi.ld (congrArg Pp.a he9) (congrArg Pp.h he9) (congrArg Pp.d he9)) rfl fun v24 w24 ⟨hr24, hu24⟩ => ?_)⟩)
  have hM24 : Mem w [] w24 [[⟨b2, 24, [.int .i64 parts, x]⟩], [⟨b4, 24, [.int .i64 parts, y]⟩]] := hM18.pure hu24
  subst hr24
  have hh24 := held_upd (wr := wd) (bs := [b4, (blkV y)]) hu24 (fun b hb => by
   simp only [List.mem_cons, List.not_mem_nil, or_false] at hb
   rcases hb with h | h
   ·rw [h]; exact ⟨(hM18.at (i := 1) (j := 0) rfl rfl).lt, by simp⟩
   rw [h]; exact ⟨Rd.blkV_ltS (hy.upd hM18.upd) (by omega), by simp⟩) (fun b hb => rfl)
  refine ⟨hh24, dqg rfl (v := .bool false) (o_not rfl rfl) <| dpkF rfl <| dmv <| dsplitF rfl <| dgfa rfl rfl <| dgmv rfl <| dgfa rfl rfl <| dgmv rfl <| dqgyes rfl rfl <| dqld rfl (by simp [isHeld]) (v := y) ((hM18.at (i := 1) (j := 0) rfl rfl).cell 1) <| dgyes rfl rfl (dqp (m_idxS3 pz (j := i) (hy.upd hM24.upd) (hy.upd hM18.upd) rfl rfl (by omega) fun b25 o25 hp25 hbb25 => ?_))⟩
  show vd _ _ _ _ _ _ _
  subst hbb25
  refine dgfa rfl rfl <| dqgyes rfl rfl <| dqld rfl (by simp [isHeld]) (v := (qs.getD i pz).bv) (hp25.get 1 rfl) <| dgyesl rfl <| dl (m_ld (v := x) hM24 (i := 0) (j := 0) rfl rfl rfl rfl <| ⟨hh24, dgyes rfl rfl (dqp (m_idxS pz (j := i) (hx.upd hM24.upd) rfl rfl (by omega) fun b26 o26 hp26 => ?_))⟩)
  show vd _ _ _ _ _ _ _
  refine dgfa rfl rfl <| dgyesl rfl <| dl (ld (v := (ps.getD i pz).bv) rfl (hp26.get 1 rfl) <| ⟨hh24, dgyesl rfl <| dl (m_call (sameBlocks_eq ((ps.getD i pz).bl) ((qs.getD i pz).bl) _ _ w24 (((fun p hp => (hok p hp).upd hM24.upd) _ (getD_memG pz (by omega))).rb) ((hok2 _ (getD_memG pz (l := qs) (i := i) (by omega))).rb.upd hM24.upd) hpi.lb (congrArg Pp.bl he9)) rfl fun v27 w27 ⟨hr27, hu27⟩ => ?_)⟩)
  have hM27 : Mem w [] w27 [[⟨b2, 24, [.int .i64 parts, x]⟩], [⟨b4, 24, [.int .i64 parts, y]⟩]] := hM24.pure hu27
  subst hr27
  have hh27 := held_upd (wr := wd) (bs := [b4, (blkV y)]) hu27 (fun b hb => by
   simp only [List.mem_cons, List.not_mem_nil, or_false] at hb
   rcases hb with h | h
   ·rw [h]; exact ⟨(hM24.at (i := 1) (j := 0) rfl rfl).lt, by simp⟩
   rw [h]; exact ⟨Rd.blkV_ltS (hy.upd hM24.upd) (by omega), by simp⟩) hh24
  refine ⟨hh27, dqg rfl (v := .bool false) (o_not rfl rfl) <| dpkF rfl <| h17 _ _ <| cndF rfl <| h16 _ _ <| mv <| stp (v := .int .i64 ((i : Nat) + 1)) (o_bin rfl rfl (v_add64 (by omega))) <| mv <| h12 (i + 1) _ _ ⟨vi, rfl, rfl, hM27, by omega⟩ (by (try dsimp only); omega)⟩
 refine h9 _ _ <| seq fun _ h28 => mv <| h28 _ _ <| ⟨(.bool true), rfl, ⟨rfl, hM11.upd⟩⟩
