/- HuffCosts: the law's walk. -/
import Derived.Test.YtojnkjnebejodaaH1
namespace Go.Proofs.Ytojnkjnebejodaa.E
open Go

/-- winnowlaw4.keptCounts -/
theorem keptCounts_ok (g x : Value) (a b : List Int) (w : World) (hg : RdE i64V w g a) (hx : RdE i64V w x b) (hla : a.length = b.length + 64) (hl : b.length ≤ 17592186043904) : Calls Try.prog 16 [g, x].toArray w (Rt fun r w' => r = .bool (decide (a = b ++ List.replicate 64 (-77 : Int))) ∧ Upd [] w w') := by
  have hM0 : Mem w [] w [] := Mem.nil w []
  have hbm : (b ++ List.replicate 64 (-77 : Int)).length = b.length + 64 := by simp
  refine calls_vc mixed Try.func16 rfl C16 (by simp [Try.ntmps16]) ?_
  refine seq fun K1 h1 => ?_
  refine stp (v := .bool false) (o_mv rfl) ?_
  refine h1 _ _ ?_
  clear h1
  refine seq fun K2 h2 => ?_
  refine stp (v := x) (o_mv rfl) ?_
  refine m_call (roomyCounts_ok _ b w (hx.upd hM0.upd) (by first | omega | (simp; done) | (simp; omega))) rfl fun v3 w3 ⟨rs3, hs3, hm3⟩ => ?_
  have hM3 : Mem w [] w3 [rs3] := hM0.add hm3
  refine stp (v := v3) (o_mv rfl) ?_
  refine h2 _ _ ?_
  clear h2
  refine seq fun K4 h4 => ?_
  refine seq fun K5 h5 => ?_
  refine stp (v := .int .i64 0) (o_mv rfl) ?_
  refine h5 _ _ ?_
  clear h5
  refine lp (n := fun _ _ => False) (ι := (Nat)) (fun i f w' => f 0 = g ∧ f 5 = v3 ∧ f 6 = .int .i64 (i : Nat) ∧ Mem w [] w' [rs3] ∧ (i ≤ a.length) ∧ (a.take i = (b ++ List.replicate 64 (-77 : Int)).take i)) (fun i => a.length - i) (0) ?_ ?_
  · exact ⟨rfl, rfl, by first | rfl | exact v_int (by omega) | exact v_int (by simp) | exact v_int (by simp; omega), hM3, by omega, by simp⟩
  · rintro i f w6 ⟨e6_0, e6_5, e6_6, hM6, hi, hp⟩ K7 h7
    obtain ⟨frm, rfl⟩ : ∃ frm, f = (upd (upd (upd frm 0 (g)) 5 (v3)) 6 (.int .i64 (i : Nat))) := ⟨f, by rw [upd_self e6_0, upd_self e6_5, upd_self e6_6]⟩
    clear e6_0 e6_5 e6_6
    refine seq fun K8 h8 => ?_
    refine seq fun K9 h9 => ?_
    refine stp (v := .int .i64 (i : Nat)) (o_mv rfl) ?_
    refine stp (v := v3) (o_mv rfl) ?_
    refine stp (v := .int .i64 ((b ++ List.replicate 64 (-77 : Int)).length : Nat)) (o_lenR (hs3.rd hM6 (i := 0) rfl) rfl rfl) ?_
    refine stp (v := .bool (decide (((i : Nat) : Int) < ((b ++ List.replicate 64 (-77 : Int)).length : Nat)))) (o_bin rfl rfl rfl) ?_
    refine h9 _ _ ?_
    clear h9
    refine cndP rfl (fun c10 => ?_) (fun c10 => ?_)
    ·
      refine h8 _ _ ?_
      clear h8
      refine seq fun K11 h11 => ?_
      refine seq fun K12 h12 => ?_
      intro wd e1 e2 e3 e4
      have hd := Upd.same e1 e2 e3 e4 []
      have hM13 := hM6.pure hd
      clear e1 e2 e3 e4
      refine ⟨none, ?_⟩
      show vd _ _ _ _ _ _ _
      refine dq (v := g) (o_mv rfl) ?_
      refine dq (v := .int .i64 (i : Nat)) (o_mv rfl) ?_
      refine dqp (m_idxE 0 (j := i) (hg.upd hM13.upd) rfl rfl (by omega) fun b14 o14 hp14 => ?_)
      show vd _ _ _ _ _ _ _
      refine dq (v := v3) (o_mv rfl) ?_
      refine dq (v := .int .i64 (i : Nat)) (o_mv rfl) ?_
      refine dqp (m_idxE 0 (j := i) (hs3.rd hM13 (i := 0) rfl) rfl rfl (by omega) fun b15 o15 hp15 => ?_)
      show vd _ _ _ _ _ _ _
      refine dqld rfl (trivial) (v := .int .i64 ((b ++ List.replicate 64 (-77 : Int)).getD i 0)) (hp15) ?_
      refine dl (ld (v := .int .i64 (a.getD i 0)) rfl (hp14) ?_)
      refine ⟨rfl, ?_⟩
      refine dq (v := .bool (decide (¬ (a.getD i 0) = ((b ++ List.replicate 64 (-77 : Int)).getD i 0)))) (o_bin rfl rfl v_neq) ?_
      refine h12 _ _ ?_
      clear h12
      refine cndP rfl (fun c16 => ?_) (fun c16 => ?_)
      ·
        refine seq fun K17 h17 => ?_
        refine stp (v := .bool false) (o_mv rfl) ?_
        refine h17 _ _ ?_
        clear h17
        refine ⟨(.bool false), rfl, ?_⟩
        exact ⟨by rw [decide_eq_false (ne_atG 0 i (by assumption))], hM13.upd⟩
      ·
        refine h11 _ _ ?_
        clear h11
        refine stp (v := .int .i64 (i : Nat)) (o_mv rfl) ?_
        refine stp (v := .int .i64 ((i : Nat) + 1)) (o_bin rfl rfl (v_add64 (by constructor <;> omega))) ?_
        refine stp (v := .int .i64 ((i : Nat) + 1)) (o_mv rfl) ?_
        refine h7 (i + 1) _ _ ⟨rfl, rfl, by first | rfl | exact v_int (by omega) | exact v_int (by simp) | exact v_int (by simp; omega), hM13, by omega, take_eqG 0 hp (by omega) (by omega) (by omega)⟩ (by (try dsimp only); omega)
    ·
      refine h4 _ _ ?_
      clear h4
      refine seq fun K18 h18 => ?_
      refine stp (v := g) (o_mv rfl) ?_
      refine stp (v := .int .i64 (a.length : Nat)) (o_lenR (hg.upd hM6.upd) rfl rfl) ?_
      refine stp (v := v3) (o_mv rfl) ?_
      refine stp (v := .int .i64 ((b ++ List.replicate 64 (-77 : Int)).length : Nat)) (o_lenR (hs3.rd hM6 (i := 0) rfl) rfl rfl) ?_
      refine stp (v := .bool (decide (((a.length : Nat) : Int) = ((b ++ List.replicate 64 (-77 : Int)).length : Nat)))) (o_bin rfl rfl rfl) ?_
      refine stp (v := .bool (decide (((a.length : Nat) : Int) = ((b ++ List.replicate 64 (-77 : Int)).length : Nat)))) (o_mv rfl) ?_
      refine h18 _ _ ?_
      clear h18
      refine ⟨(.bool (decide (((a.length : Nat) : Int) = ((b ++ List.replicate 64 (-77 : Int)).length : Nat)))), rfl, ?_⟩
      rw [List.take_of_length_le (by omega), List.take_of_length_le (by omega)] at hp
      exact ⟨by rw [decide_eq_true (by omega), decide_eq_true hp], hM6.upd⟩

/-- winnowlaw4.keptInts -/
theorem keptInts_ok (g x : Value) (a b : List Int) (w : World) (hg : RdE i64V w g a) (hx : RdE i64V w x b) (hla : a.length = b.length + 64) (hl : b.length ≤ 17592186043904) : Calls Try.prog 17 [g, x].toArray w (Rt fun r w' => r = .bool (decide (a = b ++ List.replicate 64 (-77 : Int))) ∧ Upd [] w w') := by
  have hM0 : Mem w [] w [] := Mem.nil w []
  refine calls_vc mixed Try.func17 rfl C17 (by simp [Try.ntmps17]) ?_
  refine seq fun K1 h1 => ?_
  refine stp (v := .bool false) (o_mv rfl) ?_
  refine h1 _ _ ?_
  clear h1
  refine seq fun K2 h2 => ?_
  refine stp (v := g) (o_mv rfl) ?_
  refine stp (v := x) (o_mv rfl) ?_
  refine m_call (roomyInts_ok _ b w (hx.upd hM0.upd) (by first | omega | (simp; done) | (simp; omega))) rfl fun v3 w3 ⟨rs3, hs3, hm3⟩ => ?_
  have hM3 : Mem w [] w3 [rs3] := hM0.add hm3
  refine m_call (sameInts_ok _ _ a (b ++ List.replicate 64 (-77 : Int)) w3 (hg.upd hM3.upd) (hs3.rd hM3 (i := 0) rfl) (by first | omega | (simp; done) | (simp; omega))) rfl fun v4 w4 ⟨hr4, hu4⟩ => ?_
  have hM4 : Mem w [] w4 [rs3] := hM3.pure hu4
  subst hr4
  refine stp (v := .bool (decide (a = (b ++ List.replicate 64 (-77 : Int))))) (o_mv rfl) ?_
  refine h2 _ _ ?_
  clear h2
  refine ⟨(.bool (decide (a = (b ++ List.replicate 64 (-77 : Int))))), rfl, ?_⟩
  exact ⟨rfl, hM4.upd⟩

/-- winnowlaw4.HuffCosts -/
theorem HuffCosts_ok (x : Value) (cs : List Int) (y : Value) (ls : List Int) (w : World) (hx : RdE i64V w x cs) (_ : ∀ c ∈ cs, inK .i64 c) (hlc : cs.length * 8 ≤ 140737488351232) (hy : RdE i64V w y ls) (_ : ∀ c ∈ ls, inK .i64 c) (hll : ls.length * 8 ≤ 140737488351232) : Calls Try.prog 3 [x, y].toArray w (Rt fun r w' => r = .bool true ∧ Upd [] w w') := by
  have hM0 : Mem w [] w [] := Mem.nil w []
  refine calls_vc mixed Try.func3 rfl C3 (by simp [Try.ntmps3]) ?_
  refine seq fun K1 h1 => ?_
  refine stp (v := .bool false) (o_mv rfl) ?_
  refine h1 _ _ ?_
  clear h1
  refine seq fun K2 h2 => ?_
  refine stp (v := x) (o_mv rfl) ?_
  refine m_call (roomyCounts_ok _ cs w (hx.upd hM0.upd) (by first | omega | (simp; done) | (simp; omega))) rfl fun v3 w3 ⟨rs3, hs3, hm3⟩ => ?_
  have hM3 : Mem w [] w3 [rs3] := hM0.add hm3
  refine stp (v := v3) (o_mv rfl) ?_
  refine h2 _ _ ?_
  clear h2
  refine seq fun K4 h4 => ?_
  refine stp (v := y) (o_mv rfl) ?_
  refine m_call (roomyInts_ok _ ls w3 (hy.upd hM3.upd) (by first | omega | (simp; done) | (simp; omega))) rfl fun v5 w5 ⟨rs5, hs5, hm5⟩ => ?_
  have hM5 : Mem w [] w5 [rs3, rs5] := hM3.add hm5
  refine stp (v := v5) (o_mv rfl) ?_
  refine h4 _ _ ?_
  clear h4
  refine seq fun K6 h6 => ?_
  intro wd e1 e2 e3 e4
  have hd := Upd.same e1 e2 e3 e4 []
  have hM7 := hM5.pure hd
  clear e1 e2 e3 e4
  refine ⟨(some []), ?_⟩
  show vd _ _ _ _ _ _ _
  refine dq (v := v3) (o_mv rfl) ?_
  refine dq (v := x) (o_mv rfl) ?_
  refine dq (v := .int .i64 (cs.length : Nat)) (o_lenR (hx.upd hM7.upd) rfl rfl) ?_
  refine dqp (m_slcO cs.length (hs3) rfl (by first | omega | (simp; done) | (simp; omega)) (⟨_, rfl⟩) trivial fun u8 hu8 => ?_)
  show vd _ _ _ _ _ _ _
  have hu8' := SlE.eqL (m := cs) hu8 (by simp)
  refine dq (v := v5) (o_mv rfl) ?_
  refine dq (v := y) (o_mv rfl) ?_
  refine dq (v := .int .i64 (ls.length : Nat)) (o_lenR (hy.upd hM7.upd) rfl rfl) ?_
  refine dqp (m_slcO ls.length (hs5) rfl (by first | omega | (simp; done) | (simp; omega)) (⟨_, rfl⟩) trivial fun u9 hu9 => ?_)
  show vd _ _ _ _ _ _ _
  have hu9' := SlE.eqL (m := ls) hu9 (by simp)
  refine dl (m_call (Cost_ok _ _ cs ls wd (hu8'.rd hM7 (i := 0) rfl) (hu9'.rd hM7 (i := 1) rfl) (by first | omega | (simp; done) | (simp; omega)) (by first | omega | (simp; done) | (simp; omega))) rfl fun v10 w10 ⟨hr10, hu10⟩ => ?_)
  have hM10 : Mem w [] w10 [rs3, rs5] := hM7.pure hu10
  subst hr10
  refine ⟨(fun b hb => by cases hb), ?_⟩
  refine dq (v := .tuple [.int .i64 ((cost cs ls).1), .int .i64 ((cost cs ls).2)].toArray) (o_mv rfl) ?_
  refine dq (v := .int .i64 ((cost cs ls).1)) (o_ext rfl rfl) ?_
  refine dq (v := .int .i64 ((cost cs ls).2)) (o_ext rfl rfl) ?_
  refine dq (v := .int .i64 ((cost cs ls).1)) (o_mv rfl) ?_
  refine dq (v := .int .i64 ((cost cs ls).2)) (o_mv rfl) ?_
  refine h6 _ _ ?_
  clear h6
  refine seq fun K11 h11 => ?_
  refine stp (v := x) (o_mv rfl) ?_
  refine stp (v := y) (o_mv rfl) ?_
  refine m_call (refCost_ok _ _ cs ls w10 (hx.upd hM10.upd) (hy.upd hM10.upd) (by first | omega | (simp; done) | (simp; omega)) (by first | omega | (simp; done) | (simp; omega))) rfl fun v12 w12 ⟨hr12, hu12⟩ => ?_
  have hM12 : Mem w [] w12 [rs3, rs5] := hM10.pure hu12
  subst hr12
  refine stp (v := .tuple [.int .i64 ((cost cs ls).1), .int .i64 ((cost cs ls).2)].toArray) (o_mv rfl) ?_
  refine stp (v := .int .i64 ((cost cs ls).1)) (o_ext rfl rfl) ?_
  refine stp (v := .int .i64 ((cost cs ls).2)) (o_ext rfl rfl) ?_
  refine stp (v := .int .i64 ((cost cs ls).1)) (o_mv rfl) ?_
  refine stp (v := .int .i64 ((cost cs ls).2)) (o_mv rfl) ?_
  refine h11 _ _ ?_
  clear h11
  refine seq fun K13 h13 => ?_
  refine seq fun K14 h14 => ?_
  refine stp (v := .int .i64 ((cost cs ls).1)) (o_mv rfl) ?_
  refine stp (v := .int .i64 ((cost cs ls).1)) (o_mv rfl) ?_
  refine stp (v := .bool false) (o_bin rfl rfl v_neF) ?_
  refine stp (v := .bool false) (o_mv rfl) ?_
  refine splitF rfl ?_
  refine stg rfl (v := .int .i64 ((cost cs ls).2)) (o_mv rfl) ?_
  refine stg rfl (v := .int .i64 ((cost cs ls).2)) (o_mv rfl) ?_
  refine stg rfl (v := .bool false) (o_bin rfl rfl v_neF) ?_
  refine stp (v := .bool false) (o_pickF rfl rfl) ?_
  refine stp (v := .bool false) (o_mv rfl) ?_
  refine splitF rfl ?_
  refine stg rfl (v := v3) (o_mv rfl) ?_
  refine stg rfl (v := x) (o_mv rfl) ?_
  refine gyesl rfl ?_
  refine m_call (keptCounts_ok _ _ (cs ++ List.replicate 64 (-77 : Int)) cs w12 (hs3.rd hM12 (i := 0) rfl) (hx.upd hM12.upd) (by simp) (by first | omega | (simp; done) | (simp; omega))) rfl fun v15 w15 ⟨hr15, hu15⟩ => ?_
  have hM15 : Mem w [] w15 [rs3, rs5] := hM12.pure hu15
  obtain rfl : v15 = .bool true := hr15.trans (by simp)
  clear hr15
  refine stg rfl (v := .bool false) (o_not rfl rfl) ?_
  refine stp (v := .bool false) (o_pickF rfl rfl) ?_
  refine stp (v := .bool false) (o_mv rfl) ?_
  refine splitF rfl ?_
  refine stg rfl (v := v5) (o_mv rfl) ?_
  refine stg rfl (v := y) (o_mv rfl) ?_
  refine gyesl rfl ?_
  refine m_call (keptInts_ok _ _ (ls ++ List.replicate 64 (-77 : Int)) ls w15 (hs5.rd hM15 (i := 1) rfl) (hy.upd hM15.upd) (by simp) (by first | omega | (simp; done) | (simp; omega))) rfl fun v16 w16 ⟨hr16, hu16⟩ => ?_
  have hM16 : Mem w [] w16 [rs3, rs5] := hM15.pure hu16
  obtain rfl : v16 = .bool true := hr16.trans (by simp)
  clear hr16
  refine stg rfl (v := .bool false) (o_not rfl rfl) ?_
  refine stp (v := .bool false) (o_pickF rfl rfl) ?_
  refine h14 _ _ ?_
  clear h14
  refine cndF rfl ?_
  refine h13 _ _ ?_
  clear h13
  refine seq fun K17 h17 => ?_
  intro wd e1 e2 e3 e4
  have hd := Upd.same e1 e2 e3 e4 []
  have hM18 := hM16.pure hd
  clear e1 e2 e3 e4
  refine ⟨(some []), ?_⟩
  show vd _ _ _ _ _ _ _
  refine dq (v := v3) (o_mv rfl) ?_
  refine dq (v := x) (o_mv rfl) ?_
  refine dq (v := .int .i64 (cs.length : Nat)) (o_lenR (hx.upd hM18.upd) rfl rfl) ?_
  refine dqp (m_slcO cs.length (hs3) rfl (by first | omega | (simp; done) | (simp; omega)) (⟨_, rfl⟩) trivial fun u19 hu19 => ?_)
  show vd _ _ _ _ _ _ _
  have hu19' := SlE.eqL (m := cs) hu19 (by simp)
  refine dq (v := v5) (o_mv rfl) ?_
  refine dq (v := y) (o_mv rfl) ?_
  refine dq (v := .int .i64 (ls.length : Nat)) (o_lenR (hy.upd hM18.upd) rfl rfl) ?_
  refine dqp (m_slcO ls.length (hs5) rfl (by first | omega | (simp; done) | (simp; omega)) (⟨_, rfl⟩) trivial fun u20 hu20 => ?_)
  show vd _ _ _ _ _ _ _
  have hu20' := SlE.eqL (m := ls) hu20 (by simp)
  refine dl (m_call (backCounts_ok _ cs rs3 wd hu19' (hM18.res (i := 0) rfl) (by first | omega | (simp; done) | (simp; omega))) rfl fun v21 w21 ⟨hr21, hm21⟩ => ?_)
  have hM21 : Mem w [] w21 [upR i64V cs.reverse rs3, rs5] := hM18.step 0 rfl hm21
  subst hr21
  refine ⟨(fun b hb => by cases hb), ?_⟩
  refine dl (m_call (Cost_ok _ _ cs.reverse ls w21 ((SlE.up (m := cs.reverse) hu19' (by simp)).rd hM21 (i := 0) rfl) (hu20'.rd hM21 (i := 1) rfl) (by first | omega | (simp; done) | (simp; omega)) (by first | omega | (simp; done) | (simp; omega))) rfl fun v22 w22 ⟨hr22, hu22⟩ => ?_)
  have hM22 : Mem w [] w22 [upR i64V cs.reverse rs3, rs5] := hM21.pure hu22
  subst hr22
  refine ⟨(fun b hb => by cases hb), ?_⟩
  refine dq (v := .tuple [.int .i64 ((cost cs.reverse ls).1), .int .i64 ((cost cs.reverse ls).2)].toArray) (o_mv rfl) ?_
  refine dq (v := .int .i64 ((cost cs.reverse ls).1)) (o_ext rfl rfl) ?_
  refine dq (v := .int .i64 ((cost cs.reverse ls).2)) (o_ext rfl rfl) ?_
  refine dq (v := .int .i64 ((cost cs.reverse ls).1)) (o_mv rfl) ?_
  refine dq (v := .int .i64 ((cost cs.reverse ls).2)) (o_mv rfl) ?_
  refine h17 _ _ ?_
  clear h17
  refine seq fun K23 h23 => ?_
  refine stp (v := x) (o_mv rfl) ?_
  refine m_call (roomyCounts_ok _ cs w22 (hx.upd hM22.upd) (by first | omega | (simp; done) | (simp; omega))) rfl fun v24 w24 ⟨rs24, hs24, hm24⟩ => ?_
  have hM24 : Mem w [] w24 [upR i64V cs.reverse rs3, rs5, rs24] := hM22.add hm24
  refine stp (v := x) (o_mv rfl) ?_
  refine stp (v := .int .i64 (cs.length : Nat)) (o_lenR (hx.upd hM24.upd) rfl rfl) ?_
  refine m_slcO cs.length (hs24) rfl (by first | omega | (simp; done) | (simp; omega)) (⟨_, rfl⟩) trivial fun u25 hu25 => ?_
  have hu25' := SlE.eqL (m := cs) hu25 (by simp)
  refine m_call (backCounts_ok _ cs rs24 w24 hu25' (hM24.res (i := 2) rfl) (by first | omega | (simp; done) | (simp; omega))) rfl fun v26 w26 ⟨hr26, hm26⟩ => ?_
  have hM26 : Mem w [] w26 [upR i64V cs.reverse rs3, rs5, upR i64V cs.reverse rs24] := hM24.step 2 rfl hm26
  subst hr26
  refine stp (v := y) (o_mv rfl) ?_
  refine m_call (refCost_ok _ _ cs.reverse ls w26 ((SlE.up (m := cs.reverse) hu25' (by simp)).rd hM26 (i := 2) rfl) (hy.upd hM26.upd) (by first | omega | (simp; done) | (simp; omega)) (by first | omega | (simp; done) | (simp; omega))) rfl fun v27 w27 ⟨hr27, hu27⟩ => ?_
  have hM27 : Mem w [] w27 [upR i64V cs.reverse rs3, rs5, upR i64V cs.reverse rs24] := hM26.pure hu27
  subst hr27
  refine stp (v := .tuple [.int .i64 ((cost cs.reverse ls).1), .int .i64 ((cost cs.reverse ls).2)].toArray) (o_mv rfl) ?_
  refine stp (v := .int .i64 ((cost cs.reverse ls).1)) (o_ext rfl rfl) ?_
  refine stp (v := .int .i64 ((cost cs.reverse ls).2)) (o_ext rfl rfl) ?_
  refine stp (v := .int .i64 ((cost cs.reverse ls).1)) (o_mv rfl) ?_
  refine stp (v := .int .i64 ((cost cs.reverse ls).2)) (o_mv rfl) ?_
  refine h23 _ _ ?_
  clear h23
  refine seq fun K28 h28 => ?_
  refine seq fun K29 h29 => ?_
  refine stp (v := .int .i64 ((cost cs.reverse ls).1)) (o_mv rfl) ?_
  refine stp (v := .int .i64 ((cost cs.reverse ls).1)) (o_mv rfl) ?_
  refine stp (v := .bool false) (o_bin rfl rfl v_neF) ?_
  refine stp (v := .bool false) (o_mv rfl) ?_
  refine splitF rfl ?_
  refine stg rfl (v := .int .i64 ((cost cs.reverse ls).2)) (o_mv rfl) ?_
  refine stg rfl (v := .int .i64 ((cost cs.reverse ls).2)) (o_mv rfl) ?_
  refine stg rfl (v := .bool false) (o_bin rfl rfl v_neF) ?_
  refine stp (v := .bool false) (o_pickF rfl rfl) ?_
  refine h29 _ _ ?_
  clear h29
  refine cndF rfl ?_
  refine h28 _ _ ?_
  clear h28
  refine seq fun K30 h30 => ?_
  intro wd e1 e2 e3 e4
  have hd := Upd.same e1 e2 e3 e4 []
  have hM31 := hM27.pure hd
  clear e1 e2 e3 e4
  refine ⟨(some []), ?_⟩
  show vd _ _ _ _ _ _ _
  refine dq (v := v3) (o_mv rfl) ?_
  refine dq (v := x) (o_mv rfl) ?_
  refine dq (v := .int .i64 (cs.length : Nat)) (o_lenR (hx.upd hM31.upd) rfl rfl) ?_
  refine dqp (m_slcO cs.length ((SlE.upFull (m := cs.reverse) hs3 (by first | (simp; done) | (simp; omega)))) rfl (by first | omega | (simp; done) | (simp; omega)) (⟨_, rfl⟩) trivial fun u32 hu32 => ?_)
  show vd _ _ _ _ _ _ _
  have hu32' := SlE.eqL (m := cs.reverse) hu32 (by simp)
  refine dq (v := v5) (o_mv rfl) ?_
  refine dq (v := y) (o_mv rfl) ?_
  refine dq (v := .int .i64 (ls.length : Nat)) (o_lenR (hy.upd hM31.upd) rfl rfl) ?_
  refine dqp (m_slcO ls.length (hs5) rfl (by first | omega | (simp; done) | (simp; omega)) (⟨_, rfl⟩) trivial fun u33 hu33 => ?_)
  show vd _ _ _ _ _ _ _
  have hu33' := SlE.eqL (m := ls) hu33 (by simp)
  refine dl (m_call (backInts_ok _ ls rs5 wd hu33' (hM31.res (i := 1) rfl) (by first | omega | (simp; done) | (simp; omega))) rfl fun v34 w34 ⟨hr34, hm34⟩ => ?_)
  have hM34 : Mem w [] w34 [upR i64V cs.reverse rs3, upR i64V ls.reverse rs5, upR i64V cs.reverse rs24] := hM31.step 1 rfl hm34
  subst hr34
  refine ⟨(fun b hb => by cases hb), ?_⟩
  refine dl (m_call (Cost_ok _ _ cs.reverse ls.reverse w34 (hu32'.rd hM34 (i := 0) rfl) ((SlE.up (m := ls.reverse) hu33' (by simp)).rd hM34 (i := 1) rfl) (by first | omega | (simp; done) | (simp; omega)) (by first | omega | (simp; done) | (simp; omega))) rfl fun v35 w35 ⟨hr35, hu35⟩ => ?_)
  have hM35 : Mem w [] w35 [upR i64V cs.reverse rs3, upR i64V ls.reverse rs5, upR i64V cs.reverse rs24] := hM34.pure hu35
  subst hr35
  refine ⟨(fun b hb => by cases hb), ?_⟩
  refine dq (v := .tuple [.int .i64 ((cost cs.reverse ls.reverse).1), .int .i64 ((cost cs.reverse ls.reverse).2)].toArray) (o_mv rfl) ?_
  refine dq (v := .int .i64 ((cost cs.reverse ls.reverse).1)) (o_ext rfl rfl) ?_
  refine dq (v := .int .i64 ((cost cs.reverse ls.reverse).2)) (o_ext rfl rfl) ?_
  refine dq (v := .int .i64 ((cost cs.reverse ls.reverse).1)) (o_mv rfl) ?_
  refine dq (v := .int .i64 ((cost cs.reverse ls.reverse).2)) (o_mv rfl) ?_
  refine h30 _ _ ?_
  clear h30
  refine seq fun K36 h36 => ?_
  refine stp (v := x) (o_mv rfl) ?_
  refine m_call (roomyCounts_ok _ cs w35 (hx.upd hM35.upd) (by first | omega | (simp; done) | (simp; omega))) rfl fun v37 w37 ⟨rs37, hs37, hm37⟩ => ?_
  have hM37 : Mem w [] w37 [upR i64V cs.reverse rs3, upR i64V ls.reverse rs5, upR i64V cs.reverse rs24, rs37] := hM35.add hm37
  refine stp (v := x) (o_mv rfl) ?_
  refine stp (v := .int .i64 (cs.length : Nat)) (o_lenR (hx.upd hM37.upd) rfl rfl) ?_
  refine m_slcO cs.length (hs37) rfl (by first | omega | (simp; done) | (simp; omega)) (⟨_, rfl⟩) trivial fun u38 hu38 => ?_
  have hu38' := SlE.eqL (m := cs) hu38 (by simp)
  refine m_call (backCounts_ok _ cs rs37 w37 hu38' (hM37.res (i := 3) rfl) (by first | omega | (simp; done) | (simp; omega))) rfl fun v39 w39 ⟨hr39, hm39⟩ => ?_
  have hM39 : Mem w [] w39 [upR i64V cs.reverse rs3, upR i64V ls.reverse rs5, upR i64V cs.reverse rs24, upR i64V cs.reverse rs37] := hM37.step 3 rfl hm39
  subst hr39
  refine stp (v := y) (o_mv rfl) ?_
  refine m_call (roomyInts_ok _ ls w39 (hy.upd hM39.upd) (by first | omega | (simp; done) | (simp; omega))) rfl fun v40 w40 ⟨rs40, hs40, hm40⟩ => ?_
  have hM40 : Mem w [] w40 [upR i64V cs.reverse rs3, upR i64V ls.reverse rs5, upR i64V cs.reverse rs24, upR i64V cs.reverse rs37, rs40] := hM39.add hm40
  refine stp (v := y) (o_mv rfl) ?_
  refine stp (v := .int .i64 (ls.length : Nat)) (o_lenR (hy.upd hM40.upd) rfl rfl) ?_
  refine m_slcO ls.length (hs40) rfl (by first | omega | (simp; done) | (simp; omega)) (⟨_, rfl⟩) trivial fun u41 hu41 => ?_
  have hu41' := SlE.eqL (m := ls) hu41 (by simp)
  refine m_call (backInts_ok _ ls rs40 w40 hu41' (hM40.res (i := 4) rfl) (by first | omega | (simp; done) | (simp; omega))) rfl fun v42 w42 ⟨hr42, hm42⟩ => ?_
  have hM42 : Mem w [] w42 [upR i64V cs.reverse rs3, upR i64V ls.reverse rs5, upR i64V cs.reverse rs24, upR i64V cs.reverse rs37, upR i64V ls.reverse rs40] := hM40.step 4 rfl hm42
  subst hr42
  refine m_call (refCost_ok _ _ cs.reverse ls.reverse w42 ((SlE.up (m := cs.reverse) hu38' (by simp)).rd hM42 (i := 3) rfl) ((SlE.up (m := ls.reverse) hu41' (by simp)).rd hM42 (i := 4) rfl) (by first | omega | (simp; done) | (simp; omega)) (by first | omega | (simp; done) | (simp; omega))) rfl fun v43 w43 ⟨hr43, hu43⟩ => ?_
  have hM43 : Mem w [] w43 [upR i64V cs.reverse rs3, upR i64V ls.reverse rs5, upR i64V cs.reverse rs24, upR i64V cs.reverse rs37, upR i64V ls.reverse rs40] := hM42.pure hu43
  subst hr43
  refine stp (v := .tuple [.int .i64 ((cost cs.reverse ls.reverse).1), .int .i64 ((cost cs.reverse ls.reverse).2)].toArray) (o_mv rfl) ?_
  refine stp (v := .int .i64 ((cost cs.reverse ls.reverse).1)) (o_ext rfl rfl) ?_
  refine stp (v := .int .i64 ((cost cs.reverse ls.reverse).2)) (o_ext rfl rfl) ?_
  refine stp (v := .int .i64 ((cost cs.reverse ls.reverse).1)) (o_mv rfl) ?_
  refine stp (v := .int .i64 ((cost cs.reverse ls.reverse).2)) (o_mv rfl) ?_
  refine h36 _ _ ?_
  clear h36
  refine seq fun K44 h44 => ?_
  refine stp (v := .int .i64 ((cost cs.reverse ls.reverse).1)) (o_mv rfl) ?_
  refine stp (v := .int .i64 ((cost cs.reverse ls.reverse).1)) (o_mv rfl) ?_
  refine stp (v := .bool true) (o_bin rfl rfl v_eqT) ?_
  refine stp (v := .bool true) (o_mv rfl) ?_
  refine splitT rfl ?_
  refine stg rfl (v := .int .i64 ((cost cs.reverse ls.reverse).2)) (o_mv rfl) ?_
  refine stg rfl (v := .int .i64 ((cost cs.reverse ls.reverse).2)) (o_mv rfl) ?_
  refine stg rfl (v := .bool true) (o_bin rfl rfl v_eqT) ?_
  refine stp (v := .bool true) (o_pickT rfl rfl) ?_
  refine stp (v := .bool true) (o_mv rfl) ?_
  refine h44 _ _ ?_
  clear h44
  refine ⟨(.bool true), rfl, ?_⟩
  exact ⟨rfl, hM43.upd⟩
