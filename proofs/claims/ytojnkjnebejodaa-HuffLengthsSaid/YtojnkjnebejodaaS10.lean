/- HuffLengths: the law's walk. -/
import Derived.Test.YtojnkjnebejodaaS9
namespace Go.Proofs.Ytojnkjnebejodaa.E
open Go

/-- winnowlaw4.HuffLengths -/
theorem HuffLengths_ok (x : Value) (l : List Int) (lim : Int) (hk : inK .i64 lim) (w : World) (hx : RdE i64V w x l) (_ : ∀ c ∈ l, inK .i64 c) (hl : l.length * 8 ≤ 140737488351232) : Calls Try.prog 6 [x, .int .i64 lim].toArray w (Rt fun r w' => r = .bool true ∧ Upd [] w w') := by
  have hM0 : Mem w [] w [] := Mem.nil w []
  simp only [inK] at hk
  refine calls_vc mixed Try.func6 rfl C6 (by simp [Try.ntmps6]) ?_
  refine seq fun K1 h1 => ?_
  refine stp (v := .bool false) (o_mv rfl) ?_
  refine h1 _ _ ?_
  clear h1
  refine seq fun K2 h2 => ?_
  refine stp (v := x) (o_mv rfl) ?_
  refine m_call (roomyCounts_ok _ l w (hx.upd hM0.upd) (by first | omega | (simp; done) | (simp; omega))) rfl fun v3 w3 ⟨rs3, hs3, hm3⟩ => ?_
  have hM3 : Mem w [] w3 [rs3] := hM0.add hm3
  refine stp (v := v3) (o_mv rfl) ?_
  refine h2 _ _ ?_
  clear h2
  refine seq fun K4 h4 => ?_
  refine stp (v := v3) (o_mv rfl) ?_
  refine stp (v := x) (o_mv rfl) ?_
  refine stp (v := .int .i64 (l.length : Nat)) (o_lenR (hx.upd hM3.upd) rfl rfl) ?_
  refine m_slcO l.length (hs3) rfl (by first | omega | (simp; done) | (simp; omega)) (⟨_, rfl⟩) trivial fun u5 hu5 => ?_
  have hu5' := SlE.eqL (m := l) hu5 (by simp)
  refine stp (v := .int .i64 lim) (o_mv rfl) ?_
  refine m_call (Lengths_ok _ l lim w3 (hu5'.rd hM3 (i := 0) rfl) (by first | omega | (simp; done) | (simp; omega)) (by simp only [inK]; omega)) rfl fun v6 w6 ⟨y6, rs6, hr6, hs6, hm6⟩ => ?_
  have hM6 : Mem w [] w6 [rs3, rs6] := hM3.add hm6
  subst hr6
  have hll6 := lenF_len l lim
  try simp only [List.length_reverse] at hll6
  refine stp (v := .tuple [y6, .int .i64 ((lenF l lim).2)].toArray) (o_mv rfl) ?_
  refine stp (v := y6) (o_ext rfl rfl) ?_
  refine stp (v := .int .i64 ((lenF l lim).2)) (o_ext rfl rfl) ?_
  refine stp (v := y6) (o_mv rfl) ?_
  refine stp (v := .int .i64 ((lenF l lim).2)) (o_mv rfl) ?_
  refine h4 _ _ ?_
  clear h4
  refine seq fun K7 h7 => ?_
  refine stp (v := v3) (o_mv rfl) ?_
  refine stp (v := x) (o_mv rfl) ?_
  refine stp (v := .int .i64 (l.length : Nat)) (o_lenR (hx.upd hM6.upd) rfl rfl) ?_
  refine m_slcO l.length (hs3) rfl (by first | omega | (simp; done) | (simp; omega)) (⟨_, rfl⟩) trivial fun u8 hu8 => ?_
  have hu8' := SlE.eqL (m := l) hu8 (by simp)
  refine stp (v := .int .i64 lim) (o_mv rfl) ?_
  refine m_call (Lengths_ok _ l lim w6 (hu8'.rd hM6 (i := 0) rfl) (by first | omega | (simp; done) | (simp; omega)) (by simp only [inK]; omega)) rfl fun v9 w9 ⟨y9, rs9, hr9, hs9, hm9⟩ => ?_
  have hM9 : Mem w [] w9 [rs3, rs6, rs9] := hM6.add hm9
  subst hr9
  have hll9 := lenF_len l lim
  try simp only [List.length_reverse] at hll9
  refine stp (v := .tuple [y9, .int .i64 ((lenF l lim).2)].toArray) (o_mv rfl) ?_
  refine stp (v := y9) (o_ext rfl rfl) ?_
  refine stp (v := .int .i64 ((lenF l lim).2)) (o_ext rfl rfl) ?_
  refine stp (v := y9) (o_mv rfl) ?_
  refine stp (v := .int .i64 ((lenF l lim).2)) (o_mv rfl) ?_
  refine h7 _ _ ?_
  clear h7
  refine seq fun K10 h10 => ?_
  refine seq fun K11 h11 => ?_
  refine stp (v := .int .i64 0) (o_mv rfl) ?_
  refine h11 _ _ ?_
  clear h11
  refine lp (n := fun _ _ => False) (ι := (Nat) × (List Int) × (Value) × (List Ent)) (fun ⟨i, la, y6_, r6_⟩ f w' => f 6 = y6_ ∧ f 10 = .int .i64 (i : Nat) ∧ f 0 = x ∧ f 1 = .int .i64 lim ∧ f 5 = v3 ∧ f 7 = .int .i64 ((lenF l lim).2) ∧ f 8 = y9 ∧ f 9 = .int .i64 ((lenF l lim).2) ∧ Mem w [] w' [rs3, r6_, rs9] ∧ (la.length = (lenF l lim).1.length) ∧ (i ≤ la.length) ∧ (SlE i64V 3 y6_ (la) r6_)) (fun ⟨i, la, y6_, r6_⟩ => (lenF l lim).1.length - i) (0, (lenF l lim).1, y6, rs6) ?_ ?_
  · exact ⟨rfl, by first | rfl | exact v_int (by omega) | exact v_int (by simp) | exact v_int (by simp; omega), rfl, by first | rfl | exact v_int (by omega) | exact v_int (by simp) | exact v_int (by simp; omega), rfl, by first | rfl | exact v_int (by omega) | exact v_int (by simp) | exact v_int (by simp; omega), rfl, by first | rfl | exact v_int (by omega) | exact v_int (by simp) | exact v_int (by simp; omega), hM9, rfl, by omega, by first | exact hs6 | simpa using hs6⟩
  · rintro ⟨i, la, y6_, r6_⟩ f w12 ⟨e12_6, e12_10, e12_0, e12_1, e12_5, e12_7, e12_8, e12_9, hM12, hla, hi, hy6_⟩ K13 h13
    obtain ⟨frm, rfl⟩ : ∃ frm, f = (upd (upd (upd (upd (upd (upd (upd (upd frm 6 (y6_)) 10 (.int .i64 (i : Nat))) 0 (x)) 1 (.int .i64 lim)) 5 (v3)) 7 (.int .i64 ((lenF l lim).2))) 8 (y9)) 9 (.int .i64 ((lenF l lim).2))) := ⟨f, by rw [upd_self e12_6, upd_self e12_10, upd_self e12_0, upd_self e12_1, upd_self e12_5, upd_self e12_7, upd_self e12_8, upd_self e12_9]⟩
    clear e12_6 e12_10 e12_0 e12_1 e12_5 e12_7 e12_8 e12_9
    refine seq fun K14 h14 => ?_
    refine seq fun K15 h15 => ?_
    refine stp (v := .int .i64 (i : Nat)) (o_mv rfl) ?_
    refine stp (v := y6_) (o_mv rfl) ?_
    refine stp (v := .int .i64 (la.length : Nat)) (o_lenR (hy6_.rd hM12 (i := 1) rfl) rfl rfl) ?_
    refine stp (v := .bool (decide (((i : Nat) : Int) < (la.length : Nat)))) (o_bin rfl rfl rfl) ?_
    refine h15 _ _ ?_
    clear h15
    refine cndP rfl (fun c16 => ?_) (fun c16 => ?_)
    ·
      refine h14 _ _ ?_
      clear h14
      refine seq fun K17 h17 => ?_
      refine stp (v := y6_) (o_mv rfl) ?_
      refine stp (v := .int .i64 (i : Nat)) (o_mv rfl) ?_
      refine m_set (E := i64V) (q := -3) (j := i) hM12 (i := 1) rfl hy6_ rfl rfl (by omega) (by simp) (rfl) fun w18 r18 u18 he18 hs18 (hM18 : Mem w [] w18 [rs3, r18, rs9]) => ?_
      refine h17 _ _ ?_
      clear h17
      refine stp (v := .int .i64 (i : Nat)) (o_mv rfl) ?_
      refine stp (v := .int .i64 ((i : Nat) + 1)) (o_bin rfl rfl (v_add64 (by constructor <;> omega))) ?_
      refine stp (v := .int .i64 ((i : Nat) + 1)) (o_mv rfl) ?_
      refine h13 (i + 1, la.set i (-3), y6_, r18) _ _ ⟨rfl, by first | rfl | exact v_int (by omega) | exact v_int (by simp) | exact v_int (by simp; omega), rfl, by first | rfl | exact v_int (by omega) | exact v_int (by simp) | exact v_int (by simp; omega), rfl, by first | rfl | exact v_int (by omega) | exact v_int (by simp) | exact v_int (by simp; omega), rfl, by first | rfl | exact v_int (by omega) | exact v_int (by simp) | exact v_int (by simp; omega), hM18, by simp; omega, by simp; omega, by first | exact hs18 | simpa using hs18⟩ (by (try dsimp only); omega)
    ·
      refine h10 _ _ ?_
      clear h10
      refine seq fun K19 h19 => ?_
      refine seq fun K20 h20 => ?_
      refine stp (v := .int .i64 0) (o_mv rfl) ?_
      refine h20 _ _ ?_
      clear h20
      refine lp (n := fun _ _ => False) (ι := (Nat) × (List Int) × (Value) × (List Ent)) (fun ⟨i, lb, y6_, r6_⟩ f w' => f 6 = y6_ ∧ f 11 = .int .i64 (i : Nat) ∧ f 0 = x ∧ f 1 = .int .i64 lim ∧ f 5 = v3 ∧ f 7 = .int .i64 ((lenF l lim).2) ∧ f 8 = y9 ∧ f 9 = .int .i64 ((lenF l lim).2) ∧ Mem w [] w' [rs3, r6_, rs9] ∧ (lb.length = (lenF l lim).1.length + i) ∧ (i ≤ 64) ∧ (SlE i64V 3 y6_ (lb) r6_)) (fun ⟨i, lb, y6_, r6_⟩ => 64 - i) (0, la, y6_, r6_) ?_ ?_
      · exact ⟨rfl, by first | rfl | exact v_int (by omega) | exact v_int (by simp) | exact v_int (by simp; omega), rfl, by first | rfl | exact v_int (by omega) | exact v_int (by simp) | exact v_int (by simp; omega), rfl, by first | rfl | exact v_int (by omega) | exact v_int (by simp) | exact v_int (by simp; omega), rfl, by first | rfl | exact v_int (by omega) | exact v_int (by simp) | exact v_int (by simp; omega), hM12, by omega, by omega, by first | exact hy6_ | simpa using hy6_⟩
      · rintro ⟨i, lb, y6_, r6_⟩ f w21 ⟨e21_6, e21_11, e21_0, e21_1, e21_5, e21_7, e21_8, e21_9, hM21, hlb, hi, hy6_⟩ K22 h22
        obtain ⟨frm, rfl⟩ : ∃ frm, f = (upd (upd (upd (upd (upd (upd (upd (upd frm 6 (y6_)) 11 (.int .i64 (i : Nat))) 0 (x)) 1 (.int .i64 lim)) 5 (v3)) 7 (.int .i64 ((lenF l lim).2))) 8 (y9)) 9 (.int .i64 ((lenF l lim).2))) := ⟨f, by rw [upd_self e21_6, upd_self e21_11, upd_self e21_0, upd_self e21_1, upd_self e21_5, upd_self e21_7, upd_self e21_8, upd_self e21_9]⟩
        clear e21_6 e21_11 e21_0 e21_1 e21_5 e21_7 e21_8 e21_9
        refine seq fun K23 h23 => ?_
        refine seq fun K24 h24 => ?_
        refine stp (v := .int .i64 (i : Nat)) (o_mv rfl) ?_
        refine stp (v := .bool (decide (((i : Nat) : Int) < 64))) (o_bin rfl rfl rfl) ?_
        refine h24 _ _ ?_
        clear h24
        refine cndP rfl (fun c25 => ?_) (fun c25 => ?_)
        ·
          refine h23 _ _ ?_
          clear h23
          refine seq fun K26 h26 => ?_
          refine stp (v := y6_) (o_mv rfl) ?_
          refine m_app1 (E := i64V) (q := -4) hM21 (i := 1) rfl hy6_ rfl (by simp) (rfl) (by omega) (by omega) fun v27 w27 r27 u27 (hs27 : SlE i64V 3 v27 (lb ++ [-4]) r27) (hM27 : Mem w [] w27 [rs3, r27, rs9]) => ?_
          refine stp (v := v27) (o_mv rfl) ?_
          refine h26 _ _ ?_
          clear h26
          refine stp (v := .int .i64 (i : Nat)) (o_mv rfl) ?_
          refine stp (v := .int .i64 ((i : Nat) + 1)) (o_bin rfl rfl (v_add64 (by constructor <;> omega))) ?_
          refine stp (v := .int .i64 ((i : Nat) + 1)) (o_mv rfl) ?_
          refine h22 (i + 1, lb ++ [(-4)], v27, r27) _ _ ⟨rfl, by first | rfl | exact v_int (by omega) | exact v_int (by simp) | exact v_int (by simp; omega), rfl, by first | rfl | exact v_int (by omega) | exact v_int (by simp) | exact v_int (by simp; omega), rfl, by first | rfl | exact v_int (by omega) | exact v_int (by simp) | exact v_int (by simp; omega), rfl, by first | rfl | exact v_int (by omega) | exact v_int (by simp) | exact v_int (by simp; omega), hM27, by simp; omega, by omega, by first | exact hs27 | simpa using hs27⟩ (by (try dsimp only); omega)
        ·
          refine h19 _ _ ?_
          clear h19
          refine seq fun K28 h28 => ?_
          refine stp (v := x) (o_mv rfl) ?_
          refine stp (v := .int .i64 lim) (o_mv rfl) ?_
          refine m_call (refLengths_ok _ l lim w21 (hx.upd hM21.upd) (by first | omega | (simp; done) | (simp; omega)) (by simp only [inK]; omega)) rfl fun v29 w29 ⟨y29, rs29, hr29, hs29, hm29⟩ => ?_
          have hM29 : Mem w [] w29 [rs3, r6_, rs9, rs29] := hM21.add hm29
          subst hr29
          have hll29 := lenF_len l lim
          try simp only [List.length_reverse] at hll29
          refine stp (v := .tuple [y29, .int .i64 ((lenF l lim).2)].toArray) (o_mv rfl) ?_
          refine stp (v := y29) (o_ext rfl rfl) ?_
          refine stp (v := .int .i64 ((lenF l lim).2)) (o_ext rfl rfl) ?_
          refine stp (v := y29) (o_mv rfl) ?_
          refine stp (v := .int .i64 ((lenF l lim).2)) (o_mv rfl) ?_
          refine h28 _ _ ?_
          clear h28
          refine seq fun K30 h30 => ?_
          refine seq fun K31 h31 => ?_
          refine stp (v := .int .i64 ((lenF l lim).2)) (o_mv rfl) ?_
          refine stp (v := .int .i64 ((lenF l lim).2)) (o_mv rfl) ?_
          refine stp (v := .bool false) (o_bin rfl rfl v_neF) ?_
          refine stp (v := .bool false) (o_mv rfl) ?_
          refine splitF rfl ?_
          refine stg rfl (v := .int .i64 ((lenF l lim).2)) (o_mv rfl) ?_
          refine stg rfl (v := .int .i64 ((lenF l lim).2)) (o_mv rfl) ?_
          refine stg rfl (v := .bool false) (o_bin rfl rfl v_neF) ?_
          refine stp (v := .bool false) (o_pickF rfl rfl) ?_
          refine stp (v := .bool false) (o_mv rfl) ?_
          refine splitF rfl ?_
          refine stg rfl (v := y9) (o_mv rfl) ?_
          refine stg rfl (v := y29) (o_mv rfl) ?_
          refine gyesl rfl ?_
          refine m_call (sameInts_ok _ _ ((lenF l lim).1) ((lenF l lim).1) w29 (hs9.rd hM29 (i := 2) rfl) (hs29.rd hM29 (i := 3) rfl) (by first | omega | (simp; done) | (simp; omega))) rfl fun v32 w32 ⟨hr32, hu32⟩ => ?_
          have hM32 : Mem w [] w32 [rs3, r6_, rs9, rs29] := hM29.pure hu32
          obtain rfl : v32 = .bool true := hr32.trans (by simp)
          clear hr32
          refine stg rfl (v := .bool false) (o_not rfl rfl) ?_
          refine stp (v := .bool false) (o_pickF rfl rfl) ?_
          refine stp (v := .bool false) (o_mv rfl) ?_
          refine splitF rfl ?_
          refine stg rfl (v := y6_) (o_mv rfl) ?_
          refine stg rfl (v := .int .i64 (lb.length : Nat)) (o_lenR (hy6_.rd hM32 (i := 1) rfl) rfl rfl) ?_
          refine stg rfl (v := y9) (o_mv rfl) ?_
          refine stg rfl (v := .int .i64 (((lenF l lim).1).length : Nat)) (o_lenR (hs9.rd hM32 (i := 2) rfl) rfl rfl) ?_
          refine stg rfl (v := .int .i64 ((((lenF l lim).1).length : Nat) + 64)) (o_bin rfl rfl (v_add64 (by constructor <;> omega))) ?_
          refine stg rfl (v := .bool (decide (¬ ((lb.length : Nat) : Int) = ((((lenF l lim).1).length : Nat) + 64)))) (o_bin rfl rfl v_neq) ?_
          refine stp (v := .bool (decide (¬ ((lb.length : Nat) : Int) = ((((lenF l lim).1).length : Nat) + 64)))) (o_pickF rfl rfl) ?_
          refine stp (v := .bool (decide (¬ ((lb.length : Nat) : Int) = ((((lenF l lim).1).length : Nat) + 64)))) (o_mv rfl) ?_
          refine splitP rfl (fun c33 => absurd c33 (by omega)) (fun c33 => ?_)
          refine stg rfl (v := v3) (o_mv rfl) ?_
          refine stg rfl (v := x) (o_mv rfl) ?_
          refine gyesl rfl ?_
          refine m_call (keptCounts_ok _ _ (l ++ List.replicate 64 (-77 : Int)) l w32 (hs3.rd hM32 (i := 0) rfl) (hx.upd hM32.upd) (by simp) (by first | omega | (simp; done) | (simp; omega))) rfl fun v34 w34 ⟨hr34, hu34⟩ => ?_
          have hM34 : Mem w [] w34 [rs3, r6_, rs9, rs29] := hM32.pure hu34
          obtain rfl : v34 = .bool true := hr34.trans (by simp)
          clear hr34
          refine stg rfl (v := .bool false) (o_not rfl rfl) ?_
          refine stp (v := .bool false) (o_pickF rfl rfl) ?_
          refine h31 _ _ ?_
          clear h31
          refine cndF rfl ?_
          refine h30 _ _ ?_
          clear h30
          refine seq fun K35 h35 => ?_
          refine stp (v := x) (o_mv rfl) ?_
          refine m_call (roomyCounts_ok _ l w34 (hx.upd hM34.upd) (by first | omega | (simp; done) | (simp; omega))) rfl fun v36 w36 ⟨rs36, hs36, hm36⟩ => ?_
          have hM36 : Mem w [] w36 [rs3, r6_, rs9, rs29, rs36] := hM34.add hm36
          refine stp (v := x) (o_mv rfl) ?_
          refine stp (v := .int .i64 (l.length : Nat)) (o_lenR (hx.upd hM36.upd) rfl rfl) ?_
          refine m_slcO l.length (hs36) rfl (by first | omega | (simp; done) | (simp; omega)) (⟨_, rfl⟩) trivial fun u37 hu37 => ?_
          have hu37' := SlE.eqL (m := l) hu37 (by simp)
          refine m_call (backCounts_ok _ l rs36 w36 hu37' (hM36.res (i := 4) rfl) (by first | omega | (simp; done) | (simp; omega))) rfl fun v38 w38 ⟨hr38, hm38⟩ => ?_
          have hM38 : Mem w [] w38 [rs3, r6_, rs9, rs29, upR i64V l.reverse rs36] := hM36.step 4 rfl hm38
          rw [hr38]
          clear hr38
          refine stp (v := u37) (o_mv rfl) ?_
          refine h35 _ _ ?_
          clear h35
          refine seq fun K39 h39 => ?_
          refine stp (v := v3) (o_mv rfl) ?_
          refine stp (v := x) (o_mv rfl) ?_
          refine stp (v := .int .i64 (l.length : Nat)) (o_lenR (hx.upd hM38.upd) rfl rfl) ?_
          refine m_slcO l.length (hs3) rfl (by first | omega | (simp; done) | (simp; omega)) (⟨_, rfl⟩) trivial fun u40 hu40 => ?_
          have hu40' := SlE.eqL (m := l) hu40 (by simp)
          refine m_call (backCounts_ok _ l rs3 w38 hu40' (hM38.res (i := 0) rfl) (by first | omega | (simp; done) | (simp; omega))) rfl fun v41 w41 ⟨hr41, hm41⟩ => ?_
          have hM41 : Mem w [] w41 [upR i64V l.reverse rs3, r6_, rs9, rs29, upR i64V l.reverse rs36] := hM38.step 0 rfl hm41
          rw [hr41]
          clear hr41
          refine stp (v := .int .i64 lim) (o_mv rfl) ?_
          refine m_call (Lengths_ok _ l.reverse lim w41 ((SlE.up (m := l.reverse) hu40' (by simp)).rd hM41 (i := 0) rfl) (by first | omega | (simp; done) | (simp; omega)) (by simp only [inK]; omega)) rfl fun v42 w42 ⟨y42, rs42, hr42, hs42, hm42⟩ => ?_
          have hM42 : Mem w [] w42 [upR i64V l.reverse rs3, r6_, rs9, rs29, upR i64V l.reverse rs36, rs42] := hM41.add hm42
          subst hr42
          have hll42 := lenF_len l.reverse lim
          try simp only [List.length_reverse] at hll42
          refine stp (v := .tuple [y42, .int .i64 ((lenF l.reverse lim).2)].toArray) (o_mv rfl) ?_
          refine stp (v := y42) (o_ext rfl rfl) ?_
          refine stp (v := .int .i64 ((lenF l.reverse lim).2)) (o_ext rfl rfl) ?_
          refine stp (v := y42) (o_mv rfl) ?_
          refine stp (v := .int .i64 ((lenF l.reverse lim).2)) (o_mv rfl) ?_
          refine h39 _ _ ?_
          clear h39
          refine seq fun K43 h43 => ?_
          refine stp (v := u37) (o_mv rfl) ?_
          refine stp (v := .int .i64 lim) (o_mv rfl) ?_
          refine m_call (refLengths_ok _ l.reverse lim w42 ((SlE.up (m := l.reverse) hu37' (by simp)).rd hM42 (i := 4) rfl) (by first | omega | (simp; done) | (simp; omega)) (by simp only [inK]; omega)) rfl fun v44 w44 ⟨y44, rs44, hr44, hs44, hm44⟩ => ?_
          have hM44 : Mem w [] w44 [upR i64V l.reverse rs3, r6_, rs9, rs29, upR i64V l.reverse rs36, rs42, rs44] := hM42.add hm44
          subst hr44
          have hll44 := lenF_len l.reverse lim
          try simp only [List.length_reverse] at hll44
          refine stp (v := .tuple [y44, .int .i64 ((lenF l.reverse lim).2)].toArray) (o_mv rfl) ?_
          refine stp (v := y44) (o_ext rfl rfl) ?_
          refine stp (v := .int .i64 ((lenF l.reverse lim).2)) (o_ext rfl rfl) ?_
          refine stp (v := y44) (o_mv rfl) ?_
          refine stp (v := .int .i64 ((lenF l.reverse lim).2)) (o_mv rfl) ?_
          refine h43 _ _ ?_
          clear h43
          refine seq fun K45 h45 => ?_
          refine stp (v := y42) (o_mv rfl) ?_
          refine stp (v := y44) (o_mv rfl) ?_
          refine m_call (sameInts_ok _ _ ((lenF l.reverse lim).1) ((lenF l.reverse lim).1) w44 (hs42.rd hM44 (i := 5) rfl) (hs44.rd hM44 (i := 6) rfl) (by first | omega | (simp; done) | (simp; omega))) rfl fun v46 w46 ⟨hr46, hu46⟩ => ?_
          have hM46 : Mem w [] w46 [upR i64V l.reverse rs3, r6_, rs9, rs29, upR i64V l.reverse rs36, rs42, rs44] := hM44.pure hu46
          obtain rfl : v46 = .bool true := hr46.trans (by simp)
          clear hr46
          refine stp (v := .bool true) (o_mv rfl) ?_
          refine splitT rfl ?_
          refine stg rfl (v := .int .i64 ((lenF l.reverse lim).2)) (o_mv rfl) ?_
          refine stg rfl (v := .int .i64 ((lenF l.reverse lim).2)) (o_mv rfl) ?_
          refine stg rfl (v := .bool true) (o_bin rfl rfl v_eqT) ?_
          refine stp (v := .bool true) (o_pickT rfl rfl) ?_
          refine stp (v := .bool true) (o_mv rfl) ?_
          refine h45 _ _ ?_
          clear h45
          refine ⟨(.bool true), rfl, ?_⟩
          exact ⟨rfl, hM46.upd⟩
