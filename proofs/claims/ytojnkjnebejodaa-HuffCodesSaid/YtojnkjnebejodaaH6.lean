/- HuffCodes: the law's walk. -/
import Derived.Test.YtojnkjnebejodaaH5
namespace Go.Proofs.Ytojnkjnebejodaa.E
open Go
theorem codes_len (l : List Int) : (codes l).1.length ≤ 256 := by
  unfold codes
  split
  · simp
  · split
    · split
      · simp
      · simp only [codesL, List.length_map, List.length_range]; omega
    · simp

/-- winnowlaw4.HuffCodes -/
theorem HuffCodes_ok (x : Value) (l : List Int) (w : World) (hx : RdE i64V w x l) (_ : ∀ c ∈ l, inK .i64 c) (hl : l.length * 8 ≤ 140737488351232) : Calls Try.prog 4 [x].toArray w (Rt fun r w' => r = .bool true ∧ Upd [] w w') := by
  have hM0 : Mem w [] w [] := Mem.nil w []
  refine calls_vc mixed Try.func4 rfl C4 (by simp [Try.ntmps4]) ?_
  refine seq fun K1 h1 => ?_
  refine stp (v := .bool false) (o_mv rfl) ?_
  refine h1 _ _ ?_
  clear h1
  refine seq fun K2 h2 => ?_
  refine stp (v := x) (o_mv rfl) ?_
  refine m_call (roomyInts_ok _ l w (hx.upd hM0.upd) (by first | omega | (simp; done) | (simp; omega))) rfl fun v3 w3 ⟨rs3, hs3, hm3⟩ => ?_
  have hM3 : Mem w [] w3 [rs3] := hM0.add hm3
  refine stp (v := v3) (o_mv rfl) ?_
  refine h2 _ _ ?_
  clear h2
  refine seq fun K4 h4 => ?_
  refine stp (v := v3) (o_mv rfl) ?_
  refine stp (v := x) (o_mv rfl) ?_
  refine stp (v := .int .i64 (l.length : Nat)) (o_lenR (hx.upd hM3.upd) rfl rfl) ?_
  refine m_slcO l.length (hs3) rfl (by first | omega | (simp; done) | (simp; omega)) (⟨_, rfl⟩) trivial fun u5 hu5 => ?_
  have hu5' := SlE.eqL (m := l) hu5 (by simp)
  refine m_call (Codes_ok _ l w3 (hu5'.rd hM3 (i := 0) rfl) (by first | omega | (simp; done) | (simp; omega))) rfl fun v6 w6 ⟨y6, rs6, hr6, hs6, hm6⟩ => ?_
  have hM6 : Mem w [] w6 [rs3, rs6] := hM3.add hm6
  subst hr6
  have hcl6 := codes_len l
  refine stp (v := .tuple [y6, .int .i64 ((codes l).2)].toArray) (o_mv rfl) ?_
  refine stp (v := y6) (o_ext rfl rfl) ?_
  refine stp (v := .int .i64 ((codes l).2)) (o_ext rfl rfl) ?_
  refine stp (v := y6) (o_mv rfl) ?_
  refine stp (v := .int .i64 ((codes l).2)) (o_mv rfl) ?_
  refine h4 _ _ ?_
  clear h4
  refine seq fun K7 h7 => ?_
  refine stp (v := v3) (o_mv rfl) ?_
  refine stp (v := x) (o_mv rfl) ?_
  refine stp (v := .int .i64 (l.length : Nat)) (o_lenR (hx.upd hM6.upd) rfl rfl) ?_
  refine m_slcO l.length (hs3) rfl (by first | omega | (simp; done) | (simp; omega)) (⟨_, rfl⟩) trivial fun u8 hu8 => ?_
  have hu8' := SlE.eqL (m := l) hu8 (by simp)
  refine m_call (Codes_ok _ l w6 (hu8'.rd hM6 (i := 0) rfl) (by first | omega | (simp; done) | (simp; omega))) rfl fun v9 w9 ⟨y9, rs9, hr9, hs9, hm9⟩ => ?_
  have hM9 : Mem w [] w9 [rs3, rs6, rs9] := hM6.add hm9
  subst hr9
  have hcl9 := codes_len l
  refine stp (v := .tuple [y9, .int .i64 ((codes l).2)].toArray) (o_mv rfl) ?_
  refine stp (v := y9) (o_ext rfl rfl) ?_
  refine stp (v := .int .i64 ((codes l).2)) (o_ext rfl rfl) ?_
  refine stp (v := y9) (o_mv rfl) ?_
  refine stp (v := .int .i64 ((codes l).2)) (o_mv rfl) ?_
  refine h7 _ _ ?_
  clear h7
  refine seq fun K10 h10 => ?_
  refine seq fun K11 h11 => ?_
  refine stp (v := .int .i64 0) (o_mv rfl) ?_
  refine h11 _ _ ?_
  clear h11
  refine lp (n := fun _ _ => False) (ι := (Nat) × (List (Int × Int)) × (Value) × (List Ent)) (fun ⟨i, la, y4_, r4_⟩ f w' => f 4 = y4_ ∧ f 8 = .int .i64 (i : Nat) ∧ f 0 = x ∧ f 3 = v3 ∧ f 5 = .int .i64 ((codes l).2) ∧ f 6 = y9 ∧ f 7 = .int .i64 ((codes l).2) ∧ Mem w [] w' [rs3, r4_, rs9] ∧ (la.length = (codes l).1.length) ∧ (i ≤ la.length) ∧ (SlS codeC 2 37 y4_ (la) r4_)) (fun ⟨i, la, y4_, r4_⟩ => (codes l).1.length - i) (0, (codes l).1, y6, rs6) ?_ ?_
  · exact ⟨rfl, by first | rfl | exact v_int (by omega) | exact v_int (by simp) | exact v_int (by simp; omega), rfl, rfl, by first | rfl | exact v_int (by omega) | exact v_int (by simp) | exact v_int (by simp; omega), rfl, by first | rfl | exact v_int (by omega) | exact v_int (by simp) | exact v_int (by simp; omega), hM9, rfl, by omega, by first | exact hs6 | simpa using hs6⟩
  · rintro ⟨i, la, y4_, r4_⟩ f w12 ⟨e12_4, e12_8, e12_0, e12_3, e12_5, e12_6, e12_7, hM12, hla, hi, hy4_⟩ K13 h13
    obtain ⟨frm, rfl⟩ : ∃ frm, f = (upd (upd (upd (upd (upd (upd (upd frm 4 (y4_)) 8 (.int .i64 (i : Nat))) 0 (x)) 3 (v3)) 5 (.int .i64 ((codes l).2))) 6 (y9)) 7 (.int .i64 ((codes l).2))) := ⟨f, by rw [upd_self e12_4, upd_self e12_8, upd_self e12_0, upd_self e12_3, upd_self e12_5, upd_self e12_6, upd_self e12_7]⟩
    clear e12_4 e12_8 e12_0 e12_3 e12_5 e12_6 e12_7
    refine seq fun K14 h14 => ?_
    refine seq fun K15 h15 => ?_
    refine stp (v := .int .i64 (i : Nat)) (o_mv rfl) ?_
    refine stp (v := y4_) (o_mv rfl) ?_
    refine stp (v := .int .i64 (la.length : Nat)) (o_lenR (hy4_.rd hM12 (i := 1) rfl) rfl rfl) ?_
    refine stp (v := .bool (decide (((i : Nat) : Int) < (la.length : Nat)))) (o_bin rfl rfl rfl) ?_
    refine h15 _ _ ?_
    clear h15
    refine cndP rfl (fun c16 => ?_) (fun c16 => ?_)
    ·
      refine h14 _ _ ?_
      clear h14
      refine seq fun K17 h17 => ?_
      refine stp (v := y4_) (o_mv rfl) ?_
      refine stp (v := .int .i64 (i : Nat)) (o_mv rfl) ?_
      refine stp (v := .agg [.int .i64 (-1), .int .u32 0].toArray) (o_bld rfl rfl) ?_
      refine m_setS (enc := codeC) ((0, 0) : Int × Int) (q := (-1, 0)) (j := i) hM12 (i := 1) rfl hy4_ rfl rfl (by omega) (by simp) (rfl) fun w18 r18 u18 he18 hs18 (hM18 : Mem w [] w18 [rs3, r18, rs9]) => ?_
      refine h17 _ _ ?_
      clear h17
      refine stp (v := .int .i64 (i : Nat)) (o_mv rfl) ?_
      refine stp (v := .int .i64 ((i : Nat) + 1)) (o_bin rfl rfl (v_add64 (by constructor <;> omega))) ?_
      refine stp (v := .int .i64 ((i : Nat) + 1)) (o_mv rfl) ?_
      refine h13 (i + 1, la.set i (-1, 0), y4_, r18) _ _ ⟨rfl, by first | rfl | exact v_int (by omega) | exact v_int (by simp) | exact v_int (by simp; omega), rfl, rfl, by first | rfl | exact v_int (by omega) | exact v_int (by simp) | exact v_int (by simp; omega), rfl, by first | rfl | exact v_int (by omega) | exact v_int (by simp) | exact v_int (by simp; omega), hM18, by simp; omega, by simp; omega, by first | exact hs18 | simpa using hs18⟩ (by (try dsimp only); omega)
    ·
      refine h10 _ _ ?_
      clear h10
      refine seq fun K19 h19 => ?_
      refine seq fun K20 h20 => ?_
      refine stp (v := .int .i64 0) (o_mv rfl) ?_
      refine h20 _ _ ?_
      clear h20
      refine lp (n := fun _ _ => False) (ι := (Nat) × (List (Int × Int)) × (Value) × (List Ent)) (fun ⟨i, lb, y4_, r4_⟩ f w' => f 4 = y4_ ∧ f 9 = .int .i64 (i : Nat) ∧ f 0 = x ∧ f 3 = v3 ∧ f 5 = .int .i64 ((codes l).2) ∧ f 6 = y9 ∧ f 7 = .int .i64 ((codes l).2) ∧ Mem w [] w' [rs3, r4_, rs9] ∧ (lb.length = (codes l).1.length + i) ∧ (i ≤ 64) ∧ (SlS codeC 2 37 y4_ (lb) r4_)) (fun ⟨i, lb, y4_, r4_⟩ => 64 - i) (0, la, y4_, r4_) ?_ ?_
      · exact ⟨rfl, by first | rfl | exact v_int (by omega) | exact v_int (by simp) | exact v_int (by simp; omega), rfl, rfl, by first | rfl | exact v_int (by omega) | exact v_int (by simp) | exact v_int (by simp; omega), rfl, by first | rfl | exact v_int (by omega) | exact v_int (by simp) | exact v_int (by simp; omega), hM12, by omega, by omega, by first | exact hy4_ | simpa using hy4_⟩
      · rintro ⟨i, lb, y4_, r4_⟩ f w21 ⟨e21_4, e21_9, e21_0, e21_3, e21_5, e21_6, e21_7, hM21, hlb, hi, hy4_⟩ K22 h22
        obtain ⟨frm, rfl⟩ : ∃ frm, f = (upd (upd (upd (upd (upd (upd (upd frm 4 (y4_)) 9 (.int .i64 (i : Nat))) 0 (x)) 3 (v3)) 5 (.int .i64 ((codes l).2))) 6 (y9)) 7 (.int .i64 ((codes l).2))) := ⟨f, by rw [upd_self e21_4, upd_self e21_9, upd_self e21_0, upd_self e21_3, upd_self e21_5, upd_self e21_6, upd_self e21_7]⟩
        clear e21_4 e21_9 e21_0 e21_3 e21_5 e21_6 e21_7
        refine seq fun K23 h23 => ?_
        refine seq fun K24 h24 => ?_
        refine stp (v := .int .i64 (i : Nat)) (o_mv rfl) ?_
        refine stp (v := .bool (decide (((i : Nat) : Int) < 64))) (o_bin rfl rfl rfl) ?_
        refine h24 _ _ ?_
        clear h24
        refine cndP rfl (fun c25 => ?_) (fun c25 => ?_)
        ·
          refine h23 _ _ ?_
          clear h23
          refine seq fun K26 h26 => ?_
          refine stp (v := y4_) (o_mv rfl) ?_
          refine stp (v := .agg [.int .i64 (-2), .int .u32 0].toArray) (o_bld rfl rfl) ?_
          refine m_app1S (enc := codeC) (q := (-2, 0)) hM21 (i := 1) rfl hy4_ rfl (by simp) (rfl) rfl (by first | omega | (simp; omega)) (by omega) fun v27 w27 r27 u27 (hs27 : SlS codeC 2 37 v27 (lb ++ [(-2, 0)]) r27) (hM27 : Mem w [] w27 [rs3, r27, rs9]) => ?_
          refine stp (v := v27) (o_mv rfl) ?_
          refine h26 _ _ ?_
          clear h26
          refine stp (v := .int .i64 (i : Nat)) (o_mv rfl) ?_
          refine stp (v := .int .i64 ((i : Nat) + 1)) (o_bin rfl rfl (v_add64 (by constructor <;> omega))) ?_
          refine stp (v := .int .i64 ((i : Nat) + 1)) (o_mv rfl) ?_
          refine h22 (i + 1, lb ++ [(-2, 0)], v27, r27) _ _ ⟨rfl, by first | rfl | exact v_int (by omega) | exact v_int (by simp) | exact v_int (by simp; omega), rfl, rfl, by first | rfl | exact v_int (by omega) | exact v_int (by simp) | exact v_int (by simp; omega), rfl, by first | rfl | exact v_int (by omega) | exact v_int (by simp) | exact v_int (by simp; omega), hM27, by simp; omega, by omega, by first | exact hs27 | simpa using hs27⟩ (by (try dsimp only); omega)
        ·
          refine h19 _ _ ?_
          clear h19
          refine seq fun K28 h28 => ?_
          refine stp (v := x) (o_mv rfl) ?_
          refine m_call (refCodes_ok _ l w21 (hx.upd hM21.upd) (by first | omega | (simp; done) | (simp; omega))) rfl fun v29 w29 ⟨y29, rs29, hr29, hs29, hm29⟩ => ?_
          have hM29 : Mem w [] w29 [rs3, r4_, rs9, rs29] := hM21.add hm29
          subst hr29
          have hcl29 := codes_len l
          refine stp (v := .tuple [y29, .int .i64 ((codes l).2)].toArray) (o_mv rfl) ?_
          refine stp (v := y29) (o_ext rfl rfl) ?_
          refine stp (v := .int .i64 ((codes l).2)) (o_ext rfl rfl) ?_
          refine stp (v := y29) (o_mv rfl) ?_
          refine stp (v := .int .i64 ((codes l).2)) (o_mv rfl) ?_
          refine h28 _ _ ?_
          clear h28
          refine seq fun K30 h30 => ?_
          refine seq fun K31 h31 => ?_
          refine stp (v := .int .i64 ((codes l).2)) (o_mv rfl) ?_
          refine stp (v := .int .i64 ((codes l).2)) (o_mv rfl) ?_
          refine stp (v := .bool false) (o_bin rfl rfl v_neF) ?_
          refine stp (v := .bool false) (o_mv rfl) ?_
          refine splitF rfl ?_
          refine stg rfl (v := .int .i64 ((codes l).2)) (o_mv rfl) ?_
          refine stg rfl (v := .int .i64 ((codes l).2)) (o_mv rfl) ?_
          refine stg rfl (v := .bool false) (o_bin rfl rfl v_neF) ?_
          refine stp (v := .bool false) (o_pickF rfl rfl) ?_
          refine stp (v := .bool false) (o_mv rfl) ?_
          refine splitF rfl ?_
          refine stg rfl (v := y9) (o_mv rfl) ?_
          refine stg rfl (v := y29) (o_mv rfl) ?_
          refine gyesl rfl ?_
          refine m_call (sameCodes_ok _ _ ((codes l).1) ((codes l).1) w29 (hs9.rd hM29 (i := 2) rfl) (hs29.rd hM29 (i := 3) rfl) (by omega)) rfl fun v32 w32 ⟨hr32, hu32⟩ => ?_
          have hM32 : Mem w [] w32 [rs3, r4_, rs9, rs29] := hM29.pure hu32
          obtain rfl : v32 = .bool true := hr32.trans (by simp)
          clear hr32
          refine stg rfl (v := .bool false) (o_not rfl rfl) ?_
          refine stp (v := .bool false) (o_pickF rfl rfl) ?_
          refine stp (v := .bool false) (o_mv rfl) ?_
          refine splitF rfl ?_
          refine stg rfl (v := y4_) (o_mv rfl) ?_
          refine stg rfl (v := .int .i64 (lb.length : Nat)) (o_lenR (hy4_.rd hM32 (i := 1) rfl) rfl rfl) ?_
          refine stg rfl (v := y9) (o_mv rfl) ?_
          refine stg rfl (v := .int .i64 (((codes l).1).length : Nat)) (o_lenR (hs9.rd hM32 (i := 2) rfl) rfl rfl) ?_
          refine stg rfl (v := .int .i64 ((((codes l).1).length : Nat) + 64)) (o_bin rfl rfl (v_add64 (by constructor <;> omega))) ?_
          refine stg rfl (v := .bool (decide (¬ ((lb.length : Nat) : Int) = ((((codes l).1).length : Nat) + 64)))) (o_bin rfl rfl v_neq) ?_
          refine stp (v := .bool (decide (¬ ((lb.length : Nat) : Int) = ((((codes l).1).length : Nat) + 64)))) (o_pickF rfl rfl) ?_
          refine stp (v := .bool (decide (¬ ((lb.length : Nat) : Int) = ((((codes l).1).length : Nat) + 64)))) (o_mv rfl) ?_
          refine splitP rfl (fun c33 => absurd c33 (by omega)) (fun c33 => ?_)
          refine stg rfl (v := v3) (o_mv rfl) ?_
          refine stg rfl (v := x) (o_mv rfl) ?_
          refine gyesl rfl ?_
          refine m_call (keptInts_ok _ _ (l ++ List.replicate 64 (-77 : Int)) l w32 (hs3.rd hM32 (i := 0) rfl) (hx.upd hM32.upd) (by simp) (by first | omega | (simp; done) | (simp; omega))) rfl fun v34 w34 ⟨hr34, hu34⟩ => ?_
          have hM34 : Mem w [] w34 [rs3, r4_, rs9, rs29] := hM32.pure hu34
          obtain rfl : v34 = .bool true := hr34.trans (by simp)
          clear hr34
          refine stg rfl (v := .bool false) (o_not rfl rfl) ?_
          refine stp (v := .bool false) (o_pickF rfl rfl) ?_
          refine h31 _ _ ?_
          clear h31
          refine cndF rfl ?_
          refine h30 _ _ ?_
          clear h30
          refine seq fun K35 h35 => ?_
          refine stp (v := v3) (o_mv rfl) ?_
          refine stp (v := x) (o_mv rfl) ?_
          refine stp (v := .int .i64 (l.length : Nat)) (o_lenR (hx.upd hM34.upd) rfl rfl) ?_
          refine m_slcO l.length (hs3) rfl (by first | omega | (simp; done) | (simp; omega)) (⟨_, rfl⟩) trivial fun u36 hu36 => ?_
          have hu36' := SlE.eqL (m := l) hu36 (by simp)
          refine m_call (backInts_ok _ l rs3 w34 hu36' (hM34.res (i := 0) rfl) (by first | omega | (simp; done) | (simp; omega))) rfl fun v37 w37 ⟨hr37, hm37⟩ => ?_
          have hM37 : Mem w [] w37 [upR i64V l.reverse rs3, r4_, rs9, rs29] := hM34.step 0 rfl hm37
          subst hr37
          refine m_call (Codes_ok _ l.reverse w37 ((SlE.up (m := l.reverse) hu36' (by simp)).rd hM37 (i := 0) rfl) (by first | omega | (simp; done) | (simp; omega))) rfl fun v38 w38 ⟨y38, rs38, hr38, hs38, hm38⟩ => ?_
          have hM38 : Mem w [] w38 [upR i64V l.reverse rs3, r4_, rs9, rs29, rs38] := hM37.add hm38
          subst hr38
          have hcl38 := codes_len l.reverse
          refine stp (v := .tuple [y38, .int .i64 ((codes l.reverse).2)].toArray) (o_mv rfl) ?_
          refine stp (v := y38) (o_ext rfl rfl) ?_
          refine stp (v := .int .i64 ((codes l.reverse).2)) (o_ext rfl rfl) ?_
          refine stp (v := y38) (o_mv rfl) ?_
          refine stp (v := .int .i64 ((codes l.reverse).2)) (o_mv rfl) ?_
          refine h35 _ _ ?_
          clear h35
          refine seq fun K39 h39 => ?_
          refine stp (v := x) (o_mv rfl) ?_
          refine m_call (roomyInts_ok _ l w38 (hx.upd hM38.upd) (by first | omega | (simp; done) | (simp; omega))) rfl fun v40 w40 ⟨rs40, hs40, hm40⟩ => ?_
          have hM40 : Mem w [] w40 [upR i64V l.reverse rs3, r4_, rs9, rs29, rs38, rs40] := hM38.add hm40
          refine stp (v := x) (o_mv rfl) ?_
          refine stp (v := .int .i64 (l.length : Nat)) (o_lenR (hx.upd hM40.upd) rfl rfl) ?_
          refine m_slcO l.length (hs40) rfl (by first | omega | (simp; done) | (simp; omega)) (⟨_, rfl⟩) trivial fun u41 hu41 => ?_
          have hu41' := SlE.eqL (m := l) hu41 (by simp)
          refine m_call (backInts_ok _ l rs40 w40 hu41' (hM40.res (i := 5) rfl) (by first | omega | (simp; done) | (simp; omega))) rfl fun v42 w42 ⟨hr42, hm42⟩ => ?_
          have hM42 : Mem w [] w42 [upR i64V l.reverse rs3, r4_, rs9, rs29, rs38, upR i64V l.reverse rs40] := hM40.step 5 rfl hm42
          subst hr42
          refine m_call (refCodes_ok _ l.reverse w42 ((SlE.up (m := l.reverse) hu41' (by simp)).rd hM42 (i := 5) rfl) (by first | omega | (simp; done) | (simp; omega))) rfl fun v43 w43 ⟨y43, rs43, hr43, hs43, hm43⟩ => ?_
          have hM43 : Mem w [] w43 [upR i64V l.reverse rs3, r4_, rs9, rs29, rs38, upR i64V l.reverse rs40, rs43] := hM42.add hm43
          subst hr43
          have hcl43 := codes_len l.reverse
          refine stp (v := .tuple [y43, .int .i64 ((codes l.reverse).2)].toArray) (o_mv rfl) ?_
          refine stp (v := y43) (o_ext rfl rfl) ?_
          refine stp (v := .int .i64 ((codes l.reverse).2)) (o_ext rfl rfl) ?_
          refine stp (v := y43) (o_mv rfl) ?_
          refine stp (v := .int .i64 ((codes l.reverse).2)) (o_mv rfl) ?_
          refine h39 _ _ ?_
          clear h39
          refine seq fun K44 h44 => ?_
          refine stp (v := y38) (o_mv rfl) ?_
          refine stp (v := y43) (o_mv rfl) ?_
          refine m_call (sameCodes_ok _ _ ((codes l.reverse).1) ((codes l.reverse).1) w43 (hs38.rd hM43 (i := 4) rfl) (hs43.rd hM43 (i := 6) rfl) (by omega)) rfl fun v45 w45 ⟨hr45, hu45⟩ => ?_
          have hM45 : Mem w [] w45 [upR i64V l.reverse rs3, r4_, rs9, rs29, rs38, upR i64V l.reverse rs40, rs43] := hM43.pure hu45
          obtain rfl : v45 = .bool true := hr45.trans (by simp)
          clear hr45
          refine stp (v := .bool true) (o_mv rfl) ?_
          refine splitT rfl ?_
          refine stg rfl (v := .int .i64 ((codes l.reverse).2)) (o_mv rfl) ?_
          refine stg rfl (v := .int .i64 ((codes l.reverse).2)) (o_mv rfl) ?_
          refine stg rfl (v := .bool true) (o_bin rfl rfl v_eqT) ?_
          refine stp (v := .bool true) (o_pickT rfl rfl) ?_
          refine stp (v := .bool true) (o_mv rfl) ?_
          refine h44 _ _ ?_
          clear h44
          refine ⟨(.bool true), rfl, ?_⟩
          exact ⟨rfl, hM45.upd⟩
