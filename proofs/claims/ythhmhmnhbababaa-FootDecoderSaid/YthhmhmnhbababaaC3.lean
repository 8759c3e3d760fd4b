/- Trailers. -/
import Derived.Test.YthhmhmnhbababaaC2
import Derived.Test.YthhmhmnhbababaaE23
namespace Go.Proofs.Ythhmhmnhbababaa.E
open Go
theorem may_no {a b : Int} (h : ¬ mayT a b) : decide (mayT a b) = false := decide_eq_false h
theorem may_yes {a b : Int} (h : mayT a b) : decide (mayT a b) = true := decide_eq_true h
section
variable {b : List UInt8} {size : Int}
theorem tr_len (h : ¬ b.length = 24) : trailF b size = (0, 0, 81) := by unfold trailF; rw [if_pos h]
theorem tr_open (h : b.length = 24) (h2 : ¬ (openF b).2 = 0) : trailF b size = (0, 0, 81) := by unfold trailF; rw [if_neg (by omega), if_pos h2]
theorem tr_magic (h : b.length = 24) (h2 : (openF b).2 = 0) (h3 : ¬ (openF b).1.take 4 = magic) : trailF b size = (0, 0, 81) := by unfold trailF; rw [if_neg (by omega), if_neg (by omega), if_pos h3]
theorem tr_may (h : b.length = 24) (h2 : (openF b).2 = 0) (h3 : (openF b).1.take 4 = magic) (h4 : ¬ mayT (word (((openF b).1.drop 4).take 8) : Nat) (word (((openF b).1.drop 12).take 8) : Nat)) : trailF b size = (0, 0, 81) := by unfold trailF; rw [if_neg (by omega), if_neg (by omega), if_neg (fun k => k h3), if_pos h4]
theorem tr_size (h : b.length = 24) (h2 : (openF b).2 = 0) (h3 : (openF b).1.take 4 = magic) (h4 : mayT (word (((openF b).1.drop 4).take 8) : Nat) (word (((openF b).1.drop 12).take 8) : Nat)) (h5 : ¬ ((word (((openF b).1.drop 4).take 8) : Nat) : Int) + (word (((openF b).1.drop 12).take 8) : Nat) + 24 = size) : trailF b size = (0, 0, 82) := by
 unfold trailF; rw [if_neg (by omega), if_neg (by omega), if_neg (fun k => k h3), if_neg (fun k => k h4), if_neg h5]
theorem tr_ok (h : b.length = 24) (h2 : (openF b).2 = 0) (h3 : (openF b).1.take 4 = magic) (h4 : mayT (word (((openF b).1.drop 4).take 8) : Nat) (word (((openF b).1.drop 12).take 8) : Nat)) (h5 : ((word (((openF b).1.drop 4).take 8) : Nat) : Int) + (word (((openF b).1.drop 12).take 8) : Nat) + 24 = size) :
 trailF b size = (((word (((openF b).1.drop 4).take 8) : Nat) : Int), ((word (((openF b).1.drop 12).take 8) : Nat) : Int), 0) := by
 unfold trailF; rw [if_neg (by omega), if_neg (by omega), if_neg (fun k => k h3), if_neg (fun k => k h4), if_pos h5]
end
theorem drop_take0 {α : Type} (l : List α) (a n : Nat) : (l.take (a + n)).drop a = (l.drop a).take n := by rw [List.drop_take]; congr 1; omega
theorem pagesOf_ok (n : Int) (hn : 0 ≤ n ∧ n ≤ 1099511627776) (w : World) : Calls Try.prog 72 [.int .i64 n].toArray w (Rt fun r w' => r = .int .i64 (n + 4 * ((n + 4095) / 4096)) ∧ Upd [] w w') := by
 have hM0 : Mem w [] w [] := Mem.nil w []
 refine calls_vc mixed Try.func72 rfl C72 (by simp [Try.ntmps72]) <| seq fun _ h1 => mv <| h1 _ _ <| seq fun _ h2 => mv <| mv <| stp (v := .int .i64 (n + 4096)) (o_bin rfl rfl (v_add64 (by omega))) <| stp (v := .int .i64 ((n + 4096) - 1)) (o_bin rfl rfl (v_sub64 (by omega))) <| stp (v := .int .i64 (((n + 4096) - 1) / 4096)) (o_quo rfl rfl (by omega) (v_quo (by omega) (by omega) (by simp only [inK]; omega))) <| stp (v := .int .i64 (4 * (((n + 4096) - 1) / 4096))) (o_bin rfl rfl (v_mul64 (by omega))) <| stp (v := .int .i64 (n + (4 * (((n + 4096) - 1) / 4096)))) (o_bin rfl rfl (v_add64 (by omega))) <| mv <| h2 _ _ ?_
 refine ⟨(.int .i64 (n + (4 * (((n + 4096) - 1) / 4096)))), rfl, ⟨v_int (by omega), hM0.upd⟩⟩
theorem refPagesOf_ok (n : Int) (hn : 0 ≤ n ∧ n ≤ 1099511627776) (w : World) : Calls Try.prog 98 [.int .i64 n].toArray w (Rt fun r w' => r = .int .i64 (n + 4 * ((n + 4095) / 4096)) ∧ Upd [] w w') := by
 have hM0 : Mem w [] w [] := Mem.nil w []
 refine calls_vc mixed Try.func98 rfl C98 (by simp [Try.ntmps98]) <| seq fun _ h1 => mv <| h1 _ _ <| seq fun _ h2 => mv <| mv <| stp (v := .int .i64 (n + 4096)) (o_bin rfl rfl (v_add64 (by omega))) <| stp (v := .int .i64 ((n + 4096) - 1)) (o_bin rfl rfl (v_sub64 (by omega))) <| stp (v := .int .i64 (((n + 4096) - 1) / 4096)) (o_quo rfl rfl (by omega) (v_quo (by omega) (by omega) (by simp only [inK]; omega))) <| stp (v := .int .i64 (4 * (((n + 4096) - 1) / 4096))) (o_bin rfl rfl (v_mul64 (by omega))) <| stp (v := .int .i64 (n + (4 * (((n + 4096) - 1) / 4096)))) (o_bin rfl rfl (v_add64 (by omega))) <| mv <| h2 _ _ ?_
 refine ⟨(.int .i64 (n + (4 * (((n + 4096) - 1) / 4096)))), rfl, ⟨v_int (by omega), hM0.upd⟩⟩
theorem rightTrail_ok (bl pg : Int) (hb : 0 ≤ bl ∧ bl ≤ 18446744073709551616) (hp : 0 ≤ pg ∧ pg ≤ 1073741824) (w : World) : Calls Try.prog 51 [.agg [.int .i64 bl, .int .i64 pg].toArray].toArray w (Rt fun r w' => ∃ n, r = .tuple #[.int .i64 n, .bool (decide (mayT bl pg))] ∧ Upd [] w w') := by
 have hM0 : Mem w [] w [] := Mem.nil w []
 refine calls_vc mixed Try.func51 rfl C51 (by simp [Try.ntmps51]) <| seq fun _ h1 => m_bx (v := .agg ([.int .i64 bl, .int .i64 pg] : List Value).toArray) hM0 rfl rfl fun b2 w3 (hM3 : Mem w [] w3 [[⟨b2, 36, [.int .i64 bl, .int .i64 pg]⟩]]) => mv <| mv <| h1 _ _ <| seq fun _ h4 => seq fun _ h5 => ?_
 intro wd e1 e2 e3 e4
 have hd := Upd.same e1 e2 e3 e4 []
 have hM6 := hM3.pure hd
 clear e1 e2 e3 e4
 refine ⟨(some [b2]), ?_⟩
 show vd _ _ _ _ _ _ _
 refine dfa rfl <| dl (m_ld (v := .int .i64 bl) hM6 (i := 0) (j := 0) rfl rfl rfl rfl <| ⟨(fun b hb => rfl), dbn rfl rfl <| dmv <| dsplitP rfl (fun c7 => ?_) (fun c7 => ?_)⟩)
 ·refine dx rfl <| dxl rfl <| dx rfl <| dpkT rfl <| dmv <| dsplitT rfl <| dx rfl <| dxl rfl <| dx rfl <| dpkT rfl <| dmv <| dsplitT rfl <| dx rfl <| dxq rfl ?_
  refine dxl rfl <| dx rfl <| dpkT rfl <| h5 _ _ <| cndT rfl <| seq fun _ h8 => mv <| mv <| h8 _ _ <| ⟨(.tuple [.int .i64 0, .bool false].toArray), rfl, ?_⟩
  omega
 refine dgfa rfl rfl <| dgyesl rfl <| dl (m_ld (v := .int .i64 bl) hM6 (i := 0) (j := 0) rfl rfl rfl rfl <| ⟨(fun b hb => rfl), dgbn rfl rfl rfl <| dpkF rfl <| dmv <| dsplitP rfl (fun c9 => ?_) (fun c9 => ?_)⟩)
 ·refine dx rfl <| dxl rfl <| dx rfl <| dpkT rfl <| dmv <| dsplitT rfl <| dx rfl <| dxq rfl <| dxl rfl <| dx rfl <| dpkT rfl <| h5 _ _ <| cndT rfl <| seq fun _ h10 => ?_
  refine mv <| mv <| h10 _ _ <| ⟨(.tuple [.int .i64 0, .bool false].toArray), rfl, ?_⟩
  rw [may_no (by unfold mayT; omega)]; exact ⟨_, rfl, hM6.upd⟩
 refine dgfa rfl rfl <| dgyesl rfl <| dl (m_ld (v := .int .i64 pg) hM6 (i := 0) (j := 0) rfl rfl rfl rfl <| ⟨(fun b hb => rfl), dgbn rfl rfl rfl <| dpkF rfl <| dmv <| dsplitP rfl (fun c11 => ?_) (fun c11 => ?_)⟩)
 ·refine dx rfl <| dxq rfl <| dxl rfl <| dx rfl <| dpkT rfl <| h5 _ _ <| cndT rfl <| seq fun _ h12 => mv <| mv <| h12 _ _ <| ⟨(.tuple [.int .i64 0, .bool false].toArray), rfl, ?_⟩
  rw [may_no (by unfold mayT; omega)]; exact ⟨_, rfl, hM6.upd⟩
 refine dgfa rfl rfl <| dqgyes rfl rfl <| dqld rfl (by simp [isHeld]) (v := .int .i64 pg) ((hM6.at (i := 0) (j := 0) rfl rfl).cell 1) <| dgyesl rfl <| dl (m_call (pagesOf_ok 16777216 (by omega) wd) rfl fun v13 w13 ⟨hr13, hu13⟩ => ?_)
 have hM13 : Mem w [] w13 [[⟨b2, 36, [.int .i64 bl, .int .i64 pg]⟩]] := hM6.pure hu13
 subst hr13
 have hh13 := held_upd (wr := wd) (bs := [b2]) hu13 (fun b hb => by
  simp only [List.mem_cons, List.not_mem_nil, or_false] at hb
  rw [hb]; exact ⟨(hM6.at (i := 0) (j := 0) rfl rfl).lt, by simp⟩) (fun b hb => rfl)
 refine ⟨hh13, dgbn rfl rfl rfl <| dpkF rfl <| h5 _ _ <| cndP rfl (fun c14 => ?_) (fun c14 => ?_)⟩
 ·refine seq fun _ h15 => mv <| mv <| h15 _ _ <| ⟨(.tuple [.int .i64 0, .bool false].toArray), rfl, ?_⟩
  rw [may_no (by unfold mayT; omega)]; exact ⟨_, rfl, hM13.upd⟩
 refine h4 _ _ <| seq fun _ h16 => fa rfl <| m_ld (v := .int .i64 pg) hM13 (i := 0) (j := 0) rfl rfl rfl rfl <| stp (v := .int .i64 (pg / 4100)) (o_quo rfl rfl (by omega) (v_quo (by omega) (by omega) (by simp only [inK]; omega))) <| mv <| h16 _ _ <| seq fun _ h17 => fa rfl <| m_ld (v := .int .i64 pg) hM13 (i := 0) (j := 0) rfl rfl rfl rfl <| stp (v := .int .i64 (pg % 4100)) (o_rem rfl rfl (by omega) (v_rem (by omega))) <| mv <| h17 _ _ <| seq fun _ h18 => seq fun _ h19 => mv <| bn rfl rfl <| h19 _ _ <| cndP rfl (fun c20 => ?_) (fun c20 => ?_)
 ·refine seq fun _ h21 => mv <| stp (v := .int .i64 ((pg % 4100) - 4)) (o_bin rfl rfl (v_sub64 (by omega))) <| mv <| h21 _ _ <| seq fun _ h22 => mv <| bn rfl rfl <| h22 _ _ <| cndP rfl (fun c23 => ?_) (fun c23 => ?_)
  ·refine seq fun _ h24 => mv <| mv <| h24 _ _ <| ⟨(.tuple [.int .i64 0, .bool false].toArray), rfl, ?_⟩
   rw [may_no (by unfold mayT; omega)]; exact ⟨_, rfl, hM13.upd⟩
  refine h18 _ _ <| seq fun _ h25 => mv <| stp (v := .int .i64 ((pg / 4100) * 4096)) (o_bin rfl rfl (v_mul64 (by omega))) <| mv <| stp (v := .int .i64 (((pg / 4100) * 4096) + ((pg % 4100) - 4))) (o_bin rfl rfl (v_add64 (by omega))) <| mv <| mv <| h25 _ _ <| ⟨(.tuple [.int .i64 (((pg / 4100) * 4096) + ((pg % 4100) - 4)), .bool true].toArray), rfl, ?_⟩
  rw [may_yes (by unfold mayT; omega)]; exact ⟨_, rfl, hM13.upd⟩
 refine h18 _ _ <| seq fun _ h26 => mv <| stp (v := .int .i64 ((pg / 4100) * 4096)) (o_bin rfl rfl (v_mul64 (by omega))) <| mv <| stp (v := .int .i64 (((pg / 4100) * 4096) + (pg % 4100))) (o_bin rfl rfl (v_add64 (by omega))) <| mv <| mv <| h26 _ _ <| ⟨(.tuple [.int .i64 (((pg / 4100) * 4096) + (pg % 4100)), .bool true].toArray), rfl, ?_⟩
 rw [may_yes (by unfold mayT; omega)]; exact ⟨_, rfl, hM13.upd⟩
theorem bodyOf_ok (n : Int) (hn : 0 ≤ n ∧ n ≤ 1073741824) (w : World) : Calls Try.prog 74 [.int .i64 n].toArray w (Rt fun r w' => ∃ m, r = .int .i64 m ∧ (0 < m ↔ (1 ≤ n ∧ n ≤ 16793600) ∧ (n % 4100 = 0 ∨ 5 ≤ n % 4100)) ∧ Upd [] w w') := by
 have hM0 : Mem w [] w [] := Mem.nil w []
 refine calls_vc mixed Try.func74 rfl C74 (by simp [Try.ntmps74]) <| seq fun _ h1 => mv <| h1 _ _ <| seq fun _ h2 => mv <| stp (v := .int .i64 (n + 4096)) (o_bin rfl rfl (v_add64 (by omega))) <| stp (v := .int .i64 ((n + 4096) + 3)) (o_bin rfl rfl (v_add64 (by omega))) <| stp (v := .int .i64 (((n + 4096) + 3) / 4100)) (o_quo rfl rfl (by omega) (v_quo (by omega) (by omega) (by simp only [inK]; omega))) <| mv <| h2 _ _ <| seq fun _ h3 => mv <| mv ?_
 refine stp (v := .int .i64 (4 * (((n + 4096) + 3) / 4100))) (o_bin rfl rfl (v_mul64 (by omega))) <| stp (v := .int .i64 (n - (4 * (((n + 4096) + 3) / 4100)))) (o_bin rfl rfl (v_sub64 (by omega))) <| mv <| h3 _ _ <| seq fun _ h4 => seq fun _ h5 => mv <| bn rfl rfl <| mv <| splitP rfl (fun c6 => ?_) (fun c6 => ?_)
 ·refine gx rfl <| gxl rfl <| gx rfl <| pkT rfl <| mv <| splitT rfl <| gx rfl <| gx rfl <| pkT rfl <| mv <| splitT rfl <| gx rfl <| gx rfl <| pkT rfl ?_
  refine mv <| splitT rfl <| gx rfl <| gxl rfl <| gx rfl <| gx rfl <| pkT rfl <| h5 _ _ <| cndT rfl <| seq fun _ h7 => mv <| h7 _ _ <| ⟨(.int .i64 0), rfl, ⟨_, rfl, by omega, hM0.upd⟩⟩
 refine gmv rfl <| gyesl rfl <| m_call (refPagesOf_ok 16777216 (by omega) w) rfl fun v8 w8 ⟨hr8, hu8⟩ => ?_
 have hM8 : Mem w [] w8 [] := hM0.pure hu8
 subst hr8
 refine gbn rfl rfl rfl <| pkF rfl <| mv <| splitP rfl (fun c9 => ?_) (fun c9 => ?_)
 ·refine gx rfl <| gx rfl <| pkT rfl <| mv <| splitT rfl <| gx rfl <| gx rfl <| pkT rfl <| mv <| splitT rfl <| gx rfl <| gxl rfl <| gx rfl <| gx rfl ?_
  refine pkT rfl <| h5 _ _ <| cndT rfl <| seq fun _ h10 => mv <| h10 _ _ <| ⟨(.int .i64 0), rfl, ⟨_, rfl, by omega, hM8.upd⟩⟩
 refine gmv rfl <| gbn rfl rfl rfl <| pkF rfl <| mv <| splitP rfl (fun c11 => ?_) (fun c11 => ?_)
 ·refine gx rfl <| gx rfl <| pkT rfl <| mv <| splitT rfl <| gx rfl <| gxl rfl <| gx rfl <| gx rfl <| pkT rfl <| h5 _ _ <| cndT rfl <| seq fun _ h12 => mv ?_
  refine h12 _ _ <| ⟨(.int .i64 0), rfl, ⟨_, rfl, by omega, hM8.upd⟩⟩
 refine gmv rfl <| gbn rfl rfl rfl <| pkF rfl <| mv <| splitP rfl (fun c13 => ?_) (fun c13 => ?_)
 ·refine gx rfl <| gxl rfl <| gx rfl <| gx rfl <| pkT rfl <| h5 _ _ <| cndT rfl <| seq fun _ h14 => mv <| h14 _ _ <| ⟨(.int .i64 0), rfl, ⟨_, rfl, by omega, hM8.upd⟩⟩
 refine gmv rfl <| gyesl rfl <| m_call (refPagesOf_ok (n - (4 * (((n + 4096) + 3) / 4100))) (by omega) w8) rfl fun v15 w15 ⟨hr15, hu15⟩ => ?_
 have hM15 : Mem w [] w15 [] := hM8.pure hu15
 subst hr15
 refine gmv rfl <| gbneq rfl rfl rfl <| pkF rfl <| h5 _ _ <| cndP rfl (fun c16 => ?_) (fun c16 => ?_)
 ·refine seq fun _ h17 => mv <| h17 _ _ <| ⟨(.int .i64 0), rfl, ⟨_, rfl, by omega, hM15.upd⟩⟩
 refine h4 _ _ <| seq fun _ h18 => mv <| mv <| h18 _ _ <| ⟨(.int .i64 (n - (4 * (((n + 4096) + 3) / 4100)))), rfl, ⟨_, rfl, by omega, hM15.upd⟩⟩
theorem May_ok (bl pg : Int) (hb : 0 ≤ bl ∧ bl ≤ 18446744073709551616) (hp : 0 ≤ pg ∧ pg ≤ 1073741824) (w : World) : Calls Try.prog 54 [.agg [.int .i64 bl, .int .i64 pg].toArray].toArray w (Rt fun r w' => r = .bool (decide (mayT bl pg)) ∧ Upd [] w w') := by
 have hM0 : Mem w [] w [] := Mem.nil w []
 refine calls_vc mixed Try.func54 rfl C54 (by simp [Try.ntmps54]) <| seq fun _ h1 => m_bx (v := .agg ([.int .i64 bl, .int .i64 pg] : List Value).toArray) hM0 rfl rfl fun b2 w3 (hM3 : Mem w [] w3 [[⟨b2, 36, [.int .i64 bl, .int .i64 pg]⟩]]) => mv <| h1 _ _ <| seq fun _ h4 => seq fun _ h5 => fa rfl <| m_ld (v := .int .i64 bl) hM3 (i := 0) (j := 0) rfl rfl rfl rfl <| bn rfl rfl <| mv <| splitP rfl (fun c6 => ?_) (fun c6 => ?_)
 ·refine gx rfl <| gxl rfl <| gx rfl <| pkT rfl <| mv <| splitT rfl <| gx rfl <| gxl rfl <| gx rfl <| pkT rfl <| h5 _ _ <| cndT rfl <| seq fun _ h7 => mv ?_
  refine h7 _ _ <| ⟨(.bool false), rfl, ?_⟩
  rw [may_no (by unfold mayT; omega)]; exact ⟨rfl, hM3.upd⟩
 refine gfa rfl rfl <| gyesl rfl <| m_ld (v := .int .i64 bl) hM3 (i := 0) (j := 0) rfl rfl rfl rfl <| gbn rfl rfl rfl <| pkF rfl <| mv <| splitP rfl (fun c8 => ?_) (fun c8 => ?_)
 ·refine gx rfl <| gxl rfl <| gx rfl <| pkT rfl <| h5 _ _ <| cndT rfl <| seq fun _ h9 => mv <| h9 _ _ <| ⟨(.bool false), rfl, ?_⟩
  rw [may_no (by unfold mayT; omega)]; exact ⟨rfl, hM3.upd⟩
 refine gfa rfl rfl <| gyesl rfl <| m_ld (v := .int .i64 pg) hM3 (i := 0) (j := 0) rfl rfl rfl rfl <| gbn rfl rfl rfl <| pkF rfl <| h5 _ _ <| cndP rfl (fun c10 => ?_) (fun c10 => ?_)
 ·refine seq fun _ h11 => mv <| h11 _ _ <| ⟨(.bool false), rfl, ?_⟩
  rw [may_no (by unfold mayT; omega)]; exact ⟨rfl, hM3.upd⟩
 refine h4 _ _ <| seq fun _ h12 => fa rfl <| m_ld (v := .int .i64 pg) hM3 (i := 0) (j := 0) rfl rfl rfl rfl <| m_call (bodyOf_ok pg (by omega) w3) rfl fun v13 w13 ⟨m13, hr13, hb13, hu13⟩ => ?_
 have hM13 : Mem w [] w13 [[⟨b2, 36, [.int .i64 bl, .int .i64 pg]⟩]] := hM3.pure hu13
 subst hr13
 refine mv <| h12 _ _ <| seq fun _ h14 => mv <| bn rfl rfl <| mv <| h14 _ _ <| ⟨(.bool (decide ((0 : Int) < m13))), rfl, ⟨by congr 1; rw [decide_eq_decide]; unfold mayT; omega, hM13.upd⟩⟩
