/- Few bits; order; both; no false no: the laws. -/
import Derived.Test.YtjockanmmfmidaaDoorJ5
import Derived.Test.YtjockanmmfmidaaDoorJ2
namespace Go.Proofs.YtjockanmmfmidaaDoor.E
open Go
theorem build_len (keys : List (List UInt8)) {p : Int} (h : 0 ≤ p ∧ p ≤ 16) : (buildF keys p).2.2.1.length ≤ 4096 := by
  rcases build_cases keys h with ⟨_, e⟩ | ⟨_, _, e⟩ | ⟨_, _, h1, h2, e⟩
  · rw [e]; simp
  · rw [e]; simp
  · rw [e]; dsimp only; rw [fillK_length, List.length_replicate]; exact h2
theorem mul_bd {h : Int} {n : Nat} (h0 : 0 ≤ h ∧ h ≤ 8) : 0 ≤ h * (n : Int) ∧ h * (n : Int) ≤ 8 * (n : Int) := ⟨Int.mul_nonneg h0.1 (by omega), Int.mul_le_mul_of_nonneg_right h0.2 (by omega)⟩

set_option maxRecDepth 100000 in
/-- winnowlaw7.FilterFew -/
theorem FilterFew_ok (x : Value) (l : List (List UInt8)) (bits : Int) (y : Value) (lo : List (List UInt8)) (hbits : inK .i64 bits) (w : World) (hT : Tab w) (hx : RdE strV w x l) (hk01 : ∀ k ∈ l, k.length ≤ 140737488351232) (hl : l.length * 16 ≤ 140737488351232) (hy : RdE strV w y lo) (hk02 : ∀ k ∈ lo, k.length ≤ 140737488351232) (hlo : lo.length * 16 ≤ 140737488351232) : Calls Tryd.prog 4 [x, .int .i64 bits, y].toArray w (Rt fun r w' => r = .bool true ∧ Upd [] w w') := by
  have hM0 : Mem w [] w [] := Mem.nil w []
  have hk1 : ∀ k ∈ l, k.length ≤ 9223372036854775000 := fun k hm => by have := hk01 k hm; omega
  have hk2 : ∀ k ∈ lo, k.length ≤ 9223372036854775000 := fun k hm => by have := hk02 k hm; omega
  refine calls_vc mixed Tryd.func4 rfl C4 (by simp [Tryd.ntmps4]) ?_
  refine seq fun K1 h1 => ?_
  refine stp (v := .bool false) (o_mv rfl) ?_
  refine h1 _ _ ?_
  clear h1
  refine seq fun K2 h2 => ?_
  refine stp (v := .int .i64 bits) (o_mv rfl) ?_
  refine m_call (bent_ok bits (by assumption) w) rfl fun v3 w3 ⟨p3, hr3, hb3, hu3⟩ => ?_
  have hM3 : Mem w [] w3 [] := hM0.pure hu3
  subst hr3
  refine stp (v := .int .i64 p3) (o_mv rfl) ?_
  refine h2 _ _ ?_
  clear h2
  refine seq fun K4 h4 => ?_
  refine stp (v := x) (o_mv rfl) ?_
  refine stp (v := .int .i64 p3) (o_mv rfl) ?_
  refine m_call (Build_ok _ l p3 w3 (hx.upd hM3.upd) (by first | exact hk1 | exact hk2 | exact fun k hm => hk1 k (List.mem_of_mem_take (List.mem_of_mem_drop hm)) | exact fun k hm => hk2 k (List.mem_of_mem_take (List.mem_of_mem_drop hm)) | exact fun k hm => hk1 k (List.mem_of_mem_drop (List.mem_reverse.1 hm)) | (intro k hm; cases hm)) (by first | omega | (simp only [List.length_take, List.length_reverse, List.length_drop, List.length_nil]; omega) | (simp; omega) | simp) (by simp only [inK]; omega)) rfl fun v5 w5 ⟨vd5, rs5, hr5, hs5, hm5⟩ => ?_
  have hM5 : Mem w [] w5 [rs5] := hM3.add hm5
  obtain ⟨av5, lv5, cv5, rfl⟩ := hs5.isSlice
  subst hr5
  have hbe5 := build_err l (p := p3) (by omega)
  have hbl5 := build_len l (p := p3) (by omega)
  have hbh5 := (build_ones l (p := p3) (by omega) 0).2
  have hbk5 := build_fk l (p := p3) (by omega)
  refine stp (v := .tuple [.agg ([.bool ((buildF l p3).1), .int .i64 ((buildF l p3).2.1), (.slice av5 lv5 cv5)] : List Value).toArray, .int .i64 ((buildF l p3).2.2.2)].toArray) (o_mv rfl) ?_
  refine stp (v := .agg ([.bool ((buildF l p3).1), .int .i64 ((buildF l p3).2.1), (.slice av5 lv5 cv5)] : List Value).toArray) (o_ext rfl rfl) ?_
  refine stp (v := .int .i64 ((buildF l p3).2.2.2)) (o_ext rfl rfl) ?_
  refine m_al hM5 fun b6 w7 (hM7 : Mem w [] w7 [rs5, [⟨b6, 24, [.bool false, .int .i64 0, .slice none 0 0]⟩]]) => ?_
  refine m_stA (l := [.bool ((buildF l p3).1), .int .i64 ((buildF l p3).2.1), (.slice av5 lv5 cv5)]) hM7 (i := 1) rfl rfl rfl rfl (by simp [oneCells, Value.oneCell', byteV]) (by simp) fun w8 (hM8 : Mem w [] w8 [rs5, [⟨b6, 24, [.bool ((buildF l p3).1), .int .i64 ((buildF l p3).2.1), (.slice av5 lv5 cv5)]⟩]]) => ?_
  refine stp (v := .int .i64 ((buildF l p3).2.2.2)) (o_mv rfl) ?_
  refine h4 _ _ ?_
  clear h4
  refine seq fun K9 h9 => ?_
  refine stp (v := .slice none 0 0) (o_mv rfl) ?_
  refine h9 _ _ ?_
  clear h9
  refine seq fun K10 h10 => ?_
  refine seq fun K11 h11 => ?_
  refine stp (v := x) (o_mv rfl) ?_
  refine stp (v := .int .i64 (l.length : Nat)) (o_lenR (hx.upd hM8.upd) rfl rfl) ?_
  refine stp (v := .int .i64 ((l.length : Nat) - 1)) (o_bin rfl rfl (v_sub64 (by constructor <;> omega))) ?_
  refine stp (v := .int .i64 ((l.length : Nat) - 1)) (o_mv rfl) ?_
  refine h11 _ _ ?_
  clear h11
  have hM12 : Mem w [] w8 [rs5, [⟨b6, 24, [.bool ((buildF l p3).1), .int .i64 ((buildF l p3).2.1), (.slice av5 lv5 cv5)]⟩], []] := hM8.addNil
  have hs12 : SlE strV 9 (.slice none 0 0) [] [] := Sl.nil 1 9
  refine lp (n := fun _ _ => False) (ι := (Nat) × (Value) × (List Ent)) (fun ⟨j, y10_, r10_⟩ f w' => f 10 = y10_ ∧ f 11 = .int .i64 ((j : Nat) - 1) ∧ f 0 = x ∧ f 2 = y ∧ f 7 = .int .i64 p3 ∧ f 8 = .pointer (some ⟨b6, 0, none⟩) ∧ f 9 = .int .i64 ((buildF l p3).2.2.2) ∧ Mem w [] w' [rs5, [⟨b6, 24, [.bool ((buildF l p3).1), .int .i64 ((buildF l p3).2.1), (.slice av5 lv5 cv5)]⟩], r10_] ∧ (j ≤ l.length) ∧ (SlE strV 9 y10_ ((l.drop j).reverse) r10_)) (fun ⟨j, y10_, r10_⟩ => j) (l.length, ((.slice none 0 0)), ([])) ?_ ?_
  · exact ⟨rfl, by first | rfl | exact v_int (by omega) | exact v_int (by simp) | exact v_int (by simp; omega), rfl, rfl, by first | rfl | exact v_int (by omega) | exact v_int (by simp) | exact v_int (by simp; omega), rfl, by first | rfl | exact v_int (by omega) | exact v_int (by simp) | exact v_int (by simp; omega), hM12, by omega, by first | exact hs12 | simpa using hs12⟩
  · rintro ⟨j, y10_, r10_⟩ f w13 ⟨e13_10, e13_11, e13_0, e13_2, e13_7, e13_8, e13_9, hM13, hj, hy10_⟩ K14 h14
    obtain ⟨frm, rfl⟩ : ∃ frm, f = (upd (upd (upd (upd (upd (upd (upd frm 10 (y10_)) 11 (.int .i64 ((j : Nat) - 1))) 0 (x)) 2 (y)) 7 (.int .i64 p3)) 8 (.pointer (some ⟨b6, 0, none⟩))) 9 (.int .i64 ((buildF l p3).2.2.2))) := ⟨f, by rw [upd_self e13_10, upd_self e13_11, upd_self e13_0, upd_self e13_2, upd_self e13_7, upd_self e13_8, upd_self e13_9]⟩
    clear e13_10 e13_11 e13_0 e13_2 e13_7 e13_8 e13_9
    refine seq fun K15 h15 => ?_
    refine seq fun K16 h16 => ?_
    refine stp (v := .int .i64 ((j : Nat) - 1)) (o_mv rfl) ?_
    refine stp (v := .bool (decide ((0 : Int) ≤ ((j : Nat) - 1 : Int)))) (o_bin rfl rfl rfl) ?_
    refine h16 _ _ ?_
    clear h16
    refine cndP rfl (fun c17 => ?_) (fun c17 => ?_)
    ·
      refine h15 _ _ ?_
      clear h15
      refine seq fun K18 h18 => ?_
      refine stp (v := y10_) (o_mv rfl) ?_
      refine stp (v := x) (o_mv rfl) ?_
      refine stp (v := .int .i64 ((j : Nat) - 1)) (o_mv rfl) ?_
      refine m_idxE [] (j := (j - 1)) (hx.upd hM13.upd) rfl (v_int (by omega)) (by omega) fun b19 o19 hp19 => ?_
      refine ld (v := .string (str (l.getD (j - 1) []))) rfl (hp19) ?_
      refine m_app1 (E := strV) (q := l.getD (j - 1) []) hM13 (i := 2) rfl hy10_ rfl (by simp) (rfl) (by simp only [List.length_reverse, List.length_drop]; omega) (by omega) fun v20 w20 r20 u20 (hs20 : SlE strV 9 v20 (((l.drop j).reverse) ++ [l.getD (j - 1) []]) r20) (hM20 : Mem w [] w20 [rs5, [⟨b6, 24, [.bool ((buildF l p3).1), .int .i64 ((buildF l p3).2.1), (.slice av5 lv5 cv5)]⟩], r20]) => ?_
      refine stp (v := v20) (o_mv rfl) ?_
      refine h18 _ _ ?_
      clear h18
      refine stp (v := .int .i64 ((j : Nat) - 1)) (o_mv rfl) ?_
      refine stp (v := .int .i64 (((j : Nat) - 1) - 1)) (o_bin rfl rfl (v_sub64 (by constructor <;> omega))) ?_
      refine stp (v := .int .i64 (((j : Nat) - 1) - 1)) (o_mv rfl) ?_
      refine h14 (j - 1, v20, r20) _ _ ⟨rfl, by first | rfl | exact v_int (by omega) | exact v_int (by simp) | exact v_int (by simp; omega), rfl, rfl, by first | rfl | exact v_int (by omega) | exact v_int (by simp) | exact v_int (by simp; omega), rfl, by first | rfl | exact v_int (by omega) | exact v_int (by simp) | exact v_int (by simp; omega), hM20, by omega, by rw [rev_drop (by omega) (by omega)]; exact hs20⟩ (by (try dsimp only); omega)
    ·
      refine h10 _ _ ?_
      clear h10
      refine seq fun K21 h21 => ?_
      have hrev : buildF ((l.drop j).reverse) p3 = buildF l p3 := by rw [show j = 0 by omega]; exact build_rev l (by omega)
      have hbo := build_ones l (p := p3) (by omega) (8 * (buildF l p3).2.2.1.length)
      have hmb := mul_bd (n := l.length) hbo.2
      refine stp (v := y10_) (o_mv rfl) ?_
      refine stp (v := .int .i64 p3) (o_mv rfl) ?_
      refine m_call (Build_ok _ ((l.drop j).reverse) p3 w13 (hy10_.rd hM13 (i := 2) rfl) (by first | exact hk1 | exact hk2 | exact fun k hm => hk1 k (List.mem_of_mem_take (List.mem_of_mem_drop hm)) | exact fun k hm => hk2 k (List.mem_of_mem_take (List.mem_of_mem_drop hm)) | exact fun k hm => hk1 k (List.mem_of_mem_drop (List.mem_reverse.1 hm)) | (intro k hm; cases hm)) (by first | omega | (simp only [List.length_take, List.length_reverse, List.length_drop, List.length_nil]; omega) | (simp; omega) | simp) (by simp only [inK]; omega)) rfl fun v22 w22 ⟨vd22, rs22, hr22, hs22, hm22⟩ => ?_
      have hM22 : Mem w [] w22 [rs5, [⟨b6, 24, [.bool ((buildF l p3).1), .int .i64 ((buildF l p3).2.1), (.slice av5 lv5 cv5)]⟩], r10_, rs22] := hM13.add hm22
      obtain ⟨av22, lv22, cv22, rfl⟩ := hs22.isSlice
      subst hr22
      have hbe22 := build_err ((l.drop j).reverse) (p := p3) (by omega)
      have hbl22 := build_len ((l.drop j).reverse) (p := p3) (by omega)
      have hbh22 := (build_ones ((l.drop j).reverse) (p := p3) (by omega) 0).2
      have hbk22 := build_fk ((l.drop j).reverse) (p := p3) (by omega)
      refine stp (v := .tuple [.agg ([.bool ((buildF ((l.drop j).reverse) p3).1), .int .i64 ((buildF ((l.drop j).reverse) p3).2.1), (.slice av22 lv22 cv22)] : List Value).toArray, .int .i64 ((buildF ((l.drop j).reverse) p3).2.2.2)].toArray) (o_mv rfl) ?_
      refine stp (v := .agg ([.bool ((buildF ((l.drop j).reverse) p3).1), .int .i64 ((buildF ((l.drop j).reverse) p3).2.1), (.slice av22 lv22 cv22)] : List Value).toArray) (o_ext rfl rfl) ?_
      refine stp (v := .int .i64 ((buildF ((l.drop j).reverse) p3).2.2.2)) (o_ext rfl rfl) ?_
      refine m_al hM22 fun b23 w24 (hM24 : Mem w [] w24 [rs5, [⟨b6, 24, [.bool ((buildF l p3).1), .int .i64 ((buildF l p3).2.1), (.slice av5 lv5 cv5)]⟩], r10_, rs22, [⟨b23, 24, [.bool false, .int .i64 0, .slice none 0 0]⟩]]) => ?_
      refine m_stA (l := [.bool ((buildF ((l.drop j).reverse) p3).1), .int .i64 ((buildF ((l.drop j).reverse) p3).2.1), (.slice av22 lv22 cv22)]) hM24 (i := 4) rfl rfl rfl rfl (by simp [oneCells, Value.oneCell', byteV]) (by simp) fun w25 (hM25 : Mem w [] w25 [rs5, [⟨b6, 24, [.bool ((buildF l p3).1), .int .i64 ((buildF l p3).2.1), (.slice av5 lv5 cv5)]⟩], r10_, rs22, [⟨b23, 24, [.bool ((buildF ((l.drop j).reverse) p3).1), .int .i64 ((buildF ((l.drop j).reverse) p3).2.1), (.slice av22 lv22 cv22)]⟩]]) => ?_
      refine stp (v := .int .i64 ((buildF ((l.drop j).reverse) p3).2.2.2)) (o_mv rfl) ?_
      refine h21 _ _ ?_
      clear h21
      refine seq fun K26 h26 => ?_
      refine seq fun K27 h27 => ?_
      intro wd e1 e2 e3 e4
      have hd := Upd.same e1 e2 e3 e4 []
      have hM28 := hM25.pure hd
      clear e1 e2 e3 e4
      refine ⟨(some [b23, b6]), ?_⟩
      show vd _ _ _ _ _ _ _
      refine dq (v := .int .i64 ((buildF l p3).2.2.2)) (o_mv rfl) ?_
      refine dq (v := .bool (decide (¬ ((buildF l p3).2.2.2) = 0))) (o_bin rfl rfl v_neq) ?_
      refine dq (v := .bool (decide (¬ ((buildF l p3).2.2.2) = 0))) (o_mv rfl) ?_
      refine dsplitP rfl (fun c29 => absurd c29 (fun h => h (build_err _ (by omega)))) (fun c29 => ?_)
      refine dqg rfl (v := .int .i64 ((buildF ((l.drop j).reverse) p3).2.2.2)) (o_mv rfl) ?_
      refine dqg rfl (v := .bool (decide (¬ ((buildF ((l.drop j).reverse) p3).2.2.2) = 0))) (o_bin rfl rfl v_neq) ?_
      refine dq (v := .bool (decide (¬ ((buildF ((l.drop j).reverse) p3).2.2.2) = 0))) (o_pickF rfl rfl) ?_
      refine dq (v := .bool (decide (¬ ((buildF ((l.drop j).reverse) p3).2.2.2) = 0))) (o_mv rfl) ?_
      refine dsplitP rfl (fun c30 => absurd c30 (fun h => h (build_err _ (by omega)))) (fun c30 => ?_)
      refine dqgyes rfl rfl ?_
      refine dqldA (cs := [.bool ((buildF ((l.drop j).reverse) p3).1), .int .i64 ((buildF ((l.drop j).reverse) p3).2.1), (.slice av22 lv22 cv22)]) rfl (by simp [isHeld]) rfl ((hM28.at (i := 4) (j := 0) rfl rfl).agg rfl rfl) ?_
      refine dgyesl rfl ?_
      refine dl (m_ldA (l := [.bool ((buildF l p3).1), .int .i64 ((buildF l p3).2.1), (.slice av5 lv5 cv5)]) hM28 (i := 1) (j := 0) rfl rfl rfl rfl rfl ?_)
      refine ⟨(fun b hb => rfl), ?_⟩
      refine dgyesl rfl ?_
      refine dl (m_call (alike_ok ((buildF l p3).1) ((buildF ((l.drop j).reverse) p3).1) ((buildF l p3).2.1) ((buildF ((l.drop j).reverse) p3).2.1) _ _ ((buildF l p3).2.2.1) ((buildF ((l.drop j).reverse) p3).2.2.1) wd (hs5.rd hM28 (i := 0) rfl) (hs22.rd hM28 (i := 3) rfl) (by first | omega | (simp; done) | (simp; omega))) rfl fun v31 w31 ⟨hr31, hu31⟩ => ?_)
      have hM31 : Mem w [] w31 [rs5, [⟨b6, 24, [.bool ((buildF l p3).1), .int .i64 ((buildF l p3).2.1), (.slice av5 lv5 cv5)]⟩], r10_, rs22, [⟨b23, 24, [.bool ((buildF ((l.drop j).reverse) p3).1), .int .i64 ((buildF ((l.drop j).reverse) p3).2.1), (.slice av22 lv22 cv22)]⟩]] := hM28.pure hu31
      subst hr31
      have hh31 := held_upd (wr := wd) (bs := [b23, b6]) hu31 (fun b hb => by
        simp only [List.mem_cons, List.not_mem_nil, or_false] at hb
        rcases hb with h | h
        · rw [h]; exact ⟨(hM28.at (i := 4) (j := 0) rfl rfl).lt, by simp⟩
        · rw [h]; exact ⟨(hM28.at (i := 1) (j := 0) rfl rfl).lt, by simp⟩) (fun b hb => rfl)
      refine ⟨hh31, ?_⟩
      refine dqg rfl (v := .bool (!(alikeF ((buildF l p3).1) ((buildF l p3).2.1) ((buildF l p3).2.2.1) ((buildF ((l.drop j).reverse) p3).1) ((buildF ((l.drop j).reverse) p3).2.1) ((buildF ((l.drop j).reverse) p3).2.2.1)))) (o_not rfl rfl) ?_
      refine dq (v := .bool (!(alikeF ((buildF l p3).1) ((buildF l p3).2.1) ((buildF l p3).2.2.1) ((buildF ((l.drop j).reverse) p3).1) ((buildF ((l.drop j).reverse) p3).2.1) ((buildF ((l.drop j).reverse) p3).2.2.1)))) (o_pickF rfl rfl) ?_
      refine dq (v := .bool (!(alikeF ((buildF l p3).1) ((buildF l p3).2.1) ((buildF l p3).2.2.1) ((buildF ((l.drop j).reverse) p3).1) ((buildF ((l.drop j).reverse) p3).2.1) ((buildF ((l.drop j).reverse) p3).2.2.1)))) (o_mv rfl) ?_
      refine dsplit rfl (fun c32 => absurd c32 (show ¬ (!(alikeF ((buildF l p3).1) ((buildF l p3).2.1) ((buildF l p3).2.2.1) ((buildF ((l.drop j).reverse) p3).1) ((buildF ((l.drop j).reverse) p3).2.1) ((buildF ((l.drop j).reverse) p3).2.2.1))) = true from (by rw [hrev, alikeF_self]; decide))) (fun c32 => ?_)
      refine dqg rfl (v := .pointer (some ⟨b6, 2, none⟩)) (o_fa rfl rfl) ?_
      refine dqg rfl (v := .pointer (some ⟨b6, 1, none⟩)) (o_fa rfl rfl) ?_
      refine dqg rfl (v := x) (o_mv rfl) ?_
      refine dqg rfl (v := .int .i64 (l.length : Nat)) (o_lenR (hx.upd hM31.upd) rfl rfl) ?_
      refine dqgyes rfl rfl ?_
      refine dqld rfl (by simp [isHeld]) (v := .int .i64 ((buildF l p3).2.1)) ((hM28.at (i := 1) (j := 0) rfl rfl).cell 1) ?_
      refine dqg rfl (v := .int .i64 (((buildF l p3).2.1) * (l.length : Nat))) (o_bin rfl rfl (v_mul64 (by constructor <;> omega))) ?_
      refine dgyesl rfl ?_
      refine dl (m_ld (v := (.slice av5 lv5 cv5)) hM31 (i := 1) (j := 0) rfl rfl rfl rfl ?_)
      refine ⟨hh31, ?_⟩
      refine dgyesl rfl ?_
      refine dl (m_call (ones_ok _ ((buildF l p3).2.2.1) w31 (hs5.rd hM31 (i := 0) rfl) (by omega)) rfl fun v33 w33 ⟨hr33, hu33⟩ => ?_)
      have hM33 : Mem w [] w33 [rs5, [⟨b6, 24, [.bool ((buildF l p3).1), .int .i64 ((buildF l p3).2.1), (.slice av5 lv5 cv5)]⟩], r10_, rs22, [⟨b23, 24, [.bool ((buildF ((l.drop j).reverse) p3).1), .int .i64 ((buildF ((l.drop j).reverse) p3).2.1), (.slice av22 lv22 cv22)]⟩]] := hM31.pure hu33
      subst hr33
      have hh33 := held_upd (wr := wd) (bs := [b23, b6]) hu33 (fun b hb => by
        simp only [List.mem_cons, List.not_mem_nil, or_false] at hb
        rcases hb with h | h
        · rw [h]; exact ⟨(hM31.at (i := 4) (j := 0) rfl rfl).lt, by simp⟩
        · rw [h]; exact ⟨(hM31.at (i := 1) (j := 0) rfl rfl).lt, by simp⟩) hh31
      refine ⟨hh33, ?_⟩
      refine dqg rfl (v := .bool (decide (((((buildF l p3).2.1) * (l.length : Nat) : Int) : Int) < ((onesU ((buildF l p3).2.2.1) (8 * ((buildF l p3).2.2.1).length) : Nat) : Int)))) (o_bin rfl rfl rfl) ?_
      refine dq (v := .bool (decide (((((buildF l p3).2.1) * (l.length : Nat) : Int) : Int) < ((onesU ((buildF l p3).2.2.1) (8 * ((buildF l p3).2.2.1).length) : Nat) : Int)))) (o_pickF rfl rfl) ?_
      refine dq (v := .bool (decide (((((buildF l p3).2.1) * (l.length : Nat) : Int) : Int) < ((onesU ((buildF l p3).2.2.1) (8 * ((buildF l p3).2.2.1).length) : Nat) : Int)))) (o_mv rfl) ?_
      refine dsplitP rfl (fun c34 => absurd c34 (by omega)) (fun c34 => ?_)
      refine dgyesl rfl ?_
      refine dl (m_ldA (l := [.bool ((buildF l p3).1), .int .i64 ((buildF l p3).2.1), (.slice av5 lv5 cv5)]) hM33 (i := 1) (j := 0) rfl rfl rfl rfl rfl ?_)
      refine ⟨hh33, ?_⟩
      refine dgyesl rfl ?_
      refine dl (m_call (Check_ok (buildF l p3).1 ((buildF l p3).2.1) _ ((buildF l p3).2.2.1) w33 (hs5.rd hM33 (i := 0) rfl) (by first | omega | (simp; done) | (simp; omega))) rfl fun v35 w35 ⟨hr35, hu35⟩ => ?_)
      have hM35 : Mem w [] w35 [rs5, [⟨b6, 24, [.bool ((buildF l p3).1), .int .i64 ((buildF l p3).2.1), (.slice av5 lv5 cv5)]⟩], r10_, rs22, [⟨b23, 24, [.bool ((buildF ((l.drop j).reverse) p3).1), .int .i64 ((buildF ((l.drop j).reverse) p3).2.1), (.slice av22 lv22 cv22)]⟩]] := hM33.pure hu35
      subst hr35
      have hh35 := held_upd (wr := wd) (bs := [b23, b6]) hu35 (fun b hb => by
        simp only [List.mem_cons, List.not_mem_nil, or_false] at hb
        rcases hb with h | h
        · rw [h]; exact ⟨(hM33.at (i := 4) (j := 0) rfl rfl).lt, by simp⟩
        · rw [h]; exact ⟨(hM33.at (i := 1) (j := 0) rfl rfl).lt, by simp⟩) hh33
      refine ⟨hh35, ?_⟩
      refine dqg rfl (v := .bool (decide (¬ (chk (buildF l p3).1 ((buildF l p3).2.1) ((buildF l p3).2.2.1)) = 0))) (o_bin rfl rfl v_neq) ?_
      refine dq (v := .bool (decide (¬ (chk (buildF l p3).1 ((buildF l p3).2.1) ((buildF l p3).2.2.1)) = 0))) (o_pickF rfl rfl) ?_
      refine h27 _ _ ?_
      clear h27
      refine cndP rfl (fun c36 => absurd c36 (fun h => h (build_chk _ (by omega)))) (fun c36 => ?_)
      refine h26 _ _ ?_
      clear h26
      refine seq fun K37 h37 => ?_
      refine stp (v := x) (o_mv rfl) ?_
      refine stp (v := .int .i64 (l.length : Nat)) (o_lenR (hx.upd hM35.upd) rfl rfl) ?_
      refine stp (v := y) (o_mv rfl) ?_
      refine stp (v := .int .i64 (lo.length : Nat)) (o_lenR (hy.upd hM35.upd) rfl rfl) ?_
      refine stp (v := .int .i64 (min l.length lo.length : Nat)) (o_mm rfl rfl (by show Value.int .i64 (min ((l.length : Nat) : Int) ((lo.length : Nat) : Int)) = _; exact v_int (by omega))) ?_
      refine stp (v := .int .i64 (min l.length lo.length : Nat)) (o_mv rfl) ?_
      refine h37 _ _ ?_
      clear h37
      refine seq fun K38 h38 => ?_
      refine stp (v := x) (o_mv rfl) ?_
      refine stp (v := .int .i64 (min l.length lo.length : Nat)) (o_mv rfl) ?_
      refine m_slcE 0 (min l.length lo.length) (hx) rfl (by omega) (by omega) ⟨_, rfl⟩ rfl fun u39 hu39 => ?_
      refine stp (v := .int .i64 p3) (o_mv rfl) ?_
      refine m_call (Build_ok _ ((l.take (min l.length lo.length)).drop 0) p3 w35 ((hu39.upd hM35.upd)) (by first | exact hk1 | exact hk2 | exact fun k hm => hk1 k (List.mem_of_mem_take (List.mem_of_mem_drop hm)) | exact fun k hm => hk2 k (List.mem_of_mem_take (List.mem_of_mem_drop hm)) | exact fun k hm => hk1 k (List.mem_of_mem_drop (List.mem_reverse.1 hm)) | (intro k hm; cases hm)) (by first | omega | (simp only [List.length_take, List.length_reverse, List.length_drop, List.length_nil]; omega) | (simp; omega) | simp) (by simp only [inK]; omega)) rfl fun v40 w40 ⟨vd40, rs40, hr40, hs40, hm40⟩ => ?_
      have hM40 : Mem w [] w40 [rs5, [⟨b6, 24, [.bool ((buildF l p3).1), .int .i64 ((buildF l p3).2.1), (.slice av5 lv5 cv5)]⟩], r10_, rs22, [⟨b23, 24, [.bool ((buildF ((l.drop j).reverse) p3).1), .int .i64 ((buildF ((l.drop j).reverse) p3).2.1), (.slice av22 lv22 cv22)]⟩], rs40] := hM35.add hm40
      obtain ⟨av40, lv40, cv40, rfl⟩ := hs40.isSlice
      subst hr40
      have hbe40 := build_err ((l.take (min l.length lo.length)).drop 0) (p := p3) (by omega)
      have hbl40 := build_len ((l.take (min l.length lo.length)).drop 0) (p := p3) (by omega)
      have hbh40 := (build_ones ((l.take (min l.length lo.length)).drop 0) (p := p3) (by omega) 0).2
      have hbk40 := build_fk ((l.take (min l.length lo.length)).drop 0) (p := p3) (by omega)
      refine stp (v := .tuple [.agg ([.bool ((buildF ((l.take (min l.length lo.length)).drop 0) p3).1), .int .i64 ((buildF ((l.take (min l.length lo.length)).drop 0) p3).2.1), (.slice av40 lv40 cv40)] : List Value).toArray, .int .i64 ((buildF ((l.take (min l.length lo.length)).drop 0) p3).2.2.2)].toArray) (o_mv rfl) ?_
      refine stp (v := .agg ([.bool ((buildF ((l.take (min l.length lo.length)).drop 0) p3).1), .int .i64 ((buildF ((l.take (min l.length lo.length)).drop 0) p3).2.1), (.slice av40 lv40 cv40)] : List Value).toArray) (o_ext rfl rfl) ?_
      refine stp (v := .int .i64 ((buildF ((l.take (min l.length lo.length)).drop 0) p3).2.2.2)) (o_ext rfl rfl) ?_
      refine m_al hM40 fun b41 w42 (hM42 : Mem w [] w42 [rs5, [⟨b6, 24, [.bool ((buildF l p3).1), .int .i64 ((buildF l p3).2.1), (.slice av5 lv5 cv5)]⟩], r10_, rs22, [⟨b23, 24, [.bool ((buildF ((l.drop j).reverse) p3).1), .int .i64 ((buildF ((l.drop j).reverse) p3).2.1), (.slice av22 lv22 cv22)]⟩], rs40, [⟨b41, 24, [.bool false, .int .i64 0, .slice none 0 0]⟩]]) => ?_
      refine m_stA (l := [.bool ((buildF ((l.take (min l.length lo.length)).drop 0) p3).1), .int .i64 ((buildF ((l.take (min l.length lo.length)).drop 0) p3).2.1), (.slice av40 lv40 cv40)]) hM42 (i := 6) rfl rfl rfl rfl (by simp [oneCells, Value.oneCell', byteV]) (by simp) fun w43 (hM43 : Mem w [] w43 [rs5, [⟨b6, 24, [.bool ((buildF l p3).1), .int .i64 ((buildF l p3).2.1), (.slice av5 lv5 cv5)]⟩], r10_, rs22, [⟨b23, 24, [.bool ((buildF ((l.drop j).reverse) p3).1), .int .i64 ((buildF ((l.drop j).reverse) p3).2.1), (.slice av22 lv22 cv22)]⟩], rs40, [⟨b41, 24, [.bool ((buildF ((l.take (min l.length lo.length)).drop 0) p3).1), .int .i64 ((buildF ((l.take (min l.length lo.length)).drop 0) p3).2.1), (.slice av40 lv40 cv40)]⟩]]) => ?_
      refine stp (v := .int .i64 ((buildF ((l.take (min l.length lo.length)).drop 0) p3).2.2.2)) (o_mv rfl) ?_
      refine h38 _ _ ?_
      clear h38
      refine seq fun K44 h44 => ?_
      refine stp (v := y) (o_mv rfl) ?_
      refine stp (v := .int .i64 (min l.length lo.length : Nat)) (o_mv rfl) ?_
      refine m_slcE 0 (min l.length lo.length) (hy) rfl (by omega) (by omega) ⟨_, rfl⟩ rfl fun u45 hu45 => ?_
      refine stp (v := .int .i64 p3) (o_mv rfl) ?_
      refine m_call (Build_ok _ ((lo.take (min l.length lo.length)).drop 0) p3 w43 ((hu45.upd hM43.upd)) (by first | exact hk1 | exact hk2 | exact fun k hm => hk1 k (List.mem_of_mem_take (List.mem_of_mem_drop hm)) | exact fun k hm => hk2 k (List.mem_of_mem_take (List.mem_of_mem_drop hm)) | exact fun k hm => hk1 k (List.mem_of_mem_drop (List.mem_reverse.1 hm)) | (intro k hm; cases hm)) (by first | omega | (simp only [List.length_take, List.length_reverse, List.length_drop, List.length_nil]; omega) | (simp; omega) | simp) (by simp only [inK]; omega)) rfl fun v46 w46 ⟨vd46, rs46, hr46, hs46, hm46⟩ => ?_
      have hM46 : Mem w [] w46 [rs5, [⟨b6, 24, [.bool ((buildF l p3).1), .int .i64 ((buildF l p3).2.1), (.slice av5 lv5 cv5)]⟩], r10_, rs22, [⟨b23, 24, [.bool ((buildF ((l.drop j).reverse) p3).1), .int .i64 ((buildF ((l.drop j).reverse) p3).2.1), (.slice av22 lv22 cv22)]⟩], rs40, [⟨b41, 24, [.bool ((buildF ((l.take (min l.length lo.length)).drop 0) p3).1), .int .i64 ((buildF ((l.take (min l.length lo.length)).drop 0) p3).2.1), (.slice av40 lv40 cv40)]⟩], rs46] := hM43.add hm46
      obtain ⟨av46, lv46, cv46, rfl⟩ := hs46.isSlice
      subst hr46
      have hbe46 := build_err ((lo.take (min l.length lo.length)).drop 0) (p := p3) (by omega)
      have hbl46 := build_len ((lo.take (min l.length lo.length)).drop 0) (p := p3) (by omega)
      have hbh46 := (build_ones ((lo.take (min l.length lo.length)).drop 0) (p := p3) (by omega) 0).2
      have hbk46 := build_fk ((lo.take (min l.length lo.length)).drop 0) (p := p3) (by omega)
      refine stp (v := .tuple [.agg ([.bool ((buildF ((lo.take (min l.length lo.length)).drop 0) p3).1), .int .i64 ((buildF ((lo.take (min l.length lo.length)).drop 0) p3).2.1), (.slice av46 lv46 cv46)] : List Value).toArray, .int .i64 ((buildF ((lo.take (min l.length lo.length)).drop 0) p3).2.2.2)].toArray) (o_mv rfl) ?_
      refine stp (v := .agg ([.bool ((buildF ((lo.take (min l.length lo.length)).drop 0) p3).1), .int .i64 ((buildF ((lo.take (min l.length lo.length)).drop 0) p3).2.1), (.slice av46 lv46 cv46)] : List Value).toArray) (o_ext rfl rfl) ?_
      refine stp (v := .int .i64 ((buildF ((lo.take (min l.length lo.length)).drop 0) p3).2.2.2)) (o_ext rfl rfl) ?_
      refine m_al hM46 fun b47 w48 (hM48 : Mem w [] w48 [rs5, [⟨b6, 24, [.bool ((buildF l p3).1), .int .i64 ((buildF l p3).2.1), (.slice av5 lv5 cv5)]⟩], r10_, rs22, [⟨b23, 24, [.bool ((buildF ((l.drop j).reverse) p3).1), .int .i64 ((buildF ((l.drop j).reverse) p3).2.1), (.slice av22 lv22 cv22)]⟩], rs40, [⟨b41, 24, [.bool ((buildF ((l.take (min l.length lo.length)).drop 0) p3).1), .int .i64 ((buildF ((l.take (min l.length lo.length)).drop 0) p3).2.1), (.slice av40 lv40 cv40)]⟩], rs46, [⟨b47, 24, [.bool false, .int .i64 0, .slice none 0 0]⟩]]) => ?_
      refine m_stA (l := [.bool ((buildF ((lo.take (min l.length lo.length)).drop 0) p3).1), .int .i64 ((buildF ((lo.take (min l.length lo.length)).drop 0) p3).2.1), (.slice av46 lv46 cv46)]) hM48 (i := 8) rfl rfl rfl rfl (by simp [oneCells, Value.oneCell', byteV]) (by simp) fun w49 (hM49 : Mem w [] w49 [rs5, [⟨b6, 24, [.bool ((buildF l p3).1), .int .i64 ((buildF l p3).2.1), (.slice av5 lv5 cv5)]⟩], r10_, rs22, [⟨b23, 24, [.bool ((buildF ((l.drop j).reverse) p3).1), .int .i64 ((buildF ((l.drop j).reverse) p3).2.1), (.slice av22 lv22 cv22)]⟩], rs40, [⟨b41, 24, [.bool ((buildF ((l.take (min l.length lo.length)).drop 0) p3).1), .int .i64 ((buildF ((l.take (min l.length lo.length)).drop 0) p3).2.1), (.slice av40 lv40 cv40)]⟩], rs46, [⟨b47, 24, [.bool ((buildF ((lo.take (min l.length lo.length)).drop 0) p3).1), .int .i64 ((buildF ((lo.take (min l.length lo.length)).drop 0) p3).2.1), (.slice av46 lv46 cv46)]⟩]]) => ?_
      refine stp (v := .int .i64 ((buildF ((lo.take (min l.length lo.length)).drop 0) p3).2.2.2)) (o_mv rfl) ?_
      refine h44 _ _ ?_
      clear h44
      refine seq fun K50 h50 => ?_
      refine m_ldA (l := [.bool ((buildF ((l.take (min l.length lo.length)).drop 0) p3).1), .int .i64 ((buildF ((l.take (min l.length lo.length)).drop 0) p3).2.1), (.slice av40 lv40 cv40)]) hM49 (i := 6) (j := 0) rfl rfl rfl rfl rfl ?_
      refine m_ldA (l := [.bool ((buildF ((lo.take (min l.length lo.length)).drop 0) p3).1), .int .i64 ((buildF ((lo.take (min l.length lo.length)).drop 0) p3).2.1), (.slice av46 lv46 cv46)]) hM49 (i := 8) (j := 0) rfl rfl rfl rfl rfl ?_
      refine m_call (Join_ok ((buildF ((l.take (min l.length lo.length)).drop 0) p3).1) ((buildF ((lo.take (min l.length lo.length)).drop 0) p3).1) ((buildF ((l.take (min l.length lo.length)).drop 0) p3).2.1) ((buildF ((lo.take (min l.length lo.length)).drop 0) p3).2.1) _ _ ((buildF ((l.take (min l.length lo.length)).drop 0) p3).2.2.1) ((buildF ((lo.take (min l.length lo.length)).drop 0) p3).2.2.1) w49 (hT.upd hM49.upd) (hs40.rd hM49 (i := 5) rfl) (hs46.rd hM49 (i := 7) rfl) (by first | omega | (simp; done) | (simp; omega)) (by first | omega | (simp; done) | (simp; omega))) rfl fun v51 w51 ⟨vd51, rs51, hr51, hs51, hm51⟩ => ?_
      have hM51 : Mem w [] w51 [rs5, [⟨b6, 24, [.bool ((buildF l p3).1), .int .i64 ((buildF l p3).2.1), (.slice av5 lv5 cv5)]⟩], r10_, rs22, [⟨b23, 24, [.bool ((buildF ((l.drop j).reverse) p3).1), .int .i64 ((buildF ((l.drop j).reverse) p3).2.1), (.slice av22 lv22 cv22)]⟩], rs40, [⟨b41, 24, [.bool ((buildF ((l.take (min l.length lo.length)).drop 0) p3).1), .int .i64 ((buildF ((l.take (min l.length lo.length)).drop 0) p3).2.1), (.slice av40 lv40 cv40)]⟩], rs46, [⟨b47, 24, [.bool ((buildF ((lo.take (min l.length lo.length)).drop 0) p3).1), .int .i64 ((buildF ((lo.take (min l.length lo.length)).drop 0) p3).2.1), (.slice av46 lv46 cv46)]⟩], rs51] := hM49.add hm51
      obtain ⟨av51, lv51, cv51, rfl⟩ := hs51.isSlice
      subst hr51
      have hjl51 := joinF_len ((buildF ((l.take (min l.length lo.length)).drop 0) p3).1) ((buildF ((l.take (min l.length lo.length)).drop 0) p3).2.1) ((buildF ((l.take (min l.length lo.length)).drop 0) p3).2.2.1) ((buildF ((lo.take (min l.length lo.length)).drop 0) p3).1) ((buildF ((lo.take (min l.length lo.length)).drop 0) p3).2.1) ((buildF ((lo.take (min l.length lo.length)).drop 0) p3).2.2.1)
      refine stp (v := .tuple [.agg ([.bool ((joinF ((buildF ((l.take (min l.length lo.length)).drop 0) p3).1) ((buildF ((l.take (min l.length lo.length)).drop 0) p3).2.1) ((buildF ((l.take (min l.length lo.length)).drop 0) p3).2.2.1) ((buildF ((lo.take (min l.length lo.length)).drop 0) p3).1) ((buildF ((lo.take (min l.length lo.length)).drop 0) p3).2.1) ((buildF ((lo.take (min l.length lo.length)).drop 0) p3).2.2.1)).1), .int .i64 ((joinF ((buildF ((l.take (min l.length lo.length)).drop 0) p3).1) ((buildF ((l.take (min l.length lo.length)).drop 0) p3).2.1) ((buildF ((l.take (min l.length lo.length)).drop 0) p3).2.2.1) ((buildF ((lo.take (min l.length lo.length)).drop 0) p3).1) ((buildF ((lo.take (min l.length lo.length)).drop 0) p3).2.1) ((buildF ((lo.take (min l.length lo.length)).drop 0) p3).2.2.1)).2.1), (.slice av51 lv51 cv51)] : List Value).toArray, .int .i64 ((joinF ((buildF ((l.take (min l.length lo.length)).drop 0) p3).1) ((buildF ((l.take (min l.length lo.length)).drop 0) p3).2.1) ((buildF ((l.take (min l.length lo.length)).drop 0) p3).2.2.1) ((buildF ((lo.take (min l.length lo.length)).drop 0) p3).1) ((buildF ((lo.take (min l.length lo.length)).drop 0) p3).2.1) ((buildF ((lo.take (min l.length lo.length)).drop 0) p3).2.2.1)).2.2.2)].toArray) (o_mv rfl) ?_
      refine stp (v := .agg ([.bool ((joinF ((buildF ((l.take (min l.length lo.length)).drop 0) p3).1) ((buildF ((l.take (min l.length lo.length)).drop 0) p3).2.1) ((buildF ((l.take (min l.length lo.length)).drop 0) p3).2.2.1) ((buildF ((lo.take (min l.length lo.length)).drop 0) p3).1) ((buildF ((lo.take (min l.length lo.length)).drop 0) p3).2.1) ((buildF ((lo.take (min l.length lo.length)).drop 0) p3).2.2.1)).1), .int .i64 ((joinF ((buildF ((l.take (min l.length lo.length)).drop 0) p3).1) ((buildF ((l.take (min l.length lo.length)).drop 0) p3).2.1) ((buildF ((l.take (min l.length lo.length)).drop 0) p3).2.2.1) ((buildF ((lo.take (min l.length lo.length)).drop 0) p3).1) ((buildF ((lo.take (min l.length lo.length)).drop 0) p3).2.1) ((buildF ((lo.take (min l.length lo.length)).drop 0) p3).2.2.1)).2.1), (.slice av51 lv51 cv51)] : List Value).toArray) (o_ext rfl rfl) ?_
      refine stp (v := .int .i64 ((joinF ((buildF ((l.take (min l.length lo.length)).drop 0) p3).1) ((buildF ((l.take (min l.length lo.length)).drop 0) p3).2.1) ((buildF ((l.take (min l.length lo.length)).drop 0) p3).2.2.1) ((buildF ((lo.take (min l.length lo.length)).drop 0) p3).1) ((buildF ((lo.take (min l.length lo.length)).drop 0) p3).2.1) ((buildF ((lo.take (min l.length lo.length)).drop 0) p3).2.2.1)).2.2.2)) (o_ext rfl rfl) ?_
      refine m_al hM51 fun b52 w53 (hM53 : Mem w [] w53 [rs5, [⟨b6, 24, [.bool ((buildF l p3).1), .int .i64 ((buildF l p3).2.1), (.slice av5 lv5 cv5)]⟩], r10_, rs22, [⟨b23, 24, [.bool ((buildF ((l.drop j).reverse) p3).1), .int .i64 ((buildF ((l.drop j).reverse) p3).2.1), (.slice av22 lv22 cv22)]⟩], rs40, [⟨b41, 24, [.bool ((buildF ((l.take (min l.length lo.length)).drop 0) p3).1), .int .i64 ((buildF ((l.take (min l.length lo.length)).drop 0) p3).2.1), (.slice av40 lv40 cv40)]⟩], rs46, [⟨b47, 24, [.bool ((buildF ((lo.take (min l.length lo.length)).drop 0) p3).1), .int .i64 ((buildF ((lo.take (min l.length lo.length)).drop 0) p3).2.1), (.slice av46 lv46 cv46)]⟩], rs51, [⟨b52, 24, [.bool false, .int .i64 0, .slice none 0 0]⟩]]) => ?_
      refine m_stA (l := [.bool ((joinF ((buildF ((l.take (min l.length lo.length)).drop 0) p3).1) ((buildF ((l.take (min l.length lo.length)).drop 0) p3).2.1) ((buildF ((l.take (min l.length lo.length)).drop 0) p3).2.2.1) ((buildF ((lo.take (min l.length lo.length)).drop 0) p3).1) ((buildF ((lo.take (min l.length lo.length)).drop 0) p3).2.1) ((buildF ((lo.take (min l.length lo.length)).drop 0) p3).2.2.1)).1), .int .i64 ((joinF ((buildF ((l.take (min l.length lo.length)).drop 0) p3).1) ((buildF ((l.take (min l.length lo.length)).drop 0) p3).2.1) ((buildF ((l.take (min l.length lo.length)).drop 0) p3).2.2.1) ((buildF ((lo.take (min l.length lo.length)).drop 0) p3).1) ((buildF ((lo.take (min l.length lo.length)).drop 0) p3).2.1) ((buildF ((lo.take (min l.length lo.length)).drop 0) p3).2.2.1)).2.1), (.slice av51 lv51 cv51)]) hM53 (i := 10) rfl rfl rfl rfl (by simp [oneCells, Value.oneCell', byteV]) (by simp) fun w54 (hM54 : Mem w [] w54 [rs5, [⟨b6, 24, [.bool ((buildF l p3).1), .int .i64 ((buildF l p3).2.1), (.slice av5 lv5 cv5)]⟩], r10_, rs22, [⟨b23, 24, [.bool ((buildF ((l.drop j).reverse) p3).1), .int .i64 ((buildF ((l.drop j).reverse) p3).2.1), (.slice av22 lv22 cv22)]⟩], rs40, [⟨b41, 24, [.bool ((buildF ((l.take (min l.length lo.length)).drop 0) p3).1), .int .i64 ((buildF ((l.take (min l.length lo.length)).drop 0) p3).2.1), (.slice av40 lv40 cv40)]⟩], rs46, [⟨b47, 24, [.bool ((buildF ((lo.take (min l.length lo.length)).drop 0) p3).1), .int .i64 ((buildF ((lo.take (min l.length lo.length)).drop 0) p3).2.1), (.slice av46 lv46 cv46)]⟩], rs51, [⟨b52, 24, [.bool ((joinF ((buildF ((l.take (min l.length lo.length)).drop 0) p3).1) ((buildF ((l.take (min l.length lo.length)).drop 0) p3).2.1) ((buildF ((l.take (min l.length lo.length)).drop 0) p3).2.2.1) ((buildF ((lo.take (min l.length lo.length)).drop 0) p3).1) ((buildF ((lo.take (min l.length lo.length)).drop 0) p3).2.1) ((buildF ((lo.take (min l.length lo.length)).drop 0) p3).2.2.1)).1), .int .i64 ((joinF ((buildF ((l.take (min l.length lo.length)).drop 0) p3).1) ((buildF ((l.take (min l.length lo.length)).drop 0) p3).2.1) ((buildF ((l.take (min l.length lo.length)).drop 0) p3).2.2.1) ((buildF ((lo.take (min l.length lo.length)).drop 0) p3).1) ((buildF ((lo.take (min l.length lo.length)).drop 0) p3).2.1) ((buildF ((lo.take (min l.length lo.length)).drop 0) p3).2.2.1)).2.1), (.slice av51 lv51 cv51)]⟩]]) => ?_
      refine stp (v := .int .i64 ((joinF ((buildF ((l.take (min l.length lo.length)).drop 0) p3).1) ((buildF ((l.take (min l.length lo.length)).drop 0) p3).2.1) ((buildF ((l.take (min l.length lo.length)).drop 0) p3).2.2.1) ((buildF ((lo.take (min l.length lo.length)).drop 0) p3).1) ((buildF ((lo.take (min l.length lo.length)).drop 0) p3).2.1) ((buildF ((lo.take (min l.length lo.length)).drop 0) p3).2.2.1)).2.2.2)) (o_mv rfl) ?_
      refine h50 _ _ ?_
      clear h50
      refine seq fun K55 h55 => ?_
      refine seq fun K56 h56 => ?_
      have hfj := few_join (A := ((l.take (min l.length lo.length)).drop 0)) (B := ((lo.take (min l.length lo.length)).drop 0)) (p := p3) (by omega) (by simp only [List.length_take, List.length_drop]; omega)
      have hzl := orL_length hfj.2.2
      rw [← hfj.2.1] at hzl
      refine stp (v := .int .i64 ((joinF ((buildF ((l.take (min l.length lo.length)).drop 0) p3).1) ((buildF ((l.take (min l.length lo.length)).drop 0) p3).2.1) ((buildF ((l.take (min l.length lo.length)).drop 0) p3).2.2.1) ((buildF ((lo.take (min l.length lo.length)).drop 0) p3).1) ((buildF ((lo.take (min l.length lo.length)).drop 0) p3).2.1) ((buildF ((lo.take (min l.length lo.length)).drop 0) p3).2.2.1)).2.2.2)) (o_mv rfl) ?_
      refine stp (v := .bool (decide (¬ ((joinF ((buildF ((l.take (min l.length lo.length)).drop 0) p3).1) ((buildF ((l.take (min l.length lo.length)).drop 0) p3).2.1) ((buildF ((l.take (min l.length lo.length)).drop 0) p3).2.2.1) ((buildF ((lo.take (min l.length lo.length)).drop 0) p3).1) ((buildF ((lo.take (min l.length lo.length)).drop 0) p3).2.1) ((buildF ((lo.take (min l.length lo.length)).drop 0) p3).2.2.1)).2.2.2) = 0))) (o_bin rfl rfl v_neq) ?_
      refine stp (v := .bool (decide (¬ ((joinF ((buildF ((l.take (min l.length lo.length)).drop 0) p3).1) ((buildF ((l.take (min l.length lo.length)).drop 0) p3).2.1) ((buildF ((l.take (min l.length lo.length)).drop 0) p3).2.2.1) ((buildF ((lo.take (min l.length lo.length)).drop 0) p3).1) ((buildF ((lo.take (min l.length lo.length)).drop 0) p3).2.1) ((buildF ((lo.take (min l.length lo.length)).drop 0) p3).2.2.1)).2.2.2) = 0))) (o_mv rfl) ?_
      refine splitP rfl (fun c57 => absurd c57 (fun h => h hfj.1)) (fun c57 => ?_)
      refine stg rfl (v := .pointer (some ⟨b52, 2, none⟩)) (o_fa rfl rfl) ?_
      refine gyesl rfl ?_
      refine m_ld (v := (.slice av51 lv51 cv51)) hM54 (i := 10) (j := 0) rfl rfl rfl rfl ?_
      refine stg rfl (v := .int .i64 (((joinF ((buildF ((l.take (min l.length lo.length)).drop 0) p3).1) ((buildF ((l.take (min l.length lo.length)).drop 0) p3).2.1) ((buildF ((l.take (min l.length lo.length)).drop 0) p3).2.2.1) ((buildF ((lo.take (min l.length lo.length)).drop 0) p3).1) ((buildF ((lo.take (min l.length lo.length)).drop 0) p3).2.1) ((buildF ((lo.take (min l.length lo.length)).drop 0) p3).2.2.1)).2.2.1).length : Nat)) (o_lenR (hs51.rd hM54 (i := 9) rfl) rfl rfl) ?_
      refine stg rfl (v := .pointer (some ⟨b41, 2, none⟩)) (o_fa rfl rfl) ?_
      refine gyesl rfl ?_
      refine m_ld (v := (.slice av40 lv40 cv40)) hM54 (i := 6) (j := 0) rfl rfl rfl rfl ?_
      refine stg rfl (v := .int .i64 (((buildF ((l.take (min l.length lo.length)).drop 0) p3).2.2.1).length : Nat)) (o_lenR (hs40.rd hM54 (i := 5) rfl) rfl rfl) ?_
      refine stg rfl (v := .bool (decide (¬ ((((joinF ((buildF ((l.take (min l.length lo.length)).drop 0) p3).1) ((buildF ((l.take (min l.length lo.length)).drop 0) p3).2.1) ((buildF ((l.take (min l.length lo.length)).drop 0) p3).2.2.1) ((buildF ((lo.take (min l.length lo.length)).drop 0) p3).1) ((buildF ((lo.take (min l.length lo.length)).drop 0) p3).2.1) ((buildF ((lo.take (min l.length lo.length)).drop 0) p3).2.2.1)).2.2.1).length : Nat) : Int) = (((buildF ((l.take (min l.length lo.length)).drop 0) p3).2.2.1).length : Nat)))) (o_bin rfl rfl v_neq) ?_
      refine stp (v := .bool (decide (¬ ((((joinF ((buildF ((l.take (min l.length lo.length)).drop 0) p3).1) ((buildF ((l.take (min l.length lo.length)).drop 0) p3).2.1) ((buildF ((l.take (min l.length lo.length)).drop 0) p3).2.2.1) ((buildF ((lo.take (min l.length lo.length)).drop 0) p3).1) ((buildF ((lo.take (min l.length lo.length)).drop 0) p3).2.1) ((buildF ((lo.take (min l.length lo.length)).drop 0) p3).2.2.1)).2.2.1).length : Nat) : Int) = (((buildF ((l.take (min l.length lo.length)).drop 0) p3).2.2.1).length : Nat)))) (o_pickF rfl rfl) ?_
      refine stp (v := .bool (decide (¬ ((((joinF ((buildF ((l.take (min l.length lo.length)).drop 0) p3).1) ((buildF ((l.take (min l.length lo.length)).drop 0) p3).2.1) ((buildF ((l.take (min l.length lo.length)).drop 0) p3).2.2.1) ((buildF ((lo.take (min l.length lo.length)).drop 0) p3).1) ((buildF ((lo.take (min l.length lo.length)).drop 0) p3).2.1) ((buildF ((lo.take (min l.length lo.length)).drop 0) p3).2.2.1)).2.2.1).length : Nat) : Int) = (((buildF ((l.take (min l.length lo.length)).drop 0) p3).2.2.1).length : Nat)))) (o_mv rfl) ?_
      refine splitP rfl (fun c58 => absurd c58 (by omega)) (fun c58 => ?_)
      refine stg rfl (v := .pointer (some ⟨b52, 2, none⟩)) (o_fa rfl rfl) ?_
      refine gyesl rfl ?_
      refine m_ld (v := (.slice av51 lv51 cv51)) hM54 (i := 10) (j := 0) rfl rfl rfl rfl ?_
      refine stg rfl (v := .int .i64 (((joinF ((buildF ((l.take (min l.length lo.length)).drop 0) p3).1) ((buildF ((l.take (min l.length lo.length)).drop 0) p3).2.1) ((buildF ((l.take (min l.length lo.length)).drop 0) p3).2.2.1) ((buildF ((lo.take (min l.length lo.length)).drop 0) p3).1) ((buildF ((lo.take (min l.length lo.length)).drop 0) p3).2.1) ((buildF ((lo.take (min l.length lo.length)).drop 0) p3).2.2.1)).2.2.1).length : Nat)) (o_lenR (hs51.rd hM54 (i := 9) rfl) rfl rfl) ?_
      refine stg rfl (v := .pointer (some ⟨b47, 2, none⟩)) (o_fa rfl rfl) ?_
      refine gyesl rfl ?_
      refine m_ld (v := (.slice av46 lv46 cv46)) hM54 (i := 8) (j := 0) rfl rfl rfl rfl ?_
      refine stg rfl (v := .int .i64 (((buildF ((lo.take (min l.length lo.length)).drop 0) p3).2.2.1).length : Nat)) (o_lenR (hs46.rd hM54 (i := 7) rfl) rfl rfl) ?_
      refine stg rfl (v := .bool (decide (¬ ((((joinF ((buildF ((l.take (min l.length lo.length)).drop 0) p3).1) ((buildF ((l.take (min l.length lo.length)).drop 0) p3).2.1) ((buildF ((l.take (min l.length lo.length)).drop 0) p3).2.2.1) ((buildF ((lo.take (min l.length lo.length)).drop 0) p3).1) ((buildF ((lo.take (min l.length lo.length)).drop 0) p3).2.1) ((buildF ((lo.take (min l.length lo.length)).drop 0) p3).2.2.1)).2.2.1).length : Nat) : Int) = (((buildF ((lo.take (min l.length lo.length)).drop 0) p3).2.2.1).length : Nat)))) (o_bin rfl rfl v_neq) ?_
      refine stp (v := .bool (decide (¬ ((((joinF ((buildF ((l.take (min l.length lo.length)).drop 0) p3).1) ((buildF ((l.take (min l.length lo.length)).drop 0) p3).2.1) ((buildF ((l.take (min l.length lo.length)).drop 0) p3).2.2.1) ((buildF ((lo.take (min l.length lo.length)).drop 0) p3).1) ((buildF ((lo.take (min l.length lo.length)).drop 0) p3).2.1) ((buildF ((lo.take (min l.length lo.length)).drop 0) p3).2.2.1)).2.2.1).length : Nat) : Int) = (((buildF ((lo.take (min l.length lo.length)).drop 0) p3).2.2.1).length : Nat)))) (o_pickF rfl rfl) ?_
      refine h56 _ _ ?_
      clear h56
      refine cndP rfl (fun c59 => absurd c59 (by omega)) (fun c59 => ?_)
      refine h55 _ _ ?_
      clear h55
      refine seq fun K60 h60 => ?_
      refine seq fun K61 h61 => ?_
      refine stp (v := .int .i64 0) (o_mv rfl) ?_
      refine h61 _ _ ?_
      clear h61
      refine lp (n := fun _ _ => False) (ι := (Nat)) (fun i f w' => f 21 = .int .i64 (i : Nat) ∧ f 2 = y ∧ f 7 = .int .i64 p3 ∧ f 15 = .pointer (some ⟨b41, 0, none⟩) ∧ f 17 = .pointer (some ⟨b47, 0, none⟩) ∧ f 19 = .pointer (some ⟨b52, 0, none⟩) ∧ Mem w [] w' [rs5, [⟨b6, 24, [.bool ((buildF l p3).1), .int .i64 ((buildF l p3).2.1), (.slice av5 lv5 cv5)]⟩], r10_, rs22, [⟨b23, 24, [.bool ((buildF ((l.drop j).reverse) p3).1), .int .i64 ((buildF ((l.drop j).reverse) p3).2.1), (.slice av22 lv22 cv22)]⟩], rs40, [⟨b41, 24, [.bool ((buildF ((l.take (min l.length lo.length)).drop 0) p3).1), .int .i64 ((buildF ((l.take (min l.length lo.length)).drop 0) p3).2.1), (.slice av40 lv40 cv40)]⟩], rs46, [⟨b47, 24, [.bool ((buildF ((lo.take (min l.length lo.length)).drop 0) p3).1), .int .i64 ((buildF ((lo.take (min l.length lo.length)).drop 0) p3).2.1), (.slice av46 lv46 cv46)]⟩], rs51, [⟨b52, 24, [.bool ((joinF ((buildF ((l.take (min l.length lo.length)).drop 0) p3).1) ((buildF ((l.take (min l.length lo.length)).drop 0) p3).2.1) ((buildF ((l.take (min l.length lo.length)).drop 0) p3).2.2.1) ((buildF ((lo.take (min l.length lo.length)).drop 0) p3).1) ((buildF ((lo.take (min l.length lo.length)).drop 0) p3).2.1) ((buildF ((lo.take (min l.length lo.length)).drop 0) p3).2.2.1)).1), .int .i64 ((joinF ((buildF ((l.take (min l.length lo.length)).drop 0) p3).1) ((buildF ((l.take (min l.length lo.length)).drop 0) p3).2.1) ((buildF ((l.take (min l.length lo.length)).drop 0) p3).2.2.1) ((buildF ((lo.take (min l.length lo.length)).drop 0) p3).1) ((buildF ((lo.take (min l.length lo.length)).drop 0) p3).2.1) ((buildF ((lo.take (min l.length lo.length)).drop 0) p3).2.2.1)).2.1), (.slice av51 lv51 cv51)]⟩]] ∧ (i ≤ (buildF ((l.take (min l.length lo.length)).drop 0) p3).2.2.1.length)) (fun i => (buildF ((l.take (min l.length lo.length)).drop 0) p3).2.2.1.length - i) (0) ?_ ?_
      · exact ⟨by first | rfl | exact v_int (by omega) | exact v_int (by simp) | exact v_int (by simp; omega), rfl, by first | rfl | exact v_int (by omega) | exact v_int (by simp) | exact v_int (by simp; omega), rfl, rfl, rfl, hM54, by omega⟩
      · rintro i f w62 ⟨e62_21, e62_2, e62_7, e62_15, e62_17, e62_19, hM62, hi⟩ K63 h63
        obtain ⟨frm, rfl⟩ : ∃ frm, f = (upd (upd (upd (upd (upd (upd frm 21 (.int .i64 (i : Nat))) 2 (y)) 7 (.int .i64 p3)) 15 (.pointer (some ⟨b41, 0, none⟩))) 17 (.pointer (some ⟨b47, 0, none⟩))) 19 (.pointer (some ⟨b52, 0, none⟩))) := ⟨f, by rw [upd_self e62_21, upd_self e62_2, upd_self e62_7, upd_self e62_15, upd_self e62_17, upd_self e62_19]⟩
        clear e62_21 e62_2 e62_7 e62_15 e62_17 e62_19
        refine seq fun K64 h64 => ?_
        refine seq fun K65 h65 => ?_
        refine stp (v := .int .i64 (i : Nat)) (o_mv rfl) ?_
        refine stp (v := .pointer (some ⟨b52, 2, none⟩)) (o_fa rfl rfl) ?_
        refine m_ld (v := (.slice av51 lv51 cv51)) hM62 (i := 10) (j := 0) rfl rfl rfl rfl ?_
        refine stp (v := .int .i64 (((joinF ((buildF ((l.take (min l.length lo.length)).drop 0) p3).1) ((buildF ((l.take (min l.length lo.length)).drop 0) p3).2.1) ((buildF ((l.take (min l.length lo.length)).drop 0) p3).2.2.1) ((buildF ((lo.take (min l.length lo.length)).drop 0) p3).1) ((buildF ((lo.take (min l.length lo.length)).drop 0) p3).2.1) ((buildF ((lo.take (min l.length lo.length)).drop 0) p3).2.2.1)).2.2.1).length : Nat)) (o_lenR (hs51.rd hM62 (i := 9) rfl) rfl rfl) ?_
        refine stp (v := .bool (decide (((i : Nat) : Int) < (((joinF ((buildF ((l.take (min l.length lo.length)).drop 0) p3).1) ((buildF ((l.take (min l.length lo.length)).drop 0) p3).2.1) ((buildF ((l.take (min l.length lo.length)).drop 0) p3).2.2.1) ((buildF ((lo.take (min l.length lo.length)).drop 0) p3).1) ((buildF ((lo.take (min l.length lo.length)).drop 0) p3).2.1) ((buildF ((lo.take (min l.length lo.length)).drop 0) p3).2.2.1)).2.2.1).length : Nat)))) (o_bin rfl rfl rfl) ?_
        refine h65 _ _ ?_
        clear h65
        refine cndP rfl (fun c66 => ?_) (fun c66 => ?_)
        ·
          refine h64 _ _ ?_
          clear h64
          refine seq fun K67 h67 => ?_
          refine seq fun K68 h68 => ?_
          intro wd e1 e2 e3 e4
          have hd := Upd.same e1 e2 e3 e4 []
          have hM69 := hM62.pure hd
          clear e1 e2 e3 e4
          refine ⟨none, ?_⟩
          show vd _ _ _ _ _ _ _
          refine dq (v := .pointer (some ⟨b52, 2, none⟩)) (o_fa rfl rfl) ?_
          refine dq (v := .int .i64 (i : Nat)) (o_mv rfl) ?_
          refine dq (v := .pointer (some ⟨b41, 2, none⟩)) (o_fa rfl rfl) ?_
          refine dq (v := .int .i64 (i : Nat)) (o_mv rfl) ?_
          refine dq (v := .pointer (some ⟨b47, 2, none⟩)) (o_fa rfl rfl) ?_
          refine dq (v := .int .i64 (i : Nat)) (o_mv rfl) ?_
          refine dqld rfl (trivial) (v := (.slice av46 lv46 cv46)) ((hM69.at (i := 8) (j := 0) rfl rfl).cell 2) ?_
          refine dqp (m_idxE 0 (j := i) (hs46.rd hM69 (i := 7) rfl) rfl rfl (by omega) fun b70 o70 hp70 => ?_)
          show vd _ _ _ _ _ _ _
          refine dqld rfl (trivial) (v := (.slice av40 lv40 cv40)) ((hM69.at (i := 6) (j := 0) rfl rfl).cell 2) ?_
          refine dqp (m_idxE 0 (j := i) (hs40.rd hM69 (i := 5) rfl) rfl rfl (by omega) fun b71 o71 hp71 => ?_)
          show vd _ _ _ _ _ _ _
          refine dqld rfl (trivial) (v := (.slice av51 lv51 cv51)) ((hM69.at (i := 10) (j := 0) rfl rfl).cell 2) ?_
          refine dqp (m_idxE 0 (j := i) (hs51.rd hM69 (i := 9) rfl) rfl rfl (by omega) fun b72 o72 hp72 => ?_)
          show vd _ _ _ _ _ _ _
          refine dqld rfl (trivial) (v := byteV (((buildF ((lo.take (min l.length lo.length)).drop 0) p3).2.2.1).getD i 0)) (hp70) ?_
          refine dqld rfl (trivial) (v := byteV (((buildF ((l.take (min l.length lo.length)).drop 0) p3).2.2.1).getD i 0)) (hp71) ?_
          refine dq (v := .int .u8 (((buildF ((l.take (min l.length lo.length)).drop 0) p3).2.2.1.getD i 0 ||| (buildF ((lo.take (min l.length lo.length)).drop 0) p3).2.2.1.getD i 0).toNat : Int)) (o_bin rfl rfl (v_int (or8 _ _))) ?_
          refine dl (ld (v := byteV (((joinF ((buildF ((l.take (min l.length lo.length)).drop 0) p3).1) ((buildF ((l.take (min l.length lo.length)).drop 0) p3).2.1) ((buildF ((l.take (min l.length lo.length)).drop 0) p3).2.2.1) ((buildF ((lo.take (min l.length lo.length)).drop 0) p3).1) ((buildF ((lo.take (min l.length lo.length)).drop 0) p3).2.1) ((buildF ((lo.take (min l.length lo.length)).drop 0) p3).2.2.1)).2.2.1).getD i 0)) rfl (hp72) ?_)
          refine ⟨rfl, ?_⟩
          refine dq (v := .bool (decide (¬ ((((joinF ((buildF ((l.take (min l.length lo.length)).drop 0) p3).1) ((buildF ((l.take (min l.length lo.length)).drop 0) p3).2.1) ((buildF ((l.take (min l.length lo.length)).drop 0) p3).2.2.1) ((buildF ((lo.take (min l.length lo.length)).drop 0) p3).1) ((buildF ((lo.take (min l.length lo.length)).drop 0) p3).2.1) ((buildF ((lo.take (min l.length lo.length)).drop 0) p3).2.2.1)).2.2.1).getD i 0).toNat : Int) = (((buildF ((l.take (min l.length lo.length)).drop 0) p3).2.2.1.getD i 0 ||| (buildF ((lo.take (min l.length lo.length)).drop 0) p3).2.2.1.getD i 0).toNat : Int)))) (o_bin rfl rfl v_neq) ?_
          refine h68 _ _ ?_
          clear h68
          refine cndP rfl (fun c73 => absurd c73 (fun h => h (by rw [hfj.2.1, orL_get hfj.2.2]))) (fun c73 => ?_)
          refine h67 _ _ ?_
          clear h67
          refine stp (v := .int .i64 (i : Nat)) (o_mv rfl) ?_
          refine stp (v := .int .i64 ((i : Nat) + 1)) (o_bin rfl rfl (v_add64 (by constructor <;> omega))) ?_
          refine stp (v := .int .i64 ((i : Nat) + 1)) (o_mv rfl) ?_
          refine h63 (i + 1) _ _ ⟨by first | rfl | exact v_int (by omega) | exact v_int (by simp) | exact v_int (by simp; omega), rfl, by first | rfl | exact v_int (by omega) | exact v_int (by simp) | exact v_int (by simp; omega), rfl, rfl, rfl, hM69, by omega⟩ (by (try dsimp only); omega)
        ·
          refine h60 _ _ ?_
          clear h60
          refine seq fun K74 h74 => ?_
          refine stp (v := .int .i64 p3) (o_mv rfl) ?_
          refine m_call (Build_ok _ ([]) p3 w62 (Rd.nilE strV _) (by first | exact hk1 | exact hk2 | exact fun k hm => hk1 k (List.mem_of_mem_take (List.mem_of_mem_drop hm)) | exact fun k hm => hk2 k (List.mem_of_mem_take (List.mem_of_mem_drop hm)) | exact fun k hm => hk1 k (List.mem_of_mem_drop (List.mem_reverse.1 hm)) | (intro k hm; cases hm)) (by first | omega | (simp only [List.length_take, List.length_reverse, List.length_drop, List.length_nil]; omega) | (simp; omega) | simp) (by simp only [inK]; omega)) rfl fun v75 w75 ⟨vd75, rs75, hr75, hs75, hm75⟩ => ?_
          have hM75 : Mem w [] w75 [rs5, [⟨b6, 24, [.bool ((buildF l p3).1), .int .i64 ((buildF l p3).2.1), (.slice av5 lv5 cv5)]⟩], r10_, rs22, [⟨b23, 24, [.bool ((buildF ((l.drop j).reverse) p3).1), .int .i64 ((buildF ((l.drop j).reverse) p3).2.1), (.slice av22 lv22 cv22)]⟩], rs40, [⟨b41, 24, [.bool ((buildF ((l.take (min l.length lo.length)).drop 0) p3).1), .int .i64 ((buildF ((l.take (min l.length lo.length)).drop 0) p3).2.1), (.slice av40 lv40 cv40)]⟩], rs46, [⟨b47, 24, [.bool ((buildF ((lo.take (min l.length lo.length)).drop 0) p3).1), .int .i64 ((buildF ((lo.take (min l.length lo.length)).drop 0) p3).2.1), (.slice av46 lv46 cv46)]⟩], rs51, [⟨b52, 24, [.bool ((joinF ((buildF ((l.take (min l.length lo.length)).drop 0) p3).1) ((buildF ((l.take (min l.length lo.length)).drop 0) p3).2.1) ((buildF ((l.take (min l.length lo.length)).drop 0) p3).2.2.1) ((buildF ((lo.take (min l.length lo.length)).drop 0) p3).1) ((buildF ((lo.take (min l.length lo.length)).drop 0) p3).2.1) ((buildF ((lo.take (min l.length lo.length)).drop 0) p3).2.2.1)).1), .int .i64 ((joinF ((buildF ((l.take (min l.length lo.length)).drop 0) p3).1) ((buildF ((l.take (min l.length lo.length)).drop 0) p3).2.1) ((buildF ((l.take (min l.length lo.length)).drop 0) p3).2.2.1) ((buildF ((lo.take (min l.length lo.length)).drop 0) p3).1) ((buildF ((lo.take (min l.length lo.length)).drop 0) p3).2.1) ((buildF ((lo.take (min l.length lo.length)).drop 0) p3).2.2.1)).2.1), (.slice av51 lv51 cv51)]⟩], rs75] := hM62.add hm75
          obtain ⟨av75, lv75, cv75, rfl⟩ := hs75.isSlice
          subst hr75
          have hbe75 := build_err ([]) (p := p3) (by omega)
          have hbl75 := build_len ([]) (p := p3) (by omega)
          have hbh75 := (build_ones ([]) (p := p3) (by omega) 0).2
          have hbk75 := build_fk ([]) (p := p3) (by omega)
          refine stp (v := .tuple [.agg ([.bool ((buildF ([]) p3).1), .int .i64 ((buildF ([]) p3).2.1), (.slice av75 lv75 cv75)] : List Value).toArray, .int .i64 ((buildF ([]) p3).2.2.2)].toArray) (o_mv rfl) ?_
          refine stp (v := .agg ([.bool ((buildF ([]) p3).1), .int .i64 ((buildF ([]) p3).2.1), (.slice av75 lv75 cv75)] : List Value).toArray) (o_ext rfl rfl) ?_
          refine stp (v := .int .i64 ((buildF ([]) p3).2.2.2)) (o_ext rfl rfl) ?_
          refine m_al hM75 fun b76 w77 (hM77 : Mem w [] w77 [rs5, [⟨b6, 24, [.bool ((buildF l p3).1), .int .i64 ((buildF l p3).2.1), (.slice av5 lv5 cv5)]⟩], r10_, rs22, [⟨b23, 24, [.bool ((buildF ((l.drop j).reverse) p3).1), .int .i64 ((buildF ((l.drop j).reverse) p3).2.1), (.slice av22 lv22 cv22)]⟩], rs40, [⟨b41, 24, [.bool ((buildF ((l.take (min l.length lo.length)).drop 0) p3).1), .int .i64 ((buildF ((l.take (min l.length lo.length)).drop 0) p3).2.1), (.slice av40 lv40 cv40)]⟩], rs46, [⟨b47, 24, [.bool ((buildF ((lo.take (min l.length lo.length)).drop 0) p3).1), .int .i64 ((buildF ((lo.take (min l.length lo.length)).drop 0) p3).2.1), (.slice av46 lv46 cv46)]⟩], rs51, [⟨b52, 24, [.bool ((joinF ((buildF ((l.take (min l.length lo.length)).drop 0) p3).1) ((buildF ((l.take (min l.length lo.length)).drop 0) p3).2.1) ((buildF ((l.take (min l.length lo.length)).drop 0) p3).2.2.1) ((buildF ((lo.take (min l.length lo.length)).drop 0) p3).1) ((buildF ((lo.take (min l.length lo.length)).drop 0) p3).2.1) ((buildF ((lo.take (min l.length lo.length)).drop 0) p3).2.2.1)).1), .int .i64 ((joinF ((buildF ((l.take (min l.length lo.length)).drop 0) p3).1) ((buildF ((l.take (min l.length lo.length)).drop 0) p3).2.1) ((buildF ((l.take (min l.length lo.length)).drop 0) p3).2.2.1) ((buildF ((lo.take (min l.length lo.length)).drop 0) p3).1) ((buildF ((lo.take (min l.length lo.length)).drop 0) p3).2.1) ((buildF ((lo.take (min l.length lo.length)).drop 0) p3).2.2.1)).2.1), (.slice av51 lv51 cv51)]⟩], rs75, [⟨b76, 24, [.bool false, .int .i64 0, .slice none 0 0]⟩]]) => ?_
          refine m_stA (l := [.bool ((buildF ([]) p3).1), .int .i64 ((buildF ([]) p3).2.1), (.slice av75 lv75 cv75)]) hM77 (i := 12) rfl rfl rfl rfl (by simp [oneCells, Value.oneCell', byteV]) (by simp) fun w78 (hM78 : Mem w [] w78 [rs5, [⟨b6, 24, [.bool ((buildF l p3).1), .int .i64 ((buildF l p3).2.1), (.slice av5 lv5 cv5)]⟩], r10_, rs22, [⟨b23, 24, [.bool ((buildF ((l.drop j).reverse) p3).1), .int .i64 ((buildF ((l.drop j).reverse) p3).2.1), (.slice av22 lv22 cv22)]⟩], rs40, [⟨b41, 24, [.bool ((buildF ((l.take (min l.length lo.length)).drop 0) p3).1), .int .i64 ((buildF ((l.take (min l.length lo.length)).drop 0) p3).2.1), (.slice av40 lv40 cv40)]⟩], rs46, [⟨b47, 24, [.bool ((buildF ((lo.take (min l.length lo.length)).drop 0) p3).1), .int .i64 ((buildF ((lo.take (min l.length lo.length)).drop 0) p3).2.1), (.slice av46 lv46 cv46)]⟩], rs51, [⟨b52, 24, [.bool ((joinF ((buildF ((l.take (min l.length lo.length)).drop 0) p3).1) ((buildF ((l.take (min l.length lo.length)).drop 0) p3).2.1) ((buildF ((l.take (min l.length lo.length)).drop 0) p3).2.2.1) ((buildF ((lo.take (min l.length lo.length)).drop 0) p3).1) ((buildF ((lo.take (min l.length lo.length)).drop 0) p3).2.1) ((buildF ((lo.take (min l.length lo.length)).drop 0) p3).2.2.1)).1), .int .i64 ((joinF ((buildF ((l.take (min l.length lo.length)).drop 0) p3).1) ((buildF ((l.take (min l.length lo.length)).drop 0) p3).2.1) ((buildF ((l.take (min l.length lo.length)).drop 0) p3).2.2.1) ((buildF ((lo.take (min l.length lo.length)).drop 0) p3).1) ((buildF ((lo.take (min l.length lo.length)).drop 0) p3).2.1) ((buildF ((lo.take (min l.length lo.length)).drop 0) p3).2.2.1)).2.1), (.slice av51 lv51 cv51)]⟩], rs75, [⟨b76, 24, [.bool ((buildF ([]) p3).1), .int .i64 ((buildF ([]) p3).2.1), (.slice av75 lv75 cv75)]⟩]]) => ?_
          refine stp (v := .int .i64 ((buildF ([]) p3).2.2.2)) (o_mv rfl) ?_
          refine h74 _ _ ?_
          clear h74
          refine seq fun K79 h79 => ?_
          refine seq fun K80 h80 => ?_
          refine stp (v := .int .i64 0) (o_mv rfl) ?_
          refine h80 _ _ ?_
          clear h80
          refine lp (n := fun _ _ => False) (ι := (Nat)) (fun i f w' => f 24 = .int .i64 (i : Nat) ∧ f 2 = y ∧ f 22 = .pointer (some ⟨b76, 0, none⟩) ∧ Mem w [] w' [rs5, [⟨b6, 24, [.bool ((buildF l p3).1), .int .i64 ((buildF l p3).2.1), (.slice av5 lv5 cv5)]⟩], r10_, rs22, [⟨b23, 24, [.bool ((buildF ((l.drop j).reverse) p3).1), .int .i64 ((buildF ((l.drop j).reverse) p3).2.1), (.slice av22 lv22 cv22)]⟩], rs40, [⟨b41, 24, [.bool ((buildF ((l.take (min l.length lo.length)).drop 0) p3).1), .int .i64 ((buildF ((l.take (min l.length lo.length)).drop 0) p3).2.1), (.slice av40 lv40 cv40)]⟩], rs46, [⟨b47, 24, [.bool ((buildF ((lo.take (min l.length lo.length)).drop 0) p3).1), .int .i64 ((buildF ((lo.take (min l.length lo.length)).drop 0) p3).2.1), (.slice av46 lv46 cv46)]⟩], rs51, [⟨b52, 24, [.bool ((joinF ((buildF ((l.take (min l.length lo.length)).drop 0) p3).1) ((buildF ((l.take (min l.length lo.length)).drop 0) p3).2.1) ((buildF ((l.take (min l.length lo.length)).drop 0) p3).2.2.1) ((buildF ((lo.take (min l.length lo.length)).drop 0) p3).1) ((buildF ((lo.take (min l.length lo.length)).drop 0) p3).2.1) ((buildF ((lo.take (min l.length lo.length)).drop 0) p3).2.2.1)).1), .int .i64 ((joinF ((buildF ((l.take (min l.length lo.length)).drop 0) p3).1) ((buildF ((l.take (min l.length lo.length)).drop 0) p3).2.1) ((buildF ((l.take (min l.length lo.length)).drop 0) p3).2.2.1) ((buildF ((lo.take (min l.length lo.length)).drop 0) p3).1) ((buildF ((lo.take (min l.length lo.length)).drop 0) p3).2.1) ((buildF ((lo.take (min l.length lo.length)).drop 0) p3).2.2.1)).2.1), (.slice av51 lv51 cv51)]⟩], rs75, [⟨b76, 24, [.bool ((buildF ([]) p3).1), .int .i64 ((buildF ([]) p3).2.1), (.slice av75 lv75 cv75)]⟩]] ∧ (i ≤ lo.length)) (fun i => lo.length - i) (0) ?_ ?_
          · exact ⟨by first | rfl | exact v_int (by omega) | exact v_int (by simp) | exact v_int (by simp; omega), rfl, rfl, hM78, by omega⟩
          · rintro i f w81 ⟨e81_24, e81_2, e81_22, hM81, hi⟩ K82 h82
            obtain ⟨frm, rfl⟩ : ∃ frm, f = (upd (upd (upd frm 24 (.int .i64 (i : Nat))) 2 (y)) 22 (.pointer (some ⟨b76, 0, none⟩))) := ⟨f, by rw [upd_self e81_24, upd_self e81_2, upd_self e81_22]⟩
            clear e81_24 e81_2 e81_22
            refine seq fun K83 h83 => ?_
            refine seq fun K84 h84 => ?_
            refine stp (v := .int .i64 (i : Nat)) (o_mv rfl) ?_
            refine stp (v := y) (o_mv rfl) ?_
            refine stp (v := .int .i64 (lo.length : Nat)) (o_lenR (hy.upd hM81.upd) rfl rfl) ?_
            refine stp (v := .bool (decide (((i : Nat) : Int) < (lo.length : Nat)))) (o_bin rfl rfl rfl) ?_
            refine h84 _ _ ?_
            clear h84
            refine cndP rfl (fun c85 => ?_) (fun c85 => ?_)
            ·
              refine h83 _ _ ?_
              clear h83
              refine seq fun K86 h86 => ?_
              refine seq fun K87 h87 => ?_
              intro wd e1 e2 e3 e4
              have hd := Upd.same e1 e2 e3 e4 []
              have hM88 := hM81.pure hd
              clear e1 e2 e3 e4
              refine ⟨(some [b76]), ?_⟩
              show vd _ _ _ _ _ _ _
              have hin : inK .i64 (buildF [] p3).2.1 := by simp only [inK]; omega
              refine dq (v := y) (o_mv rfl) ?_
              refine dq (v := .int .i64 (i : Nat)) (o_mv rfl) ?_
              refine dqp (m_idxE [] (j := i) (hy.upd hM88.upd) rfl rfl (by omega) fun b89 o89 hp89 => ?_)
              show vd _ _ _ _ _ _ _
              refine dqldA (cs := [.bool ((buildF ([]) p3).1), .int .i64 ((buildF ([]) p3).2.1), (.slice av75 lv75 cv75)]) rfl (by simp [isHeld]) rfl ((hM88.at (i := 12) (j := 0) rfl rfl).agg rfl rfl) ?_
              refine dl (ld (v := .string (str (lo.getD i []))) rfl (hp89) ?_)
              refine ⟨(fun b hb => rfl), ?_⟩
              refine dl (m_call (Has_ok (buildF ([]) p3).1 ((buildF ([]) p3).2.1) _ ((buildF ([]) p3).2.2.1) (lo.getD i []) wd (hs75.rd hM88 (i := 11) rfl) (by first | omega | (simp; done) | (simp; omega)) (by have := hk2 _ (getD_memG [] (i := i) (l := lo) (by omega)); omega) (by first | assumption | omega)) rfl fun v90 w90 ⟨hr90, hu90⟩ => ?_)
              have hM90 : Mem w [] w90 [rs5, [⟨b6, 24, [.bool ((buildF l p3).1), .int .i64 ((buildF l p3).2.1), (.slice av5 lv5 cv5)]⟩], r10_, rs22, [⟨b23, 24, [.bool ((buildF ((l.drop j).reverse) p3).1), .int .i64 ((buildF ((l.drop j).reverse) p3).2.1), (.slice av22 lv22 cv22)]⟩], rs40, [⟨b41, 24, [.bool ((buildF ((l.take (min l.length lo.length)).drop 0) p3).1), .int .i64 ((buildF ((l.take (min l.length lo.length)).drop 0) p3).2.1), (.slice av40 lv40 cv40)]⟩], rs46, [⟨b47, 24, [.bool ((buildF ((lo.take (min l.length lo.length)).drop 0) p3).1), .int .i64 ((buildF ((lo.take (min l.length lo.length)).drop 0) p3).2.1), (.slice av46 lv46 cv46)]⟩], rs51, [⟨b52, 24, [.bool ((joinF ((buildF ((l.take (min l.length lo.length)).drop 0) p3).1) ((buildF ((l.take (min l.length lo.length)).drop 0) p3).2.1) ((buildF ((l.take (min l.length lo.length)).drop 0) p3).2.2.1) ((buildF ((lo.take (min l.length lo.length)).drop 0) p3).1) ((buildF ((lo.take (min l.length lo.length)).drop 0) p3).2.1) ((buildF ((lo.take (min l.length lo.length)).drop 0) p3).2.2.1)).1), .int .i64 ((joinF ((buildF ((l.take (min l.length lo.length)).drop 0) p3).1) ((buildF ((l.take (min l.length lo.length)).drop 0) p3).2.1) ((buildF ((l.take (min l.length lo.length)).drop 0) p3).2.2.1) ((buildF ((lo.take (min l.length lo.length)).drop 0) p3).1) ((buildF ((lo.take (min l.length lo.length)).drop 0) p3).2.1) ((buildF ((lo.take (min l.length lo.length)).drop 0) p3).2.2.1)).2.1), (.slice av51 lv51 cv51)]⟩], rs75, [⟨b76, 24, [.bool ((buildF ([]) p3).1), .int .i64 ((buildF ([]) p3).2.1), (.slice av75 lv75 cv75)]⟩]] := hM88.pure hu90
              subst hr90
              have hh90 := held_upd (wr := wd) (bs := [b76]) hu90 (fun b hb => by
                simp only [List.mem_cons, List.not_mem_nil, or_false] at hb
                rw [hb]; exact ⟨(hM88.at (i := 12) (j := 0) rfl rfl).lt, by simp⟩) (fun b hb => rfl)
              refine ⟨hh90, ?_⟩
              refine h87 _ _ ?_
              clear h87
              refine cnd rfl (fun c91 => absurd c91 (show ¬ (hasF (buildF ([]) p3).1 ((buildF ([]) p3).2.1) ((buildF ([]) p3).2.2.1) (lo.getD i [])) = true from (by rw [none_has _ (by omega)]; decide))) (fun c91 => ?_)
              refine h86 _ _ ?_
              clear h86
              refine stp (v := .int .i64 (i : Nat)) (o_mv rfl) ?_
              refine stp (v := .int .i64 ((i : Nat) + 1)) (o_bin rfl rfl (v_add64 (by constructor <;> omega))) ?_
              refine stp (v := .int .i64 ((i : Nat) + 1)) (o_mv rfl) ?_
              refine h82 (i + 1) _ _ ⟨by first | rfl | exact v_int (by omega) | exact v_int (by simp) | exact v_int (by simp; omega), rfl, rfl, hM90, by omega⟩ (by (try dsimp only); omega)
            ·
              refine h79 _ _ ?_
              clear h79
              refine seq fun K92 h92 => ?_
              refine m_call (works_ok w81) rfl fun v93 w93 ⟨hr93, hu93⟩ => ?_
              have hM93 : Mem w [] w93 [rs5, [⟨b6, 24, [.bool ((buildF l p3).1), .int .i64 ((buildF l p3).2.1), (.slice av5 lv5 cv5)]⟩], r10_, rs22, [⟨b23, 24, [.bool ((buildF ((l.drop j).reverse) p3).1), .int .i64 ((buildF ((l.drop j).reverse) p3).2.1), (.slice av22 lv22 cv22)]⟩], rs40, [⟨b41, 24, [.bool ((buildF ((l.take (min l.length lo.length)).drop 0) p3).1), .int .i64 ((buildF ((l.take (min l.length lo.length)).drop 0) p3).2.1), (.slice av40 lv40 cv40)]⟩], rs46, [⟨b47, 24, [.bool ((buildF ((lo.take (min l.length lo.length)).drop 0) p3).1), .int .i64 ((buildF ((lo.take (min l.length lo.length)).drop 0) p3).2.1), (.slice av46 lv46 cv46)]⟩], rs51, [⟨b52, 24, [.bool ((joinF ((buildF ((l.take (min l.length lo.length)).drop 0) p3).1) ((buildF ((l.take (min l.length lo.length)).drop 0) p3).2.1) ((buildF ((l.take (min l.length lo.length)).drop 0) p3).2.2.1) ((buildF ((lo.take (min l.length lo.length)).drop 0) p3).1) ((buildF ((lo.take (min l.length lo.length)).drop 0) p3).2.1) ((buildF ((lo.take (min l.length lo.length)).drop 0) p3).2.2.1)).1), .int .i64 ((joinF ((buildF ((l.take (min l.length lo.length)).drop 0) p3).1) ((buildF ((l.take (min l.length lo.length)).drop 0) p3).2.1) ((buildF ((l.take (min l.length lo.length)).drop 0) p3).2.2.1) ((buildF ((lo.take (min l.length lo.length)).drop 0) p3).1) ((buildF ((lo.take (min l.length lo.length)).drop 0) p3).2.1) ((buildF ((lo.take (min l.length lo.length)).drop 0) p3).2.2.1)).2.1), (.slice av51 lv51 cv51)]⟩], rs75, [⟨b76, 24, [.bool ((buildF ([]) p3).1), .int .i64 ((buildF ([]) p3).2.1), (.slice av75 lv75 cv75)]⟩]] := hM81.pure hu93
              subst hr93
              refine stp (v := .bool true) (o_mv rfl) ?_
              refine h92 _ _ ?_
              clear h92
              refine ⟨(.bool true), rfl, ?_⟩
              exact ⟨rfl, hM93.upd⟩

theorem encF_err {a : Bool} {h : Int} {d : List UInt8} (k : ¬ fk a h d = 0) : (encF a h d).2 = 0 := by
  have := fk_lt (a := a) (h := h) (d := d)
  rcases (show fk a h d = 1 ∨ fk a h d = 2 ∨ fk a h d = 3 by omega) with c | c | c
  · rw [encF_1 c]
  · rw [encF_2 c]
  · rw [encF_3 c]
theorem build_alls (l : List (List UInt8)) {p : Int} (h : 0 ≤ p ∧ p ≤ 16) : l.all (hasF (buildF l p).1 (buildF l p).2.1 (buildF l p).2.2.1) = true := List.all_eq_true.2 fun _ hk => build_has h hk

/-- winnowlaw7.FilterNever -/
theorem FilterNever_ok (x : Value) (l : List (List UInt8)) (bits : Int) (y : Value) (lo : List (List UInt8)) (more : Int) (hbits : inK .i64 bits) (hmore : inK .i64 more) (w : World) (hT : Tab w) (hx : RdE strV w x l) (hk01 : ∀ k ∈ l, k.length ≤ 140737488351232) (hl : l.length * 16 ≤ 140737488351232) (hy : RdE strV w y lo) (hk02 : ∀ k ∈ lo, k.length ≤ 140737488351232) (hlo : lo.length * 16 ≤ 140737488351232) : Calls Tryd.prog 5 [x, .int .i64 bits, y, .int .i64 more].toArray w (Rt fun r w' => r = .bool true ∧ Upd [] w w') := by
  have hM0 : Mem w [] w [] := Mem.nil w []
  have hk1 : ∀ k ∈ l, k.length ≤ 9223372036854775000 := fun k hm => by have := hk01 k hm; omega
  have hk2 : ∀ k ∈ lo, k.length ≤ 9223372036854775000 := fun k hm => by have := hk02 k hm; omega
  refine calls_vc mixed Tryd.func5 rfl C5 (by simp [Tryd.ntmps5]) ?_
  refine seq fun K1 h1 => ?_
  refine stp (v := .bool false) (o_mv rfl) ?_
  refine h1 _ _ ?_
  clear h1
  refine seq fun K2 h2 => ?_
  refine stp (v := x) (o_mv rfl) ?_
  refine stp (v := .int .i64 bits) (o_mv rfl) ?_
  refine m_call (bent_ok bits (by assumption) w) rfl fun v3 w3 ⟨p3, hr3, hb3, hu3⟩ => ?_
  have hM3 : Mem w [] w3 [] := hM0.pure hu3
  subst hr3
  refine m_call (Build_ok _ l p3 w3 (hx.upd hM3.upd) (by first | exact hk1 | exact hk2 | exact fun k hm => hk1 k (List.mem_of_mem_take (List.mem_of_mem_drop hm)) | exact fun k hm => hk2 k (List.mem_of_mem_take (List.mem_of_mem_drop hm)) | exact fun k hm => hk1 k (List.mem_of_mem_drop (List.mem_reverse.1 hm)) | (intro k hm; cases hm)) (by first | omega | (simp only [List.length_take, List.length_reverse, List.length_drop, List.length_nil]; omega) | (simp; omega) | simp) (by simp only [inK]; omega)) rfl fun v4 w4 ⟨vd4, rs4, hr4, hs4, hm4⟩ => ?_
  have hM4 : Mem w [] w4 [rs4] := hM3.add hm4
  obtain ⟨av4, lv4, cv4, rfl⟩ := hs4.isSlice
  subst hr4
  have hbe4 := build_err l (p := p3) (by omega)
  have hbl4 := build_len l (p := p3) (by omega)
  have hbh4 := (build_ones l (p := p3) (by omega) 0).2
  have hbk4 := build_fk l (p := p3) (by omega)
  refine stp (v := .tuple [.agg ([.bool ((buildF l p3).1), .int .i64 ((buildF l p3).2.1), (.slice av4 lv4 cv4)] : List Value).toArray, .int .i64 ((buildF l p3).2.2.2)].toArray) (o_mv rfl) ?_
  refine stp (v := .agg ([.bool ((buildF l p3).1), .int .i64 ((buildF l p3).2.1), (.slice av4 lv4 cv4)] : List Value).toArray) (o_ext rfl rfl) ?_
  refine stp (v := .int .i64 ((buildF l p3).2.2.2)) (o_ext rfl rfl) ?_
  refine m_al hM4 fun b5 w6 (hM6 : Mem w [] w6 [rs4, [⟨b5, 24, [.bool false, .int .i64 0, .slice none 0 0]⟩]]) => ?_
  refine m_stA (l := [.bool ((buildF l p3).1), .int .i64 ((buildF l p3).2.1), (.slice av4 lv4 cv4)]) hM6 (i := 1) rfl rfl rfl rfl (by simp [oneCells, Value.oneCell', byteV]) (by simp) fun w7 (hM7 : Mem w [] w7 [rs4, [⟨b5, 24, [.bool ((buildF l p3).1), .int .i64 ((buildF l p3).2.1), (.slice av4 lv4 cv4)]⟩]]) => ?_
  refine stp (v := .int .i64 ((buildF l p3).2.2.2)) (o_mv rfl) ?_
  refine h2 _ _ ?_
  clear h2
  refine seq fun K8 h8 => ?_
  refine seq fun K9 h9 => ?_
  have hall := build_alls l (p := p3) (by omega)
  refine stp (v := .int .i64 ((buildF l p3).2.2.2)) (o_mv rfl) ?_
  refine stp (v := .bool (decide (¬ ((buildF l p3).2.2.2) = 0))) (o_bin rfl rfl v_neq) ?_
  refine stp (v := .bool (decide (¬ ((buildF l p3).2.2.2) = 0))) (o_mv rfl) ?_
  refine splitP rfl (fun c10 => absurd c10 (fun h => h (build_err _ (by omega)))) (fun c10 => ?_)
  refine gyesl rfl ?_
  refine m_ldA (l := [.bool ((buildF l p3).1), .int .i64 ((buildF l p3).2.1), (.slice av4 lv4 cv4)]) hM7 (i := 1) (j := 0) rfl rfl rfl rfl rfl ?_
  refine stg rfl (v := x) (o_mv rfl) ?_
  refine gyesl rfl ?_
  refine m_call (all_ok ((buildF l p3).1) ((buildF l p3).2.1) _ ((buildF l p3).2.2.1) _ l w7 (hs4.rd hM7 (i := 0) rfl) (by omega) (by simp only [inK]; omega) (hx.upd hM7.upd) (by first | exact hk1 | exact hk2 | exact fun k hm => hk1 k (List.mem_of_mem_take (List.mem_of_mem_drop hm)) | exact fun k hm => hk2 k (List.mem_of_mem_take (List.mem_of_mem_drop hm)) | exact fun k hm => hk1 k (List.mem_of_mem_drop (List.mem_reverse.1 hm)) | (intro k hm; cases hm)) (by omega)) rfl fun v11 w11 ⟨hr11, hu11⟩ => ?_
  have hM11 : Mem w [] w11 [rs4, [⟨b5, 24, [.bool ((buildF l p3).1), .int .i64 ((buildF l p3).2.1), (.slice av4 lv4 cv4)]⟩]] := hM7.pure hu11
  subst hr11
  refine stg rfl (v := .bool (!(l.all (hasF ((buildF l p3).1) ((buildF l p3).2.1) ((buildF l p3).2.2.1))))) (o_not rfl rfl) ?_
  refine stp (v := .bool (!(l.all (hasF ((buildF l p3).1) ((buildF l p3).2.1) ((buildF l p3).2.2.1))))) (o_pickF rfl rfl) ?_
  refine h9 _ _ ?_
  clear h9
  refine cnd rfl (fun c12 => absurd c12 (show ¬ (!(l.all (hasF ((buildF l p3).1) ((buildF l p3).2.1) ((buildF l p3).2.2.1)))) = true from (by rw [hall]; decide))) (fun c12 => ?_)
  refine h8 _ _ ?_
  clear h8
  refine seq fun K13 h13 => ?_
  have hen := encF_err (build_fk l (p := p3) (by omega))
  have hde := dec_enc hen
  have hel := encF_len (buildF l p3).1 (buildF l p3).2.1 (buildF l p3).2.2.1
  refine m_ldA (l := [.bool ((buildF l p3).1), .int .i64 ((buildF l p3).2.1), (.slice av4 lv4 cv4)]) hM11 (i := 1) (j := 0) rfl rfl rfl rfl rfl ?_
  refine m_call (Encode_ok ((buildF l p3).1) ((buildF l p3).2.1) _ ((buildF l p3).2.2.1) w11 (hs4.rd hM11 (i := 0) rfl) (by first | omega | (simp; done) | (simp; omega))) rfl fun v14 w14 ⟨v14_, rs14, hr14, hs14, hm14⟩ => ?_
  have hM14 : Mem w [] w14 [rs4, [⟨b5, 24, [.bool ((buildF l p3).1), .int .i64 ((buildF l p3).2.1), (.slice av4 lv4 cv4)]⟩], rs14] := hM11.add hm14
  subst hr14
  refine stp (v := .tuple [v14_, .int .i64 ((encF ((buildF l p3).1) ((buildF l p3).2.1) ((buildF l p3).2.2.1)).2)].toArray) (o_mv rfl) ?_
  refine stp (v := v14_) (o_ext rfl rfl) ?_
  refine stp (v := .int .i64 ((encF ((buildF l p3).1) ((buildF l p3).2.1) ((buildF l p3).2.2.1)).2)) (o_ext rfl rfl) ?_
  refine stp (v := v14_) (o_mv rfl) ?_
  refine stp (v := .int .i64 ((encF ((buildF l p3).1) ((buildF l p3).2.1) ((buildF l p3).2.2.1)).2)) (o_mv rfl) ?_
  refine h13 _ _ ?_
  clear h13
  refine seq fun K15 h15 => ?_
  refine stp (v := v14_) (o_mv rfl) ?_
  refine m_call (Decode_ok _ ((encF ((buildF l p3).1) ((buildF l p3).2.1) ((buildF l p3).2.2.1)).1) w14 (hs14.rd hM14 (i := 2) rfl) (by first | omega | (simp; done) | (simp; omega))) rfl fun v16 w16 ⟨vd16, rs16, hr16, hs16, hm16⟩ => ?_
  have hM16 : Mem w [] w16 [rs4, [⟨b5, 24, [.bool ((buildF l p3).1), .int .i64 ((buildF l p3).2.1), (.slice av4 lv4 cv4)]⟩], rs14, rs16] := hM14.add hm16
  obtain ⟨av16, lv16, cv16, rfl⟩ := hs16.isSlice
  subst hr16
  have hdd : (decF (encF (buildF l p3).1 (buildF l p3).2.1 (buildF l p3).2.2.1).1).2.2.1.length ≤ 4096 ∧ 0 ≤ (decF (encF (buildF l p3).1 (buildF l p3).2.1 (buildF l p3).2.2.1).1).2.1 ∧ (decF (encF (buildF l p3).1 (buildF l p3).2.1 (buildF l p3).2.2.1).1).2.1 ≤ 8 := by rw [hde]; dsimp only; omega
  refine stp (v := .tuple [.agg ([.bool ((decF ((encF ((buildF l p3).1) ((buildF l p3).2.1) ((buildF l p3).2.2.1)).1)).1), .int .i64 ((decF ((encF ((buildF l p3).1) ((buildF l p3).2.1) ((buildF l p3).2.2.1)).1)).2.1), (.slice av16 lv16 cv16)] : List Value).toArray, .int .i64 ((decF ((encF ((buildF l p3).1) ((buildF l p3).2.1) ((buildF l p3).2.2.1)).1)).2.2.2)].toArray) (o_mv rfl) ?_
  refine stp (v := .agg ([.bool ((decF ((encF ((buildF l p3).1) ((buildF l p3).2.1) ((buildF l p3).2.2.1)).1)).1), .int .i64 ((decF ((encF ((buildF l p3).1) ((buildF l p3).2.1) ((buildF l p3).2.2.1)).1)).2.1), (.slice av16 lv16 cv16)] : List Value).toArray) (o_ext rfl rfl) ?_
  refine stp (v := .int .i64 ((decF ((encF ((buildF l p3).1) ((buildF l p3).2.1) ((buildF l p3).2.2.1)).1)).2.2.2)) (o_ext rfl rfl) ?_
  refine m_al hM16 fun b17 w18 (hM18 : Mem w [] w18 [rs4, [⟨b5, 24, [.bool ((buildF l p3).1), .int .i64 ((buildF l p3).2.1), (.slice av4 lv4 cv4)]⟩], rs14, rs16, [⟨b17, 24, [.bool false, .int .i64 0, .slice none 0 0]⟩]]) => ?_
  refine m_stA (l := [.bool ((decF ((encF ((buildF l p3).1) ((buildF l p3).2.1) ((buildF l p3).2.2.1)).1)).1), .int .i64 ((decF ((encF ((buildF l p3).1) ((buildF l p3).2.1) ((buildF l p3).2.2.1)).1)).2.1), (.slice av16 lv16 cv16)]) hM18 (i := 4) rfl rfl rfl rfl (by simp [oneCells, Value.oneCell', byteV]) (by simp) fun w19 (hM19 : Mem w [] w19 [rs4, [⟨b5, 24, [.bool ((buildF l p3).1), .int .i64 ((buildF l p3).2.1), (.slice av4 lv4 cv4)]⟩], rs14, rs16, [⟨b17, 24, [.bool ((decF ((encF ((buildF l p3).1) ((buildF l p3).2.1) ((buildF l p3).2.2.1)).1)).1), .int .i64 ((decF ((encF ((buildF l p3).1) ((buildF l p3).2.1) ((buildF l p3).2.2.1)).1)).2.1), (.slice av16 lv16 cv16)]⟩]]) => ?_
  refine stp (v := .int .i64 ((decF ((encF ((buildF l p3).1) ((buildF l p3).2.1) ((buildF l p3).2.2.1)).1)).2.2.2)) (o_mv rfl) ?_
  refine h15 _ _ ?_
  clear h15
  refine seq fun K20 h20 => ?_
  refine seq fun K21 h21 => ?_
  refine stp (v := .int .i64 ((encF ((buildF l p3).1) ((buildF l p3).2.1) ((buildF l p3).2.2.1)).2)) (o_mv rfl) ?_
  refine stp (v := .bool (decide (¬ ((encF ((buildF l p3).1) ((buildF l p3).2.1) ((buildF l p3).2.2.1)).2) = 0))) (o_bin rfl rfl v_neq) ?_
  refine stp (v := .bool (decide (¬ ((encF ((buildF l p3).1) ((buildF l p3).2.1) ((buildF l p3).2.2.1)).2) = 0))) (o_mv rfl) ?_
  refine splitP rfl (fun c22 => absurd c22 (fun h => h hen)) (fun c22 => ?_)
  refine stg rfl (v := .int .i64 ((decF ((encF ((buildF l p3).1) ((buildF l p3).2.1) ((buildF l p3).2.2.1)).1)).2.2.2)) (o_mv rfl) ?_
  refine stg rfl (v := .bool (decide (¬ ((decF ((encF ((buildF l p3).1) ((buildF l p3).2.1) ((buildF l p3).2.2.1)).1)).2.2.2) = 0))) (o_bin rfl rfl v_neq) ?_
  refine stp (v := .bool (decide (¬ ((decF ((encF ((buildF l p3).1) ((buildF l p3).2.1) ((buildF l p3).2.2.1)).1)).2.2.2) = 0))) (o_pickF rfl rfl) ?_
  refine stp (v := .bool (decide (¬ ((decF ((encF ((buildF l p3).1) ((buildF l p3).2.1) ((buildF l p3).2.2.1)).1)).2.2.2) = 0))) (o_mv rfl) ?_
  refine splitP rfl (fun c23 => absurd c23 (fun h => h (by rw [hde]))) (fun c23 => ?_)
  refine gyesl rfl ?_
  refine m_ldA (l := [.bool ((decF ((encF ((buildF l p3).1) ((buildF l p3).2.1) ((buildF l p3).2.2.1)).1)).1), .int .i64 ((decF ((encF ((buildF l p3).1) ((buildF l p3).2.1) ((buildF l p3).2.2.1)).1)).2.1), (.slice av16 lv16 cv16)]) hM19 (i := 4) (j := 0) rfl rfl rfl rfl rfl ?_
  refine gyesl rfl ?_
  refine m_ldA (l := [.bool ((buildF l p3).1), .int .i64 ((buildF l p3).2.1), (.slice av4 lv4 cv4)]) hM19 (i := 1) (j := 0) rfl rfl rfl rfl rfl ?_
  refine gyesl rfl ?_
  refine m_call (alike_ok ((decF ((encF ((buildF l p3).1) ((buildF l p3).2.1) ((buildF l p3).2.2.1)).1)).1) ((buildF l p3).1) ((decF ((encF ((buildF l p3).1) ((buildF l p3).2.1) ((buildF l p3).2.2.1)).1)).2.1) ((buildF l p3).2.1) _ _ ((decF ((encF ((buildF l p3).1) ((buildF l p3).2.1) ((buildF l p3).2.2.1)).1)).2.2.1) ((buildF l p3).2.2.1) w19 (hs16.rd hM19 (i := 3) rfl) (hs4.rd hM19 (i := 0) rfl) (by first | omega | (simp; done) | (simp; omega))) rfl fun v24 w24 ⟨hr24, hu24⟩ => ?_
  have hM24 : Mem w [] w24 [rs4, [⟨b5, 24, [.bool ((buildF l p3).1), .int .i64 ((buildF l p3).2.1), (.slice av4 lv4 cv4)]⟩], rs14, rs16, [⟨b17, 24, [.bool ((decF ((encF ((buildF l p3).1) ((buildF l p3).2.1) ((buildF l p3).2.2.1)).1)).1), .int .i64 ((decF ((encF ((buildF l p3).1) ((buildF l p3).2.1) ((buildF l p3).2.2.1)).1)).2.1), (.slice av16 lv16 cv16)]⟩]] := hM19.pure hu24
  subst hr24
  refine stg rfl (v := .bool (!(alikeF ((decF ((encF ((buildF l p3).1) ((buildF l p3).2.1) ((buildF l p3).2.2.1)).1)).1) ((decF ((encF ((buildF l p3).1) ((buildF l p3).2.1) ((buildF l p3).2.2.1)).1)).2.1) ((decF ((encF ((buildF l p3).1) ((buildF l p3).2.1) ((buildF l p3).2.2.1)).1)).2.2.1) ((buildF l p3).1) ((buildF l p3).2.1) ((buildF l p3).2.2.1)))) (o_not rfl rfl) ?_
  refine stp (v := .bool (!(alikeF ((decF ((encF ((buildF l p3).1) ((buildF l p3).2.1) ((buildF l p3).2.2.1)).1)).1) ((decF ((encF ((buildF l p3).1) ((buildF l p3).2.1) ((buildF l p3).2.2.1)).1)).2.1) ((decF ((encF ((buildF l p3).1) ((buildF l p3).2.1) ((buildF l p3).2.2.1)).1)).2.2.1) ((buildF l p3).1) ((buildF l p3).2.1) ((buildF l p3).2.2.1)))) (o_pickF rfl rfl) ?_
  refine stp (v := .bool (!(alikeF ((decF ((encF ((buildF l p3).1) ((buildF l p3).2.1) ((buildF l p3).2.2.1)).1)).1) ((decF ((encF ((buildF l p3).1) ((buildF l p3).2.1) ((buildF l p3).2.2.1)).1)).2.1) ((decF ((encF ((buildF l p3).1) ((buildF l p3).2.1) ((buildF l p3).2.2.1)).1)).2.2.1) ((buildF l p3).1) ((buildF l p3).2.1) ((buildF l p3).2.2.1)))) (o_mv rfl) ?_
  refine split rfl (fun c25 => absurd c25 (show ¬ (!(alikeF ((decF ((encF ((buildF l p3).1) ((buildF l p3).2.1) ((buildF l p3).2.2.1)).1)).1) ((decF ((encF ((buildF l p3).1) ((buildF l p3).2.1) ((buildF l p3).2.2.1)).1)).2.1) ((decF ((encF ((buildF l p3).1) ((buildF l p3).2.1) ((buildF l p3).2.2.1)).1)).2.2.1) ((buildF l p3).1) ((buildF l p3).2.1) ((buildF l p3).2.2.1))) = true from (by rw [hde, alikeF_self]; decide))) (fun c25 => ?_)
  refine gyesl rfl ?_
  refine m_ldA (l := [.bool ((decF ((encF ((buildF l p3).1) ((buildF l p3).2.1) ((buildF l p3).2.2.1)).1)).1), .int .i64 ((decF ((encF ((buildF l p3).1) ((buildF l p3).2.1) ((buildF l p3).2.2.1)).1)).2.1), (.slice av16 lv16 cv16)]) hM24 (i := 4) (j := 0) rfl rfl rfl rfl rfl ?_
  refine stg rfl (v := x) (o_mv rfl) ?_
  refine gyesl rfl ?_
  refine m_call (all_ok ((decF ((encF ((buildF l p3).1) ((buildF l p3).2.1) ((buildF l p3).2.2.1)).1)).1) ((decF ((encF ((buildF l p3).1) ((buildF l p3).2.1) ((buildF l p3).2.2.1)).1)).2.1) _ ((decF ((encF ((buildF l p3).1) ((buildF l p3).2.1) ((buildF l p3).2.2.1)).1)).2.2.1) _ l w24 (hs16.rd hM24 (i := 3) rfl) (by omega) (by simp only [inK]; omega) (hx.upd hM24.upd) (by first | exact hk1 | exact hk2 | exact fun k hm => hk1 k (List.mem_of_mem_take (List.mem_of_mem_drop hm)) | exact fun k hm => hk2 k (List.mem_of_mem_take (List.mem_of_mem_drop hm)) | exact fun k hm => hk1 k (List.mem_of_mem_drop (List.mem_reverse.1 hm)) | (intro k hm; cases hm)) (by omega)) rfl fun v26 w26 ⟨hr26, hu26⟩ => ?_
  have hM26 : Mem w [] w26 [rs4, [⟨b5, 24, [.bool ((buildF l p3).1), .int .i64 ((buildF l p3).2.1), (.slice av4 lv4 cv4)]⟩], rs14, rs16, [⟨b17, 24, [.bool ((decF ((encF ((buildF l p3).1) ((buildF l p3).2.1) ((buildF l p3).2.2.1)).1)).1), .int .i64 ((decF ((encF ((buildF l p3).1) ((buildF l p3).2.1) ((buildF l p3).2.2.1)).1)).2.1), (.slice av16 lv16 cv16)]⟩]] := hM24.pure hu26
  subst hr26
  refine stg rfl (v := .bool (!(l.all (hasF ((decF ((encF ((buildF l p3).1) ((buildF l p3).2.1) ((buildF l p3).2.2.1)).1)).1) ((decF ((encF ((buildF l p3).1) ((buildF l p3).2.1) ((buildF l p3).2.2.1)).1)).2.1) ((decF ((encF ((buildF l p3).1) ((buildF l p3).2.1) ((buildF l p3).2.2.1)).1)).2.2.1))))) (o_not rfl rfl) ?_
  refine stp (v := .bool (!(l.all (hasF ((decF ((encF ((buildF l p3).1) ((buildF l p3).2.1) ((buildF l p3).2.2.1)).1)).1) ((decF ((encF ((buildF l p3).1) ((buildF l p3).2.1) ((buildF l p3).2.2.1)).1)).2.1) ((decF ((encF ((buildF l p3).1) ((buildF l p3).2.1) ((buildF l p3).2.2.1)).1)).2.2.1))))) (o_pickF rfl rfl) ?_
  refine h21 _ _ ?_
  clear h21
  refine cnd rfl (fun c27 => absurd c27 (show ¬ (!(l.all (hasF ((decF ((encF ((buildF l p3).1) ((buildF l p3).2.1) ((buildF l p3).2.2.1)).1)).1) ((decF ((encF ((buildF l p3).1) ((buildF l p3).2.1) ((buildF l p3).2.2.1)).1)).2.1) ((decF ((encF ((buildF l p3).1) ((buildF l p3).2.1) ((buildF l p3).2.2.1)).1)).2.2.1)))) = true from (by rw [hde]; dsimp only; rw [hall]; decide))) (fun c27 => ?_)
  refine h20 _ _ ?_
  clear h20
  refine seq fun K28 h28 => ?_
  refine stp (v := y) (o_mv rfl) ?_
  refine stp (v := .int .i64 more) (o_mv rfl) ?_
  refine m_call (bent_ok more (by assumption) w26) rfl fun v29 w29 ⟨p29, hr29, hb29, hu29⟩ => ?_
  have hM29 : Mem w [] w29 [rs4, [⟨b5, 24, [.bool ((buildF l p3).1), .int .i64 ((buildF l p3).2.1), (.slice av4 lv4 cv4)]⟩], rs14, rs16, [⟨b17, 24, [.bool ((decF ((encF ((buildF l p3).1) ((buildF l p3).2.1) ((buildF l p3).2.2.1)).1)).1), .int .i64 ((decF ((encF ((buildF l p3).1) ((buildF l p3).2.1) ((buildF l p3).2.2.1)).1)).2.1), (.slice av16 lv16 cv16)]⟩]] := hM26.pure hu29
  subst hr29
  refine m_call (Build_ok _ lo p29 w29 (hy.upd hM29.upd) (by first | exact hk1 | exact hk2 | exact fun k hm => hk1 k (List.mem_of_mem_take (List.mem_of_mem_drop hm)) | exact fun k hm => hk2 k (List.mem_of_mem_take (List.mem_of_mem_drop hm)) | exact fun k hm => hk1 k (List.mem_of_mem_drop (List.mem_reverse.1 hm)) | (intro k hm; cases hm)) (by first | omega | (simp only [List.length_take, List.length_reverse, List.length_drop, List.length_nil]; omega) | (simp; omega) | simp) (by simp only [inK]; omega)) rfl fun v30 w30 ⟨vd30, rs30, hr30, hs30, hm30⟩ => ?_
  have hM30 : Mem w [] w30 [rs4, [⟨b5, 24, [.bool ((buildF l p3).1), .int .i64 ((buildF l p3).2.1), (.slice av4 lv4 cv4)]⟩], rs14, rs16, [⟨b17, 24, [.bool ((decF ((encF ((buildF l p3).1) ((buildF l p3).2.1) ((buildF l p3).2.2.1)).1)).1), .int .i64 ((decF ((encF ((buildF l p3).1) ((buildF l p3).2.1) ((buildF l p3).2.2.1)).1)).2.1), (.slice av16 lv16 cv16)]⟩], rs30] := hM29.add hm30
  obtain ⟨av30, lv30, cv30, rfl⟩ := hs30.isSlice
  subst hr30
  have hbe30 := build_err lo (p := p29) (by omega)
  have hbl30 := build_len lo (p := p29) (by omega)
  have hbh30 := (build_ones lo (p := p29) (by omega) 0).2
  have hbk30 := build_fk lo (p := p29) (by omega)
  refine stp (v := .tuple [.agg ([.bool ((buildF lo p29).1), .int .i64 ((buildF lo p29).2.1), (.slice av30 lv30 cv30)] : List Value).toArray, .int .i64 ((buildF lo p29).2.2.2)].toArray) (o_mv rfl) ?_
  refine stp (v := .agg ([.bool ((buildF lo p29).1), .int .i64 ((buildF lo p29).2.1), (.slice av30 lv30 cv30)] : List Value).toArray) (o_ext rfl rfl) ?_
  refine stp (v := .int .i64 ((buildF lo p29).2.2.2)) (o_ext rfl rfl) ?_
  refine m_al hM30 fun b31 w32 (hM32 : Mem w [] w32 [rs4, [⟨b5, 24, [.bool ((buildF l p3).1), .int .i64 ((buildF l p3).2.1), (.slice av4 lv4 cv4)]⟩], rs14, rs16, [⟨b17, 24, [.bool ((decF ((encF ((buildF l p3).1) ((buildF l p3).2.1) ((buildF l p3).2.2.1)).1)).1), .int .i64 ((decF ((encF ((buildF l p3).1) ((buildF l p3).2.1) ((buildF l p3).2.2.1)).1)).2.1), (.slice av16 lv16 cv16)]⟩], rs30, [⟨b31, 24, [.bool false, .int .i64 0, .slice none 0 0]⟩]]) => ?_
  refine m_stA (l := [.bool ((buildF lo p29).1), .int .i64 ((buildF lo p29).2.1), (.slice av30 lv30 cv30)]) hM32 (i := 6) rfl rfl rfl rfl (by simp [oneCells, Value.oneCell', byteV]) (by simp) fun w33 (hM33 : Mem w [] w33 [rs4, [⟨b5, 24, [.bool ((buildF l p3).1), .int .i64 ((buildF l p3).2.1), (.slice av4 lv4 cv4)]⟩], rs14, rs16, [⟨b17, 24, [.bool ((decF ((encF ((buildF l p3).1) ((buildF l p3).2.1) ((buildF l p3).2.2.1)).1)).1), .int .i64 ((decF ((encF ((buildF l p3).1) ((buildF l p3).2.1) ((buildF l p3).2.2.1)).1)).2.1), (.slice av16 lv16 cv16)]⟩], rs30, [⟨b31, 24, [.bool ((buildF lo p29).1), .int .i64 ((buildF lo p29).2.1), (.slice av30 lv30 cv30)]⟩]]) => ?_
  refine stp (v := .int .i64 ((buildF lo p29).2.2.2)) (o_mv rfl) ?_
  refine h28 _ _ ?_
  clear h28
  refine seq fun K34 h34 => ?_
  refine seq fun K35 h35 => ?_
  refine stp (v := .int .i64 ((buildF lo p29).2.2.2)) (o_mv rfl) ?_
  refine stp (v := .bool (decide (¬ ((buildF lo p29).2.2.2) = 0))) (o_bin rfl rfl v_neq) ?_
  refine h35 _ _ ?_
  clear h35
  refine cndP rfl (fun c36 => absurd c36 (fun h => h (build_err _ (by omega)))) (fun c36 => ?_)
  refine h34 _ _ ?_
  clear h34
  refine seq fun K37 h37 => ?_
  refine m_ldA (l := [.bool ((buildF l p3).1), .int .i64 ((buildF l p3).2.1), (.slice av4 lv4 cv4)]) hM33 (i := 1) (j := 0) rfl rfl rfl rfl rfl ?_
  refine m_ldA (l := [.bool ((buildF lo p29).1), .int .i64 ((buildF lo p29).2.1), (.slice av30 lv30 cv30)]) hM33 (i := 6) (j := 0) rfl rfl rfl rfl rfl ?_
  refine m_call (Join_ok ((buildF l p3).1) ((buildF lo p29).1) ((buildF l p3).2.1) ((buildF lo p29).2.1) _ _ ((buildF l p3).2.2.1) ((buildF lo p29).2.2.1) w33 (hT.upd hM33.upd) (hs4.rd hM33 (i := 0) rfl) (hs30.rd hM33 (i := 5) rfl) (by first | omega | (simp; done) | (simp; omega)) (by first | omega | (simp; done) | (simp; omega))) rfl fun v38 w38 ⟨vd38, rs38, hr38, hs38, hm38⟩ => ?_
  have hM38 : Mem w [] w38 [rs4, [⟨b5, 24, [.bool ((buildF l p3).1), .int .i64 ((buildF l p3).2.1), (.slice av4 lv4 cv4)]⟩], rs14, rs16, [⟨b17, 24, [.bool ((decF ((encF ((buildF l p3).1) ((buildF l p3).2.1) ((buildF l p3).2.2.1)).1)).1), .int .i64 ((decF ((encF ((buildF l p3).1) ((buildF l p3).2.1) ((buildF l p3).2.2.1)).1)).2.1), (.slice av16 lv16 cv16)]⟩], rs30, [⟨b31, 24, [.bool ((buildF lo p29).1), .int .i64 ((buildF lo p29).2.1), (.slice av30 lv30 cv30)]⟩], rs38] := hM33.add hm38
  obtain ⟨av38, lv38, cv38, rfl⟩ := hs38.isSlice
  subst hr38
  have hjl38 := joinF_len ((buildF l p3).1) ((buildF l p3).2.1) ((buildF l p3).2.2.1) ((buildF lo p29).1) ((buildF lo p29).2.1) ((buildF lo p29).2.2.1)
  refine stp (v := .tuple [.agg ([.bool ((joinF ((buildF l p3).1) ((buildF l p3).2.1) ((buildF l p3).2.2.1) ((buildF lo p29).1) ((buildF lo p29).2.1) ((buildF lo p29).2.2.1)).1), .int .i64 ((joinF ((buildF l p3).1) ((buildF l p3).2.1) ((buildF l p3).2.2.1) ((buildF lo p29).1) ((buildF lo p29).2.1) ((buildF lo p29).2.2.1)).2.1), (.slice av38 lv38 cv38)] : List Value).toArray, .int .i64 ((joinF ((buildF l p3).1) ((buildF l p3).2.1) ((buildF l p3).2.2.1) ((buildF lo p29).1) ((buildF lo p29).2.1) ((buildF lo p29).2.2.1)).2.2.2)].toArray) (o_mv rfl) ?_
  refine stp (v := .agg ([.bool ((joinF ((buildF l p3).1) ((buildF l p3).2.1) ((buildF l p3).2.2.1) ((buildF lo p29).1) ((buildF lo p29).2.1) ((buildF lo p29).2.2.1)).1), .int .i64 ((joinF ((buildF l p3).1) ((buildF l p3).2.1) ((buildF l p3).2.2.1) ((buildF lo p29).1) ((buildF lo p29).2.1) ((buildF lo p29).2.2.1)).2.1), (.slice av38 lv38 cv38)] : List Value).toArray) (o_ext rfl rfl) ?_
  refine stp (v := .int .i64 ((joinF ((buildF l p3).1) ((buildF l p3).2.1) ((buildF l p3).2.2.1) ((buildF lo p29).1) ((buildF lo p29).2.1) ((buildF lo p29).2.2.1)).2.2.2)) (o_ext rfl rfl) ?_
  refine m_al hM38 fun b39 w40 (hM40 : Mem w [] w40 [rs4, [⟨b5, 24, [.bool ((buildF l p3).1), .int .i64 ((buildF l p3).2.1), (.slice av4 lv4 cv4)]⟩], rs14, rs16, [⟨b17, 24, [.bool ((decF ((encF ((buildF l p3).1) ((buildF l p3).2.1) ((buildF l p3).2.2.1)).1)).1), .int .i64 ((decF ((encF ((buildF l p3).1) ((buildF l p3).2.1) ((buildF l p3).2.2.1)).1)).2.1), (.slice av16 lv16 cv16)]⟩], rs30, [⟨b31, 24, [.bool ((buildF lo p29).1), .int .i64 ((buildF lo p29).2.1), (.slice av30 lv30 cv30)]⟩], rs38, [⟨b39, 24, [.bool false, .int .i64 0, .slice none 0 0]⟩]]) => ?_
  refine m_stA (l := [.bool ((joinF ((buildF l p3).1) ((buildF l p3).2.1) ((buildF l p3).2.2.1) ((buildF lo p29).1) ((buildF lo p29).2.1) ((buildF lo p29).2.2.1)).1), .int .i64 ((joinF ((buildF l p3).1) ((buildF l p3).2.1) ((buildF l p3).2.2.1) ((buildF lo p29).1) ((buildF lo p29).2.1) ((buildF lo p29).2.2.1)).2.1), (.slice av38 lv38 cv38)]) hM40 (i := 8) rfl rfl rfl rfl (by simp [oneCells, Value.oneCell', byteV]) (by simp) fun w41 (hM41 : Mem w [] w41 [rs4, [⟨b5, 24, [.bool ((buildF l p3).1), .int .i64 ((buildF l p3).2.1), (.slice av4 lv4 cv4)]⟩], rs14, rs16, [⟨b17, 24, [.bool ((decF ((encF ((buildF l p3).1) ((buildF l p3).2.1) ((buildF l p3).2.2.1)).1)).1), .int .i64 ((decF ((encF ((buildF l p3).1) ((buildF l p3).2.1) ((buildF l p3).2.2.1)).1)).2.1), (.slice av16 lv16 cv16)]⟩], rs30, [⟨b31, 24, [.bool ((buildF lo p29).1), .int .i64 ((buildF lo p29).2.1), (.slice av30 lv30 cv30)]⟩], rs38, [⟨b39, 24, [.bool ((joinF ((buildF l p3).1) ((buildF l p3).2.1) ((buildF l p3).2.2.1) ((buildF lo p29).1) ((buildF lo p29).2.1) ((buildF lo p29).2.2.1)).1), .int .i64 ((joinF ((buildF l p3).1) ((buildF l p3).2.1) ((buildF l p3).2.2.1) ((buildF lo p29).1) ((buildF lo p29).2.1) ((buildF lo p29).2.2.1)).2.1), (.slice av38 lv38 cv38)]⟩]]) => ?_
  refine stp (v := .int .i64 ((joinF ((buildF l p3).1) ((buildF l p3).2.1) ((buildF l p3).2.2.1) ((buildF lo p29).1) ((buildF lo p29).2.1) ((buildF lo p29).2.2.1)).2.2.2)) (o_mv rfl) ?_
  refine h37 _ _ ?_
  clear h37
  refine seq fun K42 h42 => ?_
  refine m_ldA (l := [.bool ((buildF lo p29).1), .int .i64 ((buildF lo p29).2.1), (.slice av30 lv30 cv30)]) hM41 (i := 6) (j := 0) rfl rfl rfl rfl rfl ?_
  refine m_ldA (l := [.bool ((buildF l p3).1), .int .i64 ((buildF l p3).2.1), (.slice av4 lv4 cv4)]) hM41 (i := 1) (j := 0) rfl rfl rfl rfl rfl ?_
  refine m_call (Join_ok ((buildF lo p29).1) ((buildF l p3).1) ((buildF lo p29).2.1) ((buildF l p3).2.1) _ _ ((buildF lo p29).2.2.1) ((buildF l p3).2.2.1) w41 (hT.upd hM41.upd) (hs30.rd hM41 (i := 5) rfl) (hs4.rd hM41 (i := 0) rfl) (by first | omega | (simp; done) | (simp; omega)) (by first | omega | (simp; done) | (simp; omega))) rfl fun v43 w43 ⟨vd43, rs43, hr43, hs43, hm43⟩ => ?_
  have hM43 : Mem w [] w43 [rs4, [⟨b5, 24, [.bool ((buildF l p3).1), .int .i64 ((buildF l p3).2.1), (.slice av4 lv4 cv4)]⟩], rs14, rs16, [⟨b17, 24, [.bool ((decF ((encF ((buildF l p3).1) ((buildF l p3).2.1) ((buildF l p3).2.2.1)).1)).1), .int .i64 ((decF ((encF ((buildF l p3).1) ((buildF l p3).2.1) ((buildF l p3).2.2.1)).1)).2.1), (.slice av16 lv16 cv16)]⟩], rs30, [⟨b31, 24, [.bool ((buildF lo p29).1), .int .i64 ((buildF lo p29).2.1), (.slice av30 lv30 cv30)]⟩], rs38, [⟨b39, 24, [.bool ((joinF ((buildF l p3).1) ((buildF l p3).2.1) ((buildF l p3).2.2.1) ((buildF lo p29).1) ((buildF lo p29).2.1) ((buildF lo p29).2.2.1)).1), .int .i64 ((joinF ((buildF l p3).1) ((buildF l p3).2.1) ((buildF l p3).2.2.1) ((buildF lo p29).1) ((buildF lo p29).2.1) ((buildF lo p29).2.2.1)).2.1), (.slice av38 lv38 cv38)]⟩], rs43] := hM41.add hm43
  obtain ⟨av43, lv43, cv43, rfl⟩ := hs43.isSlice
  subst hr43
  have hjl43 := joinF_len ((buildF lo p29).1) ((buildF lo p29).2.1) ((buildF lo p29).2.2.1) ((buildF l p3).1) ((buildF l p3).2.1) ((buildF l p3).2.2.1)
  refine stp (v := .tuple [.agg ([.bool ((joinF ((buildF lo p29).1) ((buildF lo p29).2.1) ((buildF lo p29).2.2.1) ((buildF l p3).1) ((buildF l p3).2.1) ((buildF l p3).2.2.1)).1), .int .i64 ((joinF ((buildF lo p29).1) ((buildF lo p29).2.1) ((buildF lo p29).2.2.1) ((buildF l p3).1) ((buildF l p3).2.1) ((buildF l p3).2.2.1)).2.1), (.slice av43 lv43 cv43)] : List Value).toArray, .int .i64 ((joinF ((buildF lo p29).1) ((buildF lo p29).2.1) ((buildF lo p29).2.2.1) ((buildF l p3).1) ((buildF l p3).2.1) ((buildF l p3).2.2.1)).2.2.2)].toArray) (o_mv rfl) ?_
  refine stp (v := .agg ([.bool ((joinF ((buildF lo p29).1) ((buildF lo p29).2.1) ((buildF lo p29).2.2.1) ((buildF l p3).1) ((buildF l p3).2.1) ((buildF l p3).2.2.1)).1), .int .i64 ((joinF ((buildF lo p29).1) ((buildF lo p29).2.1) ((buildF lo p29).2.2.1) ((buildF l p3).1) ((buildF l p3).2.1) ((buildF l p3).2.2.1)).2.1), (.slice av43 lv43 cv43)] : List Value).toArray) (o_ext rfl rfl) ?_
  refine stp (v := .int .i64 ((joinF ((buildF lo p29).1) ((buildF lo p29).2.1) ((buildF lo p29).2.2.1) ((buildF l p3).1) ((buildF l p3).2.1) ((buildF l p3).2.2.1)).2.2.2)) (o_ext rfl rfl) ?_
  refine m_al hM43 fun b44 w45 (hM45 : Mem w [] w45 [rs4, [⟨b5, 24, [.bool ((buildF l p3).1), .int .i64 ((buildF l p3).2.1), (.slice av4 lv4 cv4)]⟩], rs14, rs16, [⟨b17, 24, [.bool ((decF ((encF ((buildF l p3).1) ((buildF l p3).2.1) ((buildF l p3).2.2.1)).1)).1), .int .i64 ((decF ((encF ((buildF l p3).1) ((buildF l p3).2.1) ((buildF l p3).2.2.1)).1)).2.1), (.slice av16 lv16 cv16)]⟩], rs30, [⟨b31, 24, [.bool ((buildF lo p29).1), .int .i64 ((buildF lo p29).2.1), (.slice av30 lv30 cv30)]⟩], rs38, [⟨b39, 24, [.bool ((joinF ((buildF l p3).1) ((buildF l p3).2.1) ((buildF l p3).2.2.1) ((buildF lo p29).1) ((buildF lo p29).2.1) ((buildF lo p29).2.2.1)).1), .int .i64 ((joinF ((buildF l p3).1) ((buildF l p3).2.1) ((buildF l p3).2.2.1) ((buildF lo p29).1) ((buildF lo p29).2.1) ((buildF lo p29).2.2.1)).2.1), (.slice av38 lv38 cv38)]⟩], rs43, [⟨b44, 24, [.bool false, .int .i64 0, .slice none 0 0]⟩]]) => ?_
  refine m_stA (l := [.bool ((joinF ((buildF lo p29).1) ((buildF lo p29).2.1) ((buildF lo p29).2.2.1) ((buildF l p3).1) ((buildF l p3).2.1) ((buildF l p3).2.2.1)).1), .int .i64 ((joinF ((buildF lo p29).1) ((buildF lo p29).2.1) ((buildF lo p29).2.2.1) ((buildF l p3).1) ((buildF l p3).2.1) ((buildF l p3).2.2.1)).2.1), (.slice av43 lv43 cv43)]) hM45 (i := 10) rfl rfl rfl rfl (by simp [oneCells, Value.oneCell', byteV]) (by simp) fun w46 (hM46 : Mem w [] w46 [rs4, [⟨b5, 24, [.bool ((buildF l p3).1), .int .i64 ((buildF l p3).2.1), (.slice av4 lv4 cv4)]⟩], rs14, rs16, [⟨b17, 24, [.bool ((decF ((encF ((buildF l p3).1) ((buildF l p3).2.1) ((buildF l p3).2.2.1)).1)).1), .int .i64 ((decF ((encF ((buildF l p3).1) ((buildF l p3).2.1) ((buildF l p3).2.2.1)).1)).2.1), (.slice av16 lv16 cv16)]⟩], rs30, [⟨b31, 24, [.bool ((buildF lo p29).1), .int .i64 ((buildF lo p29).2.1), (.slice av30 lv30 cv30)]⟩], rs38, [⟨b39, 24, [.bool ((joinF ((buildF l p3).1) ((buildF l p3).2.1) ((buildF l p3).2.2.1) ((buildF lo p29).1) ((buildF lo p29).2.1) ((buildF lo p29).2.2.1)).1), .int .i64 ((joinF ((buildF l p3).1) ((buildF l p3).2.1) ((buildF l p3).2.2.1) ((buildF lo p29).1) ((buildF lo p29).2.1) ((buildF lo p29).2.2.1)).2.1), (.slice av38 lv38 cv38)]⟩], rs43, [⟨b44, 24, [.bool ((joinF ((buildF lo p29).1) ((buildF lo p29).2.1) ((buildF lo p29).2.2.1) ((buildF l p3).1) ((buildF l p3).2.1) ((buildF l p3).2.2.1)).1), .int .i64 ((joinF ((buildF lo p29).1) ((buildF lo p29).2.1) ((buildF lo p29).2.2.1) ((buildF l p3).1) ((buildF l p3).2.1) ((buildF l p3).2.2.1)).2.1), (.slice av43 lv43 cv43)]⟩]]) => ?_
  refine stp (v := .int .i64 ((joinF ((buildF lo p29).1) ((buildF lo p29).2.1) ((buildF lo p29).2.2.1) ((buildF l p3).1) ((buildF l p3).2.1) ((buildF l p3).2.2.1)).2.2.2)) (o_mv rfl) ?_
  refine h42 _ _ ?_
  clear h42
  refine seq fun K47 h47 => ?_
  refine seq fun K48 h48 => ?_
  have hjc := join_comm (build_fk l (p := p3) (by omega)) (build_fk lo (p := p29) (by omega))
  have hje := join_err (build_fk l (p := p3) (by omega)) (build_fk lo (p := p29) (by omega))
  have hjs := join_self (build_fk l (p := p3) (by omega))
  refine stp (v := .int .i64 ((joinF ((buildF l p3).1) ((buildF l p3).2.1) ((buildF l p3).2.2.1) ((buildF lo p29).1) ((buildF lo p29).2.1) ((buildF lo p29).2.2.1)).2.2.2)) (o_mv rfl) ?_
  refine stp (v := .int .i64 ((joinF ((buildF lo p29).1) ((buildF lo p29).2.1) ((buildF lo p29).2.2.1) ((buildF l p3).1) ((buildF l p3).2.1) ((buildF l p3).2.2.1)).2.2.2)) (o_mv rfl) ?_
  refine stp (v := .bool (decide (¬ ((joinF ((buildF l p3).1) ((buildF l p3).2.1) ((buildF l p3).2.2.1) ((buildF lo p29).1) ((buildF lo p29).2.1) ((buildF lo p29).2.2.1)).2.2.2) = ((joinF ((buildF lo p29).1) ((buildF lo p29).2.1) ((buildF lo p29).2.2.1) ((buildF l p3).1) ((buildF l p3).2.1) ((buildF l p3).2.2.1)).2.2.2)))) (o_bin rfl rfl v_neq) ?_
  refine stp (v := .bool (decide (¬ ((joinF ((buildF l p3).1) ((buildF l p3).2.1) ((buildF l p3).2.2.1) ((buildF lo p29).1) ((buildF lo p29).2.1) ((buildF lo p29).2.2.1)).2.2.2) = ((joinF ((buildF lo p29).1) ((buildF lo p29).2.1) ((buildF lo p29).2.2.1) ((buildF l p3).1) ((buildF l p3).2.1) ((buildF l p3).2.2.1)).2.2.2)))) (o_mv rfl) ?_
  refine splitP rfl (fun c49 => absurd c49 (fun h => h (by rw [hjc]))) (fun c49 => ?_)
  refine stg rfl (v := .int .i64 ((joinF ((buildF l p3).1) ((buildF l p3).2.1) ((buildF l p3).2.2.1) ((buildF lo p29).1) ((buildF lo p29).2.1) ((buildF lo p29).2.2.1)).2.2.2)) (o_mv rfl) ?_
  refine stg rfl (v := .bool (decide (¬ ((joinF ((buildF l p3).1) ((buildF l p3).2.1) ((buildF l p3).2.2.1) ((buildF lo p29).1) ((buildF lo p29).2.1) ((buildF lo p29).2.2.1)).2.2.2) = 0))) (o_bin rfl rfl v_neq) ?_
  refine stg rfl (v := .bool (decide (¬ ((joinF ((buildF l p3).1) ((buildF l p3).2.1) ((buildF l p3).2.2.1) ((buildF lo p29).1) ((buildF lo p29).2.1) ((buildF lo p29).2.2.1)).2.2.2) = 0))) (o_mv rfl) ?_
  refine splitP rfl (fun c50 => ?_) (fun c50 => ?_)
  ·
    refine stg rfl (v := .int .i64 ((joinF ((buildF l p3).1) ((buildF l p3).2.1) ((buildF l p3).2.2.1) ((buildF lo p29).1) ((buildF lo p29).2.1) ((buildF lo p29).2.2.1)).2.2.2)) (o_mv rfl) ?_
    refine stg rfl (v := .bool (decide (¬ ((joinF ((buildF l p3).1) ((buildF l p3).2.1) ((buildF l p3).2.2.1) ((buildF lo p29).1) ((buildF lo p29).2.1) ((buildF lo p29).2.2.1)).2.2.2) = 3))) (o_bin rfl rfl v_neq) ?_
    refine stg rfl (v := .bool (decide (¬ ((joinF ((buildF l p3).1) ((buildF l p3).2.1) ((buildF l p3).2.2.1) ((buildF lo p29).1) ((buildF lo p29).2.1) ((buildF lo p29).2.2.1)).2.2.2) = 3))) (o_pickT rfl rfl) ?_
    refine stp (v := .bool (decide (¬ ((joinF ((buildF l p3).1) ((buildF l p3).2.1) ((buildF l p3).2.2.1) ((buildF lo p29).1) ((buildF lo p29).2.1) ((buildF lo p29).2.2.1)).2.2.2) = 3))) (o_pickF rfl rfl) ?_
    refine stp (v := .bool (decide (¬ ((joinF ((buildF l p3).1) ((buildF l p3).2.1) ((buildF l p3).2.2.1) ((buildF lo p29).1) ((buildF lo p29).2.1) ((buildF lo p29).2.2.1)).2.2.2) = 3))) (o_mv rfl) ?_
    refine splitP rfl (fun c51 => absurd c51 (by omega)) (fun c51 => ?_)
    refine gyesl rfl ?_
    refine m_ldA (l := [.bool ((joinF ((buildF l p3).1) ((buildF l p3).2.1) ((buildF l p3).2.2.1) ((buildF lo p29).1) ((buildF lo p29).2.1) ((buildF lo p29).2.2.1)).1), .int .i64 ((joinF ((buildF l p3).1) ((buildF l p3).2.1) ((buildF l p3).2.2.1) ((buildF lo p29).1) ((buildF lo p29).2.1) ((buildF lo p29).2.2.1)).2.1), (.slice av38 lv38 cv38)]) hM46 (i := 8) (j := 0) rfl rfl rfl rfl rfl ?_
    refine gyesl rfl ?_
    refine m_ldA (l := [.bool ((joinF ((buildF lo p29).1) ((buildF lo p29).2.1) ((buildF lo p29).2.2.1) ((buildF l p3).1) ((buildF l p3).2.1) ((buildF l p3).2.2.1)).1), .int .i64 ((joinF ((buildF lo p29).1) ((buildF lo p29).2.1) ((buildF lo p29).2.2.1) ((buildF l p3).1) ((buildF l p3).2.1) ((buildF l p3).2.2.1)).2.1), (.slice av43 lv43 cv43)]) hM46 (i := 10) (j := 0) rfl rfl rfl rfl rfl ?_
    refine gyesl rfl ?_
    refine m_call (alike_ok ((joinF ((buildF l p3).1) ((buildF l p3).2.1) ((buildF l p3).2.2.1) ((buildF lo p29).1) ((buildF lo p29).2.1) ((buildF lo p29).2.2.1)).1) ((joinF ((buildF lo p29).1) ((buildF lo p29).2.1) ((buildF lo p29).2.2.1) ((buildF l p3).1) ((buildF l p3).2.1) ((buildF l p3).2.2.1)).1) ((joinF ((buildF l p3).1) ((buildF l p3).2.1) ((buildF l p3).2.2.1) ((buildF lo p29).1) ((buildF lo p29).2.1) ((buildF lo p29).2.2.1)).2.1) ((joinF ((buildF lo p29).1) ((buildF lo p29).2.1) ((buildF lo p29).2.2.1) ((buildF l p3).1) ((buildF l p3).2.1) ((buildF l p3).2.2.1)).2.1) _ _ ((joinF ((buildF l p3).1) ((buildF l p3).2.1) ((buildF l p3).2.2.1) ((buildF lo p29).1) ((buildF lo p29).2.1) ((buildF lo p29).2.2.1)).2.2.1) ((joinF ((buildF lo p29).1) ((buildF lo p29).2.1) ((buildF lo p29).2.2.1) ((buildF l p3).1) ((buildF l p3).2.1) ((buildF l p3).2.2.1)).2.2.1) w46 (hs38.rd hM46 (i := 7) rfl) (hs43.rd hM46 (i := 9) rfl) (by first | omega | (simp; done) | (simp; omega))) rfl fun v52 w52 ⟨hr52, hu52⟩ => ?_
    have hM52 : Mem w [] w52 [rs4, [⟨b5, 24, [.bool ((buildF l p3).1), .int .i64 ((buildF l p3).2.1), (.slice av4 lv4 cv4)]⟩], rs14, rs16, [⟨b17, 24, [.bool ((decF ((encF ((buildF l p3).1) ((buildF l p3).2.1) ((buildF l p3).2.2.1)).1)).1), .int .i64 ((decF ((encF ((buildF l p3).1) ((buildF l p3).2.1) ((buildF l p3).2.2.1)).1)).2.1), (.slice av16 lv16 cv16)]⟩], rs30, [⟨b31, 24, [.bool ((buildF lo p29).1), .int .i64 ((buildF lo p29).2.1), (.slice av30 lv30 cv30)]⟩], rs38, [⟨b39, 24, [.bool ((joinF ((buildF l p3).1) ((buildF l p3).2.1) ((buildF l p3).2.2.1) ((buildF lo p29).1) ((buildF lo p29).2.1) ((buildF lo p29).2.2.1)).1), .int .i64 ((joinF ((buildF l p3).1) ((buildF l p3).2.1) ((buildF l p3).2.2.1) ((buildF lo p29).1) ((buildF lo p29).2.1) ((buildF lo p29).2.2.1)).2.1), (.slice av38 lv38 cv38)]⟩], rs43, [⟨b44, 24, [.bool ((joinF ((buildF lo p29).1) ((buildF lo p29).2.1) ((buildF lo p29).2.2.1) ((buildF l p3).1) ((buildF l p3).2.1) ((buildF l p3).2.2.1)).1), .int .i64 ((joinF ((buildF lo p29).1) ((buildF lo p29).2.1) ((buildF lo p29).2.2.1) ((buildF l p3).1) ((buildF l p3).2.1) ((buildF l p3).2.2.1)).2.1), (.slice av43 lv43 cv43)]⟩]] := hM46.pure hu52
    subst hr52
    refine stg rfl (v := .bool (!(alikeF ((joinF ((buildF l p3).1) ((buildF l p3).2.1) ((buildF l p3).2.2.1) ((buildF lo p29).1) ((buildF lo p29).2.1) ((buildF lo p29).2.2.1)).1) ((joinF ((buildF l p3).1) ((buildF l p3).2.1) ((buildF l p3).2.2.1) ((buildF lo p29).1) ((buildF lo p29).2.1) ((buildF lo p29).2.2.1)).2.1) ((joinF ((buildF l p3).1) ((buildF l p3).2.1) ((buildF l p3).2.2.1) ((buildF lo p29).1) ((buildF lo p29).2.1) ((buildF lo p29).2.2.1)).2.2.1) ((joinF ((buildF lo p29).1) ((buildF lo p29).2.1) ((buildF lo p29).2.2.1) ((buildF l p3).1) ((buildF l p3).2.1) ((buildF l p3).2.2.1)).1) ((joinF ((buildF lo p29).1) ((buildF lo p29).2.1) ((buildF lo p29).2.2.1) ((buildF l p3).1) ((buildF l p3).2.1) ((buildF l p3).2.2.1)).2.1) ((joinF ((buildF lo p29).1) ((buildF lo p29).2.1) ((buildF lo p29).2.2.1) ((buildF l p3).1) ((buildF l p3).2.1) ((buildF l p3).2.2.1)).2.2.1)))) (o_not rfl rfl) ?_
    refine stp (v := .bool (!(alikeF ((joinF ((buildF l p3).1) ((buildF l p3).2.1) ((buildF l p3).2.2.1) ((buildF lo p29).1) ((buildF lo p29).2.1) ((buildF lo p29).2.2.1)).1) ((joinF ((buildF l p3).1) ((buildF l p3).2.1) ((buildF l p3).2.2.1) ((buildF lo p29).1) ((buildF lo p29).2.1) ((buildF lo p29).2.2.1)).2.1) ((joinF ((buildF l p3).1) ((buildF l p3).2.1) ((buildF l p3).2.2.1) ((buildF lo p29).1) ((buildF lo p29).2.1) ((buildF lo p29).2.2.1)).2.2.1) ((joinF ((buildF lo p29).1) ((buildF lo p29).2.1) ((buildF lo p29).2.2.1) ((buildF l p3).1) ((buildF l p3).2.1) ((buildF l p3).2.2.1)).1) ((joinF ((buildF lo p29).1) ((buildF lo p29).2.1) ((buildF lo p29).2.2.1) ((buildF l p3).1) ((buildF l p3).2.1) ((buildF l p3).2.2.1)).2.1) ((joinF ((buildF lo p29).1) ((buildF lo p29).2.1) ((buildF lo p29).2.2.1) ((buildF l p3).1) ((buildF l p3).2.1) ((buildF l p3).2.2.1)).2.2.1)))) (o_pickF rfl rfl) ?_
    refine h48 _ _ ?_
    clear h48
    refine cnd rfl (fun c53 => absurd c53 (show ¬ (!(alikeF ((joinF ((buildF l p3).1) ((buildF l p3).2.1) ((buildF l p3).2.2.1) ((buildF lo p29).1) ((buildF lo p29).2.1) ((buildF lo p29).2.2.1)).1) ((joinF ((buildF l p3).1) ((buildF l p3).2.1) ((buildF l p3).2.2.1) ((buildF lo p29).1) ((buildF lo p29).2.1) ((buildF lo p29).2.2.1)).2.1) ((joinF ((buildF l p3).1) ((buildF l p3).2.1) ((buildF l p3).2.2.1) ((buildF lo p29).1) ((buildF lo p29).2.1) ((buildF lo p29).2.2.1)).2.2.1) ((joinF ((buildF lo p29).1) ((buildF lo p29).2.1) ((buildF lo p29).2.2.1) ((buildF l p3).1) ((buildF l p3).2.1) ((buildF l p3).2.2.1)).1) ((joinF ((buildF lo p29).1) ((buildF lo p29).2.1) ((buildF lo p29).2.2.1) ((buildF l p3).1) ((buildF l p3).2.1) ((buildF l p3).2.2.1)).2.1) ((joinF ((buildF lo p29).1) ((buildF lo p29).2.1) ((buildF lo p29).2.2.1) ((buildF l p3).1) ((buildF l p3).2.1) ((buildF l p3).2.2.1)).2.2.1))) = true from (by rw [hjc, alikeF_self]; decide))) (fun c53 => ?_)
    refine h47 _ _ ?_
    clear h47
    refine seq fun K54 h54 => ?_
    refine seq fun K55 h55 => ?_
    refine stp (v := .int .i64 ((joinF ((buildF l p3).1) ((buildF l p3).2.1) ((buildF l p3).2.2.1) ((buildF lo p29).1) ((buildF lo p29).2.1) ((buildF lo p29).2.2.1)).2.2.2)) (o_mv rfl) ?_
    refine stp (v := .bool (decide (((joinF ((buildF l p3).1) ((buildF l p3).2.1) ((buildF l p3).2.2.1) ((buildF lo p29).1) ((buildF lo p29).2.1) ((buildF lo p29).2.2.1)).2.2.2) = 0))) (o_bin rfl rfl rfl) ?_
    refine stp (v := .bool (decide (((joinF ((buildF l p3).1) ((buildF l p3).2.1) ((buildF l p3).2.2.1) ((buildF lo p29).1) ((buildF lo p29).2.1) ((buildF lo p29).2.2.1)).2.2.2) = 0))) (o_mv rfl) ?_
    refine splitP rfl (fun c56 => ?_) (fun c56 => ?_)
    ·
      have hja : l.all (hasF (joinF (buildF l p3).1 (buildF l p3).2.1 (buildF l p3).2.2.1 (buildF lo p29).1 (buildF lo p29).2.1 (buildF lo p29).2.2.1).1 (joinF (buildF l p3).1 (buildF l p3).2.1 (buildF l p3).2.2.1 (buildF lo p29).1 (buildF lo p29).2.1 (buildF lo p29).2.2.1).2.1 (joinF (buildF l p3).1 (buildF l p3).2.1 (buildF l p3).2.2.1 (buildF lo p29).1 (buildF lo p29).2.1 (buildF lo p29).2.2.1).2.2.1) = true := List.all_eq_true.2 fun k hk => join_has (build_fk l (p := p3) (by omega)) (build_fk lo (p := p29) (by omega)) (by omega) (build_has (by omega) hk)
      have hjb : lo.all (hasF (joinF (buildF l p3).1 (buildF l p3).2.1 (buildF l p3).2.2.1 (buildF lo p29).1 (buildF lo p29).2.1 (buildF lo p29).2.2.1).1 (joinF (buildF l p3).1 (buildF l p3).2.1 (buildF l p3).2.2.1 (buildF lo p29).1 (buildF lo p29).2.1 (buildF lo p29).2.2.1).2.1 (joinF (buildF l p3).1 (buildF l p3).2.1 (buildF l p3).2.2.1 (buildF lo p29).1 (buildF lo p29).2.1 (buildF lo p29).2.2.1).2.2.1) = true := List.all_eq_true.2 fun k hk => by rw [hjc]; exact join_has (build_fk lo (p := p29) (by omega)) (build_fk l (p := p3) (by omega)) (by rw [← hjc]; omega) (build_has (by omega) hk)
      have hjh : 0 ≤ (joinF (buildF l p3).1 (buildF l p3).2.1 (buildF l p3).2.2.1 (buildF lo p29).1 (buildF lo p29).2.1 (buildF lo p29).2.2.1).2.1 ∧ (joinF (buildF l p3).1 (buildF l p3).2.1 (buildF l p3).2.2.1 (buildF lo p29).1 (buildF lo p29).2.1 (buildF lo p29).2.2.1).2.1 ≤ 8 := by unfold joinF; split; (constructor <;> decide); split; (constructor <;> decide); split; (dsimp only; omega); split; (dsimp only; omega); split; (dsimp only; omega); (constructor <;> decide)
      refine gyesl rfl ?_
      refine m_ldA (l := [.bool ((joinF ((buildF l p3).1) ((buildF l p3).2.1) ((buildF l p3).2.2.1) ((buildF lo p29).1) ((buildF lo p29).2.1) ((buildF lo p29).2.2.1)).1), .int .i64 ((joinF ((buildF l p3).1) ((buildF l p3).2.1) ((buildF l p3).2.2.1) ((buildF lo p29).1) ((buildF lo p29).2.1) ((buildF lo p29).2.2.1)).2.1), (.slice av38 lv38 cv38)]) hM52 (i := 8) (j := 0) rfl rfl rfl rfl rfl ?_
      refine stg rfl (v := x) (o_mv rfl) ?_
      refine gyesl rfl ?_
      refine m_call (all_ok ((joinF ((buildF l p3).1) ((buildF l p3).2.1) ((buildF l p3).2.2.1) ((buildF lo p29).1) ((buildF lo p29).2.1) ((buildF lo p29).2.2.1)).1) ((joinF ((buildF l p3).1) ((buildF l p3).2.1) ((buildF l p3).2.2.1) ((buildF lo p29).1) ((buildF lo p29).2.1) ((buildF lo p29).2.2.1)).2.1) _ ((joinF ((buildF l p3).1) ((buildF l p3).2.1) ((buildF l p3).2.2.1) ((buildF lo p29).1) ((buildF lo p29).2.1) ((buildF lo p29).2.2.1)).2.2.1) _ l w52 (hs38.rd hM52 (i := 7) rfl) (by omega) (by simp only [inK]; omega) (hx.upd hM52.upd) (by first | exact hk1 | exact hk2 | exact fun k hm => hk1 k (List.mem_of_mem_take (List.mem_of_mem_drop hm)) | exact fun k hm => hk2 k (List.mem_of_mem_take (List.mem_of_mem_drop hm)) | exact fun k hm => hk1 k (List.mem_of_mem_drop (List.mem_reverse.1 hm)) | (intro k hm; cases hm)) (by omega)) rfl fun v57 w57 ⟨hr57, hu57⟩ => ?_
      have hM57 : Mem w [] w57 [rs4, [⟨b5, 24, [.bool ((buildF l p3).1), .int .i64 ((buildF l p3).2.1), (.slice av4 lv4 cv4)]⟩], rs14, rs16, [⟨b17, 24, [.bool ((decF ((encF ((buildF l p3).1) ((buildF l p3).2.1) ((buildF l p3).2.2.1)).1)).1), .int .i64 ((decF ((encF ((buildF l p3).1) ((buildF l p3).2.1) ((buildF l p3).2.2.1)).1)).2.1), (.slice av16 lv16 cv16)]⟩], rs30, [⟨b31, 24, [.bool ((buildF lo p29).1), .int .i64 ((buildF lo p29).2.1), (.slice av30 lv30 cv30)]⟩], rs38, [⟨b39, 24, [.bool ((joinF ((buildF l p3).1) ((buildF l p3).2.1) ((buildF l p3).2.2.1) ((buildF lo p29).1) ((buildF lo p29).2.1) ((buildF lo p29).2.2.1)).1), .int .i64 ((joinF ((buildF l p3).1) ((buildF l p3).2.1) ((buildF l p3).2.2.1) ((buildF lo p29).1) ((buildF lo p29).2.1) ((buildF lo p29).2.2.1)).2.1), (.slice av38 lv38 cv38)]⟩], rs43, [⟨b44, 24, [.bool ((joinF ((buildF lo p29).1) ((buildF lo p29).2.1) ((buildF lo p29).2.2.1) ((buildF l p3).1) ((buildF l p3).2.1) ((buildF l p3).2.2.1)).1), .int .i64 ((joinF ((buildF lo p29).1) ((buildF lo p29).2.1) ((buildF lo p29).2.2.1) ((buildF l p3).1) ((buildF l p3).2.1) ((buildF l p3).2.2.1)).2.1), (.slice av43 lv43 cv43)]⟩]] := hM52.pure hu57
      subst hr57
      refine stg rfl (v := .bool (!(l.all (hasF ((joinF ((buildF l p3).1) ((buildF l p3).2.1) ((buildF l p3).2.2.1) ((buildF lo p29).1) ((buildF lo p29).2.1) ((buildF lo p29).2.2.1)).1) ((joinF ((buildF l p3).1) ((buildF l p3).2.1) ((buildF l p3).2.2.1) ((buildF lo p29).1) ((buildF lo p29).2.1) ((buildF lo p29).2.2.1)).2.1) ((joinF ((buildF l p3).1) ((buildF l p3).2.1) ((buildF l p3).2.2.1) ((buildF lo p29).1) ((buildF lo p29).2.1) ((buildF lo p29).2.2.1)).2.2.1))))) (o_not rfl rfl) ?_
      refine stg rfl (v := .bool (!(l.all (hasF ((joinF ((buildF l p3).1) ((buildF l p3).2.1) ((buildF l p3).2.2.1) ((buildF lo p29).1) ((buildF lo p29).2.1) ((buildF lo p29).2.2.1)).1) ((joinF ((buildF l p3).1) ((buildF l p3).2.1) ((buildF l p3).2.2.1) ((buildF lo p29).1) ((buildF lo p29).2.1) ((buildF lo p29).2.2.1)).2.1) ((joinF ((buildF l p3).1) ((buildF l p3).2.1) ((buildF l p3).2.2.1) ((buildF lo p29).1) ((buildF lo p29).2.1) ((buildF lo p29).2.2.1)).2.2.1))))) (o_mv rfl) ?_
      refine split rfl (fun c58 => absurd c58 (show ¬ (!(l.all (hasF ((joinF ((buildF l p3).1) ((buildF l p3).2.1) ((buildF l p3).2.2.1) ((buildF lo p29).1) ((buildF lo p29).2.1) ((buildF lo p29).2.2.1)).1) ((joinF ((buildF l p3).1) ((buildF l p3).2.1) ((buildF l p3).2.2.1) ((buildF lo p29).1) ((buildF lo p29).2.1) ((buildF lo p29).2.2.1)).2.1) ((joinF ((buildF l p3).1) ((buildF l p3).2.1) ((buildF l p3).2.2.1) ((buildF lo p29).1) ((buildF lo p29).2.1) ((buildF lo p29).2.2.1)).2.2.1)))) = true from (by rw [hja]; decide))) (fun c58 => ?_)
      refine gyesl rfl ?_
      refine m_ldA (l := [.bool ((joinF ((buildF l p3).1) ((buildF l p3).2.1) ((buildF l p3).2.2.1) ((buildF lo p29).1) ((buildF lo p29).2.1) ((buildF lo p29).2.2.1)).1), .int .i64 ((joinF ((buildF l p3).1) ((buildF l p3).2.1) ((buildF l p3).2.2.1) ((buildF lo p29).1) ((buildF lo p29).2.1) ((buildF lo p29).2.2.1)).2.1), (.slice av38 lv38 cv38)]) hM57 (i := 8) (j := 0) rfl rfl rfl rfl rfl ?_
      refine stg rfl (v := y) (o_mv rfl) ?_
      refine gyesl rfl ?_
      refine m_call (all_ok ((joinF ((buildF l p3).1) ((buildF l p3).2.1) ((buildF l p3).2.2.1) ((buildF lo p29).1) ((buildF lo p29).2.1) ((buildF lo p29).2.2.1)).1) ((joinF ((buildF l p3).1) ((buildF l p3).2.1) ((buildF l p3).2.2.1) ((buildF lo p29).1) ((buildF lo p29).2.1) ((buildF lo p29).2.2.1)).2.1) _ ((joinF ((buildF l p3).1) ((buildF l p3).2.1) ((buildF l p3).2.2.1) ((buildF lo p29).1) ((buildF lo p29).2.1) ((buildF lo p29).2.2.1)).2.2.1) _ lo w57 (hs38.rd hM57 (i := 7) rfl) (by omega) (by simp only [inK]; omega) (hy.upd hM57.upd) (by first | exact hk1 | exact hk2 | exact fun k hm => hk1 k (List.mem_of_mem_take (List.mem_of_mem_drop hm)) | exact fun k hm => hk2 k (List.mem_of_mem_take (List.mem_of_mem_drop hm)) | exact fun k hm => hk1 k (List.mem_of_mem_drop (List.mem_reverse.1 hm)) | (intro k hm; cases hm)) (by omega)) rfl fun v59 w59 ⟨hr59, hu59⟩ => ?_
      have hM59 : Mem w [] w59 [rs4, [⟨b5, 24, [.bool ((buildF l p3).1), .int .i64 ((buildF l p3).2.1), (.slice av4 lv4 cv4)]⟩], rs14, rs16, [⟨b17, 24, [.bool ((decF ((encF ((buildF l p3).1) ((buildF l p3).2.1) ((buildF l p3).2.2.1)).1)).1), .int .i64 ((decF ((encF ((buildF l p3).1) ((buildF l p3).2.1) ((buildF l p3).2.2.1)).1)).2.1), (.slice av16 lv16 cv16)]⟩], rs30, [⟨b31, 24, [.bool ((buildF lo p29).1), .int .i64 ((buildF lo p29).2.1), (.slice av30 lv30 cv30)]⟩], rs38, [⟨b39, 24, [.bool ((joinF ((buildF l p3).1) ((buildF l p3).2.1) ((buildF l p3).2.2.1) ((buildF lo p29).1) ((buildF lo p29).2.1) ((buildF lo p29).2.2.1)).1), .int .i64 ((joinF ((buildF l p3).1) ((buildF l p3).2.1) ((buildF l p3).2.2.1) ((buildF lo p29).1) ((buildF lo p29).2.1) ((buildF lo p29).2.2.1)).2.1), (.slice av38 lv38 cv38)]⟩], rs43, [⟨b44, 24, [.bool ((joinF ((buildF lo p29).1) ((buildF lo p29).2.1) ((buildF lo p29).2.2.1) ((buildF l p3).1) ((buildF l p3).2.1) ((buildF l p3).2.2.1)).1), .int .i64 ((joinF ((buildF lo p29).1) ((buildF lo p29).2.1) ((buildF lo p29).2.2.1) ((buildF l p3).1) ((buildF l p3).2.1) ((buildF l p3).2.2.1)).2.1), (.slice av43 lv43 cv43)]⟩]] := hM57.pure hu59
      subst hr59
      refine stg rfl (v := .bool (!(lo.all (hasF ((joinF ((buildF l p3).1) ((buildF l p3).2.1) ((buildF l p3).2.2.1) ((buildF lo p29).1) ((buildF lo p29).2.1) ((buildF lo p29).2.2.1)).1) ((joinF ((buildF l p3).1) ((buildF l p3).2.1) ((buildF l p3).2.2.1) ((buildF lo p29).1) ((buildF lo p29).2.1) ((buildF lo p29).2.2.1)).2.1) ((joinF ((buildF l p3).1) ((buildF l p3).2.1) ((buildF l p3).2.2.1) ((buildF lo p29).1) ((buildF lo p29).2.1) ((buildF lo p29).2.2.1)).2.2.1))))) (o_not rfl rfl) ?_
      refine stg rfl (v := .bool (!(lo.all (hasF ((joinF ((buildF l p3).1) ((buildF l p3).2.1) ((buildF l p3).2.2.1) ((buildF lo p29).1) ((buildF lo p29).2.1) ((buildF lo p29).2.2.1)).1) ((joinF ((buildF l p3).1) ((buildF l p3).2.1) ((buildF l p3).2.2.1) ((buildF lo p29).1) ((buildF lo p29).2.1) ((buildF lo p29).2.2.1)).2.1) ((joinF ((buildF l p3).1) ((buildF l p3).2.1) ((buildF l p3).2.2.1) ((buildF lo p29).1) ((buildF lo p29).2.1) ((buildF lo p29).2.2.1)).2.2.1))))) (o_pickF rfl rfl) ?_
      refine stp (v := .bool (!(lo.all (hasF ((joinF ((buildF l p3).1) ((buildF l p3).2.1) ((buildF l p3).2.2.1) ((buildF lo p29).1) ((buildF lo p29).2.1) ((buildF lo p29).2.2.1)).1) ((joinF ((buildF l p3).1) ((buildF l p3).2.1) ((buildF l p3).2.2.1) ((buildF lo p29).1) ((buildF lo p29).2.1) ((buildF lo p29).2.2.1)).2.1) ((joinF ((buildF l p3).1) ((buildF l p3).2.1) ((buildF l p3).2.2.1) ((buildF lo p29).1) ((buildF lo p29).2.1) ((buildF lo p29).2.2.1)).2.2.1))))) (o_pickT rfl rfl) ?_
      refine h55 _ _ ?_
      clear h55
      refine cnd rfl (fun c60 => absurd c60 (show ¬ (!(lo.all (hasF ((joinF ((buildF l p3).1) ((buildF l p3).2.1) ((buildF l p3).2.2.1) ((buildF lo p29).1) ((buildF lo p29).2.1) ((buildF lo p29).2.2.1)).1) ((joinF ((buildF l p3).1) ((buildF l p3).2.1) ((buildF l p3).2.2.1) ((buildF lo p29).1) ((buildF lo p29).2.1) ((buildF lo p29).2.2.1)).2.1) ((joinF ((buildF l p3).1) ((buildF l p3).2.1) ((buildF l p3).2.2.1) ((buildF lo p29).1) ((buildF lo p29).2.1) ((buildF lo p29).2.2.1)).2.2.1)))) = true from (by rw [hjb]; decide))) (fun c60 => ?_)
      refine h54 _ _ ?_
      clear h54
      refine seq fun K61 h61 => ?_
      refine m_ldA (l := [.bool ((buildF l p3).1), .int .i64 ((buildF l p3).2.1), (.slice av4 lv4 cv4)]) hM59 (i := 1) (j := 0) rfl rfl rfl rfl rfl ?_
      refine m_ldA (l := [.bool ((buildF l p3).1), .int .i64 ((buildF l p3).2.1), (.slice av4 lv4 cv4)]) hM59 (i := 1) (j := 0) rfl rfl rfl rfl rfl ?_
      refine m_call (Join_ok ((buildF l p3).1) ((buildF l p3).1) ((buildF l p3).2.1) ((buildF l p3).2.1) _ _ ((buildF l p3).2.2.1) ((buildF l p3).2.2.1) w59 (hT.upd hM59.upd) (hs4.rd hM59 (i := 0) rfl) (hs4.rd hM59 (i := 0) rfl) (by first | omega | (simp; done) | (simp; omega)) (by first | omega | (simp; done) | (simp; omega))) rfl fun v62 w62 ⟨vd62, rs62, hr62, hs62, hm62⟩ => ?_
      have hM62 : Mem w [] w62 [rs4, [⟨b5, 24, [.bool ((buildF l p3).1), .int .i64 ((buildF l p3).2.1), (.slice av4 lv4 cv4)]⟩], rs14, rs16, [⟨b17, 24, [.bool ((decF ((encF ((buildF l p3).1) ((buildF l p3).2.1) ((buildF l p3).2.2.1)).1)).1), .int .i64 ((decF ((encF ((buildF l p3).1) ((buildF l p3).2.1) ((buildF l p3).2.2.1)).1)).2.1), (.slice av16 lv16 cv16)]⟩], rs30, [⟨b31, 24, [.bool ((buildF lo p29).1), .int .i64 ((buildF lo p29).2.1), (.slice av30 lv30 cv30)]⟩], rs38, [⟨b39, 24, [.bool ((joinF ((buildF l p3).1) ((buildF l p3).2.1) ((buildF l p3).2.2.1) ((buildF lo p29).1) ((buildF lo p29).2.1) ((buildF lo p29).2.2.1)).1), .int .i64 ((joinF ((buildF l p3).1) ((buildF l p3).2.1) ((buildF l p3).2.2.1) ((buildF lo p29).1) ((buildF lo p29).2.1) ((buildF lo p29).2.2.1)).2.1), (.slice av38 lv38 cv38)]⟩], rs43, [⟨b44, 24, [.bool ((joinF ((buildF lo p29).1) ((buildF lo p29).2.1) ((buildF lo p29).2.2.1) ((buildF l p3).1) ((buildF l p3).2.1) ((buildF l p3).2.2.1)).1), .int .i64 ((joinF ((buildF lo p29).1) ((buildF lo p29).2.1) ((buildF lo p29).2.2.1) ((buildF l p3).1) ((buildF l p3).2.1) ((buildF l p3).2.2.1)).2.1), (.slice av43 lv43 cv43)]⟩], rs62] := hM59.add hm62
      obtain ⟨av62, lv62, cv62, rfl⟩ := hs62.isSlice
      subst hr62
      have hjl62 := joinF_len ((buildF l p3).1) ((buildF l p3).2.1) ((buildF l p3).2.2.1) ((buildF l p3).1) ((buildF l p3).2.1) ((buildF l p3).2.2.1)
      refine stp (v := .tuple [.agg ([.bool ((joinF ((buildF l p3).1) ((buildF l p3).2.1) ((buildF l p3).2.2.1) ((buildF l p3).1) ((buildF l p3).2.1) ((buildF l p3).2.2.1)).1), .int .i64 ((joinF ((buildF l p3).1) ((buildF l p3).2.1) ((buildF l p3).2.2.1) ((buildF l p3).1) ((buildF l p3).2.1) ((buildF l p3).2.2.1)).2.1), (.slice av62 lv62 cv62)] : List Value).toArray, .int .i64 ((joinF ((buildF l p3).1) ((buildF l p3).2.1) ((buildF l p3).2.2.1) ((buildF l p3).1) ((buildF l p3).2.1) ((buildF l p3).2.2.1)).2.2.2)].toArray) (o_mv rfl) ?_
      refine stp (v := .agg ([.bool ((joinF ((buildF l p3).1) ((buildF l p3).2.1) ((buildF l p3).2.2.1) ((buildF l p3).1) ((buildF l p3).2.1) ((buildF l p3).2.2.1)).1), .int .i64 ((joinF ((buildF l p3).1) ((buildF l p3).2.1) ((buildF l p3).2.2.1) ((buildF l p3).1) ((buildF l p3).2.1) ((buildF l p3).2.2.1)).2.1), (.slice av62 lv62 cv62)] : List Value).toArray) (o_ext rfl rfl) ?_
      refine stp (v := .int .i64 ((joinF ((buildF l p3).1) ((buildF l p3).2.1) ((buildF l p3).2.2.1) ((buildF l p3).1) ((buildF l p3).2.1) ((buildF l p3).2.2.1)).2.2.2)) (o_ext rfl rfl) ?_
      refine m_al hM62 fun b63 w64 (hM64 : Mem w [] w64 [rs4, [⟨b5, 24, [.bool ((buildF l p3).1), .int .i64 ((buildF l p3).2.1), (.slice av4 lv4 cv4)]⟩], rs14, rs16, [⟨b17, 24, [.bool ((decF ((encF ((buildF l p3).1) ((buildF l p3).2.1) ((buildF l p3).2.2.1)).1)).1), .int .i64 ((decF ((encF ((buildF l p3).1) ((buildF l p3).2.1) ((buildF l p3).2.2.1)).1)).2.1), (.slice av16 lv16 cv16)]⟩], rs30, [⟨b31, 24, [.bool ((buildF lo p29).1), .int .i64 ((buildF lo p29).2.1), (.slice av30 lv30 cv30)]⟩], rs38, [⟨b39, 24, [.bool ((joinF ((buildF l p3).1) ((buildF l p3).2.1) ((buildF l p3).2.2.1) ((buildF lo p29).1) ((buildF lo p29).2.1) ((buildF lo p29).2.2.1)).1), .int .i64 ((joinF ((buildF l p3).1) ((buildF l p3).2.1) ((buildF l p3).2.2.1) ((buildF lo p29).1) ((buildF lo p29).2.1) ((buildF lo p29).2.2.1)).2.1), (.slice av38 lv38 cv38)]⟩], rs43, [⟨b44, 24, [.bool ((joinF ((buildF lo p29).1) ((buildF lo p29).2.1) ((buildF lo p29).2.2.1) ((buildF l p3).1) ((buildF l p3).2.1) ((buildF l p3).2.2.1)).1), .int .i64 ((joinF ((buildF lo p29).1) ((buildF lo p29).2.1) ((buildF lo p29).2.2.1) ((buildF l p3).1) ((buildF l p3).2.1) ((buildF l p3).2.2.1)).2.1), (.slice av43 lv43 cv43)]⟩], rs62, [⟨b63, 24, [.bool false, .int .i64 0, .slice none 0 0]⟩]]) => ?_
      refine m_stA (l := [.bool ((joinF ((buildF l p3).1) ((buildF l p3).2.1) ((buildF l p3).2.2.1) ((buildF l p3).1) ((buildF l p3).2.1) ((buildF l p3).2.2.1)).1), .int .i64 ((joinF ((buildF l p3).1) ((buildF l p3).2.1) ((buildF l p3).2.2.1) ((buildF l p3).1) ((buildF l p3).2.1) ((buildF l p3).2.2.1)).2.1), (.slice av62 lv62 cv62)]) hM64 (i := 12) rfl rfl rfl rfl (by simp [oneCells, Value.oneCell', byteV]) (by simp) fun w65 (hM65 : Mem w [] w65 [rs4, [⟨b5, 24, [.bool ((buildF l p3).1), .int .i64 ((buildF l p3).2.1), (.slice av4 lv4 cv4)]⟩], rs14, rs16, [⟨b17, 24, [.bool ((decF ((encF ((buildF l p3).1) ((buildF l p3).2.1) ((buildF l p3).2.2.1)).1)).1), .int .i64 ((decF ((encF ((buildF l p3).1) ((buildF l p3).2.1) ((buildF l p3).2.2.1)).1)).2.1), (.slice av16 lv16 cv16)]⟩], rs30, [⟨b31, 24, [.bool ((buildF lo p29).1), .int .i64 ((buildF lo p29).2.1), (.slice av30 lv30 cv30)]⟩], rs38, [⟨b39, 24, [.bool ((joinF ((buildF l p3).1) ((buildF l p3).2.1) ((buildF l p3).2.2.1) ((buildF lo p29).1) ((buildF lo p29).2.1) ((buildF lo p29).2.2.1)).1), .int .i64 ((joinF ((buildF l p3).1) ((buildF l p3).2.1) ((buildF l p3).2.2.1) ((buildF lo p29).1) ((buildF lo p29).2.1) ((buildF lo p29).2.2.1)).2.1), (.slice av38 lv38 cv38)]⟩], rs43, [⟨b44, 24, [.bool ((joinF ((buildF lo p29).1) ((buildF lo p29).2.1) ((buildF lo p29).2.2.1) ((buildF l p3).1) ((buildF l p3).2.1) ((buildF l p3).2.2.1)).1), .int .i64 ((joinF ((buildF lo p29).1) ((buildF lo p29).2.1) ((buildF lo p29).2.2.1) ((buildF l p3).1) ((buildF l p3).2.1) ((buildF l p3).2.2.1)).2.1), (.slice av43 lv43 cv43)]⟩], rs62, [⟨b63, 24, [.bool ((joinF ((buildF l p3).1) ((buildF l p3).2.1) ((buildF l p3).2.2.1) ((buildF l p3).1) ((buildF l p3).2.1) ((buildF l p3).2.2.1)).1), .int .i64 ((joinF ((buildF l p3).1) ((buildF l p3).2.1) ((buildF l p3).2.2.1) ((buildF l p3).1) ((buildF l p3).2.1) ((buildF l p3).2.2.1)).2.1), (.slice av62 lv62 cv62)]⟩]]) => ?_
      refine stp (v := .int .i64 ((joinF ((buildF l p3).1) ((buildF l p3).2.1) ((buildF l p3).2.2.1) ((buildF l p3).1) ((buildF l p3).2.1) ((buildF l p3).2.2.1)).2.2.2)) (o_mv rfl) ?_
      refine h61 _ _ ?_
      clear h61
      refine seq fun K66 h66 => ?_
      refine stp (v := .int .i64 ((joinF ((buildF l p3).1) ((buildF l p3).2.1) ((buildF l p3).2.2.1) ((buildF l p3).1) ((buildF l p3).2.1) ((buildF l p3).2.2.1)).2.2.2)) (o_mv rfl) ?_
      refine stp (v := .bool (decide (((joinF ((buildF l p3).1) ((buildF l p3).2.1) ((buildF l p3).2.2.1) ((buildF l p3).1) ((buildF l p3).2.1) ((buildF l p3).2.2.1)).2.2.2) = 0))) (o_bin rfl rfl rfl) ?_
      refine stp (v := .bool (decide (((joinF ((buildF l p3).1) ((buildF l p3).2.1) ((buildF l p3).2.2.1) ((buildF l p3).1) ((buildF l p3).2.1) ((buildF l p3).2.2.1)).2.2.2) = 0))) (o_mv rfl) ?_
      refine splitP rfl (fun c67 => ?_) (fun c67 => (c67 (by rw [hjs])).elim)
      refine gyesl rfl ?_
      refine m_ldA (l := [.bool ((joinF ((buildF l p3).1) ((buildF l p3).2.1) ((buildF l p3).2.2.1) ((buildF l p3).1) ((buildF l p3).2.1) ((buildF l p3).2.2.1)).1), .int .i64 ((joinF ((buildF l p3).1) ((buildF l p3).2.1) ((buildF l p3).2.2.1) ((buildF l p3).1) ((buildF l p3).2.1) ((buildF l p3).2.2.1)).2.1), (.slice av62 lv62 cv62)]) hM65 (i := 12) (j := 0) rfl rfl rfl rfl rfl ?_
      refine gyesl rfl ?_
      refine m_ldA (l := [.bool ((buildF l p3).1), .int .i64 ((buildF l p3).2.1), (.slice av4 lv4 cv4)]) hM65 (i := 1) (j := 0) rfl rfl rfl rfl rfl ?_
      refine gyesl rfl ?_
      refine m_call (alike_ok ((joinF ((buildF l p3).1) ((buildF l p3).2.1) ((buildF l p3).2.2.1) ((buildF l p3).1) ((buildF l p3).2.1) ((buildF l p3).2.2.1)).1) ((buildF l p3).1) ((joinF ((buildF l p3).1) ((buildF l p3).2.1) ((buildF l p3).2.2.1) ((buildF l p3).1) ((buildF l p3).2.1) ((buildF l p3).2.2.1)).2.1) ((buildF l p3).2.1) _ _ ((joinF ((buildF l p3).1) ((buildF l p3).2.1) ((buildF l p3).2.2.1) ((buildF l p3).1) ((buildF l p3).2.1) ((buildF l p3).2.2.1)).2.2.1) ((buildF l p3).2.2.1) w65 (hs62.rd hM65 (i := 11) rfl) (hs4.rd hM65 (i := 0) rfl) (by first | omega | (simp; done) | (simp; omega))) rfl fun v68 w68 ⟨hr68, hu68⟩ => ?_
      have hM68 : Mem w [] w68 [rs4, [⟨b5, 24, [.bool ((buildF l p3).1), .int .i64 ((buildF l p3).2.1), (.slice av4 lv4 cv4)]⟩], rs14, rs16, [⟨b17, 24, [.bool ((decF ((encF ((buildF l p3).1) ((buildF l p3).2.1) ((buildF l p3).2.2.1)).1)).1), .int .i64 ((decF ((encF ((buildF l p3).1) ((buildF l p3).2.1) ((buildF l p3).2.2.1)).1)).2.1), (.slice av16 lv16 cv16)]⟩], rs30, [⟨b31, 24, [.bool ((buildF lo p29).1), .int .i64 ((buildF lo p29).2.1), (.slice av30 lv30 cv30)]⟩], rs38, [⟨b39, 24, [.bool ((joinF ((buildF l p3).1) ((buildF l p3).2.1) ((buildF l p3).2.2.1) ((buildF lo p29).1) ((buildF lo p29).2.1) ((buildF lo p29).2.2.1)).1), .int .i64 ((joinF ((buildF l p3).1) ((buildF l p3).2.1) ((buildF l p3).2.2.1) ((buildF lo p29).1) ((buildF lo p29).2.1) ((buildF lo p29).2.2.1)).2.1), (.slice av38 lv38 cv38)]⟩], rs43, [⟨b44, 24, [.bool ((joinF ((buildF lo p29).1) ((buildF lo p29).2.1) ((buildF lo p29).2.2.1) ((buildF l p3).1) ((buildF l p3).2.1) ((buildF l p3).2.2.1)).1), .int .i64 ((joinF ((buildF lo p29).1) ((buildF lo p29).2.1) ((buildF lo p29).2.2.1) ((buildF l p3).1) ((buildF l p3).2.1) ((buildF l p3).2.2.1)).2.1), (.slice av43 lv43 cv43)]⟩], rs62, [⟨b63, 24, [.bool ((joinF ((buildF l p3).1) ((buildF l p3).2.1) ((buildF l p3).2.2.1) ((buildF l p3).1) ((buildF l p3).2.1) ((buildF l p3).2.2.1)).1), .int .i64 ((joinF ((buildF l p3).1) ((buildF l p3).2.1) ((buildF l p3).2.2.1) ((buildF l p3).1) ((buildF l p3).2.1) ((buildF l p3).2.2.1)).2.1), (.slice av62 lv62 cv62)]⟩]] := hM65.pure hu68
      subst hr68
      refine stp (v := .bool (alikeF ((joinF ((buildF l p3).1) ((buildF l p3).2.1) ((buildF l p3).2.2.1) ((buildF l p3).1) ((buildF l p3).2.1) ((buildF l p3).2.2.1)).1) ((joinF ((buildF l p3).1) ((buildF l p3).2.1) ((buildF l p3).2.2.1) ((buildF l p3).1) ((buildF l p3).2.1) ((buildF l p3).2.2.1)).2.1) ((joinF ((buildF l p3).1) ((buildF l p3).2.1) ((buildF l p3).2.2.1) ((buildF l p3).1) ((buildF l p3).2.1) ((buildF l p3).2.2.1)).2.2.1) ((buildF l p3).1) ((buildF l p3).2.1) ((buildF l p3).2.2.1))) (o_pickT rfl rfl) ?_
      refine stp (v := .bool (alikeF ((joinF ((buildF l p3).1) ((buildF l p3).2.1) ((buildF l p3).2.2.1) ((buildF l p3).1) ((buildF l p3).2.1) ((buildF l p3).2.2.1)).1) ((joinF ((buildF l p3).1) ((buildF l p3).2.1) ((buildF l p3).2.2.1) ((buildF l p3).1) ((buildF l p3).2.1) ((buildF l p3).2.2.1)).2.1) ((joinF ((buildF l p3).1) ((buildF l p3).2.1) ((buildF l p3).2.2.1) ((buildF l p3).1) ((buildF l p3).2.1) ((buildF l p3).2.2.1)).2.2.1) ((buildF l p3).1) ((buildF l p3).2.1) ((buildF l p3).2.2.1))) (o_mv rfl) ?_
      refine split rfl (fun c69 => ?_) (fun c69 => absurd ((show (alikeF ((joinF ((buildF l p3).1) ((buildF l p3).2.1) ((buildF l p3).2.2.1) ((buildF l p3).1) ((buildF l p3).2.1) ((buildF l p3).2.2.1)).1) ((joinF ((buildF l p3).1) ((buildF l p3).2.1) ((buildF l p3).2.2.1) ((buildF l p3).1) ((buildF l p3).2.1) ((buildF l p3).2.2.1)).2.1) ((joinF ((buildF l p3).1) ((buildF l p3).2.1) ((buildF l p3).2.2.1) ((buildF l p3).1) ((buildF l p3).2.1) ((buildF l p3).2.2.1)).2.2.1) ((buildF l p3).1) ((buildF l p3).2.1) ((buildF l p3).2.2.1)) = true from (by rw [hjs, alikeF_self])).symm.trans c69) (by decide))
      refine gyesl rfl ?_
      refine m_call (works_ok w68) rfl fun v70 w70 ⟨hr70, hu70⟩ => ?_
      have hM70 : Mem w [] w70 [rs4, [⟨b5, 24, [.bool ((buildF l p3).1), .int .i64 ((buildF l p3).2.1), (.slice av4 lv4 cv4)]⟩], rs14, rs16, [⟨b17, 24, [.bool ((decF ((encF ((buildF l p3).1) ((buildF l p3).2.1) ((buildF l p3).2.2.1)).1)).1), .int .i64 ((decF ((encF ((buildF l p3).1) ((buildF l p3).2.1) ((buildF l p3).2.2.1)).1)).2.1), (.slice av16 lv16 cv16)]⟩], rs30, [⟨b31, 24, [.bool ((buildF lo p29).1), .int .i64 ((buildF lo p29).2.1), (.slice av30 lv30 cv30)]⟩], rs38, [⟨b39, 24, [.bool ((joinF ((buildF l p3).1) ((buildF l p3).2.1) ((buildF l p3).2.2.1) ((buildF lo p29).1) ((buildF lo p29).2.1) ((buildF lo p29).2.2.1)).1), .int .i64 ((joinF ((buildF l p3).1) ((buildF l p3).2.1) ((buildF l p3).2.2.1) ((buildF lo p29).1) ((buildF lo p29).2.1) ((buildF lo p29).2.2.1)).2.1), (.slice av38 lv38 cv38)]⟩], rs43, [⟨b44, 24, [.bool ((joinF ((buildF lo p29).1) ((buildF lo p29).2.1) ((buildF lo p29).2.2.1) ((buildF l p3).1) ((buildF l p3).2.1) ((buildF l p3).2.2.1)).1), .int .i64 ((joinF ((buildF lo p29).1) ((buildF lo p29).2.1) ((buildF lo p29).2.2.1) ((buildF l p3).1) ((buildF l p3).2.1) ((buildF l p3).2.2.1)).2.1), (.slice av43 lv43 cv43)]⟩], rs62, [⟨b63, 24, [.bool ((joinF ((buildF l p3).1) ((buildF l p3).2.1) ((buildF l p3).2.2.1) ((buildF l p3).1) ((buildF l p3).2.1) ((buildF l p3).2.2.1)).1), .int .i64 ((joinF ((buildF l p3).1) ((buildF l p3).2.1) ((buildF l p3).2.2.1) ((buildF l p3).1) ((buildF l p3).2.1) ((buildF l p3).2.2.1)).2.1), (.slice av62 lv62 cv62)]⟩]] := hM68.pure hu70
      subst hr70
      refine stp (v := .bool true) (o_pickT rfl rfl) ?_
      refine stp (v := .bool true) (o_mv rfl) ?_
      refine h66 _ _ ?_
      clear h66
      refine ⟨(.bool true), rfl, ?_⟩
      exact ⟨rfl, hM70.upd⟩
    ·
      refine gnol rfl (by simp) ?_
      refine gno rfl (by simp) ?_
      refine gnol rfl (by simp) ?_
      refine gno rfl (by simp) ?_
      refine gno rfl (by simp) ?_
      refine splitU rfl ?_
      refine gnolu rfl ?_
      refine gnou rfl ?_
      refine gnolu rfl ?_
      refine gnou rfl ?_
      refine gno rfl (by simp) ?_
      refine stp (v := .bool false) (o_pickF rfl rfl) ?_
      refine h55 _ _ ?_
      clear h55
      refine cndF rfl ?_
      refine h54 _ _ ?_
      clear h54
      refine seq fun K71 h71 => ?_
      refine m_ldA (l := [.bool ((buildF l p3).1), .int .i64 ((buildF l p3).2.1), (.slice av4 lv4 cv4)]) hM52 (i := 1) (j := 0) rfl rfl rfl rfl rfl ?_
      refine m_ldA (l := [.bool ((buildF l p3).1), .int .i64 ((buildF l p3).2.1), (.slice av4 lv4 cv4)]) hM52 (i := 1) (j := 0) rfl rfl rfl rfl rfl ?_
      refine m_call (Join_ok ((buildF l p3).1) ((buildF l p3).1) ((buildF l p3).2.1) ((buildF l p3).2.1) _ _ ((buildF l p3).2.2.1) ((buildF l p3).2.2.1) w52 (hT.upd hM52.upd) (hs4.rd hM52 (i := 0) rfl) (hs4.rd hM52 (i := 0) rfl) (by first | omega | (simp; done) | (simp; omega)) (by first | omega | (simp; done) | (simp; omega))) rfl fun v72 w72 ⟨vd72, rs72, hr72, hs72, hm72⟩ => ?_
      have hM72 : Mem w [] w72 [rs4, [⟨b5, 24, [.bool ((buildF l p3).1), .int .i64 ((buildF l p3).2.1), (.slice av4 lv4 cv4)]⟩], rs14, rs16, [⟨b17, 24, [.bool ((decF ((encF ((buildF l p3).1) ((buildF l p3).2.1) ((buildF l p3).2.2.1)).1)).1), .int .i64 ((decF ((encF ((buildF l p3).1) ((buildF l p3).2.1) ((buildF l p3).2.2.1)).1)).2.1), (.slice av16 lv16 cv16)]⟩], rs30, [⟨b31, 24, [.bool ((buildF lo p29).1), .int .i64 ((buildF lo p29).2.1), (.slice av30 lv30 cv30)]⟩], rs38, [⟨b39, 24, [.bool ((joinF ((buildF l p3).1) ((buildF l p3).2.1) ((buildF l p3).2.2.1) ((buildF lo p29).1) ((buildF lo p29).2.1) ((buildF lo p29).2.2.1)).1), .int .i64 ((joinF ((buildF l p3).1) ((buildF l p3).2.1) ((buildF l p3).2.2.1) ((buildF lo p29).1) ((buildF lo p29).2.1) ((buildF lo p29).2.2.1)).2.1), (.slice av38 lv38 cv38)]⟩], rs43, [⟨b44, 24, [.bool ((joinF ((buildF lo p29).1) ((buildF lo p29).2.1) ((buildF lo p29).2.2.1) ((buildF l p3).1) ((buildF l p3).2.1) ((buildF l p3).2.2.1)).1), .int .i64 ((joinF ((buildF lo p29).1) ((buildF lo p29).2.1) ((buildF lo p29).2.2.1) ((buildF l p3).1) ((buildF l p3).2.1) ((buildF l p3).2.2.1)).2.1), (.slice av43 lv43 cv43)]⟩], rs72] := hM52.add hm72
      obtain ⟨av72, lv72, cv72, rfl⟩ := hs72.isSlice
      subst hr72
      have hjl72 := joinF_len ((buildF l p3).1) ((buildF l p3).2.1) ((buildF l p3).2.2.1) ((buildF l p3).1) ((buildF l p3).2.1) ((buildF l p3).2.2.1)
      refine stp (v := .tuple [.agg ([.bool ((joinF ((buildF l p3).1) ((buildF l p3).2.1) ((buildF l p3).2.2.1) ((buildF l p3).1) ((buildF l p3).2.1) ((buildF l p3).2.2.1)).1), .int .i64 ((joinF ((buildF l p3).1) ((buildF l p3).2.1) ((buildF l p3).2.2.1) ((buildF l p3).1) ((buildF l p3).2.1) ((buildF l p3).2.2.1)).2.1), (.slice av72 lv72 cv72)] : List Value).toArray, .int .i64 ((joinF ((buildF l p3).1) ((buildF l p3).2.1) ((buildF l p3).2.2.1) ((buildF l p3).1) ((buildF l p3).2.1) ((buildF l p3).2.2.1)).2.2.2)].toArray) (o_mv rfl) ?_
      refine stp (v := .agg ([.bool ((joinF ((buildF l p3).1) ((buildF l p3).2.1) ((buildF l p3).2.2.1) ((buildF l p3).1) ((buildF l p3).2.1) ((buildF l p3).2.2.1)).1), .int .i64 ((joinF ((buildF l p3).1) ((buildF l p3).2.1) ((buildF l p3).2.2.1) ((buildF l p3).1) ((buildF l p3).2.1) ((buildF l p3).2.2.1)).2.1), (.slice av72 lv72 cv72)] : List Value).toArray) (o_ext rfl rfl) ?_
      refine stp (v := .int .i64 ((joinF ((buildF l p3).1) ((buildF l p3).2.1) ((buildF l p3).2.2.1) ((buildF l p3).1) ((buildF l p3).2.1) ((buildF l p3).2.2.1)).2.2.2)) (o_ext rfl rfl) ?_
      refine m_al hM72 fun b73 w74 (hM74 : Mem w [] w74 [rs4, [⟨b5, 24, [.bool ((buildF l p3).1), .int .i64 ((buildF l p3).2.1), (.slice av4 lv4 cv4)]⟩], rs14, rs16, [⟨b17, 24, [.bool ((decF ((encF ((buildF l p3).1) ((buildF l p3).2.1) ((buildF l p3).2.2.1)).1)).1), .int .i64 ((decF ((encF ((buildF l p3).1) ((buildF l p3).2.1) ((buildF l p3).2.2.1)).1)).2.1), (.slice av16 lv16 cv16)]⟩], rs30, [⟨b31, 24, [.bool ((buildF lo p29).1), .int .i64 ((buildF lo p29).2.1), (.slice av30 lv30 cv30)]⟩], rs38, [⟨b39, 24, [.bool ((joinF ((buildF l p3).1) ((buildF l p3).2.1) ((buildF l p3).2.2.1) ((buildF lo p29).1) ((buildF lo p29).2.1) ((buildF lo p29).2.2.1)).1), .int .i64 ((joinF ((buildF l p3).1) ((buildF l p3).2.1) ((buildF l p3).2.2.1) ((buildF lo p29).1) ((buildF lo p29).2.1) ((buildF lo p29).2.2.1)).2.1), (.slice av38 lv38 cv38)]⟩], rs43, [⟨b44, 24, [.bool ((joinF ((buildF lo p29).1) ((buildF lo p29).2.1) ((buildF lo p29).2.2.1) ((buildF l p3).1) ((buildF l p3).2.1) ((buildF l p3).2.2.1)).1), .int .i64 ((joinF ((buildF lo p29).1) ((buildF lo p29).2.1) ((buildF lo p29).2.2.1) ((buildF l p3).1) ((buildF l p3).2.1) ((buildF l p3).2.2.1)).2.1), (.slice av43 lv43 cv43)]⟩], rs72, [⟨b73, 24, [.bool false, .int .i64 0, .slice none 0 0]⟩]]) => ?_
      refine m_stA (l := [.bool ((joinF ((buildF l p3).1) ((buildF l p3).2.1) ((buildF l p3).2.2.1) ((buildF l p3).1) ((buildF l p3).2.1) ((buildF l p3).2.2.1)).1), .int .i64 ((joinF ((buildF l p3).1) ((buildF l p3).2.1) ((buildF l p3).2.2.1) ((buildF l p3).1) ((buildF l p3).2.1) ((buildF l p3).2.2.1)).2.1), (.slice av72 lv72 cv72)]) hM74 (i := 12) rfl rfl rfl rfl (by simp [oneCells, Value.oneCell', byteV]) (by simp) fun w75 (hM75 : Mem w [] w75 [rs4, [⟨b5, 24, [.bool ((buildF l p3).1), .int .i64 ((buildF l p3).2.1), (.slice av4 lv4 cv4)]⟩], rs14, rs16, [⟨b17, 24, [.bool ((decF ((encF ((buildF l p3).1) ((buildF l p3).2.1) ((buildF l p3).2.2.1)).1)).1), .int .i64 ((decF ((encF ((buildF l p3).1) ((buildF l p3).2.1) ((buildF l p3).2.2.1)).1)).2.1), (.slice av16 lv16 cv16)]⟩], rs30, [⟨b31, 24, [.bool ((buildF lo p29).1), .int .i64 ((buildF lo p29).2.1), (.slice av30 lv30 cv30)]⟩], rs38, [⟨b39, 24, [.bool ((joinF ((buildF l p3).1) ((buildF l p3).2.1) ((buildF l p3).2.2.1) ((buildF lo p29).1) ((buildF lo p29).2.1) ((buildF lo p29).2.2.1)).1), .int .i64 ((joinF ((buildF l p3).1) ((buildF l p3).2.1) ((buildF l p3).2.2.1) ((buildF lo p29).1) ((buildF lo p29).2.1) ((buildF lo p29).2.2.1)).2.1), (.slice av38 lv38 cv38)]⟩], rs43, [⟨b44, 24, [.bool ((joinF ((buildF lo p29).1) ((buildF lo p29).2.1) ((buildF lo p29).2.2.1) ((buildF l p3).1) ((buildF l p3).2.1) ((buildF l p3).2.2.1)).1), .int .i64 ((joinF ((buildF lo p29).1) ((buildF lo p29).2.1) ((buildF lo p29).2.2.1) ((buildF l p3).1) ((buildF l p3).2.1) ((buildF l p3).2.2.1)).2.1), (.slice av43 lv43 cv43)]⟩], rs72, [⟨b73, 24, [.bool ((joinF ((buildF l p3).1) ((buildF l p3).2.1) ((buildF l p3).2.2.1) ((buildF l p3).1) ((buildF l p3).2.1) ((buildF l p3).2.2.1)).1), .int .i64 ((joinF ((buildF l p3).1) ((buildF l p3).2.1) ((buildF l p3).2.2.1) ((buildF l p3).1) ((buildF l p3).2.1) ((buildF l p3).2.2.1)).2.1), (.slice av72 lv72 cv72)]⟩]]) => ?_
      refine stp (v := .int .i64 ((joinF ((buildF l p3).1) ((buildF l p3).2.1) ((buildF l p3).2.2.1) ((buildF l p3).1) ((buildF l p3).2.1) ((buildF l p3).2.2.1)).2.2.2)) (o_mv rfl) ?_
      refine h71 _ _ ?_
      clear h71
      refine seq fun K76 h76 => ?_
      refine stp (v := .int .i64 ((joinF ((buildF l p3).1) ((buildF l p3).2.1) ((buildF l p3).2.2.1) ((buildF l p3).1) ((buildF l p3).2.1) ((buildF l p3).2.2.1)).2.2.2)) (o_mv rfl) ?_
      refine stp (v := .bool (decide (((joinF ((buildF l p3).1) ((buildF l p3).2.1) ((buildF l p3).2.2.1) ((buildF l p3).1) ((buildF l p3).2.1) ((buildF l p3).2.2.1)).2.2.2) = 0))) (o_bin rfl rfl rfl) ?_
      refine stp (v := .bool (decide (((joinF ((buildF l p3).1) ((buildF l p3).2.1) ((buildF l p3).2.2.1) ((buildF l p3).1) ((buildF l p3).2.1) ((buildF l p3).2.2.1)).2.2.2) = 0))) (o_mv rfl) ?_
      refine splitP rfl (fun c77 => ?_) (fun c77 => (c77 (by rw [hjs])).elim)
      refine gyesl rfl ?_
      refine m_ldA (l := [.bool ((joinF ((buildF l p3).1) ((buildF l p3).2.1) ((buildF l p3).2.2.1) ((buildF l p3).1) ((buildF l p3).2.1) ((buildF l p3).2.2.1)).1), .int .i64 ((joinF ((buildF l p3).1) ((buildF l p3).2.1) ((buildF l p3).2.2.1) ((buildF l p3).1) ((buildF l p3).2.1) ((buildF l p3).2.2.1)).2.1), (.slice av72 lv72 cv72)]) hM75 (i := 12) (j := 0) rfl rfl rfl rfl rfl ?_
      refine gyesl rfl ?_
      refine m_ldA (l := [.bool ((buildF l p3).1), .int .i64 ((buildF l p3).2.1), (.slice av4 lv4 cv4)]) hM75 (i := 1) (j := 0) rfl rfl rfl rfl rfl ?_
      refine gyesl rfl ?_
      refine m_call (alike_ok ((joinF ((buildF l p3).1) ((buildF l p3).2.1) ((buildF l p3).2.2.1) ((buildF l p3).1) ((buildF l p3).2.1) ((buildF l p3).2.2.1)).1) ((buildF l p3).1) ((joinF ((buildF l p3).1) ((buildF l p3).2.1) ((buildF l p3).2.2.1) ((buildF l p3).1) ((buildF l p3).2.1) ((buildF l p3).2.2.1)).2.1) ((buildF l p3).2.1) _ _ ((joinF ((buildF l p3).1) ((buildF l p3).2.1) ((buildF l p3).2.2.1) ((buildF l p3).1) ((buildF l p3).2.1) ((buildF l p3).2.2.1)).2.2.1) ((buildF l p3).2.2.1) w75 (hs72.rd hM75 (i := 11) rfl) (hs4.rd hM75 (i := 0) rfl) (by first | omega | (simp; done) | (simp; omega))) rfl fun v78 w78 ⟨hr78, hu78⟩ => ?_
      have hM78 : Mem w [] w78 [rs4, [⟨b5, 24, [.bool ((buildF l p3).1), .int .i64 ((buildF l p3).2.1), (.slice av4 lv4 cv4)]⟩], rs14, rs16, [⟨b17, 24, [.bool ((decF ((encF ((buildF l p3).1) ((buildF l p3).2.1) ((buildF l p3).2.2.1)).1)).1), .int .i64 ((decF ((encF ((buildF l p3).1) ((buildF l p3).2.1) ((buildF l p3).2.2.1)).1)).2.1), (.slice av16 lv16 cv16)]⟩], rs30, [⟨b31, 24, [.bool ((buildF lo p29).1), .int .i64 ((buildF lo p29).2.1), (.slice av30 lv30 cv30)]⟩], rs38, [⟨b39, 24, [.bool ((joinF ((buildF l p3).1) ((buildF l p3).2.1) ((buildF l p3).2.2.1) ((buildF lo p29).1) ((buildF lo p29).2.1) ((buildF lo p29).2.2.1)).1), .int .i64 ((joinF ((buildF l p3).1) ((buildF l p3).2.1) ((buildF l p3).2.2.1) ((buildF lo p29).1) ((buildF lo p29).2.1) ((buildF lo p29).2.2.1)).2.1), (.slice av38 lv38 cv38)]⟩], rs43, [⟨b44, 24, [.bool ((joinF ((buildF lo p29).1) ((buildF lo p29).2.1) ((buildF lo p29).2.2.1) ((buildF l p3).1) ((buildF l p3).2.1) ((buildF l p3).2.2.1)).1), .int .i64 ((joinF ((buildF lo p29).1) ((buildF lo p29).2.1) ((buildF lo p29).2.2.1) ((buildF l p3).1) ((buildF l p3).2.1) ((buildF l p3).2.2.1)).2.1), (.slice av43 lv43 cv43)]⟩], rs72, [⟨b73, 24, [.bool ((joinF ((buildF l p3).1) ((buildF l p3).2.1) ((buildF l p3).2.2.1) ((buildF l p3).1) ((buildF l p3).2.1) ((buildF l p3).2.2.1)).1), .int .i64 ((joinF ((buildF l p3).1) ((buildF l p3).2.1) ((buildF l p3).2.2.1) ((buildF l p3).1) ((buildF l p3).2.1) ((buildF l p3).2.2.1)).2.1), (.slice av72 lv72 cv72)]⟩]] := hM75.pure hu78
      subst hr78
      refine stp (v := .bool (alikeF ((joinF ((buildF l p3).1) ((buildF l p3).2.1) ((buildF l p3).2.2.1) ((buildF l p3).1) ((buildF l p3).2.1) ((buildF l p3).2.2.1)).1) ((joinF ((buildF l p3).1) ((buildF l p3).2.1) ((buildF l p3).2.2.1) ((buildF l p3).1) ((buildF l p3).2.1) ((buildF l p3).2.2.1)).2.1) ((joinF ((buildF l p3).1) ((buildF l p3).2.1) ((buildF l p3).2.2.1) ((buildF l p3).1) ((buildF l p3).2.1) ((buildF l p3).2.2.1)).2.2.1) ((buildF l p3).1) ((buildF l p3).2.1) ((buildF l p3).2.2.1))) (o_pickT rfl rfl) ?_
      refine stp (v := .bool (alikeF ((joinF ((buildF l p3).1) ((buildF l p3).2.1) ((buildF l p3).2.2.1) ((buildF l p3).1) ((buildF l p3).2.1) ((buildF l p3).2.2.1)).1) ((joinF ((buildF l p3).1) ((buildF l p3).2.1) ((buildF l p3).2.2.1) ((buildF l p3).1) ((buildF l p3).2.1) ((buildF l p3).2.2.1)).2.1) ((joinF ((buildF l p3).1) ((buildF l p3).2.1) ((buildF l p3).2.2.1) ((buildF l p3).1) ((buildF l p3).2.1) ((buildF l p3).2.2.1)).2.2.1) ((buildF l p3).1) ((buildF l p3).2.1) ((buildF l p3).2.2.1))) (o_mv rfl) ?_
      refine split rfl (fun c79 => ?_) (fun c79 => absurd ((show (alikeF ((joinF ((buildF l p3).1) ((buildF l p3).2.1) ((buildF l p3).2.2.1) ((buildF l p3).1) ((buildF l p3).2.1) ((buildF l p3).2.2.1)).1) ((joinF ((buildF l p3).1) ((buildF l p3).2.1) ((buildF l p3).2.2.1) ((buildF l p3).1) ((buildF l p3).2.1) ((buildF l p3).2.2.1)).2.1) ((joinF ((buildF l p3).1) ((buildF l p3).2.1) ((buildF l p3).2.2.1) ((buildF l p3).1) ((buildF l p3).2.1) ((buildF l p3).2.2.1)).2.2.1) ((buildF l p3).1) ((buildF l p3).2.1) ((buildF l p3).2.2.1)) = true from (by rw [hjs, alikeF_self])).symm.trans c79) (by decide))
      refine gyesl rfl ?_
      refine m_call (works_ok w78) rfl fun v80 w80 ⟨hr80, hu80⟩ => ?_
      have hM80 : Mem w [] w80 [rs4, [⟨b5, 24, [.bool ((buildF l p3).1), .int .i64 ((buildF l p3).2.1), (.slice av4 lv4 cv4)]⟩], rs14, rs16, [⟨b17, 24, [.bool ((decF ((encF ((buildF l p3).1) ((buildF l p3).2.1) ((buildF l p3).2.2.1)).1)).1), .int .i64 ((decF ((encF ((buildF l p3).1) ((buildF l p3).2.1) ((buildF l p3).2.2.1)).1)).2.1), (.slice av16 lv16 cv16)]⟩], rs30, [⟨b31, 24, [.bool ((buildF lo p29).1), .int .i64 ((buildF lo p29).2.1), (.slice av30 lv30 cv30)]⟩], rs38, [⟨b39, 24, [.bool ((joinF ((buildF l p3).1) ((buildF l p3).2.1) ((buildF l p3).2.2.1) ((buildF lo p29).1) ((buildF lo p29).2.1) ((buildF lo p29).2.2.1)).1), .int .i64 ((joinF ((buildF l p3).1) ((buildF l p3).2.1) ((buildF l p3).2.2.1) ((buildF lo p29).1) ((buildF lo p29).2.1) ((buildF lo p29).2.2.1)).2.1), (.slice av38 lv38 cv38)]⟩], rs43, [⟨b44, 24, [.bool ((joinF ((buildF lo p29).1) ((buildF lo p29).2.1) ((buildF lo p29).2.2.1) ((buildF l p3).1) ((buildF l p3).2.1) ((buildF l p3).2.2.1)).1), .int .i64 ((joinF ((buildF lo p29).1) ((buildF lo p29).2.1) ((buildF lo p29).2.2.1) ((buildF l p3).1) ((buildF l p3).2.1) ((buildF l p3).2.2.1)).2.1), (.slice av43 lv43 cv43)]⟩], rs72, [⟨b73, 24, [.bool ((joinF ((buildF l p3).1) ((buildF l p3).2.1) ((buildF l p3).2.2.1) ((buildF l p3).1) ((buildF l p3).2.1) ((buildF l p3).2.2.1)).1), .int .i64 ((joinF ((buildF l p3).1) ((buildF l p3).2.1) ((buildF l p3).2.2.1) ((buildF l p3).1) ((buildF l p3).2.1) ((buildF l p3).2.2.1)).2.1), (.slice av72 lv72 cv72)]⟩]] := hM78.pure hu80
      subst hr80
      refine stp (v := .bool true) (o_pickT rfl rfl) ?_
      refine stp (v := .bool true) (o_mv rfl) ?_
      refine h76 _ _ ?_
      clear h76
      refine ⟨(.bool true), rfl, ?_⟩
      exact ⟨rfl, hM80.upd⟩
  ·
    refine gno rfl (by simp) ?_
    refine gno rfl (by simp) ?_
    refine stg rfl (v := .bool false) (o_pickF rfl rfl) ?_
    refine stp (v := .bool false) (o_pickF rfl rfl) ?_
    refine stp (v := .bool false) (o_mv rfl) ?_
    refine splitF rfl ?_
    refine gyesl rfl ?_
    refine m_ldA (l := [.bool ((joinF ((buildF l p3).1) ((buildF l p3).2.1) ((buildF l p3).2.2.1) ((buildF lo p29).1) ((buildF lo p29).2.1) ((buildF lo p29).2.2.1)).1), .int .i64 ((joinF ((buildF l p3).1) ((buildF l p3).2.1) ((buildF l p3).2.2.1) ((buildF lo p29).1) ((buildF lo p29).2.1) ((buildF lo p29).2.2.1)).2.1), (.slice av38 lv38 cv38)]) hM46 (i := 8) (j := 0) rfl rfl rfl rfl rfl ?_
    refine gyesl rfl ?_
    refine m_ldA (l := [.bool ((joinF ((buildF lo p29).1) ((buildF lo p29).2.1) ((buildF lo p29).2.2.1) ((buildF l p3).1) ((buildF l p3).2.1) ((buildF l p3).2.2.1)).1), .int .i64 ((joinF ((buildF lo p29).1) ((buildF lo p29).2.1) ((buildF lo p29).2.2.1) ((buildF l p3).1) ((buildF l p3).2.1) ((buildF l p3).2.2.1)).2.1), (.slice av43 lv43 cv43)]) hM46 (i := 10) (j := 0) rfl rfl rfl rfl rfl ?_
    refine gyesl rfl ?_
    refine m_call (alike_ok ((joinF ((buildF l p3).1) ((buildF l p3).2.1) ((buildF l p3).2.2.1) ((buildF lo p29).1) ((buildF lo p29).2.1) ((buildF lo p29).2.2.1)).1) ((joinF ((buildF lo p29).1) ((buildF lo p29).2.1) ((buildF lo p29).2.2.1) ((buildF l p3).1) ((buildF l p3).2.1) ((buildF l p3).2.2.1)).1) ((joinF ((buildF l p3).1) ((buildF l p3).2.1) ((buildF l p3).2.2.1) ((buildF lo p29).1) ((buildF lo p29).2.1) ((buildF lo p29).2.2.1)).2.1) ((joinF ((buildF lo p29).1) ((buildF lo p29).2.1) ((buildF lo p29).2.2.1) ((buildF l p3).1) ((buildF l p3).2.1) ((buildF l p3).2.2.1)).2.1) _ _ ((joinF ((buildF l p3).1) ((buildF l p3).2.1) ((buildF l p3).2.2.1) ((buildF lo p29).1) ((buildF lo p29).2.1) ((buildF lo p29).2.2.1)).2.2.1) ((joinF ((buildF lo p29).1) ((buildF lo p29).2.1) ((buildF lo p29).2.2.1) ((buildF l p3).1) ((buildF l p3).2.1) ((buildF l p3).2.2.1)).2.2.1) w46 (hs38.rd hM46 (i := 7) rfl) (hs43.rd hM46 (i := 9) rfl) (by first | omega | (simp; done) | (simp; omega))) rfl fun v81 w81 ⟨hr81, hu81⟩ => ?_
    have hM81 : Mem w [] w81 [rs4, [⟨b5, 24, [.bool ((buildF l p3).1), .int .i64 ((buildF l p3).2.1), (.slice av4 lv4 cv4)]⟩], rs14, rs16, [⟨b17, 24, [.bool ((decF ((encF ((buildF l p3).1) ((buildF l p3).2.1) ((buildF l p3).2.2.1)).1)).1), .int .i64 ((decF ((encF ((buildF l p3).1) ((buildF l p3).2.1) ((buildF l p3).2.2.1)).1)).2.1), (.slice av16 lv16 cv16)]⟩], rs30, [⟨b31, 24, [.bool ((buildF lo p29).1), .int .i64 ((buildF lo p29).2.1), (.slice av30 lv30 cv30)]⟩], rs38, [⟨b39, 24, [.bool ((joinF ((buildF l p3).1) ((buildF l p3).2.1) ((buildF l p3).2.2.1) ((buildF lo p29).1) ((buildF lo p29).2.1) ((buildF lo p29).2.2.1)).1), .int .i64 ((joinF ((buildF l p3).1) ((buildF l p3).2.1) ((buildF l p3).2.2.1) ((buildF lo p29).1) ((buildF lo p29).2.1) ((buildF lo p29).2.2.1)).2.1), (.slice av38 lv38 cv38)]⟩], rs43, [⟨b44, 24, [.bool ((joinF ((buildF lo p29).1) ((buildF lo p29).2.1) ((buildF lo p29).2.2.1) ((buildF l p3).1) ((buildF l p3).2.1) ((buildF l p3).2.2.1)).1), .int .i64 ((joinF ((buildF lo p29).1) ((buildF lo p29).2.1) ((buildF lo p29).2.2.1) ((buildF l p3).1) ((buildF l p3).2.1) ((buildF l p3).2.2.1)).2.1), (.slice av43 lv43 cv43)]⟩]] := hM46.pure hu81
    subst hr81
    refine stg rfl (v := .bool (!(alikeF ((joinF ((buildF l p3).1) ((buildF l p3).2.1) ((buildF l p3).2.2.1) ((buildF lo p29).1) ((buildF lo p29).2.1) ((buildF lo p29).2.2.1)).1) ((joinF ((buildF l p3).1) ((buildF l p3).2.1) ((buildF l p3).2.2.1) ((buildF lo p29).1) ((buildF lo p29).2.1) ((buildF lo p29).2.2.1)).2.1) ((joinF ((buildF l p3).1) ((buildF l p3).2.1) ((buildF l p3).2.2.1) ((buildF lo p29).1) ((buildF lo p29).2.1) ((buildF lo p29).2.2.1)).2.2.1) ((joinF ((buildF lo p29).1) ((buildF lo p29).2.1) ((buildF lo p29).2.2.1) ((buildF l p3).1) ((buildF l p3).2.1) ((buildF l p3).2.2.1)).1) ((joinF ((buildF lo p29).1) ((buildF lo p29).2.1) ((buildF lo p29).2.2.1) ((buildF l p3).1) ((buildF l p3).2.1) ((buildF l p3).2.2.1)).2.1) ((joinF ((buildF lo p29).1) ((buildF lo p29).2.1) ((buildF lo p29).2.2.1) ((buildF l p3).1) ((buildF l p3).2.1) ((buildF l p3).2.2.1)).2.2.1)))) (o_not rfl rfl) ?_
    refine stp (v := .bool (!(alikeF ((joinF ((buildF l p3).1) ((buildF l p3).2.1) ((buildF l p3).2.2.1) ((buildF lo p29).1) ((buildF lo p29).2.1) ((buildF lo p29).2.2.1)).1) ((joinF ((buildF l p3).1) ((buildF l p3).2.1) ((buildF l p3).2.2.1) ((buildF lo p29).1) ((buildF lo p29).2.1) ((buildF lo p29).2.2.1)).2.1) ((joinF ((buildF l p3).1) ((buildF l p3).2.1) ((buildF l p3).2.2.1) ((buildF lo p29).1) ((buildF lo p29).2.1) ((buildF lo p29).2.2.1)).2.2.1) ((joinF ((buildF lo p29).1) ((buildF lo p29).2.1) ((buildF lo p29).2.2.1) ((buildF l p3).1) ((buildF l p3).2.1) ((buildF l p3).2.2.1)).1) ((joinF ((buildF lo p29).1) ((buildF lo p29).2.1) ((buildF lo p29).2.2.1) ((buildF l p3).1) ((buildF l p3).2.1) ((buildF l p3).2.2.1)).2.1) ((joinF ((buildF lo p29).1) ((buildF lo p29).2.1) ((buildF lo p29).2.2.1) ((buildF l p3).1) ((buildF l p3).2.1) ((buildF l p3).2.2.1)).2.2.1)))) (o_pickF rfl rfl) ?_
    refine h48 _ _ ?_
    clear h48
    refine cnd rfl (fun c82 => absurd c82 (show ¬ (!(alikeF ((joinF ((buildF l p3).1) ((buildF l p3).2.1) ((buildF l p3).2.2.1) ((buildF lo p29).1) ((buildF lo p29).2.1) ((buildF lo p29).2.2.1)).1) ((joinF ((buildF l p3).1) ((buildF l p3).2.1) ((buildF l p3).2.2.1) ((buildF lo p29).1) ((buildF lo p29).2.1) ((buildF lo p29).2.2.1)).2.1) ((joinF ((buildF l p3).1) ((buildF l p3).2.1) ((buildF l p3).2.2.1) ((buildF lo p29).1) ((buildF lo p29).2.1) ((buildF lo p29).2.2.1)).2.2.1) ((joinF ((buildF lo p29).1) ((buildF lo p29).2.1) ((buildF lo p29).2.2.1) ((buildF l p3).1) ((buildF l p3).2.1) ((buildF l p3).2.2.1)).1) ((joinF ((buildF lo p29).1) ((buildF lo p29).2.1) ((buildF lo p29).2.2.1) ((buildF l p3).1) ((buildF l p3).2.1) ((buildF l p3).2.2.1)).2.1) ((joinF ((buildF lo p29).1) ((buildF lo p29).2.1) ((buildF lo p29).2.2.1) ((buildF l p3).1) ((buildF l p3).2.1) ((buildF l p3).2.2.1)).2.2.1))) = true from (by rw [hjc, alikeF_self]; decide))) (fun c82 => ?_)
    refine h47 _ _ ?_
    clear h47
    refine seq fun K83 h83 => ?_
    refine seq fun K84 h84 => ?_
    refine stp (v := .int .i64 ((joinF ((buildF l p3).1) ((buildF l p3).2.1) ((buildF l p3).2.2.1) ((buildF lo p29).1) ((buildF lo p29).2.1) ((buildF lo p29).2.2.1)).2.2.2)) (o_mv rfl) ?_
    refine stp (v := .bool (decide (((joinF ((buildF l p3).1) ((buildF l p3).2.1) ((buildF l p3).2.2.1) ((buildF lo p29).1) ((buildF lo p29).2.1) ((buildF lo p29).2.2.1)).2.2.2) = 0))) (o_bin rfl rfl rfl) ?_
    refine stp (v := .bool (decide (((joinF ((buildF l p3).1) ((buildF l p3).2.1) ((buildF l p3).2.2.1) ((buildF lo p29).1) ((buildF lo p29).2.1) ((buildF lo p29).2.2.1)).2.2.2) = 0))) (o_mv rfl) ?_
    refine splitP rfl (fun c85 => ?_) (fun c85 => ?_)
    ·
      have hja : l.all (hasF (joinF (buildF l p3).1 (buildF l p3).2.1 (buildF l p3).2.2.1 (buildF lo p29).1 (buildF lo p29).2.1 (buildF lo p29).2.2.1).1 (joinF (buildF l p3).1 (buildF l p3).2.1 (buildF l p3).2.2.1 (buildF lo p29).1 (buildF lo p29).2.1 (buildF lo p29).2.2.1).2.1 (joinF (buildF l p3).1 (buildF l p3).2.1 (buildF l p3).2.2.1 (buildF lo p29).1 (buildF lo p29).2.1 (buildF lo p29).2.2.1).2.2.1) = true := List.all_eq_true.2 fun k hk => join_has (build_fk l (p := p3) (by omega)) (build_fk lo (p := p29) (by omega)) (by omega) (build_has (by omega) hk)
      have hjb : lo.all (hasF (joinF (buildF l p3).1 (buildF l p3).2.1 (buildF l p3).2.2.1 (buildF lo p29).1 (buildF lo p29).2.1 (buildF lo p29).2.2.1).1 (joinF (buildF l p3).1 (buildF l p3).2.1 (buildF l p3).2.2.1 (buildF lo p29).1 (buildF lo p29).2.1 (buildF lo p29).2.2.1).2.1 (joinF (buildF l p3).1 (buildF l p3).2.1 (buildF l p3).2.2.1 (buildF lo p29).1 (buildF lo p29).2.1 (buildF lo p29).2.2.1).2.2.1) = true := List.all_eq_true.2 fun k hk => by rw [hjc]; exact join_has (build_fk lo (p := p29) (by omega)) (build_fk l (p := p3) (by omega)) (by rw [← hjc]; omega) (build_has (by omega) hk)
      have hjh : 0 ≤ (joinF (buildF l p3).1 (buildF l p3).2.1 (buildF l p3).2.2.1 (buildF lo p29).1 (buildF lo p29).2.1 (buildF lo p29).2.2.1).2.1 ∧ (joinF (buildF l p3).1 (buildF l p3).2.1 (buildF l p3).2.2.1 (buildF lo p29).1 (buildF lo p29).2.1 (buildF lo p29).2.2.1).2.1 ≤ 8 := by unfold joinF; split; (constructor <;> decide); split; (constructor <;> decide); split; (dsimp only; omega); split; (dsimp only; omega); split; (dsimp only; omega); (constructor <;> decide)
      refine gyesl rfl ?_
      refine m_ldA (l := [.bool ((joinF ((buildF l p3).1) ((buildF l p3).2.1) ((buildF l p3).2.2.1) ((buildF lo p29).1) ((buildF lo p29).2.1) ((buildF lo p29).2.2.1)).1), .int .i64 ((joinF ((buildF l p3).1) ((buildF l p3).2.1) ((buildF l p3).2.2.1) ((buildF lo p29).1) ((buildF lo p29).2.1) ((buildF lo p29).2.2.1)).2.1), (.slice av38 lv38 cv38)]) hM81 (i := 8) (j := 0) rfl rfl rfl rfl rfl ?_
      refine stg rfl (v := x) (o_mv rfl) ?_
      refine gyesl rfl ?_
      refine m_call (all_ok ((joinF ((buildF l p3).1) ((buildF l p3).2.1) ((buildF l p3).2.2.1) ((buildF lo p29).1) ((buildF lo p29).2.1) ((buildF lo p29).2.2.1)).1) ((joinF ((buildF l p3).1) ((buildF l p3).2.1) ((buildF l p3).2.2.1) ((buildF lo p29).1) ((buildF lo p29).2.1) ((buildF lo p29).2.2.1)).2.1) _ ((joinF ((buildF l p3).1) ((buildF l p3).2.1) ((buildF l p3).2.2.1) ((buildF lo p29).1) ((buildF lo p29).2.1) ((buildF lo p29).2.2.1)).2.2.1) _ l w81 (hs38.rd hM81 (i := 7) rfl) (by omega) (by simp only [inK]; omega) (hx.upd hM81.upd) (by first | exact hk1 | exact hk2 | exact fun k hm => hk1 k (List.mem_of_mem_take (List.mem_of_mem_drop hm)) | exact fun k hm => hk2 k (List.mem_of_mem_take (List.mem_of_mem_drop hm)) | exact fun k hm => hk1 k (List.mem_of_mem_drop (List.mem_reverse.1 hm)) | (intro k hm; cases hm)) (by omega)) rfl fun v86 w86 ⟨hr86, hu86⟩ => ?_
      have hM86 : Mem w [] w86 [rs4, [⟨b5, 24, [.bool ((buildF l p3).1), .int .i64 ((buildF l p3).2.1), (.slice av4 lv4 cv4)]⟩], rs14, rs16, [⟨b17, 24, [.bool ((decF ((encF ((buildF l p3).1) ((buildF l p3).2.1) ((buildF l p3).2.2.1)).1)).1), .int .i64 ((decF ((encF ((buildF l p3).1) ((buildF l p3).2.1) ((buildF l p3).2.2.1)).1)).2.1), (.slice av16 lv16 cv16)]⟩], rs30, [⟨b31, 24, [.bool ((buildF lo p29).1), .int .i64 ((buildF lo p29).2.1), (.slice av30 lv30 cv30)]⟩], rs38, [⟨b39, 24, [.bool ((joinF ((buildF l p3).1) ((buildF l p3).2.1) ((buildF l p3).2.2.1) ((buildF lo p29).1) ((buildF lo p29).2.1) ((buildF lo p29).2.2.1)).1), .int .i64 ((joinF ((buildF l p3).1) ((buildF l p3).2.1) ((buildF l p3).2.2.1) ((buildF lo p29).1) ((buildF lo p29).2.1) ((buildF lo p29).2.2.1)).2.1), (.slice av38 lv38 cv38)]⟩], rs43, [⟨b44, 24, [.bool ((joinF ((buildF lo p29).1) ((buildF lo p29).2.1) ((buildF lo p29).2.2.1) ((buildF l p3).1) ((buildF l p3).2.1) ((buildF l p3).2.2.1)).1), .int .i64 ((joinF ((buildF lo p29).1) ((buildF lo p29).2.1) ((buildF lo p29).2.2.1) ((buildF l p3).1) ((buildF l p3).2.1) ((buildF l p3).2.2.1)).2.1), (.slice av43 lv43 cv43)]⟩]] := hM81.pure hu86
      subst hr86
      refine stg rfl (v := .bool (!(l.all (hasF ((joinF ((buildF l p3).1) ((buildF l p3).2.1) ((buildF l p3).2.2.1) ((buildF lo p29).1) ((buildF lo p29).2.1) ((buildF lo p29).2.2.1)).1) ((joinF ((buildF l p3).1) ((buildF l p3).2.1) ((buildF l p3).2.2.1) ((buildF lo p29).1) ((buildF lo p29).2.1) ((buildF lo p29).2.2.1)).2.1) ((joinF ((buildF l p3).1) ((buildF l p3).2.1) ((buildF l p3).2.2.1) ((buildF lo p29).1) ((buildF lo p29).2.1) ((buildF lo p29).2.2.1)).2.2.1))))) (o_not rfl rfl) ?_
      refine stg rfl (v := .bool (!(l.all (hasF ((joinF ((buildF l p3).1) ((buildF l p3).2.1) ((buildF l p3).2.2.1) ((buildF lo p29).1) ((buildF lo p29).2.1) ((buildF lo p29).2.2.1)).1) ((joinF ((buildF l p3).1) ((buildF l p3).2.1) ((buildF l p3).2.2.1) ((buildF lo p29).1) ((buildF lo p29).2.1) ((buildF lo p29).2.2.1)).2.1) ((joinF ((buildF l p3).1) ((buildF l p3).2.1) ((buildF l p3).2.2.1) ((buildF lo p29).1) ((buildF lo p29).2.1) ((buildF lo p29).2.2.1)).2.2.1))))) (o_mv rfl) ?_
      refine split rfl (fun c87 => absurd c87 (show ¬ (!(l.all (hasF ((joinF ((buildF l p3).1) ((buildF l p3).2.1) ((buildF l p3).2.2.1) ((buildF lo p29).1) ((buildF lo p29).2.1) ((buildF lo p29).2.2.1)).1) ((joinF ((buildF l p3).1) ((buildF l p3).2.1) ((buildF l p3).2.2.1) ((buildF lo p29).1) ((buildF lo p29).2.1) ((buildF lo p29).2.2.1)).2.1) ((joinF ((buildF l p3).1) ((buildF l p3).2.1) ((buildF l p3).2.2.1) ((buildF lo p29).1) ((buildF lo p29).2.1) ((buildF lo p29).2.2.1)).2.2.1)))) = true from (by rw [hja]; decide))) (fun c87 => ?_)
      refine gyesl rfl ?_
      refine m_ldA (l := [.bool ((joinF ((buildF l p3).1) ((buildF l p3).2.1) ((buildF l p3).2.2.1) ((buildF lo p29).1) ((buildF lo p29).2.1) ((buildF lo p29).2.2.1)).1), .int .i64 ((joinF ((buildF l p3).1) ((buildF l p3).2.1) ((buildF l p3).2.2.1) ((buildF lo p29).1) ((buildF lo p29).2.1) ((buildF lo p29).2.2.1)).2.1), (.slice av38 lv38 cv38)]) hM86 (i := 8) (j := 0) rfl rfl rfl rfl rfl ?_
      refine stg rfl (v := y) (o_mv rfl) ?_
      refine gyesl rfl ?_
      refine m_call (all_ok ((joinF ((buildF l p3).1) ((buildF l p3).2.1) ((buildF l p3).2.2.1) ((buildF lo p29).1) ((buildF lo p29).2.1) ((buildF lo p29).2.2.1)).1) ((joinF ((buildF l p3).1) ((buildF l p3).2.1) ((buildF l p3).2.2.1) ((buildF lo p29).1) ((buildF lo p29).2.1) ((buildF lo p29).2.2.1)).2.1) _ ((joinF ((buildF l p3).1) ((buildF l p3).2.1) ((buildF l p3).2.2.1) ((buildF lo p29).1) ((buildF lo p29).2.1) ((buildF lo p29).2.2.1)).2.2.1) _ lo w86 (hs38.rd hM86 (i := 7) rfl) (by omega) (by simp only [inK]; omega) (hy.upd hM86.upd) (by first | exact hk1 | exact hk2 | exact fun k hm => hk1 k (List.mem_of_mem_take (List.mem_of_mem_drop hm)) | exact fun k hm => hk2 k (List.mem_of_mem_take (List.mem_of_mem_drop hm)) | exact fun k hm => hk1 k (List.mem_of_mem_drop (List.mem_reverse.1 hm)) | (intro k hm; cases hm)) (by omega)) rfl fun v88 w88 ⟨hr88, hu88⟩ => ?_
      have hM88 : Mem w [] w88 [rs4, [⟨b5, 24, [.bool ((buildF l p3).1), .int .i64 ((buildF l p3).2.1), (.slice av4 lv4 cv4)]⟩], rs14, rs16, [⟨b17, 24, [.bool ((decF ((encF ((buildF l p3).1) ((buildF l p3).2.1) ((buildF l p3).2.2.1)).1)).1), .int .i64 ((decF ((encF ((buildF l p3).1) ((buildF l p3).2.1) ((buildF l p3).2.2.1)).1)).2.1), (.slice av16 lv16 cv16)]⟩], rs30, [⟨b31, 24, [.bool ((buildF lo p29).1), .int .i64 ((buildF lo p29).2.1), (.slice av30 lv30 cv30)]⟩], rs38, [⟨b39, 24, [.bool ((joinF ((buildF l p3).1) ((buildF l p3).2.1) ((buildF l p3).2.2.1) ((buildF lo p29).1) ((buildF lo p29).2.1) ((buildF lo p29).2.2.1)).1), .int .i64 ((joinF ((buildF l p3).1) ((buildF l p3).2.1) ((buildF l p3).2.2.1) ((buildF lo p29).1) ((buildF lo p29).2.1) ((buildF lo p29).2.2.1)).2.1), (.slice av38 lv38 cv38)]⟩], rs43, [⟨b44, 24, [.bool ((joinF ((buildF lo p29).1) ((buildF lo p29).2.1) ((buildF lo p29).2.2.1) ((buildF l p3).1) ((buildF l p3).2.1) ((buildF l p3).2.2.1)).1), .int .i64 ((joinF ((buildF lo p29).1) ((buildF lo p29).2.1) ((buildF lo p29).2.2.1) ((buildF l p3).1) ((buildF l p3).2.1) ((buildF l p3).2.2.1)).2.1), (.slice av43 lv43 cv43)]⟩]] := hM86.pure hu88
      subst hr88
      refine stg rfl (v := .bool (!(lo.all (hasF ((joinF ((buildF l p3).1) ((buildF l p3).2.1) ((buildF l p3).2.2.1) ((buildF lo p29).1) ((buildF lo p29).2.1) ((buildF lo p29).2.2.1)).1) ((joinF ((buildF l p3).1) ((buildF l p3).2.1) ((buildF l p3).2.2.1) ((buildF lo p29).1) ((buildF lo p29).2.1) ((buildF lo p29).2.2.1)).2.1) ((joinF ((buildF l p3).1) ((buildF l p3).2.1) ((buildF l p3).2.2.1) ((buildF lo p29).1) ((buildF lo p29).2.1) ((buildF lo p29).2.2.1)).2.2.1))))) (o_not rfl rfl) ?_
      refine stg rfl (v := .bool (!(lo.all (hasF ((joinF ((buildF l p3).1) ((buildF l p3).2.1) ((buildF l p3).2.2.1) ((buildF lo p29).1) ((buildF lo p29).2.1) ((buildF lo p29).2.2.1)).1) ((joinF ((buildF l p3).1) ((buildF l p3).2.1) ((buildF l p3).2.2.1) ((buildF lo p29).1) ((buildF lo p29).2.1) ((buildF lo p29).2.2.1)).2.1) ((joinF ((buildF l p3).1) ((buildF l p3).2.1) ((buildF l p3).2.2.1) ((buildF lo p29).1) ((buildF lo p29).2.1) ((buildF lo p29).2.2.1)).2.2.1))))) (o_pickF rfl rfl) ?_
      refine stp (v := .bool (!(lo.all (hasF ((joinF ((buildF l p3).1) ((buildF l p3).2.1) ((buildF l p3).2.2.1) ((buildF lo p29).1) ((buildF lo p29).2.1) ((buildF lo p29).2.2.1)).1) ((joinF ((buildF l p3).1) ((buildF l p3).2.1) ((buildF l p3).2.2.1) ((buildF lo p29).1) ((buildF lo p29).2.1) ((buildF lo p29).2.2.1)).2.1) ((joinF ((buildF l p3).1) ((buildF l p3).2.1) ((buildF l p3).2.2.1) ((buildF lo p29).1) ((buildF lo p29).2.1) ((buildF lo p29).2.2.1)).2.2.1))))) (o_pickT rfl rfl) ?_
      refine h84 _ _ ?_
      clear h84
      refine cnd rfl (fun c89 => absurd c89 (show ¬ (!(lo.all (hasF ((joinF ((buildF l p3).1) ((buildF l p3).2.1) ((buildF l p3).2.2.1) ((buildF lo p29).1) ((buildF lo p29).2.1) ((buildF lo p29).2.2.1)).1) ((joinF ((buildF l p3).1) ((buildF l p3).2.1) ((buildF l p3).2.2.1) ((buildF lo p29).1) ((buildF lo p29).2.1) ((buildF lo p29).2.2.1)).2.1) ((joinF ((buildF l p3).1) ((buildF l p3).2.1) ((buildF l p3).2.2.1) ((buildF lo p29).1) ((buildF lo p29).2.1) ((buildF lo p29).2.2.1)).2.2.1)))) = true from (by rw [hjb]; decide))) (fun c89 => ?_)
      refine h83 _ _ ?_
      clear h83
      refine seq fun K90 h90 => ?_
      refine m_ldA (l := [.bool ((buildF l p3).1), .int .i64 ((buildF l p3).2.1), (.slice av4 lv4 cv4)]) hM88 (i := 1) (j := 0) rfl rfl rfl rfl rfl ?_
      refine m_ldA (l := [.bool ((buildF l p3).1), .int .i64 ((buildF l p3).2.1), (.slice av4 lv4 cv4)]) hM88 (i := 1) (j := 0) rfl rfl rfl rfl rfl ?_
      refine m_call (Join_ok ((buildF l p3).1) ((buildF l p3).1) ((buildF l p3).2.1) ((buildF l p3).2.1) _ _ ((buildF l p3).2.2.1) ((buildF l p3).2.2.1) w88 (hT.upd hM88.upd) (hs4.rd hM88 (i := 0) rfl) (hs4.rd hM88 (i := 0) rfl) (by first | omega | (simp; done) | (simp; omega)) (by first | omega | (simp; done) | (simp; omega))) rfl fun v91 w91 ⟨vd91, rs91, hr91, hs91, hm91⟩ => ?_
      have hM91 : Mem w [] w91 [rs4, [⟨b5, 24, [.bool ((buildF l p3).1), .int .i64 ((buildF l p3).2.1), (.slice av4 lv4 cv4)]⟩], rs14, rs16, [⟨b17, 24, [.bool ((decF ((encF ((buildF l p3).1) ((buildF l p3).2.1) ((buildF l p3).2.2.1)).1)).1), .int .i64 ((decF ((encF ((buildF l p3).1) ((buildF l p3).2.1) ((buildF l p3).2.2.1)).1)).2.1), (.slice av16 lv16 cv16)]⟩], rs30, [⟨b31, 24, [.bool ((buildF lo p29).1), .int .i64 ((buildF lo p29).2.1), (.slice av30 lv30 cv30)]⟩], rs38, [⟨b39, 24, [.bool ((joinF ((buildF l p3).1) ((buildF l p3).2.1) ((buildF l p3).2.2.1) ((buildF lo p29).1) ((buildF lo p29).2.1) ((buildF lo p29).2.2.1)).1), .int .i64 ((joinF ((buildF l p3).1) ((buildF l p3).2.1) ((buildF l p3).2.2.1) ((buildF lo p29).1) ((buildF lo p29).2.1) ((buildF lo p29).2.2.1)).2.1), (.slice av38 lv38 cv38)]⟩], rs43, [⟨b44, 24, [.bool ((joinF ((buildF lo p29).1) ((buildF lo p29).2.1) ((buildF lo p29).2.2.1) ((buildF l p3).1) ((buildF l p3).2.1) ((buildF l p3).2.2.1)).1), .int .i64 ((joinF ((buildF lo p29).1) ((buildF lo p29).2.1) ((buildF lo p29).2.2.1) ((buildF l p3).1) ((buildF l p3).2.1) ((buildF l p3).2.2.1)).2.1), (.slice av43 lv43 cv43)]⟩], rs91] := hM88.add hm91
      obtain ⟨av91, lv91, cv91, rfl⟩ := hs91.isSlice
      subst hr91
      have hjl91 := joinF_len ((buildF l p3).1) ((buildF l p3).2.1) ((buildF l p3).2.2.1) ((buildF l p3).1) ((buildF l p3).2.1) ((buildF l p3).2.2.1)
      refine stp (v := .tuple [.agg ([.bool ((joinF ((buildF l p3).1) ((buildF l p3).2.1) ((buildF l p3).2.2.1) ((buildF l p3).1) ((buildF l p3).2.1) ((buildF l p3).2.2.1)).1), .int .i64 ((joinF ((buildF l p3).1) ((buildF l p3).2.1) ((buildF l p3).2.2.1) ((buildF l p3).1) ((buildF l p3).2.1) ((buildF l p3).2.2.1)).2.1), (.slice av91 lv91 cv91)] : List Value).toArray, .int .i64 ((joinF ((buildF l p3).1) ((buildF l p3).2.1) ((buildF l p3).2.2.1) ((buildF l p3).1) ((buildF l p3).2.1) ((buildF l p3).2.2.1)).2.2.2)].toArray) (o_mv rfl) ?_
      refine stp (v := .agg ([.bool ((joinF ((buildF l p3).1) ((buildF l p3).2.1) ((buildF l p3).2.2.1) ((buildF l p3).1) ((buildF l p3).2.1) ((buildF l p3).2.2.1)).1), .int .i64 ((joinF ((buildF l p3).1) ((buildF l p3).2.1) ((buildF l p3).2.2.1) ((buildF l p3).1) ((buildF l p3).2.1) ((buildF l p3).2.2.1)).2.1), (.slice av91 lv91 cv91)] : List Value).toArray) (o_ext rfl rfl) ?_
      refine stp (v := .int .i64 ((joinF ((buildF l p3).1) ((buildF l p3).2.1) ((buildF l p3).2.2.1) ((buildF l p3).1) ((buildF l p3).2.1) ((buildF l p3).2.2.1)).2.2.2)) (o_ext rfl rfl) ?_
      refine m_al hM91 fun b92 w93 (hM93 : Mem w [] w93 [rs4, [⟨b5, 24, [.bool ((buildF l p3).1), .int .i64 ((buildF l p3).2.1), (.slice av4 lv4 cv4)]⟩], rs14, rs16, [⟨b17, 24, [.bool ((decF ((encF ((buildF l p3).1) ((buildF l p3).2.1) ((buildF l p3).2.2.1)).1)).1), .int .i64 ((decF ((encF ((buildF l p3).1) ((buildF l p3).2.1) ((buildF l p3).2.2.1)).1)).2.1), (.slice av16 lv16 cv16)]⟩], rs30, [⟨b31, 24, [.bool ((buildF lo p29).1), .int .i64 ((buildF lo p29).2.1), (.slice av30 lv30 cv30)]⟩], rs38, [⟨b39, 24, [.bool ((joinF ((buildF l p3).1) ((buildF l p3).2.1) ((buildF l p3).2.2.1) ((buildF lo p29).1) ((buildF lo p29).2.1) ((buildF lo p29).2.2.1)).1), .int .i64 ((joinF ((buildF l p3).1) ((buildF l p3).2.1) ((buildF l p3).2.2.1) ((buildF lo p29).1) ((buildF lo p29).2.1) ((buildF lo p29).2.2.1)).2.1), (.slice av38 lv38 cv38)]⟩], rs43, [⟨b44, 24, [.bool ((joinF ((buildF lo p29).1) ((buildF lo p29).2.1) ((buildF lo p29).2.2.1) ((buildF l p3).1) ((buildF l p3).2.1) ((buildF l p3).2.2.1)).1), .int .i64 ((joinF ((buildF lo p29).1) ((buildF lo p29).2.1) ((buildF lo p29).2.2.1) ((buildF l p3).1) ((buildF l p3).2.1) ((buildF l p3).2.2.1)).2.1), (.slice av43 lv43 cv43)]⟩], rs91, [⟨b92, 24, [.bool false, .int .i64 0, .slice none 0 0]⟩]]) => ?_
      refine m_stA (l := [.bool ((joinF ((buildF l p3).1) ((buildF l p3).2.1) ((buildF l p3).2.2.1) ((buildF l p3).1) ((buildF l p3).2.1) ((buildF l p3).2.2.1)).1), .int .i64 ((joinF ((buildF l p3).1) ((buildF l p3).2.1) ((buildF l p3).2.2.1) ((buildF l p3).1) ((buildF l p3).2.1) ((buildF l p3).2.2.1)).2.1), (.slice av91 lv91 cv91)]) hM93 (i := 12) rfl rfl rfl rfl (by simp [oneCells, Value.oneCell', byteV]) (by simp) fun w94 (hM94 : Mem w [] w94 [rs4, [⟨b5, 24, [.bool ((buildF l p3).1), .int .i64 ((buildF l p3).2.1), (.slice av4 lv4 cv4)]⟩], rs14, rs16, [⟨b17, 24, [.bool ((decF ((encF ((buildF l p3).1) ((buildF l p3).2.1) ((buildF l p3).2.2.1)).1)).1), .int .i64 ((decF ((encF ((buildF l p3).1) ((buildF l p3).2.1) ((buildF l p3).2.2.1)).1)).2.1), (.slice av16 lv16 cv16)]⟩], rs30, [⟨b31, 24, [.bool ((buildF lo p29).1), .int .i64 ((buildF lo p29).2.1), (.slice av30 lv30 cv30)]⟩], rs38, [⟨b39, 24, [.bool ((joinF ((buildF l p3).1) ((buildF l p3).2.1) ((buildF l p3).2.2.1) ((buildF lo p29).1) ((buildF lo p29).2.1) ((buildF lo p29).2.2.1)).1), .int .i64 ((joinF ((buildF l p3).1) ((buildF l p3).2.1) ((buildF l p3).2.2.1) ((buildF lo p29).1) ((buildF lo p29).2.1) ((buildF lo p29).2.2.1)).2.1), (.slice av38 lv38 cv38)]⟩], rs43, [⟨b44, 24, [.bool ((joinF ((buildF lo p29).1) ((buildF lo p29).2.1) ((buildF lo p29).2.2.1) ((buildF l p3).1) ((buildF l p3).2.1) ((buildF l p3).2.2.1)).1), .int .i64 ((joinF ((buildF lo p29).1) ((buildF lo p29).2.1) ((buildF lo p29).2.2.1) ((buildF l p3).1) ((buildF l p3).2.1) ((buildF l p3).2.2.1)).2.1), (.slice av43 lv43 cv43)]⟩], rs91, [⟨b92, 24, [.bool ((joinF ((buildF l p3).1) ((buildF l p3).2.1) ((buildF l p3).2.2.1) ((buildF l p3).1) ((buildF l p3).2.1) ((buildF l p3).2.2.1)).1), .int .i64 ((joinF ((buildF l p3).1) ((buildF l p3).2.1) ((buildF l p3).2.2.1) ((buildF l p3).1) ((buildF l p3).2.1) ((buildF l p3).2.2.1)).2.1), (.slice av91 lv91 cv91)]⟩]]) => ?_
      refine stp (v := .int .i64 ((joinF ((buildF l p3).1) ((buildF l p3).2.1) ((buildF l p3).2.2.1) ((buildF l p3).1) ((buildF l p3).2.1) ((buildF l p3).2.2.1)).2.2.2)) (o_mv rfl) ?_
      refine h90 _ _ ?_
      clear h90
      refine seq fun K95 h95 => ?_
      refine stp (v := .int .i64 ((joinF ((buildF l p3).1) ((buildF l p3).2.1) ((buildF l p3).2.2.1) ((buildF l p3).1) ((buildF l p3).2.1) ((buildF l p3).2.2.1)).2.2.2)) (o_mv rfl) ?_
      refine stp (v := .bool (decide (((joinF ((buildF l p3).1) ((buildF l p3).2.1) ((buildF l p3).2.2.1) ((buildF l p3).1) ((buildF l p3).2.1) ((buildF l p3).2.2.1)).2.2.2) = 0))) (o_bin rfl rfl rfl) ?_
      refine stp (v := .bool (decide (((joinF ((buildF l p3).1) ((buildF l p3).2.1) ((buildF l p3).2.2.1) ((buildF l p3).1) ((buildF l p3).2.1) ((buildF l p3).2.2.1)).2.2.2) = 0))) (o_mv rfl) ?_
      refine splitP rfl (fun c96 => ?_) (fun c96 => (c96 (by rw [hjs])).elim)
      refine gyesl rfl ?_
      refine m_ldA (l := [.bool ((joinF ((buildF l p3).1) ((buildF l p3).2.1) ((buildF l p3).2.2.1) ((buildF l p3).1) ((buildF l p3).2.1) ((buildF l p3).2.2.1)).1), .int .i64 ((joinF ((buildF l p3).1) ((buildF l p3).2.1) ((buildF l p3).2.2.1) ((buildF l p3).1) ((buildF l p3).2.1) ((buildF l p3).2.2.1)).2.1), (.slice av91 lv91 cv91)]) hM94 (i := 12) (j := 0) rfl rfl rfl rfl rfl ?_
      refine gyesl rfl ?_
      refine m_ldA (l := [.bool ((buildF l p3).1), .int .i64 ((buildF l p3).2.1), (.slice av4 lv4 cv4)]) hM94 (i := 1) (j := 0) rfl rfl rfl rfl rfl ?_
      refine gyesl rfl ?_
      refine m_call (alike_ok ((joinF ((buildF l p3).1) ((buildF l p3).2.1) ((buildF l p3).2.2.1) ((buildF l p3).1) ((buildF l p3).2.1) ((buildF l p3).2.2.1)).1) ((buildF l p3).1) ((joinF ((buildF l p3).1) ((buildF l p3).2.1) ((buildF l p3).2.2.1) ((buildF l p3).1) ((buildF l p3).2.1) ((buildF l p3).2.2.1)).2.1) ((buildF l p3).2.1) _ _ ((joinF ((buildF l p3).1) ((buildF l p3).2.1) ((buildF l p3).2.2.1) ((buildF l p3).1) ((buildF l p3).2.1) ((buildF l p3).2.2.1)).2.2.1) ((buildF l p3).2.2.1) w94 (hs91.rd hM94 (i := 11) rfl) (hs4.rd hM94 (i := 0) rfl) (by first | omega | (simp; done) | (simp; omega))) rfl fun v97 w97 ⟨hr97, hu97⟩ => ?_
      have hM97 : Mem w [] w97 [rs4, [⟨b5, 24, [.bool ((buildF l p3).1), .int .i64 ((buildF l p3).2.1), (.slice av4 lv4 cv4)]⟩], rs14, rs16, [⟨b17, 24, [.bool ((decF ((encF ((buildF l p3).1) ((buildF l p3).2.1) ((buildF l p3).2.2.1)).1)).1), .int .i64 ((decF ((encF ((buildF l p3).1) ((buildF l p3).2.1) ((buildF l p3).2.2.1)).1)).2.1), (.slice av16 lv16 cv16)]⟩], rs30, [⟨b31, 24, [.bool ((buildF lo p29).1), .int .i64 ((buildF lo p29).2.1), (.slice av30 lv30 cv30)]⟩], rs38, [⟨b39, 24, [.bool ((joinF ((buildF l p3).1) ((buildF l p3).2.1) ((buildF l p3).2.2.1) ((buildF lo p29).1) ((buildF lo p29).2.1) ((buildF lo p29).2.2.1)).1), .int .i64 ((joinF ((buildF l p3).1) ((buildF l p3).2.1) ((buildF l p3).2.2.1) ((buildF lo p29).1) ((buildF lo p29).2.1) ((buildF lo p29).2.2.1)).2.1), (.slice av38 lv38 cv38)]⟩], rs43, [⟨b44, 24, [.bool ((joinF ((buildF lo p29).1) ((buildF lo p29).2.1) ((buildF lo p29).2.2.1) ((buildF l p3).1) ((buildF l p3).2.1) ((buildF l p3).2.2.1)).1), .int .i64 ((joinF ((buildF lo p29).1) ((buildF lo p29).2.1) ((buildF lo p29).2.2.1) ((buildF l p3).1) ((buildF l p3).2.1) ((buildF l p3).2.2.1)).2.1), (.slice av43 lv43 cv43)]⟩], rs91, [⟨b92, 24, [.bool ((joinF ((buildF l p3).1) ((buildF l p3).2.1) ((buildF l p3).2.2.1) ((buildF l p3).1) ((buildF l p3).2.1) ((buildF l p3).2.2.1)).1), .int .i64 ((joinF ((buildF l p3).1) ((buildF l p3).2.1) ((buildF l p3).2.2.1) ((buildF l p3).1) ((buildF l p3).2.1) ((buildF l p3).2.2.1)).2.1), (.slice av91 lv91 cv91)]⟩]] := hM94.pure hu97
      subst hr97
      refine stp (v := .bool (alikeF ((joinF ((buildF l p3).1) ((buildF l p3).2.1) ((buildF l p3).2.2.1) ((buildF l p3).1) ((buildF l p3).2.1) ((buildF l p3).2.2.1)).1) ((joinF ((buildF l p3).1) ((buildF l p3).2.1) ((buildF l p3).2.2.1) ((buildF l p3).1) ((buildF l p3).2.1) ((buildF l p3).2.2.1)).2.1) ((joinF ((buildF l p3).1) ((buildF l p3).2.1) ((buildF l p3).2.2.1) ((buildF l p3).1) ((buildF l p3).2.1) ((buildF l p3).2.2.1)).2.2.1) ((buildF l p3).1) ((buildF l p3).2.1) ((buildF l p3).2.2.1))) (o_pickT rfl rfl) ?_
      refine stp (v := .bool (alikeF ((joinF ((buildF l p3).1) ((buildF l p3).2.1) ((buildF l p3).2.2.1) ((buildF l p3).1) ((buildF l p3).2.1) ((buildF l p3).2.2.1)).1) ((joinF ((buildF l p3).1) ((buildF l p3).2.1) ((buildF l p3).2.2.1) ((buildF l p3).1) ((buildF l p3).2.1) ((buildF l p3).2.2.1)).2.1) ((joinF ((buildF l p3).1) ((buildF l p3).2.1) ((buildF l p3).2.2.1) ((buildF l p3).1) ((buildF l p3).2.1) ((buildF l p3).2.2.1)).2.2.1) ((buildF l p3).1) ((buildF l p3).2.1) ((buildF l p3).2.2.1))) (o_mv rfl) ?_
      refine split rfl (fun c98 => ?_) (fun c98 => absurd ((show (alikeF ((joinF ((buildF l p3).1) ((buildF l p3).2.1) ((buildF l p3).2.2.1) ((buildF l p3).1) ((buildF l p3).2.1) ((buildF l p3).2.2.1)).1) ((joinF ((buildF l p3).1) ((buildF l p3).2.1) ((buildF l p3).2.2.1) ((buildF l p3).1) ((buildF l p3).2.1) ((buildF l p3).2.2.1)).2.1) ((joinF ((buildF l p3).1) ((buildF l p3).2.1) ((buildF l p3).2.2.1) ((buildF l p3).1) ((buildF l p3).2.1) ((buildF l p3).2.2.1)).2.2.1) ((buildF l p3).1) ((buildF l p3).2.1) ((buildF l p3).2.2.1)) = true from (by rw [hjs, alikeF_self])).symm.trans c98) (by decide))
      refine gyesl rfl ?_
      refine m_call (works_ok w97) rfl fun v99 w99 ⟨hr99, hu99⟩ => ?_
      have hM99 : Mem w [] w99 [rs4, [⟨b5, 24, [.bool ((buildF l p3).1), .int .i64 ((buildF l p3).2.1), (.slice av4 lv4 cv4)]⟩], rs14, rs16, [⟨b17, 24, [.bool ((decF ((encF ((buildF l p3).1) ((buildF l p3).2.1) ((buildF l p3).2.2.1)).1)).1), .int .i64 ((decF ((encF ((buildF l p3).1) ((buildF l p3).2.1) ((buildF l p3).2.2.1)).1)).2.1), (.slice av16 lv16 cv16)]⟩], rs30, [⟨b31, 24, [.bool ((buildF lo p29).1), .int .i64 ((buildF lo p29).2.1), (.slice av30 lv30 cv30)]⟩], rs38, [⟨b39, 24, [.bool ((joinF ((buildF l p3).1) ((buildF l p3).2.1) ((buildF l p3).2.2.1) ((buildF lo p29).1) ((buildF lo p29).2.1) ((buildF lo p29).2.2.1)).1), .int .i64 ((joinF ((buildF l p3).1) ((buildF l p3).2.1) ((buildF l p3).2.2.1) ((buildF lo p29).1) ((buildF lo p29).2.1) ((buildF lo p29).2.2.1)).2.1), (.slice av38 lv38 cv38)]⟩], rs43, [⟨b44, 24, [.bool ((joinF ((buildF lo p29).1) ((buildF lo p29).2.1) ((buildF lo p29).2.2.1) ((buildF l p3).1) ((buildF l p3).2.1) ((buildF l p3).2.2.1)).1), .int .i64 ((joinF ((buildF lo p29).1) ((buildF lo p29).2.1) ((buildF lo p29).2.2.1) ((buildF l p3).1) ((buildF l p3).2.1) ((buildF l p3).2.2.1)).2.1), (.slice av43 lv43 cv43)]⟩], rs91, [⟨b92, 24, [.bool ((joinF ((buildF l p3).1) ((buildF l p3).2.1) ((buildF l p3).2.2.1) ((buildF l p3).1) ((buildF l p3).2.1) ((buildF l p3).2.2.1)).1), .int .i64 ((joinF ((buildF l p3).1) ((buildF l p3).2.1) ((buildF l p3).2.2.1) ((buildF l p3).1) ((buildF l p3).2.1) ((buildF l p3).2.2.1)).2.1), (.slice av91 lv91 cv91)]⟩]] := hM97.pure hu99
      subst hr99
      refine stp (v := .bool true) (o_pickT rfl rfl) ?_
      refine stp (v := .bool true) (o_mv rfl) ?_
      refine h95 _ _ ?_
      clear h95
      refine ⟨(.bool true), rfl, ?_⟩
      exact ⟨rfl, hM99.upd⟩
    ·
      refine gnol rfl (by simp) ?_
      refine gno rfl (by simp) ?_
      refine gnol rfl (by simp) ?_
      refine gno rfl (by simp) ?_
      refine gno rfl (by simp) ?_
      refine splitU rfl ?_
      refine gnolu rfl ?_
      refine gnou rfl ?_
      refine gnolu rfl ?_
      refine gnou rfl ?_
      refine gno rfl (by simp) ?_
      refine stp (v := .bool false) (o_pickF rfl rfl) ?_
      refine h84 _ _ ?_
      clear h84
      refine cndF rfl ?_
      refine h83 _ _ ?_
      clear h83
      refine seq fun K100 h100 => ?_
      refine m_ldA (l := [.bool ((buildF l p3).1), .int .i64 ((buildF l p3).2.1), (.slice av4 lv4 cv4)]) hM81 (i := 1) (j := 0) rfl rfl rfl rfl rfl ?_
      refine m_ldA (l := [.bool ((buildF l p3).1), .int .i64 ((buildF l p3).2.1), (.slice av4 lv4 cv4)]) hM81 (i := 1) (j := 0) rfl rfl rfl rfl rfl ?_
      refine m_call (Join_ok ((buildF l p3).1) ((buildF l p3).1) ((buildF l p3).2.1) ((buildF l p3).2.1) _ _ ((buildF l p3).2.2.1) ((buildF l p3).2.2.1) w81 (hT.upd hM81.upd) (hs4.rd hM81 (i := 0) rfl) (hs4.rd hM81 (i := 0) rfl) (by first | omega | (simp; done) | (simp; omega)) (by first | omega | (simp; done) | (simp; omega))) rfl fun v101 w101 ⟨vd101, rs101, hr101, hs101, hm101⟩ => ?_
      have hM101 : Mem w [] w101 [rs4, [⟨b5, 24, [.bool ((buildF l p3).1), .int .i64 ((buildF l p3).2.1), (.slice av4 lv4 cv4)]⟩], rs14, rs16, [⟨b17, 24, [.bool ((decF ((encF ((buildF l p3).1) ((buildF l p3).2.1) ((buildF l p3).2.2.1)).1)).1), .int .i64 ((decF ((encF ((buildF l p3).1) ((buildF l p3).2.1) ((buildF l p3).2.2.1)).1)).2.1), (.slice av16 lv16 cv16)]⟩], rs30, [⟨b31, 24, [.bool ((buildF lo p29).1), .int .i64 ((buildF lo p29).2.1), (.slice av30 lv30 cv30)]⟩], rs38, [⟨b39, 24, [.bool ((joinF ((buildF l p3).1) ((buildF l p3).2.1) ((buildF l p3).2.2.1) ((buildF lo p29).1) ((buildF lo p29).2.1) ((buildF lo p29).2.2.1)).1), .int .i64 ((joinF ((buildF l p3).1) ((buildF l p3).2.1) ((buildF l p3).2.2.1) ((buildF lo p29).1) ((buildF lo p29).2.1) ((buildF lo p29).2.2.1)).2.1), (.slice av38 lv38 cv38)]⟩], rs43, [⟨b44, 24, [.bool ((joinF ((buildF lo p29).1) ((buildF lo p29).2.1) ((buildF lo p29).2.2.1) ((buildF l p3).1) ((buildF l p3).2.1) ((buildF l p3).2.2.1)).1), .int .i64 ((joinF ((buildF lo p29).1) ((buildF lo p29).2.1) ((buildF lo p29).2.2.1) ((buildF l p3).1) ((buildF l p3).2.1) ((buildF l p3).2.2.1)).2.1), (.slice av43 lv43 cv43)]⟩], rs101] := hM81.add hm101
      obtain ⟨av101, lv101, cv101, rfl⟩ := hs101.isSlice
      subst hr101
      have hjl101 := joinF_len ((buildF l p3).1) ((buildF l p3).2.1) ((buildF l p3).2.2.1) ((buildF l p3).1) ((buildF l p3).2.1) ((buildF l p3).2.2.1)
      refine stp (v := .tuple [.agg ([.bool ((joinF ((buildF l p3).1) ((buildF l p3).2.1) ((buildF l p3).2.2.1) ((buildF l p3).1) ((buildF l p3).2.1) ((buildF l p3).2.2.1)).1), .int .i64 ((joinF ((buildF l p3).1) ((buildF l p3).2.1) ((buildF l p3).2.2.1) ((buildF l p3).1) ((buildF l p3).2.1) ((buildF l p3).2.2.1)).2.1), (.slice av101 lv101 cv101)] : List Value).toArray, .int .i64 ((joinF ((buildF l p3).1) ((buildF l p3).2.1) ((buildF l p3).2.2.1) ((buildF l p3).1) ((buildF l p3).2.1) ((buildF l p3).2.2.1)).2.2.2)].toArray) (o_mv rfl) ?_
      refine stp (v := .agg ([.bool ((joinF ((buildF l p3).1) ((buildF l p3).2.1) ((buildF l p3).2.2.1) ((buildF l p3).1) ((buildF l p3).2.1) ((buildF l p3).2.2.1)).1), .int .i64 ((joinF ((buildF l p3).1) ((buildF l p3).2.1) ((buildF l p3).2.2.1) ((buildF l p3).1) ((buildF l p3).2.1) ((buildF l p3).2.2.1)).2.1), (.slice av101 lv101 cv101)] : List Value).toArray) (o_ext rfl rfl) ?_
      refine stp (v := .int .i64 ((joinF ((buildF l p3).1) ((buildF l p3).2.1) ((buildF l p3).2.2.1) ((buildF l p3).1) ((buildF l p3).2.1) ((buildF l p3).2.2.1)).2.2.2)) (o_ext rfl rfl) ?_
      refine m_al hM101 fun b102 w103 (hM103 : Mem w [] w103 [rs4, [⟨b5, 24, [.bool ((buildF l p3).1), .int .i64 ((buildF l p3).2.1), (.slice av4 lv4 cv4)]⟩], rs14, rs16, [⟨b17, 24, [.bool ((decF ((encF ((buildF l p3).1) ((buildF l p3).2.1) ((buildF l p3).2.2.1)).1)).1), .int .i64 ((decF ((encF ((buildF l p3).1) ((buildF l p3).2.1) ((buildF l p3).2.2.1)).1)).2.1), (.slice av16 lv16 cv16)]⟩], rs30, [⟨b31, 24, [.bool ((buildF lo p29).1), .int .i64 ((buildF lo p29).2.1), (.slice av30 lv30 cv30)]⟩], rs38, [⟨b39, 24, [.bool ((joinF ((buildF l p3).1) ((buildF l p3).2.1) ((buildF l p3).2.2.1) ((buildF lo p29).1) ((buildF lo p29).2.1) ((buildF lo p29).2.2.1)).1), .int .i64 ((joinF ((buildF l p3).1) ((buildF l p3).2.1) ((buildF l p3).2.2.1) ((buildF lo p29).1) ((buildF lo p29).2.1) ((buildF lo p29).2.2.1)).2.1), (.slice av38 lv38 cv38)]⟩], rs43, [⟨b44, 24, [.bool ((joinF ((buildF lo p29).1) ((buildF lo p29).2.1) ((buildF lo p29).2.2.1) ((buildF l p3).1) ((buildF l p3).2.1) ((buildF l p3).2.2.1)).1), .int .i64 ((joinF ((buildF lo p29).1) ((buildF lo p29).2.1) ((buildF lo p29).2.2.1) ((buildF l p3).1) ((buildF l p3).2.1) ((buildF l p3).2.2.1)).2.1), (.slice av43 lv43 cv43)]⟩], rs101, [⟨b102, 24, [.bool false, .int .i64 0, .slice none 0 0]⟩]]) => ?_
      refine m_stA (l := [.bool ((joinF ((buildF l p3).1) ((buildF l p3).2.1) ((buildF l p3).2.2.1) ((buildF l p3).1) ((buildF l p3).2.1) ((buildF l p3).2.2.1)).1), .int .i64 ((joinF ((buildF l p3).1) ((buildF l p3).2.1) ((buildF l p3).2.2.1) ((buildF l p3).1) ((buildF l p3).2.1) ((buildF l p3).2.2.1)).2.1), (.slice av101 lv101 cv101)]) hM103 (i := 12) rfl rfl rfl rfl (by simp [oneCells, Value.oneCell', byteV]) (by simp) fun w104 (hM104 : Mem w [] w104 [rs4, [⟨b5, 24, [.bool ((buildF l p3).1), .int .i64 ((buildF l p3).2.1), (.slice av4 lv4 cv4)]⟩], rs14, rs16, [⟨b17, 24, [.bool ((decF ((encF ((buildF l p3).1) ((buildF l p3).2.1) ((buildF l p3).2.2.1)).1)).1), .int .i64 ((decF ((encF ((buildF l p3).1) ((buildF l p3).2.1) ((buildF l p3).2.2.1)).1)).2.1), (.slice av16 lv16 cv16)]⟩], rs30, [⟨b31, 24, [.bool ((buildF lo p29).1), .int .i64 ((buildF lo p29).2.1), (.slice av30 lv30 cv30)]⟩], rs38, [⟨b39, 24, [.bool ((joinF ((buildF l p3).1) ((buildF l p3).2.1) ((buildF l p3).2.2.1) ((buildF lo p29).1) ((buildF lo p29).2.1) ((buildF lo p29).2.2.1)).1), .int .i64 ((joinF ((buildF l p3).1) ((buildF l p3).2.1) ((buildF l p3).2.2.1) ((buildF lo p29).1) ((buildF lo p29).2.1) ((buildF lo p29).2.2.1)).2.1), (.slice av38 lv38 cv38)]⟩], rs43, [⟨b44, 24, [.bool ((joinF ((buildF lo p29).1) ((buildF lo p29).2.1) ((buildF lo p29).2.2.1) ((buildF l p3).1) ((buildF l p3).2.1) ((buildF l p3).2.2.1)).1), .int .i64 ((joinF ((buildF lo p29).1) ((buildF lo p29).2.1) ((buildF lo p29).2.2.1) ((buildF l p3).1) ((buildF l p3).2.1) ((buildF l p3).2.2.1)).2.1), (.slice av43 lv43 cv43)]⟩], rs101, [⟨b102, 24, [.bool ((joinF ((buildF l p3).1) ((buildF l p3).2.1) ((buildF l p3).2.2.1) ((buildF l p3).1) ((buildF l p3).2.1) ((buildF l p3).2.2.1)).1), .int .i64 ((joinF ((buildF l p3).1) ((buildF l p3).2.1) ((buildF l p3).2.2.1) ((buildF l p3).1) ((buildF l p3).2.1) ((buildF l p3).2.2.1)).2.1), (.slice av101 lv101 cv101)]⟩]]) => ?_
      refine stp (v := .int .i64 ((joinF ((buildF l p3).1) ((buildF l p3).2.1) ((buildF l p3).2.2.1) ((buildF l p3).1) ((buildF l p3).2.1) ((buildF l p3).2.2.1)).2.2.2)) (o_mv rfl) ?_
      refine h100 _ _ ?_
      clear h100
      refine seq fun K105 h105 => ?_
      refine stp (v := .int .i64 ((joinF ((buildF l p3).1) ((buildF l p3).2.1) ((buildF l p3).2.2.1) ((buildF l p3).1) ((buildF l p3).2.1) ((buildF l p3).2.2.1)).2.2.2)) (o_mv rfl) ?_
      refine stp (v := .bool (decide (((joinF ((buildF l p3).1) ((buildF l p3).2.1) ((buildF l p3).2.2.1) ((buildF l p3).1) ((buildF l p3).2.1) ((buildF l p3).2.2.1)).2.2.2) = 0))) (o_bin rfl rfl rfl) ?_
      refine stp (v := .bool (decide (((joinF ((buildF l p3).1) ((buildF l p3).2.1) ((buildF l p3).2.2.1) ((buildF l p3).1) ((buildF l p3).2.1) ((buildF l p3).2.2.1)).2.2.2) = 0))) (o_mv rfl) ?_
      refine splitP rfl (fun c106 => ?_) (fun c106 => (c106 (by rw [hjs])).elim)
      refine gyesl rfl ?_
      refine m_ldA (l := [.bool ((joinF ((buildF l p3).1) ((buildF l p3).2.1) ((buildF l p3).2.2.1) ((buildF l p3).1) ((buildF l p3).2.1) ((buildF l p3).2.2.1)).1), .int .i64 ((joinF ((buildF l p3).1) ((buildF l p3).2.1) ((buildF l p3).2.2.1) ((buildF l p3).1) ((buildF l p3).2.1) ((buildF l p3).2.2.1)).2.1), (.slice av101 lv101 cv101)]) hM104 (i := 12) (j := 0) rfl rfl rfl rfl rfl ?_
      refine gyesl rfl ?_
      refine m_ldA (l := [.bool ((buildF l p3).1), .int .i64 ((buildF l p3).2.1), (.slice av4 lv4 cv4)]) hM104 (i := 1) (j := 0) rfl rfl rfl rfl rfl ?_
      refine gyesl rfl ?_
      refine m_call (alike_ok ((joinF ((buildF l p3).1) ((buildF l p3).2.1) ((buildF l p3).2.2.1) ((buildF l p3).1) ((buildF l p3).2.1) ((buildF l p3).2.2.1)).1) ((buildF l p3).1) ((joinF ((buildF l p3).1) ((buildF l p3).2.1) ((buildF l p3).2.2.1) ((buildF l p3).1) ((buildF l p3).2.1) ((buildF l p3).2.2.1)).2.1) ((buildF l p3).2.1) _ _ ((joinF ((buildF l p3).1) ((buildF l p3).2.1) ((buildF l p3).2.2.1) ((buildF l p3).1) ((buildF l p3).2.1) ((buildF l p3).2.2.1)).2.2.1) ((buildF l p3).2.2.1) w104 (hs101.rd hM104 (i := 11) rfl) (hs4.rd hM104 (i := 0) rfl) (by first | omega | (simp; done) | (simp; omega))) rfl fun v107 w107 ⟨hr107, hu107⟩ => ?_
      have hM107 : Mem w [] w107 [rs4, [⟨b5, 24, [.bool ((buildF l p3).1), .int .i64 ((buildF l p3).2.1), (.slice av4 lv4 cv4)]⟩], rs14, rs16, [⟨b17, 24, [.bool ((decF ((encF ((buildF l p3).1) ((buildF l p3).2.1) ((buildF l p3).2.2.1)).1)).1), .int .i64 ((decF ((encF ((buildF l p3).1) ((buildF l p3).2.1) ((buildF l p3).2.2.1)).1)).2.1), (.slice av16 lv16 cv16)]⟩], rs30, [⟨b31, 24, [.bool ((buildF lo p29).1), .int .i64 ((buildF lo p29).2.1), (.slice av30 lv30 cv30)]⟩], rs38, [⟨b39, 24, [.bool ((joinF ((buildF l p3).1) ((buildF l p3).2.1) ((buildF l p3).2.2.1) ((buildF lo p29).1) ((buildF lo p29).2.1) ((buildF lo p29).2.2.1)).1), .int .i64 ((joinF ((buildF l p3).1) ((buildF l p3).2.1) ((buildF l p3).2.2.1) ((buildF lo p29).1) ((buildF lo p29).2.1) ((buildF lo p29).2.2.1)).2.1), (.slice av38 lv38 cv38)]⟩], rs43, [⟨b44, 24, [.bool ((joinF ((buildF lo p29).1) ((buildF lo p29).2.1) ((buildF lo p29).2.2.1) ((buildF l p3).1) ((buildF l p3).2.1) ((buildF l p3).2.2.1)).1), .int .i64 ((joinF ((buildF lo p29).1) ((buildF lo p29).2.1) ((buildF lo p29).2.2.1) ((buildF l p3).1) ((buildF l p3).2.1) ((buildF l p3).2.2.1)).2.1), (.slice av43 lv43 cv43)]⟩], rs101, [⟨b102, 24, [.bool ((joinF ((buildF l p3).1) ((buildF l p3).2.1) ((buildF l p3).2.2.1) ((buildF l p3).1) ((buildF l p3).2.1) ((buildF l p3).2.2.1)).1), .int .i64 ((joinF ((buildF l p3).1) ((buildF l p3).2.1) ((buildF l p3).2.2.1) ((buildF l p3).1) ((buildF l p3).2.1) ((buildF l p3).2.2.1)).2.1), (.slice av101 lv101 cv101)]⟩]] := hM104.pure hu107
      subst hr107
      refine stp (v := .bool (alikeF ((joinF ((buildF l p3).1) ((buildF l p3).2.1) ((buildF l p3).2.2.1) ((buildF l p3).1) ((buildF l p3).2.1) ((buildF l p3).2.2.1)).1) ((joinF ((buildF l p3).1) ((buildF l p3).2.1) ((buildF l p3).2.2.1) ((buildF l p3).1) ((buildF l p3).2.1) ((buildF l p3).2.2.1)).2.1) ((joinF ((buildF l p3).1) ((buildF l p3).2.1) ((buildF l p3).2.2.1) ((buildF l p3).1) ((buildF l p3).2.1) ((buildF l p3).2.2.1)).2.2.1) ((buildF l p3).1) ((buildF l p3).2.1) ((buildF l p3).2.2.1))) (o_pickT rfl rfl) ?_
      refine stp (v := .bool (alikeF ((joinF ((buildF l p3).1) ((buildF l p3).2.1) ((buildF l p3).2.2.1) ((buildF l p3).1) ((buildF l p3).2.1) ((buildF l p3).2.2.1)).1) ((joinF ((buildF l p3).1) ((buildF l p3).2.1) ((buildF l p3).2.2.1) ((buildF l p3).1) ((buildF l p3).2.1) ((buildF l p3).2.2.1)).2.1) ((joinF ((buildF l p3).1) ((buildF l p3).2.1) ((buildF l p3).2.2.1) ((buildF l p3).1) ((buildF l p3).2.1) ((buildF l p3).2.2.1)).2.2.1) ((buildF l p3).1) ((buildF l p3).2.1) ((buildF l p3).2.2.1))) (o_mv rfl) ?_
      refine split rfl (fun c108 => ?_) (fun c108 => absurd ((show (alikeF ((joinF ((buildF l p3).1) ((buildF l p3).2.1) ((buildF l p3).2.2.1) ((buildF l p3).1) ((buildF l p3).2.1) ((buildF l p3).2.2.1)).1) ((joinF ((buildF l p3).1) ((buildF l p3).2.1) ((buildF l p3).2.2.1) ((buildF l p3).1) ((buildF l p3).2.1) ((buildF l p3).2.2.1)).2.1) ((joinF ((buildF l p3).1) ((buildF l p3).2.1) ((buildF l p3).2.2.1) ((buildF l p3).1) ((buildF l p3).2.1) ((buildF l p3).2.2.1)).2.2.1) ((buildF l p3).1) ((buildF l p3).2.1) ((buildF l p3).2.2.1)) = true from (by rw [hjs, alikeF_self])).symm.trans c108) (by decide))
      refine gyesl rfl ?_
      refine m_call (works_ok w107) rfl fun v109 w109 ⟨hr109, hu109⟩ => ?_
      have hM109 : Mem w [] w109 [rs4, [⟨b5, 24, [.bool ((buildF l p3).1), .int .i64 ((buildF l p3).2.1), (.slice av4 lv4 cv4)]⟩], rs14, rs16, [⟨b17, 24, [.bool ((decF ((encF ((buildF l p3).1) ((buildF l p3).2.1) ((buildF l p3).2.2.1)).1)).1), .int .i64 ((decF ((encF ((buildF l p3).1) ((buildF l p3).2.1) ((buildF l p3).2.2.1)).1)).2.1), (.slice av16 lv16 cv16)]⟩], rs30, [⟨b31, 24, [.bool ((buildF lo p29).1), .int .i64 ((buildF lo p29).2.1), (.slice av30 lv30 cv30)]⟩], rs38, [⟨b39, 24, [.bool ((joinF ((buildF l p3).1) ((buildF l p3).2.1) ((buildF l p3).2.2.1) ((buildF lo p29).1) ((buildF lo p29).2.1) ((buildF lo p29).2.2.1)).1), .int .i64 ((joinF ((buildF l p3).1) ((buildF l p3).2.1) ((buildF l p3).2.2.1) ((buildF lo p29).1) ((buildF lo p29).2.1) ((buildF lo p29).2.2.1)).2.1), (.slice av38 lv38 cv38)]⟩], rs43, [⟨b44, 24, [.bool ((joinF ((buildF lo p29).1) ((buildF lo p29).2.1) ((buildF lo p29).2.2.1) ((buildF l p3).1) ((buildF l p3).2.1) ((buildF l p3).2.2.1)).1), .int .i64 ((joinF ((buildF lo p29).1) ((buildF lo p29).2.1) ((buildF lo p29).2.2.1) ((buildF l p3).1) ((buildF l p3).2.1) ((buildF l p3).2.2.1)).2.1), (.slice av43 lv43 cv43)]⟩], rs101, [⟨b102, 24, [.bool ((joinF ((buildF l p3).1) ((buildF l p3).2.1) ((buildF l p3).2.2.1) ((buildF l p3).1) ((buildF l p3).2.1) ((buildF l p3).2.2.1)).1), .int .i64 ((joinF ((buildF l p3).1) ((buildF l p3).2.1) ((buildF l p3).2.2.1) ((buildF l p3).1) ((buildF l p3).2.1) ((buildF l p3).2.2.1)).2.1), (.slice av101 lv101 cv101)]⟩]] := hM107.pure hu109
      subst hr109
      refine stp (v := .bool true) (o_pickT rfl rfl) ?_
      refine stp (v := .bool true) (o_mv rfl) ?_
      refine h105 _ _ ?_
      clear h105
      refine ⟨(.bool true), rfl, ?_⟩
      exact ⟨rfl, hM109.upd⟩
