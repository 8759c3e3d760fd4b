/- Footers: what is taken is told in just these bytes. -/
import Derived.Test.YthhmhmnhbababaaD14
import Derived.Test.YthhmhmnhbababaaD16
namespace Go.Proofs.Ythhmhmnhbababaa.E
open Go
theorem Dc_no {pages : List UInt8} {bk pg P e : Int} {ps : List Pr} (h : DcSpec pages bk pg P (ps.map Pr.p) e) (he : ¬ e = 0) : (e = 80 ∨ e = 81) ∧ P = 0 ∧ ps = [] := by
  rcases h with h | ⟨h0, h1, h2, h3⟩
  · exact absurd h.1 he
  · exact ⟨by omega, h1, List.map_eq_nil_iff.1 h2⟩
theorem Dc_yes {pages : List UInt8} {bk pg P e : Int} {PS : List Pp} (h : DcSpec pages bk pg P PS e) (he : e = 0) : ftOk P PS ∧ spaceF PS = bk ∧ pg = (pages.length : Nat) ∧ (mayT bk pg) ∧ encT P PS = (pages ++ trF bk pages.length, 0) := by
  rcases h with ⟨h0, h1, h2, h3, h4, h5, h6⟩ | ⟨h0, h1, h2, h3⟩
  · refine ⟨h2, h4, h5, h1, ?_⟩
    have hp := pages_len _ (bodyF P PS) (Nat.le_refl _)
    rw [← h3] at hp
    have hm := h1
    unfold mayT at hm
    rw [encT_ok h2 (by omega), ← h3, h4]
  · omega

/-- winnowlaw8.same -/
theorem sameL_ok (x y : Value) (a b : List UInt8) (w : World) (hx : RdE byteV w x a) (hy : RdE byteV w y b) (hla : a.length ≤ 9223372036854775807) : Calls Try.prog 23 [x, y].toArray w (Rt fun r w' => r = .bool (decide (a = b)) ∧ Upd [] w w') := by
  have hM0 : Mem w [] w [] := Mem.nil w []
  refine calls_vc mixed Try.func23 rfl C23 (by simp [Try.ntmps23]) ?_
  refine seq fun K1 h1 => ?_
  refine stp (v := .bool false) (o_mv rfl) ?_
  refine h1 _ _ ?_
  clear h1
  refine seq fun K2 h2 => ?_
  refine seq fun K3 h3 => ?_
  refine stp (v := x) (o_mv rfl) ?_
  refine stp (v := .int .i64 (a.length : Nat)) (o_lenR (hx.upd hM0.upd) rfl rfl) ?_
  refine stp (v := y) (o_mv rfl) ?_
  refine stp (v := .int .i64 (b.length : Nat)) (o_lenR (hy.upd hM0.upd) rfl rfl) ?_
  refine stp (v := .bool (decide (¬ ((a.length : Nat) : Int) = (b.length : Nat)))) (o_bin rfl rfl v_neq) ?_
  refine h3 _ _ ?_
  clear h3
  refine cndP rfl (fun c4 => ?_) (fun c4 => ?_)
  ·
    refine seq fun K5 h5 => ?_
    refine stp (v := .bool false) (o_mv rfl) ?_
    refine h5 _ _ ?_
    clear h5
    refine ⟨(.bool false), rfl, ?_⟩
    exact ⟨by rw [decide_eq_false (fun e => c4 (by rw [e]))], hM0.upd⟩
  ·
    refine h2 _ _ ?_
    clear h2
    refine seq fun K6 h6 => ?_
    refine seq fun K7 h7 => ?_
    refine stp (v := .int .i64 0) (o_mv rfl) ?_
    refine h7 _ _ ?_
    clear h7
    refine lp (n := fun _ _ => False) (ι := (Nat)) (fun i f w' => f 0 = x ∧ f 1 = y ∧ f 5 = .int .i64 (i : Nat) ∧ Mem w [] w' [] ∧ (i ≤ a.length) ∧ (a.take i = b.take i)) (fun i => a.length - i) (0) ?_ ?_
    · exact ⟨rfl, rfl, by first | rfl | exact v_int (by omega) | exact v_int (by simp) | exact v_int (by simp; omega), hM0, by omega, by simp⟩
    · rintro i f w8 ⟨e8_0, e8_1, e8_5, hM8, hi, hp⟩ K9 h9
      obtain ⟨frm, rfl⟩ : ∃ frm, f = (upd (upd (upd frm 0 (x)) 1 (y)) 5 (.int .i64 (i : Nat))) := ⟨f, by rw [upd_self e8_0, upd_self e8_1, upd_self e8_5]⟩
      clear e8_0 e8_1 e8_5
      refine seq fun K10 h10 => ?_
      refine seq fun K11 h11 => ?_
      refine stp (v := .int .i64 (i : Nat)) (o_mv rfl) ?_
      refine stp (v := x) (o_mv rfl) ?_
      refine stp (v := .int .i64 (a.length : Nat)) (o_lenR (hx.upd hM8.upd) rfl rfl) ?_
      refine stp (v := .bool (decide (((i : Nat) : Int) < (a.length : Nat)))) (o_bin rfl rfl rfl) ?_
      refine h11 _ _ ?_
      clear h11
      refine cndP rfl (fun c12 => ?_) (fun c12 => ?_)
      ·
        refine h10 _ _ ?_
        clear h10
        refine seq fun K13 h13 => ?_
        refine seq fun K14 h14 => ?_
        intro wd e1 e2 e3 e4
        have hd := Upd.same e1 e2 e3 e4 []
        have hM15 := hM8.pure hd
        clear e1 e2 e3 e4
        refine ⟨none, ?_⟩
        show vd _ _ _ _ _ _ _
        refine dq (v := x) (o_mv rfl) ?_
        refine dq (v := .int .i64 (i : Nat)) (o_mv rfl) ?_
        refine dqp (m_idxE 0 (j := i) (hx.upd hM15.upd) rfl rfl (by omega) fun b16 o16 hp16 => ?_)
        show vd _ _ _ _ _ _ _
        refine dq (v := y) (o_mv rfl) ?_
        refine dq (v := .int .i64 (i : Nat)) (o_mv rfl) ?_
        refine dqp (m_idxE 0 (j := i) (hy.upd hM15.upd) rfl rfl (by omega) fun b17 o17 hp17 => ?_)
        show vd _ _ _ _ _ _ _
        refine dqld rfl (trivial) (v := byteV (b.getD i 0)) (hp17) ?_
        refine dl (ld (v := byteV (a.getD i 0)) rfl (hp16) ?_)
        refine ⟨rfl, ?_⟩
        refine dq (v := .bool (decide (¬ ((a.getD i 0).toNat : Int) = ((b.getD i 0).toNat : Int)))) (o_bin rfl rfl v_neq) ?_
        refine h14 _ _ ?_
        clear h14
        refine cndP rfl (fun c18 => ?_) (fun c18 => ?_)
        ·
          refine seq fun K19 h19 => ?_
          refine stp (v := .bool false) (o_mv rfl) ?_
          refine h19 _ _ ?_
          clear h19
          refine ⟨(.bool false), rfl, ?_⟩
          exact ⟨by rw [decide_eq_false (ne_atG 0 i (nat_neG (by assumption)))], hM15.upd⟩
        ·
          refine h13 _ _ ?_
          clear h13
          refine stp (v := .int .i64 (i : Nat)) (o_mv rfl) ?_
          refine stp (v := .int .i64 ((i : Nat) + 1)) (o_bin rfl rfl (v_add64 (by constructor <;> omega))) ?_
          refine stp (v := .int .i64 ((i : Nat) + 1)) (o_mv rfl) ?_
          refine h9 (i + 1) _ _ ⟨rfl, rfl, by first | rfl | exact v_int (by omega) | exact v_int (by simp) | exact v_int (by simp; omega), hM15, by omega, take_eqG 0 hp (by omega) (by omega) (u8_eq (by omega))⟩ (by (try dsimp only); omega)
      ·
        refine h6 _ _ ?_
        clear h6
        refine seq fun K20 h20 => ?_
        refine stp (v := .bool true) (o_mv rfl) ?_
        refine h20 _ _ ?_
        clear h20
        refine ⟨(.bool true), rfl, ?_⟩
        exact ⟨by rw [decide_eq_true]; rw [← List.take_of_length_le (l := a) (i := i) (by omega), ← List.take_of_length_le (l := b) (i := i) (by omega), hp], hM8.upd⟩

/-- winnowlaw8.FootOnly -/
theorem FootOnly_ok (x : Value) (pages : List UInt8) (bk pg : Int) (w : World) (hx : RdE byteV w x pages) (hl : pages.length ≤ 140737488351232) (hb : inK .i64 bk) (hp : inK .i64 pg) : Calls Try.prog 9 [x, .agg [.int .i64 bk, .int .i64 pg].toArray].toArray w (Rt fun r w' => r = .bool true ∧ Upd [] w w') := by
  have hM0 : Mem w [] w [] := Mem.nil w []
  simp only [inK] at hb hp
  refine calls_vc mixed Try.func9 rfl C9 (by simp [Try.ntmps9]) ?_
  refine seq fun K1 h1 => ?_
  refine m_bx (v := .agg ([.int .i64 bk, .int .i64 pg] : List Value).toArray) hM0 rfl rfl fun b2 w3 (hM3 : Mem w [] w3 [[⟨b2, 36, [.int .i64 bk, .int .i64 pg]⟩]]) => ?_
  refine stp (v := .bool false) (o_mv rfl) ?_
  refine h1 _ _ ?_
  clear h1
  refine seq fun K4 h4 => ?_
  refine stp (v := x) (o_mv rfl) ?_
  refine m_ldA (l := [.int .i64 bk, .int .i64 pg]) hM3 (i := 0) (j := 0) rfl rfl rfl rfl rfl ?_
  refine m_call (Decode_ok bk pg _ pages w3 (by simp only [inK]; omega) (by simp only [inK]; omega) (hx.upd hM3.upd) (by first | omega | (simp only [List.length_drop, List.length_take] at *; omega))) rfl fun v5 w5 ⟨P5, v5_, ps5, rs5, NS5, e5, hr5, hs5, hN5, hP5, hpl5, hsp5, hm5⟩ => ?_
  have hM5 : Mem w [] w5 [[⟨b2, 36, [.int .i64 bk, .int .i64 pg]⟩], rs5, NS5] := hM3.add2 hm5
  subst hr5
  obtain ⟨av5, lv5, cv5, rfl⟩ := hs5.isSlice
  refine stp (v := .tuple [.agg ([.int .i64 P5, (.slice av5 lv5 cv5)] : List Value).toArray, .int .i64 e5].toArray) (o_mv rfl) ?_
  refine stp (v := .agg ([.int .i64 P5, (.slice av5 lv5 cv5)] : List Value).toArray) (o_ext rfl rfl) ?_
  refine stp (v := .int .i64 e5) (o_ext rfl rfl) ?_
  refine m_al hM5 fun b6 w7 (hM7 : Mem w [] w7 [[⟨b2, 36, [.int .i64 bk, .int .i64 pg]⟩], rs5, NS5, [⟨b6, 24, [.int .i64 0, .slice none 0 0]⟩]]) => ?_
  refine m_stA (l := [.int .i64 P5, (.slice av5 lv5 cv5)]) hM7 (i := 3) rfl rfl rfl rfl (by simp [oneCells, Value.oneCell', byteV]) (by simp) fun w8 (hM8 : Mem w [] w8 [[⟨b2, 36, [.int .i64 bk, .int .i64 pg]⟩], rs5, NS5, [⟨b6, 24, [.int .i64 P5, (.slice av5 lv5 cv5)]⟩]]) => ?_
  refine stp (v := .int .i64 e5) (o_mv rfl) ?_
  refine h4 _ _ ?_
  clear h4
  refine seq fun K9 h9 => ?_
  refine seq fun K10 h10 => ?_
  refine stp (v := .int .i64 e5) (o_mv rfl) ?_
  refine stp (v := .bool (decide (¬ e5 = 0))) (o_bin rfl rfl v_neq) ?_
  refine h10 _ _ ?_
  clear h10
  refine cndP rfl (fun c11 => ?_) (fun c11 => ?_)
  ·
    refine seq fun K12 h12 => ?_
    obtain ⟨hd1, hd2, hd3⟩ := Dc_no hsp5 (by omega)
    have hd4 : ps5.length = 0 := by rw [hd3]; rfl
    refine stp (v := .pointer (some ⟨b6, 1, none⟩)) (o_fa rfl rfl) ?_
    refine m_ld (v := (.slice av5 lv5 cv5)) hM8 (i := 3) (j := 0) rfl rfl rfl rfl ?_
    refine stp (v := .int .i64 (ps5.length : Nat)) (o_lenR (hs5.rd hM8 (i := 1) rfl) rfl rfl) ?_
    refine stp (v := .bool (decide (((ps5.length : Nat) : Int) = 0))) (o_bin rfl rfl rfl) ?_
    refine stp (v := .bool (decide (((ps5.length : Nat) : Int) = 0))) (o_mv rfl) ?_
    refine splitP rfl (fun c13 => ?_) (fun c13 => ?_)
    ·
      refine stg rfl (v := .pointer (some ⟨b6, 0, none⟩)) (o_fa rfl rfl) ?_
      refine gyesl rfl ?_
      refine m_ld (v := .int .i64 P5) hM8 (i := 3) (j := 0) rfl rfl rfl rfl ?_
      refine stg rfl (v := .bool (decide (P5 = 0))) (o_bin rfl rfl rfl) ?_
      refine stp (v := .bool (decide (P5 = 0))) (o_pickT rfl rfl) ?_
      refine stp (v := .bool (decide (P5 = 0))) (o_mv rfl) ?_
      refine splitP rfl (fun c14 => ?_) (fun c14 => ?_)
      ·
        refine stg rfl (v := .int .i64 e5) (o_mv rfl) ?_
        refine stg rfl (v := .bool (decide (e5 = 80))) (o_bin rfl rfl rfl) ?_
        refine stg rfl (v := .bool (decide (e5 = 80))) (o_mv rfl) ?_
        refine splitP rfl (fun c15 => ?_) (fun c15 => ?_)
        ·
          refine gno rfl (by simp) ?_
          refine gno rfl (by simp) ?_
          refine stg rfl (v := .bool true) (o_pickT rfl rfl) ?_
          refine stp (v := .bool true) (o_pickT rfl rfl) ?_
          refine stp (v := .bool true) (o_mv rfl) ?_
          refine splitT rfl ?_
          refine gyesl rfl ?_
          refine m_call (head_ok w8) rfl fun v16 w16 ⟨hr16, hu16⟩ => ?_
          have hM16 : Mem w [] w16 [[⟨b2, 36, [.int .i64 bk, .int .i64 pg]⟩], rs5, NS5, [⟨b6, 24, [.int .i64 P5, (.slice av5 lv5 cv5)]⟩]] := hM8.pure hu16
          subst hr16
          refine stp (v := .bool true) (o_pickT rfl rfl) ?_
          refine stp (v := .bool true) (o_mv rfl) ?_
          refine h12 _ _ ?_
          clear h12
          refine ⟨(.bool true), rfl, ?_⟩
          first | exact ⟨rfl, hM16.upd⟩ | (exfalso; omega)
        ·
          refine stg rfl (v := .int .i64 e5) (o_mv rfl) ?_
          refine stg rfl (v := .bool (decide (e5 = 81))) (o_bin rfl rfl rfl) ?_
          refine stg rfl (v := .bool (decide (e5 = 81))) (o_pickF rfl rfl) ?_
          refine stp (v := .bool (decide (e5 = 81))) (o_pickT rfl rfl) ?_
          refine stp (v := .bool (decide (e5 = 81))) (o_mv rfl) ?_
          refine splitP rfl (fun c17 => ?_) (fun c17 => ?_)
          ·
            refine gyesl rfl ?_
            refine m_call (head_ok w8) rfl fun v18 w18 ⟨hr18, hu18⟩ => ?_
            have hM18 : Mem w [] w18 [[⟨b2, 36, [.int .i64 bk, .int .i64 pg]⟩], rs5, NS5, [⟨b6, 24, [.int .i64 P5, (.slice av5 lv5 cv5)]⟩]] := hM8.pure hu18
            subst hr18
            refine stp (v := .bool true) (o_pickT rfl rfl) ?_
            refine stp (v := .bool true) (o_mv rfl) ?_
            refine h12 _ _ ?_
            clear h12
            refine ⟨(.bool true), rfl, ?_⟩
            first | exact ⟨rfl, hM18.upd⟩ | (exfalso; omega)
          ·
            refine gnol rfl (by simp) ?_
            refine stp (v := .bool false) (o_pickF rfl rfl) ?_
            refine stp (v := .bool false) (o_mv rfl) ?_
            refine h12 _ _ ?_
            clear h12
            refine ⟨(.bool false), rfl, ?_⟩
            first | exact ⟨rfl, hM8.upd⟩ | (exfalso; omega)
      ·
        refine gno rfl (by simp) ?_
        refine gno rfl (by simp) ?_
        refine gno rfl (by simp) ?_
        refine splitU rfl ?_
        refine gnou rfl ?_
        refine gnou rfl ?_
        refine gno rfl (by simp) ?_
        refine stp (v := .bool false) (o_pickF rfl rfl) ?_
        refine stp (v := .bool false) (o_mv rfl) ?_
        refine splitF rfl ?_
        refine gnol rfl (by simp) ?_
        refine stp (v := .bool false) (o_pickF rfl rfl) ?_
        refine stp (v := .bool false) (o_mv rfl) ?_
        refine h12 _ _ ?_
        clear h12
        refine ⟨(.bool false), rfl, ?_⟩
        first | exact ⟨rfl, hM8.upd⟩ | (exfalso; omega)
    ·
      refine gno rfl (by simp) ?_
      refine gnol rfl (by simp) ?_
      refine gno rfl (by simp) ?_
      refine stp (v := .bool false) (o_pickF rfl rfl) ?_
      refine stp (v := .bool false) (o_mv rfl) ?_
      refine splitF rfl ?_
      refine gno rfl (by simp) ?_
      refine gno rfl (by simp) ?_
      refine gno rfl (by simp) ?_
      refine splitU rfl ?_
      refine gnou rfl ?_
      refine gnou rfl ?_
      refine gno rfl (by simp) ?_
      refine stp (v := .bool false) (o_pickF rfl rfl) ?_
      refine stp (v := .bool false) (o_mv rfl) ?_
      refine splitF rfl ?_
      refine gnol rfl (by simp) ?_
      refine stp (v := .bool false) (o_pickF rfl rfl) ?_
      refine stp (v := .bool false) (o_mv rfl) ?_
      refine h12 _ _ ?_
      clear h12
      refine ⟨(.bool false), rfl, ?_⟩
      first | exact ⟨rfl, hM8.upd⟩ | (exfalso; omega)
  ·
    refine h9 _ _ ?_
    clear h9
    refine seq fun K19 h19 => ?_
    have hy := Dc_yes hsp5 (by omega)
    have hy3 := hy.2.2.1
    have hy4 := hy.2.2.2.1
    unfold mayT at hy4
    refine m_ldA (l := [.int .i64 P5, (.slice av5 lv5 cv5)]) hM8 (i := 3) (j := 0) rfl rfl rfl rfl rfl ?_
    refine m_call (Encode_ok P5 _ ps5 w8 (hs5.rd hM8 (i := 1) rfl) (hN5 _ (hM8.res (i := 2) rfl).1) (by omega) (by simp only [inK]; omega)) rfl fun v20 w20 ⟨y20, rs20, hr20, hs20, hm20⟩ => ?_
    have hM20 : Mem w [] w20 [[⟨b2, 36, [.int .i64 bk, .int .i64 pg]⟩], rs5, NS5, [⟨b6, 24, [.int .i64 P5, (.slice av5 lv5 cv5)]⟩], rs20] := hM8.add hm20
    rw [hy.2.2.2.2] at hr20 hs20
    subst hr20
    have hel20 : (pages ++ trF bk pages.length).length = pages.length + 24 := by rw [List.length_append, trF_len]
    refine stp (v := .tuple [y20, .int .i64 0].toArray) (o_mv rfl) ?_
    refine stp (v := y20) (o_ext rfl rfl) ?_
    refine stp (v := .int .i64 0) (o_ext rfl rfl) ?_
    refine stp (v := y20) (o_mv rfl) ?_
    refine stp (v := .int .i64 0) (o_mv rfl) ?_
    refine h19 _ _ ?_
    clear h19
    refine seq fun K21 h21 => ?_
    intro wd e1 e2 e3 e4
    have hd := Upd.same e1 e2 e3 e4 []
    have hM22 := hM20.pure hd
    clear e1 e2 e3 e4
    refine ⟨(some [b2]), ?_⟩
    show vd _ _ _ _ _ _ _
    refine dq (v := .int .i64 0) (o_mv rfl) ?_
    refine dq (v := .bool true) (o_bin rfl rfl v_eqT) ?_
    refine dq (v := .bool true) (o_mv rfl) ?_
    refine dsplitT rfl ?_
    refine dgyesl rfl ?_
    refine dl (m_ldA (l := [.int .i64 P5, (.slice av5 lv5 cv5)]) hM22 (i := 3) (j := 0) rfl rfl rfl rfl rfl ?_)
    refine ⟨(fun b hb => rfl), ?_⟩
    refine dgyesl rfl ?_
    refine dl (m_call (Check_ok P5 _ ps5 wd (hs5.rd hM22 (i := 1) rfl) (hN5 _ (hM22.res (i := 2) rfl).1) (by omega) (by simp only [inK]; omega)) rfl fun v23 w23 ⟨hr23, hu23⟩ => ?_)
    have hM23 : Mem w [] w23 [[⟨b2, 36, [.int .i64 bk, .int .i64 pg]⟩], rs5, NS5, [⟨b6, 24, [.int .i64 P5, (.slice av5 lv5 cv5)]⟩], rs20] := hM22.pure hu23
    rw [chkF_0 hy.1] at hr23
    subst hr23
    have hh23 := held_upd (wr := wd) (bs := [b2]) hu23 (fun b hb => by
      simp only [List.mem_cons, List.not_mem_nil, or_false] at hb
      rw [hb]; exact ⟨(hM22.at (i := 0) (j := 0) rfl rfl).lt, by simp⟩) (fun b hb => rfl)
    refine ⟨hh23, ?_⟩
    refine dqg rfl (v := .bool true) (o_bin rfl rfl v_eqT) ?_
    refine dq (v := .bool true) (o_pickT rfl rfl) ?_
    refine dq (v := .bool true) (o_mv rfl) ?_
    refine dsplitT rfl ?_
    refine dqg rfl (v := .pointer (some ⟨b2, 0, none⟩)) (o_fa rfl rfl) ?_
    refine dqgyes rfl rfl ?_
    refine dqld rfl (by simp [isHeld]) (v := .int .i64 bk) ((hM22.at (i := 0) (j := 0) rfl rfl).cell 0) ?_
    refine dgyesl rfl ?_
    refine dl (m_ldA (l := [.int .i64 P5, (.slice av5 lv5 cv5)]) hM23 (i := 3) (j := 0) rfl rfl rfl rfl rfl ?_)
    refine ⟨hh23, ?_⟩
    refine dgyesl rfl ?_
    refine dl (m_call (spaceL_ok P5 _ ps5 w23 (hs5.rd hM23 (i := 1) rfl) (hN5 _ (hM23.res (i := 2) rfl).1) (by omega) (by simp only [inK]; omega) hy.1) rfl fun v24 w24 ⟨hr24, hu24⟩ => ?_)
    have hM24 : Mem w [] w24 [[⟨b2, 36, [.int .i64 bk, .int .i64 pg]⟩], rs5, NS5, [⟨b6, 24, [.int .i64 P5, (.slice av5 lv5 cv5)]⟩], rs20] := hM23.pure hu24
    rw [hy.2.1] at hr24
    subst hr24
    have hh24 := held_upd (wr := wd) (bs := [b2]) hu24 (fun b hb => by
      simp only [List.mem_cons, List.not_mem_nil, or_false] at hb
      rw [hb]; exact ⟨(hM23.at (i := 0) (j := 0) rfl rfl).lt, by simp⟩) hh23
    refine ⟨hh24, ?_⟩
    refine dqg rfl (v := .bool true) (o_bin rfl rfl v_eqT) ?_
    refine dq (v := .bool true) (o_pickT rfl rfl) ?_
    refine dq (v := .bool true) (o_mv rfl) ?_
    refine dsplitT rfl ?_
    refine dqg rfl (v := x) (o_mv rfl) ?_
    refine dqg rfl (v := .int .i64 (pages.length : Nat)) (o_lenR (hx.upd hM24.upd) rfl rfl) ?_
    refine dqg rfl (v := .pointer (some ⟨b2, 1, none⟩)) (o_fa rfl rfl) ?_
    refine dgyesl rfl ?_
    refine dl (m_ld (v := .int .i64 pg) hM24 (i := 0) (j := 0) rfl rfl rfl rfl ?_)
    refine ⟨hh24, ?_⟩
    refine dqg rfl (v := .bool (decide (((pages.length : Nat) : Int) = pg))) (o_bin rfl rfl rfl) ?_
    refine dq (v := .bool (decide (((pages.length : Nat) : Int) = pg))) (o_pickT rfl rfl) ?_
    refine dq (v := .bool (decide (((pages.length : Nat) : Int) = pg))) (o_mv rfl) ?_
    refine dsplitP rfl (fun c25 => ?_) (fun c25 => ?_)
    ·
      refine dqg rfl (v := y20) (o_mv rfl) ?_
      refine dqg rfl (v := .int .i64 ((pages ++ trF bk pages.length).length : Nat)) (o_lenR (hs20.rd hM24 (i := 4) rfl) rfl rfl) ?_
      refine dqg rfl (v := x) (o_mv rfl) ?_
      refine dqg rfl (v := .int .i64 (pages.length : Nat)) (o_lenR (hx.upd hM24.upd) rfl rfl) ?_
      refine dqg rfl (v := .int .i64 ((pages.length : Nat) + 24)) (o_bin rfl rfl (v_add64 (by constructor <;> omega))) ?_
      refine dqg rfl (v := .bool (decide ((((pages ++ trF bk pages.length).length : Nat) : Int) = ((pages.length : Nat) + 24)))) (o_bin rfl rfl rfl) ?_
      refine dq (v := .bool (decide ((((pages ++ trF bk pages.length).length : Nat) : Int) = ((pages.length : Nat) + 24)))) (o_pickT rfl rfl) ?_
      refine dq (v := .bool (decide ((((pages ++ trF bk pages.length).length : Nat) : Int) = ((pages.length : Nat) + 24)))) (o_mv rfl) ?_
      refine dsplitP rfl (fun c26 => ?_) (fun c26 => ?_)
      ·
        refine dqg rfl (v := y20) (o_mv rfl) ?_
        refine dqg rfl (v := x) (o_mv rfl) ?_
        refine dqg rfl (v := .int .i64 (pages.length : Nat)) (o_lenR (hx.upd hM24.upd) rfl rfl) ?_
        refine dgyes rfl rfl (dqp (m_slcO pages.length (hs20) rfl (by rw [List.length_append]; omega) (⟨_, rfl⟩) trivial fun u27 hu27 => ?_))
        show vd _ _ _ _ _ _ _
        have hu27' := SlE.eqL (m := pages) hu27 (by simp)
        refine dqg rfl (v := x) (o_mv rfl) ?_
        refine dgyesl rfl ?_
        refine dl (m_call (sameL_ok _ _ pages pages w24 (hu27'.rd hM24 (i := 4) rfl) (hx.upd hM24.upd) (by first | omega | (simp; done) | (simp; omega))) rfl fun v28 w28 ⟨hr28, hu28⟩ => ?_)
        have hM28 : Mem w [] w28 [[⟨b2, 36, [.int .i64 bk, .int .i64 pg]⟩], rs5, NS5, [⟨b6, 24, [.int .i64 P5, (.slice av5 lv5 cv5)]⟩], rs20] := hM24.pure hu28
        obtain rfl : v28 = .bool true := hr28.trans (by simp)
        clear hr28
        have hh28 := held_upd (wr := wd) (bs := [b2]) hu28 (fun b hb => by
          simp only [List.mem_cons, List.not_mem_nil, or_false] at hb
          rw [hb]; exact ⟨(hM24.at (i := 0) (j := 0) rfl rfl).lt, by simp⟩) hh24
        refine ⟨hh28, ?_⟩
        refine dq (v := .bool true) (o_pickT rfl rfl) ?_
        refine dq (v := .bool true) (o_mv rfl) ?_
        refine dsplitT rfl ?_
        refine dgyesl rfl ?_
        refine dl (m_call (head_ok w28) rfl fun v29 w29 ⟨hr29, hu29⟩ => ?_)
        have hM29 : Mem w [] w29 [[⟨b2, 36, [.int .i64 bk, .int .i64 pg]⟩], rs5, NS5, [⟨b6, 24, [.int .i64 P5, (.slice av5 lv5 cv5)]⟩], rs20] := hM28.pure hu29
        subst hr29
        have hh29 := held_upd (wr := wd) (bs := [b2]) hu29 (fun b hb => by
          simp only [List.mem_cons, List.not_mem_nil, or_false] at hb
          rw [hb]; exact ⟨(hM28.at (i := 0) (j := 0) rfl rfl).lt, by simp⟩) hh28
        refine ⟨hh29, ?_⟩
        refine dq (v := .bool true) (o_pickT rfl rfl) ?_
        refine dq (v := .bool true) (o_mv rfl) ?_
        refine h21 _ _ ?_
        clear h21
        refine ⟨(.bool true), rfl, ?_⟩
        first | exact ⟨rfl, hM29.upd⟩ | (exfalso; omega)
      ·
        refine dgno rfl (by simp) ?_
        refine dgno rfl (by simp) ?_
        refine dgno rfl (by simp) ?_
        refine dgno rfl (by simp) ?_
        refine dgno rfl (by simp) ?_
        refine dgnol rfl (by simp) ?_
        refine dq (v := .bool false) (o_pickF rfl rfl) ?_
        refine dq (v := .bool false) (o_mv rfl) ?_
        refine dsplitF rfl ?_
        refine dgnol rfl (by simp) ?_
        refine dq (v := .bool false) (o_pickF rfl rfl) ?_
        refine dq (v := .bool false) (o_mv rfl) ?_
        refine h21 _ _ ?_
        clear h21
        refine ⟨(.bool false), rfl, ?_⟩
        first | exact ⟨rfl, hM24.upd⟩ | (exfalso; omega)
    ·
      refine dgno rfl (by simp) ?_
      refine dgno rfl (by simp) ?_
      refine dgno rfl (by simp) ?_
      refine dgno rfl (by simp) ?_
      refine dgno rfl (by simp) ?_
      refine dgno rfl (by simp) ?_
      refine dq (v := .bool false) (o_pickF rfl rfl) ?_
      refine dq (v := .bool false) (o_mv rfl) ?_
      refine dsplitF rfl ?_
      refine dgno rfl (by simp) ?_
      refine dgno rfl (by simp) ?_
      refine dgno rfl (by simp) ?_
      refine dgno rfl (by simp) ?_
      refine dgno rfl (by simp) ?_
      refine dgnol rfl (by simp) ?_
      refine dq (v := .bool false) (o_pickF rfl rfl) ?_
      refine dq (v := .bool false) (o_mv rfl) ?_
      refine dsplitF rfl ?_
      refine dgnol rfl (by simp) ?_
      refine dq (v := .bool false) (o_pickF rfl rfl) ?_
      refine dq (v := .bool false) (o_mv rfl) ?_
      refine h21 _ _ ?_
      clear h21
      refine ⟨(.bool false), rfl, ?_⟩
      first | exact ⟨rfl, hM24.upd⟩ | (exfalso; omega)

theorem FootOnly_row (x : Value) (pages : List UInt8) (t : Tr) (w : World) (hx : RdE byteV w x pages) (hl : pages.length ≤ 140737488351232) (ht : t.ok w) : Calls Try.prog 9 [x, .agg (trC t).toArray].toArray w (Rt fun r w' => r = .bool true ∧ Upd [] w w') :=
  FootOnly_ok x pages t.bk t.pg w hx hl ht.kb ht.kp
