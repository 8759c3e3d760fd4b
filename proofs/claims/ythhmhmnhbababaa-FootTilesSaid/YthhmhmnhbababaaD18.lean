/- Footers there and back. -/
import Derived.Test.YthhmhmnhbababaaD17
namespace Go.Proofs.Ythhmhmnhbababaa.E
open Go
theorem enc_err {parts : Int} {ps : List Pp} (h : ¬ (encT parts ps).2 = 0) : (encT parts ps).1.length = 0 ∧ ((encT parts ps).2 = 80 ↔ chkF parts ps = 80) := by
  by_cases h1 : ftOk parts ps
  · by_cases h2 : 16777216 < (bodyF parts ps).length ∨ 268435456 < spaceF ps
    · rw [encT_full h1 h2, chkF_0 h1]; simp
    · rw [encT_ok h1 h2] at h; simp at h
  · rw [encT_no h1, chkF_80 h1]; simp
theorem enc_0 {parts : Int} {ps : List Pp} (h : (encT parts ps).2 = 0) : ftOk parts ps ∧ mayT (spaceF ps) ((pagesF (bodyF parts ps)).length : Nat) ∧ encT parts ps = (pagesF (bodyF parts ps) ++ trF (spaceF ps) (pagesF (bodyF parts ps)).length, 0) := by
  by_cases h1 : ftOk parts ps
  · by_cases h2 : 16777216 < (bodyF parts ps).length ∨ 268435456 < spaceF ps
    · rw [encT_full h1 h2] at h; simp at h
    · exact ⟨h1, enc_may h1 h2, encT_ok h1 h2⟩
  · rw [encT_no h1] at h; simp at h
theorem dc_back {parts P e : Int} {QS PS : List Pp} (hf : ftOk parts QS) (hm : mayT (spaceF QS) ((pagesF (bodyF parts QS)).length : Nat)) (h : DcSpec (pagesF (bodyF parts QS)) (spaceF QS) ((pagesF (bodyF parts QS)).length : Nat) P PS e) : e = 0 ∧ P = parts ∧ PS = QS := by
  rcases h with ⟨h0, h1, h2, h3, h4, h5, h6⟩ | ⟨h0, h1, h2, h3⟩
  · obtain ⟨rfl, rfl⟩ := h6 parts QS hf rfl
    exact ⟨h0, rfl, rfl⟩
  · exact absurd rfl (h3 parts QS hm rfl hf rfl)
theorem trail_cases {sp : Int} {n : Nat} (hm : mayT sp (n : Nat)) (size : Int) : (sp + (n : Nat) + 24 = size ∧ (trailF (trF sp n) size).2.2 = 0) ∨ (¬ sp + (n : Nat) + 24 = size ∧ (trailF (trF sp n) size).2.2 = 82) := by
  rw [trail_tr hm]
  by_cases h : sp + (n : Nat) + 24 = size
  · rw [if_pos h]; exact .inl ⟨h, rfl⟩
  · rw [if_neg h]; exact .inr ⟨h, rfl⟩

/-- winnowlaw8.FootBack -/
theorem FootBack_no (f : Ft) (other : Int) (ho : inK .i64 other) (w : World) (hf : f.ok w) (he : ¬ (encT f.parts (f.ps.map Pr.p)).2 = 0) : Calls Try.prog 8 [.agg (ftC f).toArray, .int .i64 other].toArray w (Rt fun r w' => r = .bool true ∧ Upd [] w w') := by
  obtain ⟨parts, x, ps⟩ := f
  obtain ⟨hx, hok, hl, hp⟩ := hf
  dsimp only at hx hok hl hp he
  simp only [inK] at hp ho
  have hM0 : Mem w [] w [] := Mem.nil w []
  refine calls_vc mixed Try.func8 rfl C8 (by simp [Try.ntmps8]) ?_
  refine seq fun K1 h1 => ?_
  refine m_bx (v := .agg ([.int .i64 parts, x] : List Value).toArray) hM0 rfl rfl fun b2 w3 (hM3 : Mem w [] w3 [[⟨b2, 24, [.int .i64 parts, x]⟩]]) => ?_
  refine stp (v := .bool false) (o_mv rfl) ?_
  refine h1 _ _ ?_
  clear h1
  refine seq fun K4 h4 => ?_
  refine m_ldA (l := [.int .i64 parts, x]) hM3 (i := 0) (j := 0) rfl rfl rfl rfl rfl ?_
  refine m_call (Encode_ok parts _ ps w3 (hx.upd hM3.upd) (fun p hp => (hok p hp).upd hM3.upd) (by omega) (by simp only [inK]; omega)) rfl fun v5 w5 ⟨y5, rs5, hr5, hs5, hm5⟩ => ?_
  have hM5 : Mem w [] w5 [[⟨b2, 24, [.int .i64 parts, x]⟩], rs5] := hM3.add hm5
  subst hr5
  have hee := enc_err he
  refine stp (v := .tuple [y5, .int .i64 ((encT parts (List.map Pr.p ps)).2)].toArray) (o_mv rfl) ?_
  refine stp (v := y5) (o_ext rfl rfl) ?_
  refine stp (v := .int .i64 ((encT parts (List.map Pr.p ps)).2)) (o_ext rfl rfl) ?_
  refine stp (v := y5) (o_mv rfl) ?_
  refine stp (v := .int .i64 ((encT parts (List.map Pr.p ps)).2)) (o_mv rfl) ?_
  refine h4 _ _ ?_
  clear h4
  refine seq fun K6 h6 => ?_
  refine seq fun K7 h7 => ?_
  refine stp (v := .int .i64 ((encT parts (List.map Pr.p ps)).2)) (o_mv rfl) ?_
  refine stp (v := .bool (decide (¬ ((encT parts (List.map Pr.p ps)).2) = 0))) (o_bin rfl rfl v_neq) ?_
  refine h7 _ _ ?_
  clear h7
  refine cndP rfl (fun c8 => ?_) (fun c8 => (c8 (he)).elim)
  refine seq fun K9 h9 => ?_
  refine stp (v := y5) (o_mv rfl) ?_
  refine stp (v := .int .i64 (((encT parts (List.map Pr.p ps)).1).length : Nat)) (o_lenR (hs5.rd hM5 (i := 1) rfl) rfl rfl) ?_
  refine stp (v := .bool (decide (((((encT parts (List.map Pr.p ps)).1).length : Nat) : Int) = 0))) (o_bin rfl rfl rfl) ?_
  refine stp (v := .bool (decide (((((encT parts (List.map Pr.p ps)).1).length : Nat) : Int) = 0))) (o_mv rfl) ?_
  refine splitP rfl (fun c10 => ?_) (fun c10 => ?_)
  ·
    refine stg rfl (v := .int .i64 ((encT parts (List.map Pr.p ps)).2)) (o_mv rfl) ?_
    refine stg rfl (v := .bool (decide (((encT parts (List.map Pr.p ps)).2) = 80))) (o_bin rfl rfl rfl) ?_
    refine gyesl rfl ?_
    refine m_ldA (l := [.int .i64 parts, x]) hM5 (i := 0) (j := 0) rfl rfl rfl rfl rfl ?_
    refine gyesl rfl ?_
    refine m_call (Check_ok parts _ ps w5 (hx.upd hM5.upd) (fun p hp => (hok p hp).upd hM5.upd) (by omega) (by simp only [inK]; omega)) rfl fun v11 w11 ⟨hr11, hu11⟩ => ?_
    have hM11 : Mem w [] w11 [[⟨b2, 24, [.int .i64 parts, x]⟩], rs5] := hM5.pure hu11
    subst hr11
    refine stg rfl (v := .bool (decide ((chkF parts (List.map Pr.p ps)) = 80))) (o_bin rfl rfl rfl) ?_
    refine stg rfl (v := .bool (decide ((decide (((encT parts (List.map Pr.p ps)).2) = 80)) = (decide ((chkF parts (List.map Pr.p ps)) = 80) : Bool)))) (o_beq rfl rfl (rfl)) ?_
    refine stp (v := .bool (decide ((decide (((encT parts (List.map Pr.p ps)).2) = 80)) = (decide ((chkF parts (List.map Pr.p ps)) = 80) : Bool)))) (o_pickT rfl rfl) ?_
    refine stp (v := .bool (decide ((decide (((encT parts (List.map Pr.p ps)).2) = 80)) = (decide ((chkF parts (List.map Pr.p ps)) = 80) : Bool)))) (o_mv rfl) ?_
    refine splitP rfl (fun c12 => ?_) (fun c12 => (c12 (by rw [decide_eq_decide]; exact hee.2)).elim)
    refine gyesl rfl ?_
    refine m_call (head_ok w11) rfl fun v13 w13 ⟨hr13, hu13⟩ => ?_
    have hM13 : Mem w [] w13 [[⟨b2, 24, [.int .i64 parts, x]⟩], rs5] := hM11.pure hu13
    subst hr13
    refine stp (v := .bool true) (o_pickT rfl rfl) ?_
    refine stp (v := .bool true) (o_mv rfl) ?_
    refine h9 _ _ ?_
    clear h9
    refine ⟨(.bool true), rfl, ?_⟩
    first | exact ⟨rfl, hM13.upd⟩ | (exfalso; omega)
  ·
    refine gno rfl (by simp) ?_
    refine gno rfl (by simp) ?_
    refine gnol rfl (by simp) ?_
    refine gnol rfl (by simp) ?_
    refine gno rfl (by simp) ?_
    refine gno rfl (by simp) ?_
    refine stp (v := .bool false) (o_pickF rfl rfl) ?_
    refine stp (v := .bool false) (o_mv rfl) ?_
    refine splitF rfl ?_
    refine gnol rfl (by simp) ?_
    refine stp (v := .bool false) (o_pickF rfl rfl) ?_
    refine stp (v := .bool false) (o_mv rfl) ?_
    refine h9 _ _ ?_
    clear h9
    refine ⟨(.bool false), rfl, ?_⟩
    first | exact ⟨rfl, hM5.upd⟩ | (exfalso; omega)

/-- winnowlaw8.FootBack -/
theorem FootBack_yes (f : Ft) (other : Int) (ho : inK .i64 other) (w : World) (hf : f.ok w) (he : (encT f.parts (f.ps.map Pr.p)).2 = 0) : Calls Try.prog 8 [.agg (ftC f).toArray, .int .i64 other].toArray w (Rt fun r w' => r = .bool true ∧ Upd [] w w') := by
  obtain ⟨parts, x, ps⟩ := f
  obtain ⟨hx, hok, hl, hp⟩ := hf
  dsimp only at hx hok hl hp he
  simp only [inK] at hp ho
  obtain ⟨hft, hm, henc⟩ := enc_0 he
  have hm2 := hm
  unfold mayT at hm2
  have htl := trF_len (spaceF (List.map Pr.p ps)) (pagesF (bodyF parts (List.map Pr.p ps))).length
  have hM0 : Mem w [] w [] := Mem.nil w []
  refine calls_vc mixed Try.func8 rfl C8 (by simp [Try.ntmps8]) ?_
  refine seq fun K1 h1 => ?_
  refine m_bx (v := .agg ([.int .i64 parts, x] : List Value).toArray) hM0 rfl rfl fun b2 w3 (hM3 : Mem w [] w3 [[⟨b2, 24, [.int .i64 parts, x]⟩]]) => ?_
  refine stp (v := .bool false) (o_mv rfl) ?_
  refine h1 _ _ ?_
  clear h1
  refine seq fun K4 h4 => ?_
  refine m_ldA (l := [.int .i64 parts, x]) hM3 (i := 0) (j := 0) rfl rfl rfl rfl rfl ?_
  refine m_call (Encode_ok parts _ ps w3 (hx.upd hM3.upd) (fun p hp => (hok p hp).upd hM3.upd) (by omega) (by simp only [inK]; omega)) rfl fun v5 w5 ⟨y5, rs5, hr5, hs5, hm5⟩ => ?_
  have hM5 : Mem w [] w5 [[⟨b2, 24, [.int .i64 parts, x]⟩], rs5] := hM3.add hm5
  rw [henc] at hr5 hs5
  dsimp only at hr5 hs5
  subst hr5
  have hel5 : ((pagesF (bodyF parts (List.map Pr.p ps))) ++ (trF (spaceF (List.map Pr.p ps)) (pagesF (bodyF parts (List.map Pr.p ps))).length)).length = (pagesF (bodyF parts (List.map Pr.p ps))).length + 24 := by rw [List.length_append, trF_len]
  refine stp (v := .tuple [y5, .int .i64 0].toArray) (o_mv rfl) ?_
  refine stp (v := y5) (o_ext rfl rfl) ?_
  refine stp (v := .int .i64 0) (o_ext rfl rfl) ?_
  refine stp (v := y5) (o_mv rfl) ?_
  refine stp (v := .int .i64 0) (o_mv rfl) ?_
  refine h4 _ _ ?_
  clear h4
  refine seq fun K6 h6 => ?_
  refine seq fun K7 h7 => ?_
  refine stp (v := .int .i64 0) (o_mv rfl) ?_
  refine stp (v := .bool false) (o_bin rfl rfl v_neF) ?_
  refine h7 _ _ ?_
  clear h7
  refine cndF rfl ?_
  refine h6 _ _ ?_
  clear h6
  refine seq fun K8 h8 => ?_
  refine stp (v := y5) (o_mv rfl) ?_
  refine stp (v := .int .i64 (((pagesF (bodyF parts (List.map Pr.p ps))) ++ (trF (spaceF (List.map Pr.p ps)) (pagesF (bodyF parts (List.map Pr.p ps))).length)).length : Nat)) (o_lenR (hs5.rd hM5 (i := 1) rfl) rfl rfl) ?_
  refine stp (v := .int .i64 ((pagesF (bodyF parts (List.map Pr.p ps))).length : Nat)) (o_bin rfl rfl ((v_sub64 (by omega)).trans (v_int (by omega)))) ?_
  refine stp (v := .int .i64 ((pagesF (bodyF parts (List.map Pr.p ps))).length : Nat)) (o_mv rfl) ?_
  refine h8 _ _ ?_
  clear h8
  refine seq fun K9 h9 => ?_
  refine seq fun K10 h10 => ?_
  refine stp (v := .int .i64 ((pagesF (bodyF parts (List.map Pr.p ps))).length : Nat)) (o_mv rfl) ?_
  refine stp (v := .bool (decide ((((pagesF (bodyF parts (List.map Pr.p ps))).length : Nat) : Int) < 1))) (o_bin rfl rfl rfl) ?_
  refine stp (v := .bool (decide ((((pagesF (bodyF parts (List.map Pr.p ps))).length : Nat) : Int) < 1))) (o_mv rfl) ?_
  refine splitP rfl (fun c11 => ?_) (fun c11 => ?_)
  ·
    refine gnol rfl (by simp) ?_
    refine gnol rfl (by simp) ?_
    refine gno rfl (by simp) ?_
    refine stp (v := .bool true) (o_pickT rfl rfl) ?_
    refine h10 _ _ ?_
    clear h10
    refine cndT rfl ?_
    refine seq fun K12 h12 => ?_
    refine stp (v := .bool false) (o_mv rfl) ?_
    refine h12 _ _ ?_
    clear h12
    refine ⟨(.bool false), rfl, ?_⟩
    first | exact ⟨rfl, hM5.upd⟩ | (exfalso; omega)
  ·
    refine gyesl rfl ?_
    refine m_ldA (l := [.int .i64 parts, x]) hM5 (i := 0) (j := 0) rfl rfl rfl rfl rfl ?_
    refine gyesl rfl ?_
    refine m_call (Check_ok parts _ ps w5 (hx.upd hM5.upd) (fun p hp => (hok p hp).upd hM5.upd) (by omega) (by simp only [inK]; omega)) rfl fun v13 w13 ⟨hr13, hu13⟩ => ?_
    have hM13 : Mem w [] w13 [[⟨b2, 24, [.int .i64 parts, x]⟩], rs5] := hM5.pure hu13
    rw [chkF_0 hft] at hr13
    subst hr13
    refine stg rfl (v := .bool false) (o_bin rfl rfl v_neF) ?_
    refine stp (v := .bool false) (o_pickF rfl rfl) ?_
    refine h10 _ _ ?_
    clear h10
    refine cndF rfl ?_
    refine h9 _ _ ?_
    clear h9
    refine seq fun K14 h14 => ?_
    refine m_ldA (l := [.int .i64 parts, x]) hM13 (i := 0) (j := 0) rfl rfl rfl rfl rfl ?_
    refine m_call (spaceL_ok parts _ ps w13 (hx.upd hM13.upd) (fun p hp => (hok p hp).upd hM13.upd) (by omega) (by simp only [inK]; omega) hft) rfl fun v15 w15 ⟨hr15, hu15⟩ => ?_
    have hM15 : Mem w [] w15 [[⟨b2, 24, [.int .i64 parts, x]⟩], rs5] := hM13.pure hu15
    subst hr15
    refine stp (v := y5) (o_mv rfl) ?_
    refine stp (v := .int .i64 (((pagesF (bodyF parts (List.map Pr.p ps))) ++ (trF (spaceF (List.map Pr.p ps)) (pagesF (bodyF parts (List.map Pr.p ps))).length)).length : Nat)) (o_lenR (hs5.rd hM15 (i := 1) rfl) rfl rfl) ?_
    refine stp (v := .int .i64 ((spaceF (List.map Pr.p ps)) + (((pagesF (bodyF parts (List.map Pr.p ps))) ++ (trF (spaceF (List.map Pr.p ps)) (pagesF (bodyF parts (List.map Pr.p ps))).length)).length : Nat))) (o_bin rfl rfl (v_add64 (by constructor <;> omega))) ?_
    refine stp (v := .int .i64 ((spaceF (List.map Pr.p ps)) + (((pagesF (bodyF parts (List.map Pr.p ps))) ++ (trF (spaceF (List.map Pr.p ps)) (pagesF (bodyF parts (List.map Pr.p ps))).length)).length : Nat))) (o_mv rfl) ?_
    refine h14 _ _ ?_
    clear h14
    refine seq fun K16 h16 => ?_
    refine stp (v := y5) (o_mv rfl) ?_
    refine stp (v := .int .i64 ((pagesF (bodyF parts (List.map Pr.p ps))).length : Nat)) (o_mv rfl) ?_
    refine m_slcE ((pagesF (bodyF parts (List.map Pr.p ps))).length) (((pagesF (bodyF parts (List.map Pr.p ps))) ++ (trF (spaceF (List.map Pr.p ps)) (pagesF (bodyF parts (List.map Pr.p ps))).length)).length) (hs5.rd hM15 (i := 1) rfl) rfl (by omega) (by omega) rfl ⟨_, v_int (by omega)⟩ fun u17 hu17 => ?_
    have hu17' : RdE byteV w15 u17 (trF (spaceF (List.map Pr.p ps)) (pagesF (bodyF parts (List.map Pr.p ps))).length) := by
      have e : (((pagesF (bodyF parts (List.map Pr.p ps))) ++ (trF (spaceF (List.map Pr.p ps)) (pagesF (bodyF parts (List.map Pr.p ps))).length)).take (((pagesF (bodyF parts (List.map Pr.p ps))) ++ (trF (spaceF (List.map Pr.p ps)) (pagesF (bodyF parts (List.map Pr.p ps))).length)).length)).drop ((pagesF (bodyF parts (List.map Pr.p ps))).length) = (trF (spaceF (List.map Pr.p ps)) (pagesF (bodyF parts (List.map Pr.p ps))).length) := by rw [List.take_length, List.drop_left]
      rw [e] at hu17; exact hu17
    refine stp (v := .int .i64 ((spaceF (List.map Pr.p ps)) + (((pagesF (bodyF parts (List.map Pr.p ps))) ++ (trF (spaceF (List.map Pr.p ps)) (pagesF (bodyF parts (List.map Pr.p ps))).length)).length : Nat))) (o_mv rfl) ?_
    refine m_call (Trailer_ok _ (trF (spaceF (List.map Pr.p ps)) (pagesF (bodyF parts (List.map Pr.p ps))).length) ((spaceF (List.map Pr.p ps)) + (((pagesF (bodyF parts (List.map Pr.p ps))) ++ (trF (spaceF (List.map Pr.p ps)) (pagesF (bodyF parts (List.map Pr.p ps))).length)).length : Nat)) (by simp only [inK]; omega) w15 (hu17') (by rw [trF_len]; omega)) rfl fun v18 w18 ⟨hr18, hu18⟩ => ?_
    have hM18 : Mem w [] w18 [[⟨b2, 24, [.int .i64 parts, x]⟩], rs5] := hM15.pure hu18
    rw [trail_tr hm, if_pos (by omega)] at hr18
    subst hr18
    refine stp (v := .tuple [.agg ([.int .i64 (spaceF (List.map Pr.p ps)), .int .i64 ((pagesF (bodyF parts (List.map Pr.p ps))).length : Nat)] : List Value).toArray, .int .i64 0].toArray) (o_mv rfl) ?_
    refine stp (v := .agg ([.int .i64 (spaceF (List.map Pr.p ps)), .int .i64 ((pagesF (bodyF parts (List.map Pr.p ps))).length : Nat)] : List Value).toArray) (o_ext rfl rfl) ?_
    refine stp (v := .int .i64 0) (o_ext rfl rfl) ?_
    refine m_al hM18 fun b19 w20 (hM20 : Mem w [] w20 [[⟨b2, 24, [.int .i64 parts, x]⟩], rs5, [⟨b19, 36, [.int .i64 0, .int .i64 0]⟩]]) => ?_
    refine m_stA (l := [.int .i64 (spaceF (List.map Pr.p ps)), .int .i64 ((pagesF (bodyF parts (List.map Pr.p ps))).length : Nat)]) hM20 (i := 2) rfl rfl rfl rfl (by simp [oneCells, Value.oneCell', byteV]) (by simp) fun w21 (hM21 : Mem w [] w21 [[⟨b2, 24, [.int .i64 parts, x]⟩], rs5, [⟨b19, 36, [.int .i64 (spaceF (List.map Pr.p ps)), .int .i64 ((pagesF (bodyF parts (List.map Pr.p ps))).length : Nat)]⟩]]) => ?_
    refine stp (v := .int .i64 0) (o_mv rfl) ?_
    refine h16 _ _ ?_
    clear h16
    refine seq fun K22 h22 => ?_
    intro wd e1 e2 e3 e4
    have hd := Upd.same e1 e2 e3 e4 []
    have hM23 := hM21.pure hd
    clear e1 e2 e3 e4
    refine ⟨(some [b19]), ?_⟩
    show vd _ _ _ _ _ _ _
    refine dq (v := y5) (o_mv rfl) ?_
    refine dq (v := .int .i64 ((pagesF (bodyF parts (List.map Pr.p ps))).length : Nat)) (o_mv rfl) ?_
    refine dqp (m_slcO ((pagesF (bodyF parts (List.map Pr.p ps))).length) (hs5) rfl (by omega) (⟨_, rfl⟩) trivial fun u24 hu24 => ?_)
    show vd _ _ _ _ _ _ _
    have hu24' := SlE.eqL (m := (pagesF (bodyF parts (List.map Pr.p ps)))) hu24 (by first | rw [List.take_left] | simp)
    refine dqldA (cs := [.int .i64 (spaceF (List.map Pr.p ps)), .int .i64 ((pagesF (bodyF parts (List.map Pr.p ps))).length : Nat)]) rfl (by simp [isHeld]) rfl ((hM23.at (i := 2) (j := 0) rfl rfl).agg rfl rfl) ?_
    show _ ∧ _
    refine ⟨?_, ?_⟩
    ·
      show vd _ _ _ _ _ _ _
      refine dl (m_call (Decode_ok (spaceF (List.map Pr.p ps)) ((pagesF (bodyF parts (List.map Pr.p ps))).length : Nat) _ (pagesF (bodyF parts (List.map Pr.p ps))) wd (by simp only [inK]; omega) (by simp only [inK]; omega) (hu24'.rd hM23 (i := 1) rfl) (by omega)) rfl fun v25 w25 ⟨P25, v25_, ps25, rs25, NS25, e25, hr25, hs25, hN25, hP25, hpl25, hsp25, hm25⟩ => ?_)
      have hM25 : Mem w [] w25 [[⟨b2, 24, [.int .i64 parts, x]⟩], rs5, [⟨b19, 36, [.int .i64 (spaceF (List.map Pr.p ps)), .int .i64 ((pagesF (bodyF parts (List.map Pr.p ps))).length : Nat)]⟩], rs25, NS25] := hM23.add2 hm25
      obtain ⟨he9, hP9, hq9⟩ := dc_back hft hm hsp25
      rw [he9, hP9] at hr25
      subst hr25
      obtain ⟨av25, lv25, cv25, rfl⟩ := hs25.isSlice
      have hh25 := held_upd (wr := wd) (bs := [b19]) hm25.upd (fun b hb => by
        simp only [List.mem_cons, List.not_mem_nil, or_false] at hb
        rw [hb]; exact ⟨(hM23.at (i := 2) (j := 0) rfl rfl).lt, by simp⟩) (fun b hb => rfl)
      refine ⟨hh25, ?_⟩
      refine dq (v := .tuple [.agg ([.int .i64 parts, (.slice av25 lv25 cv25)] : List Value).toArray, .int .i64 0].toArray) (o_mv rfl) ?_
      refine dq (v := .agg ([.int .i64 parts, (.slice av25 lv25 cv25)] : List Value).toArray) (o_ext rfl rfl) ?_
      refine dq (v := .int .i64 0) (o_ext rfl rfl) ?_
      refine dl (m_alU hM25 fun b26 w27 hup27 (hM27 : Mem w [] w27 [[⟨b2, 24, [.int .i64 parts, x]⟩], rs5, [⟨b19, 36, [.int .i64 (spaceF (List.map Pr.p ps)), .int .i64 ((pagesF (bodyF parts (List.map Pr.p ps))).length : Nat)]⟩], rs25, NS25, [⟨b26, 24, [.int .i64 0, .slice none 0 0]⟩]]) => ?_)
      have hh27 := held_upd (wr := wd) (bs := [b19]) hup27 (fun b hb => by
        simp only [List.mem_cons, List.not_mem_nil, or_false] at hb
        rw [hb]; exact ⟨(hM25.at (i := 2) (j := 0) rfl rfl).lt, by simp⟩) hh25
      refine ⟨hh27, ?_⟩
      refine dl (m_stAU (l := [.int .i64 parts, (.slice av25 lv25 cv25)]) hM27 (i := 5) rfl rfl rfl rfl (by simp [oneCells, Value.oneCell', byteV]) (by simp) fun w28 hup28 (hM28 : Mem w [] w28 [[⟨b2, 24, [.int .i64 parts, x]⟩], rs5, [⟨b19, 36, [.int .i64 (spaceF (List.map Pr.p ps)), .int .i64 ((pagesF (bodyF parts (List.map Pr.p ps))).length : Nat)]⟩], rs25, NS25, [⟨b26, 24, [.int .i64 parts, (.slice av25 lv25 cv25)]⟩]]) => ?_)
      have hh28 := held_upd (wr := wd) (bs := [b19]) hup28 (fun b hb => by
        simp only [List.mem_cons, List.not_mem_nil, or_false] at hb
        rw [hb]; exact ⟨(hM27.at (i := 2) (j := 0) rfl rfl).lt, hM27.apart (i := 2) (j := 0) (k := 5) rfl rfl rfl (by decide)⟩) hh27
      refine ⟨hh28, ?_⟩
      refine dq (v := .int .i64 0) (o_mv rfl) ?_
      refine h22 _ _ ?_
      clear h22
      refine seq fun K29 h29 => ?_
      refine seq fun K30 h30 => ?_
      intro wd e1 e2 e3 e4
      have hd := Upd.same e1 e2 e3 e4 []
      have hM31 := hM28.pure hd
      clear e1 e2 e3 e4
      refine ⟨(some [b2, b19]), ?_⟩
      show vd _ _ _ _ _ _ _
      refine dq (v := .int .i64 0) (o_mv rfl) ?_
      refine dq (v := .bool false) (o_bin rfl rfl v_neF) ?_
      refine dq (v := .bool false) (o_mv rfl) ?_
      refine dsplitF rfl ?_
      refine dqg rfl (v := .int .i64 0) (o_mv rfl) ?_
      refine dqg rfl (v := .bool false) (o_bin rfl rfl v_neF) ?_
      refine dq (v := .bool false) (o_pickF rfl rfl) ?_
      refine dq (v := .bool false) (o_mv rfl) ?_
      refine dsplitF rfl ?_
      refine dqg rfl (v := .pointer (some ⟨b19, 0, none⟩)) (o_fa rfl rfl) ?_
      refine dqgyes rfl rfl ?_
      refine dqldA (cs := [.int .i64 parts, x]) rfl (by simp [isHeld]) rfl ((hM31.at (i := 0) (j := 0) rfl rfl).agg rfl rfl) ?_
      refine dqgyes rfl rfl ?_
      refine dqld rfl (by simp [isHeld]) (v := .int .i64 (spaceF (List.map Pr.p ps))) ((hM31.at (i := 2) (j := 0) rfl rfl).cell 0) ?_
      refine dgyesl rfl ?_
      refine dl (m_call (spaceL_ok parts _ ps wd (hx.upd hM31.upd) (fun p hp => (hok p hp).upd hM31.upd) (by omega) (by simp only [inK]; omega) hft) rfl fun v32 w32 ⟨hr32, hu32⟩ => ?_)
      have hM32 : Mem w [] w32 [[⟨b2, 24, [.int .i64 parts, x]⟩], rs5, [⟨b19, 36, [.int .i64 (spaceF (List.map Pr.p ps)), .int .i64 ((pagesF (bodyF parts (List.map Pr.p ps))).length : Nat)]⟩], rs25, NS25, [⟨b26, 24, [.int .i64 parts, (.slice av25 lv25 cv25)]⟩]] := hM31.pure hu32
      subst hr32
      have hh32 := held_upd (wr := wd) (bs := [b2, b19]) hu32 (fun b hb => by
        simp only [List.mem_cons, List.not_mem_nil, or_false] at hb
        rcases hb with h | h
        · rw [h]; exact ⟨(hM31.at (i := 0) (j := 0) rfl rfl).lt, by simp⟩
        · rw [h]; exact ⟨(hM31.at (i := 2) (j := 0) rfl rfl).lt, by simp⟩) (fun b hb => rfl)
      refine ⟨hh32, ?_⟩
      refine dqg rfl (v := .bool false) (o_bin rfl rfl v_neF) ?_
      refine dq (v := .bool false) (o_pickF rfl rfl) ?_
      refine dq (v := .bool false) (o_mv rfl) ?_
      refine dsplitF rfl ?_
      refine dqg rfl (v := .pointer (some ⟨b19, 1, none⟩)) (o_fa rfl rfl) ?_
      refine dqg rfl (v := .int .i64 ((pagesF (bodyF parts (List.map Pr.p ps))).length : Nat)) (o_mv rfl) ?_
      refine dgyesl rfl ?_
      refine dl (m_ld (v := .int .i64 ((pagesF (bodyF parts (List.map Pr.p ps))).length : Nat)) hM32 (i := 2) (j := 0) rfl rfl rfl rfl ?_)
      refine ⟨hh32, ?_⟩
      refine dqg rfl (v := .bool false) (o_bin rfl rfl v_neF) ?_
      refine dq (v := .bool false) (o_pickF rfl rfl) ?_
      refine dq (v := .bool false) (o_mv rfl) ?_
      refine dsplitF rfl ?_
      refine dqgyes rfl rfl ?_
      refine dqldA (cs := [.int .i64 parts, x]) rfl (by simp [isHeld]) rfl ((hM31.at (i := 0) (j := 0) rfl rfl).agg rfl rfl) ?_
      refine dgyesl rfl ?_
      refine dl (m_ldA (l := [.int .i64 parts, (.slice av25 lv25 cv25)]) hM32 (i := 5) (j := 0) rfl rfl rfl rfl rfl ?_)
      refine ⟨hh32, ?_⟩
      refine dgyesl rfl ?_
      refine dl (m_call (sameFoot_eq parts _ _ ps25 ps w32 (hs25.rd hM32 (i := 3) rfl) (hN25 _ (hM32.res (i := 4) rfl).1) (hx.upd hM32.upd) (fun p hp => (hok p hp).upd hM32.upd) (by omega) hq9) rfl fun v33 w33 ⟨hr33, hu33⟩ => ?_)
      have hM33 : Mem w [] w33 [[⟨b2, 24, [.int .i64 parts, x]⟩], rs5, [⟨b19, 36, [.int .i64 (spaceF (List.map Pr.p ps)), .int .i64 ((pagesF (bodyF parts (List.map Pr.p ps))).length : Nat)]⟩], rs25, NS25, [⟨b26, 24, [.int .i64 parts, (.slice av25 lv25 cv25)]⟩]] := hM32.pure hu33
      subst hr33
      have hh33 := held_upd (wr := wd) (bs := [b2, b19]) hu33 (fun b hb => by
        simp only [List.mem_cons, List.not_mem_nil, or_false] at hb
        rcases hb with h | h
        · rw [h]; exact ⟨(hM32.at (i := 0) (j := 0) rfl rfl).lt, by simp⟩
        · rw [h]; exact ⟨(hM32.at (i := 2) (j := 0) rfl rfl).lt, by simp⟩) hh32
      refine ⟨hh33, ?_⟩
      refine dqg rfl (v := .bool false) (o_not rfl rfl) ?_
      refine dq (v := .bool false) (o_pickF rfl rfl) ?_
      refine h30 _ _ ?_
      clear h30
      refine cndF rfl ?_
      refine h29 _ _ ?_
      clear h29
      refine seq fun K34 h34 => ?_
      refine stp (v := y5) (o_mv rfl) ?_
      refine stp (v := .int .i64 ((pagesF (bodyF parts (List.map Pr.p ps))).length : Nat)) (o_mv rfl) ?_
      refine m_slcE ((pagesF (bodyF parts (List.map Pr.p ps))).length) (((pagesF (bodyF parts (List.map Pr.p ps))) ++ (trF (spaceF (List.map Pr.p ps)) (pagesF (bodyF parts (List.map Pr.p ps))).length)).length) (hs5.rd hM33 (i := 1) rfl) rfl (by omega) (by omega) rfl ⟨_, v_int (by omega)⟩ fun u35 hu35 => ?_
      have hu35' : RdE byteV w33 u35 (trF (spaceF (List.map Pr.p ps)) (pagesF (bodyF parts (List.map Pr.p ps))).length) := by
        have e : (((pagesF (bodyF parts (List.map Pr.p ps))) ++ (trF (spaceF (List.map Pr.p ps)) (pagesF (bodyF parts (List.map Pr.p ps))).length)).take (((pagesF (bodyF parts (List.map Pr.p ps))) ++ (trF (spaceF (List.map Pr.p ps)) (pagesF (bodyF parts (List.map Pr.p ps))).length)).length)).drop ((pagesF (bodyF parts (List.map Pr.p ps))).length) = (trF (spaceF (List.map Pr.p ps)) (pagesF (bodyF parts (List.map Pr.p ps))).length) := by rw [List.take_length, List.drop_left]
        rw [e] at hu35; exact hu35
      refine stp (v := .int .i64 other) (o_mv rfl) ?_
      refine m_call (Trailer_ok _ (trF (spaceF (List.map Pr.p ps)) (pagesF (bodyF parts (List.map Pr.p ps))).length) other (by simp only [inK]; omega) w33 (hu35') (by rw [trF_len]; omega)) rfl fun v36 w36 ⟨hr36, hu36⟩ => ?_
      have hM36 : Mem w [] w36 [[⟨b2, 24, [.int .i64 parts, x]⟩], rs5, [⟨b19, 36, [.int .i64 (spaceF (List.map Pr.p ps)), .int .i64 ((pagesF (bodyF parts (List.map Pr.p ps))).length : Nat)]⟩], rs25, NS25, [⟨b26, 24, [.int .i64 parts, (.slice av25 lv25 cv25)]⟩]] := hM33.pure hu36
      subst hr36
      have hz36 := trail_cases hm other
      refine stp (v := .tuple [.agg ([.int .i64 ((trailF (trF (spaceF (List.map Pr.p ps)) (pagesF (bodyF parts (List.map Pr.p ps))).length) other).1), .int .i64 ((trailF (trF (spaceF (List.map Pr.p ps)) (pagesF (bodyF parts (List.map Pr.p ps))).length) other).2.1)] : List Value).toArray, .int .i64 ((trailF (trF (spaceF (List.map Pr.p ps)) (pagesF (bodyF parts (List.map Pr.p ps))).length) other).2.2)].toArray) (o_mv rfl) ?_
      refine stp (v := .agg ([.int .i64 ((trailF (trF (spaceF (List.map Pr.p ps)) (pagesF (bodyF parts (List.map Pr.p ps))).length) other).1), .int .i64 ((trailF (trF (spaceF (List.map Pr.p ps)) (pagesF (bodyF parts (List.map Pr.p ps))).length) other).2.1)] : List Value).toArray) (o_ext rfl rfl) ?_
      refine stp (v := .int .i64 ((trailF (trF (spaceF (List.map Pr.p ps)) (pagesF (bodyF parts (List.map Pr.p ps))).length) other).2.2)) (o_ext rfl rfl) ?_
      refine m_al hM36 fun b37 w38 (hM38 : Mem w [] w38 [[⟨b2, 24, [.int .i64 parts, x]⟩], rs5, [⟨b19, 36, [.int .i64 (spaceF (List.map Pr.p ps)), .int .i64 ((pagesF (bodyF parts (List.map Pr.p ps))).length : Nat)]⟩], rs25, NS25, [⟨b26, 24, [.int .i64 parts, (.slice av25 lv25 cv25)]⟩], [⟨b37, 36, [.int .i64 0, .int .i64 0]⟩]]) => ?_
      refine m_stA (l := [.int .i64 ((trailF (trF (spaceF (List.map Pr.p ps)) (pagesF (bodyF parts (List.map Pr.p ps))).length) other).1), .int .i64 ((trailF (trF (spaceF (List.map Pr.p ps)) (pagesF (bodyF parts (List.map Pr.p ps))).length) other).2.1)]) hM38 (i := 6) rfl rfl rfl rfl (by simp [oneCells, Value.oneCell', byteV]) (by simp) fun w39 (hM39 : Mem w [] w39 [[⟨b2, 24, [.int .i64 parts, x]⟩], rs5, [⟨b19, 36, [.int .i64 (spaceF (List.map Pr.p ps)), .int .i64 ((pagesF (bodyF parts (List.map Pr.p ps))).length : Nat)]⟩], rs25, NS25, [⟨b26, 24, [.int .i64 parts, (.slice av25 lv25 cv25)]⟩], [⟨b37, 36, [.int .i64 ((trailF (trF (spaceF (List.map Pr.p ps)) (pagesF (bodyF parts (List.map Pr.p ps))).length) other).1), .int .i64 ((trailF (trF (spaceF (List.map Pr.p ps)) (pagesF (bodyF parts (List.map Pr.p ps))).length) other).2.1)]⟩]]) => ?_
      refine stp (v := .int .i64 ((trailF (trF (spaceF (List.map Pr.p ps)) (pagesF (bodyF parts (List.map Pr.p ps))).length) other).2.2)) (o_mv rfl) ?_
      refine h34 _ _ ?_
      clear h34
      refine seq fun K40 h40 => ?_
      refine stp (v := .int .i64 ((trailF (trF (spaceF (List.map Pr.p ps)) (pagesF (bodyF parts (List.map Pr.p ps))).length) other).2.2)) (o_mv rfl) ?_
      refine stp (v := .bool (decide (((trailF (trF (spaceF (List.map Pr.p ps)) (pagesF (bodyF parts (List.map Pr.p ps))).length) other).2.2) = 0))) (o_bin rfl rfl rfl) ?_
      refine stp (v := .int .i64 other) (o_mv rfl) ?_
      refine stp (v := .int .i64 ((spaceF (List.map Pr.p ps)) + (((pagesF (bodyF parts (List.map Pr.p ps))) ++ (trF (spaceF (List.map Pr.p ps)) (pagesF (bodyF parts (List.map Pr.p ps))).length)).length : Nat))) (o_mv rfl) ?_
      refine stp (v := .bool (decide (other = ((spaceF (List.map Pr.p ps)) + (((pagesF (bodyF parts (List.map Pr.p ps))) ++ (trF (spaceF (List.map Pr.p ps)) (pagesF (bodyF parts (List.map Pr.p ps))).length)).length : Nat))))) (o_bin rfl rfl rfl) ?_
      refine stp (v := .bool (decide ((decide (((trailF (trF (spaceF (List.map Pr.p ps)) (pagesF (bodyF parts (List.map Pr.p ps))).length) other).2.2) = 0)) = (decide (other = ((spaceF (List.map Pr.p ps)) + (((pagesF (bodyF parts (List.map Pr.p ps))) ++ (trF (spaceF (List.map Pr.p ps)) (pagesF (bodyF parts (List.map Pr.p ps))).length)).length : Nat))) : Bool)))) (o_beq rfl rfl (rfl)) ?_
      refine stp (v := .bool (decide ((decide (((trailF (trF (spaceF (List.map Pr.p ps)) (pagesF (bodyF parts (List.map Pr.p ps))).length) other).2.2) = 0)) = (decide (other = ((spaceF (List.map Pr.p ps)) + (((pagesF (bodyF parts (List.map Pr.p ps))) ++ (trF (spaceF (List.map Pr.p ps)) (pagesF (bodyF parts (List.map Pr.p ps))).length)).length : Nat))) : Bool)))) (o_mv rfl) ?_
      refine splitP rfl (fun c41 => ?_) (fun c41 => (c41 (by rw [decide_eq_decide]; omega)).elim)
      refine stg rfl (v := .int .i64 ((trailF (trF (spaceF (List.map Pr.p ps)) (pagesF (bodyF parts (List.map Pr.p ps))).length) other).2.2)) (o_mv rfl) ?_
      refine stg rfl (v := .bool (decide (((trailF (trF (spaceF (List.map Pr.p ps)) (pagesF (bodyF parts (List.map Pr.p ps))).length) other).2.2) = 0))) (o_bin rfl rfl rfl) ?_
      refine stg rfl (v := .bool (decide (((trailF (trF (spaceF (List.map Pr.p ps)) (pagesF (bodyF parts (List.map Pr.p ps))).length) other).2.2) = 0))) (o_mv rfl) ?_
      refine splitP rfl (fun c42 => ?_) (fun c42 => ?_)
      ·
        refine gno rfl (by simp) ?_
        refine gno rfl (by simp) ?_
        refine stg rfl (v := .bool true) (o_pickT rfl rfl) ?_
        refine stp (v := .bool true) (o_pickT rfl rfl) ?_
        refine stp (v := .bool true) (o_mv rfl) ?_
        refine splitT rfl ?_
        refine gyesl rfl ?_
        refine m_call (head_ok w39) rfl fun v43 w43 ⟨hr43, hu43⟩ => ?_
        have hM43 : Mem w [] w43 [[⟨b2, 24, [.int .i64 parts, x]⟩], rs5, [⟨b19, 36, [.int .i64 (spaceF (List.map Pr.p ps)), .int .i64 ((pagesF (bodyF parts (List.map Pr.p ps))).length : Nat)]⟩], rs25, NS25, [⟨b26, 24, [.int .i64 parts, (.slice av25 lv25 cv25)]⟩], [⟨b37, 36, [.int .i64 ((trailF (trF (spaceF (List.map Pr.p ps)) (pagesF (bodyF parts (List.map Pr.p ps))).length) other).1), .int .i64 ((trailF (trF (spaceF (List.map Pr.p ps)) (pagesF (bodyF parts (List.map Pr.p ps))).length) other).2.1)]⟩]] := hM39.pure hu43
        subst hr43
        refine stp (v := .bool true) (o_pickT rfl rfl) ?_
        refine stp (v := .bool true) (o_mv rfl) ?_
        refine h40 _ _ ?_
        clear h40
        refine ⟨(.bool true), rfl, ?_⟩
        first | exact ⟨rfl, hM43.upd⟩ | (exfalso; omega)
      ·
        refine stg rfl (v := .int .i64 ((trailF (trF (spaceF (List.map Pr.p ps)) (pagesF (bodyF parts (List.map Pr.p ps))).length) other).2.2)) (o_mv rfl) ?_
        refine stg rfl (v := .bool (decide (((trailF (trF (spaceF (List.map Pr.p ps)) (pagesF (bodyF parts (List.map Pr.p ps))).length) other).2.2) = 82))) (o_bin rfl rfl rfl) ?_
        refine stg rfl (v := .bool (decide (((trailF (trF (spaceF (List.map Pr.p ps)) (pagesF (bodyF parts (List.map Pr.p ps))).length) other).2.2) = 82))) (o_pickF rfl rfl) ?_
        refine stp (v := .bool (decide (((trailF (trF (spaceF (List.map Pr.p ps)) (pagesF (bodyF parts (List.map Pr.p ps))).length) other).2.2) = 82))) (o_pickT rfl rfl) ?_
        refine stp (v := .bool (decide (((trailF (trF (spaceF (List.map Pr.p ps)) (pagesF (bodyF parts (List.map Pr.p ps))).length) other).2.2) = 82))) (o_mv rfl) ?_
        refine splitP rfl (fun c44 => ?_) (fun c44 => ?_)
        ·
          refine gyesl rfl ?_
          refine m_call (head_ok w39) rfl fun v45 w45 ⟨hr45, hu45⟩ => ?_
          have hM45 : Mem w [] w45 [[⟨b2, 24, [.int .i64 parts, x]⟩], rs5, [⟨b19, 36, [.int .i64 (spaceF (List.map Pr.p ps)), .int .i64 ((pagesF (bodyF parts (List.map Pr.p ps))).length : Nat)]⟩], rs25, NS25, [⟨b26, 24, [.int .i64 parts, (.slice av25 lv25 cv25)]⟩], [⟨b37, 36, [.int .i64 ((trailF (trF (spaceF (List.map Pr.p ps)) (pagesF (bodyF parts (List.map Pr.p ps))).length) other).1), .int .i64 ((trailF (trF (spaceF (List.map Pr.p ps)) (pagesF (bodyF parts (List.map Pr.p ps))).length) other).2.1)]⟩]] := hM39.pure hu45
          subst hr45
          refine stp (v := .bool true) (o_pickT rfl rfl) ?_
          refine stp (v := .bool true) (o_mv rfl) ?_
          refine h40 _ _ ?_
          clear h40
          refine ⟨(.bool true), rfl, ?_⟩
          first | exact ⟨rfl, hM45.upd⟩ | (exfalso; omega)
        ·
          refine gnol rfl (by simp) ?_
          refine stp (v := .bool false) (o_pickF rfl rfl) ?_
          refine stp (v := .bool false) (o_mv rfl) ?_
          refine h40 _ _ ?_
          clear h40
          refine ⟨(.bool false), rfl, ?_⟩
          first | exact ⟨rfl, hM39.upd⟩ | (exfalso; omega)
    ·
      show vd _ _ _ _ _ _ _
      refine dl (m_alU hM23 fun b46 w47 hup47 (hM47 : Mem w [] w47 [[⟨b2, 24, [.int .i64 parts, x]⟩], rs5, [⟨b19, 36, [.int .i64 (spaceF (List.map Pr.p ps)), .int .i64 ((pagesF (bodyF parts (List.map Pr.p ps))).length : Nat)]⟩], [⟨b46, 24, [.int .i64 0, .slice none 0 0]⟩]]) => ?_)
      have hh47 := held_upd (wr := wd) (bs := [b19]) hup47 (fun b hb => by
        simp only [List.mem_cons, List.not_mem_nil, or_false] at hb
        rw [hb]; exact ⟨(hM23.at (i := 2) (j := 0) rfl rfl).lt, by simp⟩) (fun b hb => rfl)
      refine ⟨hh47, ?_⟩
      refine dl (m_call (Decode_ok (spaceF (List.map Pr.p ps)) ((pagesF (bodyF parts (List.map Pr.p ps))).length : Nat) _ (pagesF (bodyF parts (List.map Pr.p ps))) w47 (by simp only [inK]; omega) (by simp only [inK]; omega) (hu24'.rd hM47 (i := 1) rfl) (by omega)) rfl fun v48 w48 ⟨P48, v48_, ps48, rs48, NS48, e48, hr48, hs48, hN48, hP48, hpl48, hsp48, hm48⟩ => ?_)
      have hM48 : Mem w [] w48 [[⟨b2, 24, [.int .i64 parts, x]⟩], rs5, [⟨b19, 36, [.int .i64 (spaceF (List.map Pr.p ps)), .int .i64 ((pagesF (bodyF parts (List.map Pr.p ps))).length : Nat)]⟩], [⟨b46, 24, [.int .i64 0, .slice none 0 0]⟩], rs48, NS48] := hM47.add2 hm48
      obtain ⟨he9, hP9, hq9⟩ := dc_back hft hm hsp48
      rw [he9, hP9] at hr48
      subst hr48
      obtain ⟨av48, lv48, cv48, rfl⟩ := hs48.isSlice
      have hh48 := held_upd (wr := wd) (bs := [b19]) hm48.upd (fun b hb => by
        simp only [List.mem_cons, List.not_mem_nil, or_false] at hb
        rw [hb]; exact ⟨(hM47.at (i := 2) (j := 0) rfl rfl).lt, by simp⟩) hh47
      refine ⟨hh48, ?_⟩
      refine dq (v := .tuple [.agg ([.int .i64 parts, (.slice av48 lv48 cv48)] : List Value).toArray, .int .i64 0].toArray) (o_mv rfl) ?_
      refine dq (v := .agg ([.int .i64 parts, (.slice av48 lv48 cv48)] : List Value).toArray) (o_ext rfl rfl) ?_
      refine dq (v := .int .i64 0) (o_ext rfl rfl) ?_
      refine dl (m_stAU (l := [.int .i64 parts, (.slice av48 lv48 cv48)]) hM48 (i := 3) rfl rfl rfl rfl (by simp [oneCells, Value.oneCell', byteV]) (by simp) fun w49 hup49 (hM49 : Mem w [] w49 [[⟨b2, 24, [.int .i64 parts, x]⟩], rs5, [⟨b19, 36, [.int .i64 (spaceF (List.map Pr.p ps)), .int .i64 ((pagesF (bodyF parts (List.map Pr.p ps))).length : Nat)]⟩], [⟨b46, 24, [.int .i64 parts, (.slice av48 lv48 cv48)]⟩], rs48, NS48]) => ?_)
      have hh49 := held_upd (wr := wd) (bs := [b19]) hup49 (fun b hb => by
        simp only [List.mem_cons, List.not_mem_nil, or_false] at hb
        rw [hb]; exact ⟨(hM48.at (i := 2) (j := 0) rfl rfl).lt, hM48.apart (i := 2) (j := 0) (k := 3) rfl rfl rfl (by decide)⟩) hh48
      refine ⟨hh49, ?_⟩
      refine dq (v := .int .i64 0) (o_mv rfl) ?_
      refine h22 _ _ ?_
      clear h22
      refine seq fun K50 h50 => ?_
      refine seq fun K51 h51 => ?_
      intro wd e1 e2 e3 e4
      have hd := Upd.same e1 e2 e3 e4 []
      have hM52 := hM49.pure hd
      clear e1 e2 e3 e4
      refine ⟨(some [b2, b19]), ?_⟩
      show vd _ _ _ _ _ _ _
      refine dq (v := .int .i64 0) (o_mv rfl) ?_
      refine dq (v := .bool false) (o_bin rfl rfl v_neF) ?_
      refine dq (v := .bool false) (o_mv rfl) ?_
      refine dsplitF rfl ?_
      refine dqg rfl (v := .int .i64 0) (o_mv rfl) ?_
      refine dqg rfl (v := .bool false) (o_bin rfl rfl v_neF) ?_
      refine dq (v := .bool false) (o_pickF rfl rfl) ?_
      refine dq (v := .bool false) (o_mv rfl) ?_
      refine dsplitF rfl ?_
      refine dqg rfl (v := .pointer (some ⟨b19, 0, none⟩)) (o_fa rfl rfl) ?_
      refine dqgyes rfl rfl ?_
      refine dqldA (cs := [.int .i64 parts, x]) rfl (by simp [isHeld]) rfl ((hM52.at (i := 0) (j := 0) rfl rfl).agg rfl rfl) ?_
      refine dqgyes rfl rfl ?_
      refine dqld rfl (by simp [isHeld]) (v := .int .i64 (spaceF (List.map Pr.p ps))) ((hM52.at (i := 2) (j := 0) rfl rfl).cell 0) ?_
      refine dgyesl rfl ?_
      refine dl (m_call (spaceL_ok parts _ ps wd (hx.upd hM52.upd) (fun p hp => (hok p hp).upd hM52.upd) (by omega) (by simp only [inK]; omega) hft) rfl fun v53 w53 ⟨hr53, hu53⟩ => ?_)
      have hM53 : Mem w [] w53 [[⟨b2, 24, [.int .i64 parts, x]⟩], rs5, [⟨b19, 36, [.int .i64 (spaceF (List.map Pr.p ps)), .int .i64 ((pagesF (bodyF parts (List.map Pr.p ps))).length : Nat)]⟩], [⟨b46, 24, [.int .i64 parts, (.slice av48 lv48 cv48)]⟩], rs48, NS48] := hM52.pure hu53
      subst hr53
      have hh53 := held_upd (wr := wd) (bs := [b2, b19]) hu53 (fun b hb => by
        simp only [List.mem_cons, List.not_mem_nil, or_false] at hb
        rcases hb with h | h
        · rw [h]; exact ⟨(hM52.at (i := 0) (j := 0) rfl rfl).lt, by simp⟩
        · rw [h]; exact ⟨(hM52.at (i := 2) (j := 0) rfl rfl).lt, by simp⟩) (fun b hb => rfl)
      refine ⟨hh53, ?_⟩
      refine dqg rfl (v := .bool false) (o_bin rfl rfl v_neF) ?_
      refine dq (v := .bool false) (o_pickF rfl rfl) ?_
      refine dq (v := .bool false) (o_mv rfl) ?_
      refine dsplitF rfl ?_
      refine dqg rfl (v := .pointer (some ⟨b19, 1, none⟩)) (o_fa rfl rfl) ?_
      refine dqg rfl (v := .int .i64 ((pagesF (bodyF parts (List.map Pr.p ps))).length : Nat)) (o_mv rfl) ?_
      refine dgyesl rfl ?_
      refine dl (m_ld (v := .int .i64 ((pagesF (bodyF parts (List.map Pr.p ps))).length : Nat)) hM53 (i := 2) (j := 0) rfl rfl rfl rfl ?_)
      refine ⟨hh53, ?_⟩
      refine dqg rfl (v := .bool false) (o_bin rfl rfl v_neF) ?_
      refine dq (v := .bool false) (o_pickF rfl rfl) ?_
      refine dq (v := .bool false) (o_mv rfl) ?_
      refine dsplitF rfl ?_
      refine dqgyes rfl rfl ?_
      refine dqldA (cs := [.int .i64 parts, x]) rfl (by simp [isHeld]) rfl ((hM52.at (i := 0) (j := 0) rfl rfl).agg rfl rfl) ?_
      refine dgyesl rfl ?_
      refine dl (m_ldA (l := [.int .i64 parts, (.slice av48 lv48 cv48)]) hM53 (i := 3) (j := 0) rfl rfl rfl rfl rfl ?_)
      refine ⟨hh53, ?_⟩
      refine dgyesl rfl ?_
      refine dl (m_call (sameFoot_eq parts _ _ ps48 ps w53 (hs48.rd hM53 (i := 4) rfl) (hN48 _ (hM53.res (i := 5) rfl).1) (hx.upd hM53.upd) (fun p hp => (hok p hp).upd hM53.upd) (by omega) hq9) rfl fun v54 w54 ⟨hr54, hu54⟩ => ?_)
      have hM54 : Mem w [] w54 [[⟨b2, 24, [.int .i64 parts, x]⟩], rs5, [⟨b19, 36, [.int .i64 (spaceF (List.map Pr.p ps)), .int .i64 ((pagesF (bodyF parts (List.map Pr.p ps))).length : Nat)]⟩], [⟨b46, 24, [.int .i64 parts, (.slice av48 lv48 cv48)]⟩], rs48, NS48] := hM53.pure hu54
      subst hr54
      have hh54 := held_upd (wr := wd) (bs := [b2, b19]) hu54 (fun b hb => by
        simp only [List.mem_cons, List.not_mem_nil, or_false] at hb
        rcases hb with h | h
        · rw [h]; exact ⟨(hM53.at (i := 0) (j := 0) rfl rfl).lt, by simp⟩
        · rw [h]; exact ⟨(hM53.at (i := 2) (j := 0) rfl rfl).lt, by simp⟩) hh53
      refine ⟨hh54, ?_⟩
      refine dqg rfl (v := .bool false) (o_not rfl rfl) ?_
      refine dq (v := .bool false) (o_pickF rfl rfl) ?_
      refine h51 _ _ ?_
      clear h51
      refine cndF rfl ?_
      refine h50 _ _ ?_
      clear h50
      refine seq fun K55 h55 => ?_
      refine stp (v := y5) (o_mv rfl) ?_
      refine stp (v := .int .i64 ((pagesF (bodyF parts (List.map Pr.p ps))).length : Nat)) (o_mv rfl) ?_
      refine m_slcE ((pagesF (bodyF parts (List.map Pr.p ps))).length) (((pagesF (bodyF parts (List.map Pr.p ps))) ++ (trF (spaceF (List.map Pr.p ps)) (pagesF (bodyF parts (List.map Pr.p ps))).length)).length) (hs5.rd hM54 (i := 1) rfl) rfl (by omega) (by omega) rfl ⟨_, v_int (by omega)⟩ fun u56 hu56 => ?_
      have hu56' : RdE byteV w54 u56 (trF (spaceF (List.map Pr.p ps)) (pagesF (bodyF parts (List.map Pr.p ps))).length) := by
        have e : (((pagesF (bodyF parts (List.map Pr.p ps))) ++ (trF (spaceF (List.map Pr.p ps)) (pagesF (bodyF parts (List.map Pr.p ps))).length)).take (((pagesF (bodyF parts (List.map Pr.p ps))) ++ (trF (spaceF (List.map Pr.p ps)) (pagesF (bodyF parts (List.map Pr.p ps))).length)).length)).drop ((pagesF (bodyF parts (List.map Pr.p ps))).length) = (trF (spaceF (List.map Pr.p ps)) (pagesF (bodyF parts (List.map Pr.p ps))).length) := by rw [List.take_length, List.drop_left]
        rw [e] at hu56; exact hu56
      refine stp (v := .int .i64 other) (o_mv rfl) ?_
      refine m_call (Trailer_ok _ (trF (spaceF (List.map Pr.p ps)) (pagesF (bodyF parts (List.map Pr.p ps))).length) other (by simp only [inK]; omega) w54 (hu56') (by rw [trF_len]; omega)) rfl fun v57 w57 ⟨hr57, hu57⟩ => ?_
      have hM57 : Mem w [] w57 [[⟨b2, 24, [.int .i64 parts, x]⟩], rs5, [⟨b19, 36, [.int .i64 (spaceF (List.map Pr.p ps)), .int .i64 ((pagesF (bodyF parts (List.map Pr.p ps))).length : Nat)]⟩], [⟨b46, 24, [.int .i64 parts, (.slice av48 lv48 cv48)]⟩], rs48, NS48] := hM54.pure hu57
      subst hr57
      have hz57 := trail_cases hm other
      refine stp (v := .tuple [.agg ([.int .i64 ((trailF (trF (spaceF (List.map Pr.p ps)) (pagesF (bodyF parts (List.map Pr.p ps))).length) other).1), .int .i64 ((trailF (trF (spaceF (List.map Pr.p ps)) (pagesF (bodyF parts (List.map Pr.p ps))).length) other).2.1)] : List Value).toArray, .int .i64 ((trailF (trF (spaceF (List.map Pr.p ps)) (pagesF (bodyF parts (List.map Pr.p ps))).length) other).2.2)].toArray) (o_mv rfl) ?_
      refine stp (v := .agg ([.int .i64 ((trailF (trF (spaceF (List.map Pr.p ps)) (pagesF (bodyF parts (List.map Pr.p ps))).length) other).1), .int .i64 ((trailF (trF (spaceF (List.map Pr.p ps)) (pagesF (bodyF parts (List.map Pr.p ps))).length) other).2.1)] : List Value).toArray) (o_ext rfl rfl) ?_
      refine stp (v := .int .i64 ((trailF (trF (spaceF (List.map Pr.p ps)) (pagesF (bodyF parts (List.map Pr.p ps))).length) other).2.2)) (o_ext rfl rfl) ?_
      refine m_al hM57 fun b58 w59 (hM59 : Mem w [] w59 [[⟨b2, 24, [.int .i64 parts, x]⟩], rs5, [⟨b19, 36, [.int .i64 (spaceF (List.map Pr.p ps)), .int .i64 ((pagesF (bodyF parts (List.map Pr.p ps))).length : Nat)]⟩], [⟨b46, 24, [.int .i64 parts, (.slice av48 lv48 cv48)]⟩], rs48, NS48, [⟨b58, 36, [.int .i64 0, .int .i64 0]⟩]]) => ?_
      refine m_stA (l := [.int .i64 ((trailF (trF (spaceF (List.map Pr.p ps)) (pagesF (bodyF parts (List.map Pr.p ps))).length) other).1), .int .i64 ((trailF (trF (spaceF (List.map Pr.p ps)) (pagesF (bodyF parts (List.map Pr.p ps))).length) other).2.1)]) hM59 (i := 6) rfl rfl rfl rfl (by simp [oneCells, Value.oneCell', byteV]) (by simp) fun w60 (hM60 : Mem w [] w60 [[⟨b2, 24, [.int .i64 parts, x]⟩], rs5, [⟨b19, 36, [.int .i64 (spaceF (List.map Pr.p ps)), .int .i64 ((pagesF (bodyF parts (List.map Pr.p ps))).length : Nat)]⟩], [⟨b46, 24, [.int .i64 parts, (.slice av48 lv48 cv48)]⟩], rs48, NS48, [⟨b58, 36, [.int .i64 ((trailF (trF (spaceF (List.map Pr.p ps)) (pagesF (bodyF parts (List.map Pr.p ps))).length) other).1), .int .i64 ((trailF (trF (spaceF (List.map Pr.p ps)) (pagesF (bodyF parts (List.map Pr.p ps))).length) other).2.1)]⟩]]) => ?_
      refine stp (v := .int .i64 ((trailF (trF (spaceF (List.map Pr.p ps)) (pagesF (bodyF parts (List.map Pr.p ps))).length) other).2.2)) (o_mv rfl) ?_
      refine h55 _ _ ?_
      clear h55
      refine seq fun K61 h61 => ?_
      refine stp (v := .int .i64 ((trailF (trF (spaceF (List.map Pr.p ps)) (pagesF (bodyF parts (List.map Pr.p ps))).length) other).2.2)) (o_mv rfl) ?_
      refine stp (v := .bool (decide (((trailF (trF (spaceF (List.map Pr.p ps)) (pagesF (bodyF parts (List.map Pr.p ps))).length) other).2.2) = 0))) (o_bin rfl rfl rfl) ?_
      refine stp (v := .int .i64 other) (o_mv rfl) ?_
      refine stp (v := .int .i64 ((spaceF (List.map Pr.p ps)) + (((pagesF (bodyF parts (List.map Pr.p ps))) ++ (trF (spaceF (List.map Pr.p ps)) (pagesF (bodyF parts (List.map Pr.p ps))).length)).length : Nat))) (o_mv rfl) ?_
      refine stp (v := .bool (decide (other = ((spaceF (List.map Pr.p ps)) + (((pagesF (bodyF parts (List.map Pr.p ps))) ++ (trF (spaceF (List.map Pr.p ps)) (pagesF (bodyF parts (List.map Pr.p ps))).length)).length : Nat))))) (o_bin rfl rfl rfl) ?_
      refine stp (v := .bool (decide ((decide (((trailF (trF (spaceF (List.map Pr.p ps)) (pagesF (bodyF parts (List.map Pr.p ps))).length) other).2.2) = 0)) = (decide (other = ((spaceF (List.map Pr.p ps)) + (((pagesF (bodyF parts (List.map Pr.p ps))) ++ (trF (spaceF (List.map Pr.p ps)) (pagesF (bodyF parts (List.map Pr.p ps))).length)).length : Nat))) : Bool)))) (o_beq rfl rfl (rfl)) ?_
      refine stp (v := .bool (decide ((decide (((trailF (trF (spaceF (List.map Pr.p ps)) (pagesF (bodyF parts (List.map Pr.p ps))).length) other).2.2) = 0)) = (decide (other = ((spaceF (List.map Pr.p ps)) + (((pagesF (bodyF parts (List.map Pr.p ps))) ++ (trF (spaceF (List.map Pr.p ps)) (pagesF (bodyF parts (List.map Pr.p ps))).length)).length : Nat))) : Bool)))) (o_mv rfl) ?_
      refine splitP rfl (fun c62 => ?_) (fun c62 => (c62 (by rw [decide_eq_decide]; omega)).elim)
      refine stg rfl (v := .int .i64 ((trailF (trF (spaceF (List.map Pr.p ps)) (pagesF (bodyF parts (List.map Pr.p ps))).length) other).2.2)) (o_mv rfl) ?_
      refine stg rfl (v := .bool (decide (((trailF (trF (spaceF (List.map Pr.p ps)) (pagesF (bodyF parts (List.map Pr.p ps))).length) other).2.2) = 0))) (o_bin rfl rfl rfl) ?_
      refine stg rfl (v := .bool (decide (((trailF (trF (spaceF (List.map Pr.p ps)) (pagesF (bodyF parts (List.map Pr.p ps))).length) other).2.2) = 0))) (o_mv rfl) ?_
      refine splitP rfl (fun c63 => ?_) (fun c63 => ?_)
      ·
        refine gno rfl (by simp) ?_
        refine gno rfl (by simp) ?_
        refine stg rfl (v := .bool true) (o_pickT rfl rfl) ?_
        refine stp (v := .bool true) (o_pickT rfl rfl) ?_
        refine stp (v := .bool true) (o_mv rfl) ?_
        refine splitT rfl ?_
        refine gyesl rfl ?_
        refine m_call (head_ok w60) rfl fun v64 w64 ⟨hr64, hu64⟩ => ?_
        have hM64 : Mem w [] w64 [[⟨b2, 24, [.int .i64 parts, x]⟩], rs5, [⟨b19, 36, [.int .i64 (spaceF (List.map Pr.p ps)), .int .i64 ((pagesF (bodyF parts (List.map Pr.p ps))).length : Nat)]⟩], [⟨b46, 24, [.int .i64 parts, (.slice av48 lv48 cv48)]⟩], rs48, NS48, [⟨b58, 36, [.int .i64 ((trailF (trF (spaceF (List.map Pr.p ps)) (pagesF (bodyF parts (List.map Pr.p ps))).length) other).1), .int .i64 ((trailF (trF (spaceF (List.map Pr.p ps)) (pagesF (bodyF parts (List.map Pr.p ps))).length) other).2.1)]⟩]] := hM60.pure hu64
        subst hr64
        refine stp (v := .bool true) (o_pickT rfl rfl) ?_
        refine stp (v := .bool true) (o_mv rfl) ?_
        refine h61 _ _ ?_
        clear h61
        refine ⟨(.bool true), rfl, ?_⟩
        first | exact ⟨rfl, hM64.upd⟩ | (exfalso; omega)
      ·
        refine stg rfl (v := .int .i64 ((trailF (trF (spaceF (List.map Pr.p ps)) (pagesF (bodyF parts (List.map Pr.p ps))).length) other).2.2)) (o_mv rfl) ?_
        refine stg rfl (v := .bool (decide (((trailF (trF (spaceF (List.map Pr.p ps)) (pagesF (bodyF parts (List.map Pr.p ps))).length) other).2.2) = 82))) (o_bin rfl rfl rfl) ?_
        refine stg rfl (v := .bool (decide (((trailF (trF (spaceF (List.map Pr.p ps)) (pagesF (bodyF parts (List.map Pr.p ps))).length) other).2.2) = 82))) (o_pickF rfl rfl) ?_
        refine stp (v := .bool (decide (((trailF (trF (spaceF (List.map Pr.p ps)) (pagesF (bodyF parts (List.map Pr.p ps))).length) other).2.2) = 82))) (o_pickT rfl rfl) ?_
        refine stp (v := .bool (decide (((trailF (trF (spaceF (List.map Pr.p ps)) (pagesF (bodyF parts (List.map Pr.p ps))).length) other).2.2) = 82))) (o_mv rfl) ?_
        refine splitP rfl (fun c65 => ?_) (fun c65 => ?_)
        ·
          refine gyesl rfl ?_
          refine m_call (head_ok w60) rfl fun v66 w66 ⟨hr66, hu66⟩ => ?_
          have hM66 : Mem w [] w66 [[⟨b2, 24, [.int .i64 parts, x]⟩], rs5, [⟨b19, 36, [.int .i64 (spaceF (List.map Pr.p ps)), .int .i64 ((pagesF (bodyF parts (List.map Pr.p ps))).length : Nat)]⟩], [⟨b46, 24, [.int .i64 parts, (.slice av48 lv48 cv48)]⟩], rs48, NS48, [⟨b58, 36, [.int .i64 ((trailF (trF (spaceF (List.map Pr.p ps)) (pagesF (bodyF parts (List.map Pr.p ps))).length) other).1), .int .i64 ((trailF (trF (spaceF (List.map Pr.p ps)) (pagesF (bodyF parts (List.map Pr.p ps))).length) other).2.1)]⟩]] := hM60.pure hu66
          subst hr66
          refine stp (v := .bool true) (o_pickT rfl rfl) ?_
          refine stp (v := .bool true) (o_mv rfl) ?_
          refine h61 _ _ ?_
          clear h61
          refine ⟨(.bool true), rfl, ?_⟩
          first | exact ⟨rfl, hM66.upd⟩ | (exfalso; omega)
        ·
          refine gnol rfl (by simp) ?_
          refine stp (v := .bool false) (o_pickF rfl rfl) ?_
          refine stp (v := .bool false) (o_mv rfl) ?_
          refine h61 _ _ ?_
          clear h61
          refine ⟨(.bool false), rfl, ?_⟩
          first | exact ⟨rfl, hM60.upd⟩ | (exfalso; omega)

theorem FootBack_ok (f : Ft) (other : Int) (ho : inK .i64 other) (w : World) (hf : f.ok w) : Calls Try.prog 8 [.agg (ftC f).toArray, .int .i64 other].toArray w (Rt fun r w' => r = .bool true ∧ Upd [] w w') := by
  by_cases h : (encT f.parts (f.ps.map Pr.p)).2 = 0
  · exact FootBack_yes f other ho w hf h
  · exact FootBack_no f other ho w hf h
