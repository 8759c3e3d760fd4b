/- FootFind: the law's walk. -/
import Derived.Test.YthhmhmnhbababaaD30
import Derived.Test.YthhmhmnhbababaaD16
namespace Go.Proofs.Ythhmhmnhbababaa.E
open Go
theorem ids_app_not {a b : List Ent} {x : Nat} (h1 : x ∉ ids a) (h2 : x ∉ ids b) : x ∉ ids (a ++ b) := fun h => by
  unfold ids at h h1 h2
  rw [List.map_append, List.mem_append] at h
  exact h.elim h1 h2
theorem bls_srt : ∀ {bl : List Bi} {last : List UInt8}, blsOk last bl → Srt bl ∧ ∀ j, j < bl.length → cmp last (bl.getD j bz).cut ≤ 0
  | [], _, _ => ⟨fun a b _ hb => by simp at hb, fun j hj => by simp at hj⟩
  | b :: bl, last, h => by
    obtain ⟨h1, h2⟩ := bls_srt h.2
    have h3 : cmp last b.cut ≤ 0 := by
      have := h.1.2
      have e := cmp_anti last b.cut
      omega
    refine ⟨fun a c hab hc => ?_, fun j hj => ?_⟩
    · cases a with
      | zero =>
        cases c with
        | zero => have := (cmp_zero b.cut b.cut).2 rfl; show cmp b.cut b.cut ≤ 0; omega
        | succ c => exact h2 c (by simpa using hc)
      | succ a =>
        cases c with
        | zero => omega
        | succ c => exact h1 a c (by omega) (by simpa using hc)
    · cases j with
      | zero => exact h3
      | succ j =>
        have h4 : cmp b.cut (bl.getD j bz).cut ≤ 0 := h2 j (by simpa using hj)
        show cmp last (bl.getD j bz).cut ≤ 0
        by_cases e : cmp last b.cut = 0
        · rw [(cmp_zero _ _).1 e]; exact h4
        · by_cases e2 : cmp b.cut (bl.getD j bz).cut = 0
          · rw [← (cmp_zero _ _).1 e2]; exact h3
          · have := (cmp_trans last b.cut (bl.getD j bz).cut).2 (by omega) (by omega)
            omega
theorem inf_srt {parts : Int} : ∀ {ps : List Pp} {last : Int} {n : Nat}, infOk parts last n ps → ∀ p ∈ ps, Srt p.bl
  | [], _, _, _, p, hp => by cases hp
  | q :: ps, last, n, h, p, hp => by
    rcases List.mem_cons.1 hp with rfl | hp
    · exact (bls_srt h.1.1.2.2.2.2).1
    · exact inf_srt h.2 p hp
theorem ft_srt {parts : Int} {ps : List Pr} (h : ftOk parts (ps.map Pr.p)) : ∀ p ∈ ps, Srt p.bl := fun p hp => inf_srt h.2 p.p (List.mem_map.2 ⟨p, hp, rfl⟩)

/-- winnowlaw8.FootFind -/
theorem FootFind_ok (parts : Int) (x : Value) (ps : List Pr) (w : World) (hx : RdS prC w x ps) (hok : ∀ p ∈ ps, p.ok w) (hl : ps.length ≤ 1954687338211) (hp : inK .i64 parts) (part : Int) (hpt : inK .i64 part) (key : List UInt8) (hkl : key.length ≤ 140737488351232) : Calls Try.prog 3 [.agg [.int .i64 parts, x].toArray, .int .i64 part, .string (str key)].toArray w (Rt fun r w' => r = .bool true ∧ Upd [] w w') := by
  have hM0 : Mem w [] w [] := Mem.nil w []
  simp only [inK] at hp hpt
  refine calls_vc mixed Try.func3 rfl C3 (by simp [Try.ntmps3]) ?_
  refine seq fun K1 h1 => ?_
  refine m_bx (v := .agg ([.int .i64 parts, x] : List Value).toArray) hM0 rfl rfl fun b2 w3 (hM3 : Mem w [] w3 [[⟨b2, 24, [.int .i64 parts, x]⟩]]) => ?_
  refine stp (v := .bool false) (o_mv rfl) ?_
  refine h1 _ _ ?_
  clear h1
  refine seq fun K4 h4 => ?_
  refine seq fun K5 h5 => ?_
  refine m_ldA (l := [.int .i64 parts, x]) hM3 (i := 0) (j := 0) rfl rfl rfl rfl rfl ?_
  refine m_call (refChk_ok parts _ ps w3 (hx.upd hM3.upd) (fun p hp => (hok p hp).upd hM3.upd) (by omega) (by simp only [inK]; omega)) rfl fun v6 w6 ⟨hr6, hu6⟩ => ?_
  have hM6 : Mem w [] w6 [[⟨b2, 24, [.int .i64 parts, x]⟩]] := hM3.pure hu6
  subst hr6
  refine stp (v := .bool (decide (¬ (chkF parts (List.map Pr.p ps)) = 0))) (o_bin rfl rfl v_neq) ?_
  refine h5 _ _ ?_
  clear h5
  refine cndP rfl (fun c7 => ?_) (fun c7 => ?_)
  ·
    refine seq fun K8 h8 => ?_
    refine m_ldA (l := [.int .i64 parts, x]) hM6 (i := 0) (j := 0) rfl rfl rfl rfl rfl ?_
    refine m_call (Check_ok parts _ ps w6 (hx.upd hM6.upd) (fun p hp => (hok p hp).upd hM6.upd) (by omega) (by simp only [inK]; omega)) rfl fun v9 w9 ⟨hr9, hu9⟩ => ?_
    have hM9 : Mem w [] w9 [[⟨b2, 24, [.int .i64 parts, x]⟩]] := hM6.pure hu9
    subst hr9
    refine stp (v := .bool (decide ((chkF parts (List.map Pr.p ps)) = 80))) (o_bin rfl rfl rfl) ?_
    refine stp (v := .bool (decide ((chkF parts (List.map Pr.p ps)) = 80))) (o_mv rfl) ?_
    refine h8 _ _ ?_
    clear h8
    refine ⟨(.bool (decide ((chkF parts (List.map Pr.p ps)) = 80))), rfl, ?_⟩
    exact ⟨congrArg Value.bool (decide_eq_true (chkF_80 (fun h => by have := chkF_0 h; omega))), hM9.upd⟩
  ·
    refine h4 _ _ ?_
    clear h4
    refine seq fun K10 h10 => ?_
    have hft : ftOk parts (ps.map Pr.p) := chkF_iff.1 (by omega)
    have hsr := ft_srt hft
    refine m_ldA (l := [.int .i64 parts, x]) hM6 (i := 0) (j := 0) rfl rfl rfl rfl rfl ?_
    refine m_call (twin_ok parts _ ps w6 (hx.upd hM6.upd) (fun p hp => (hok p hp).upd hM6.upd) (by omega) (by simp only [inK]; omega)) rfl fun v11 w11 ⟨a11, c11, qs11, rs11, NS11, hr11, hs11, hT11, hq11, hm11⟩ => ?_
    have hM11 : Mem w [] w11 [[⟨b2, 24, [.int .i64 parts, x]⟩], rs11, NS11] := hM6.add2 hm11
    subst hr11
    have hll11 : qs11.length = ps.length := by simpa using congrArg List.length hq11
    have hz11 := sl_less hs11 hll11
    refine m_al hM11 fun b12 w13 (hM13 : Mem w [] w13 [[⟨b2, 24, [.int .i64 parts, x]⟩], rs11, NS11, [⟨b12, 24, [.int .i64 0, .slice none 0 0]⟩]]) => ?_
    refine m_stA (l := [.int .i64 parts, (.slice a11 ps.length c11)]) hM13 (i := 3) rfl rfl rfl rfl (by simp [oneCells, Value.oneCell', byteV]) (by simp) fun w14 (hM14 : Mem w [] w14 [[⟨b2, 24, [.int .i64 parts, x]⟩], rs11, NS11, [⟨b12, 24, [.int .i64 parts, (.slice a11 ps.length c11)]⟩]]) => ?_
    refine h10 _ _ ?_
    clear h10
    refine seq fun K15 h15 => ?_
    refine m_ldA (l := [.int .i64 parts, (.slice a11 ps.length c11)]) hM14 (i := 3) (j := 0) rfl rfl rfl rfl rfl ?_
    refine stp (v := .int .i64 part) (o_mv rfl) ?_
    refine stp (v := .string (str key)) (o_mv rfl) ?_
    refine m_call (Find_ok parts _ qs11 w14 (hz11.rd hM14 (i := 1) rfl) (fun p hp => (hT11.tk (hM14.res (i := 2) rfl).1 p hp).ok) (by omega) (by simp only [inK]; omega) part (by simp only [inK]; omega) key (by omega) (srt_map hq11 hsr)) rfl fun v16 w16 ⟨iF, kF, hr16, hfF, hu16⟩ => ?_
    have hM16 : Mem w [] w16 [[⟨b2, 24, [.int .i64 parts, x]⟩], rs11, NS11, [⟨b12, 24, [.int .i64 parts, (.slice a11 ps.length c11)]⟩]] := hM14.pure hu16
    subst hr16
    refine stp (v := .tuple [.int .i64 iF, .int .i64 kF].toArray) (o_mv rfl) ?_
    refine stp (v := .int .i64 iF) (o_ext rfl rfl) ?_
    refine stp (v := .int .i64 kF) (o_ext rfl rfl) ?_
    refine stp (v := .int .i64 iF) (o_mv rfl) ?_
    refine stp (v := .int .i64 kF) (o_mv rfl) ?_
    refine h15 _ _ ?_
    clear h15
    refine seq fun K17 h17 => ?_
    refine m_ldA (l := [.int .i64 parts, x]) hM16 (i := 0) (j := 0) rfl rfl rfl rfl rfl ?_
    refine stp (v := .int .i64 part) (o_mv rfl) ?_
    refine stp (v := .string (str key)) (o_mv rfl) ?_
    refine m_call (refFind_ok parts _ ps w16 (hx.upd hM16.upd) (fun p hp => (hok p hp).upd hM16.upd) (by omega) (by simp only [inK]; omega) part (by simp only [inK]; omega) key (by omega) hsr) rfl fun v18 w18 ⟨i18, k18, hr18, hf18, hu18⟩ => ?_
    have hM18 : Mem w [] w18 [[⟨b2, 24, [.int .i64 parts, x]⟩], rs11, NS11, [⟨b12, 24, [.int .i64 parts, (.slice a11 ps.length c11)]⟩]] := hM16.pure hu18
    obtain ⟨e118, e218⟩ := findS_one hq11 hfF hf18
    rw [← e118, ← e218] at hr18
    subst hr18
    refine stp (v := .tuple [.int .i64 iF, .int .i64 kF].toArray) (o_mv rfl) ?_
    refine stp (v := .int .i64 iF) (o_ext rfl rfl) ?_
    refine stp (v := .int .i64 kF) (o_ext rfl rfl) ?_
    refine stp (v := .int .i64 iF) (o_mv rfl) ?_
    refine stp (v := .int .i64 kF) (o_mv rfl) ?_
    refine h17 _ _ ?_
    clear h17
    refine seq fun K19 h19 => ?_
    refine seq fun K20 h20 => ?_
    refine stp (v := .int .i64 iF) (o_mv rfl) ?_
    refine stp (v := .int .i64 iF) (o_mv rfl) ?_
    refine stp (v := .bool false) (o_bin rfl rfl v_neF) ?_
    refine stp (v := .bool false) (o_mv rfl) ?_
    refine splitF rfl ?_
    refine stg rfl (v := .int .i64 kF) (o_mv rfl) ?_
    refine stg rfl (v := .int .i64 kF) (o_mv rfl) ?_
    refine stg rfl (v := .bool false) (o_bin rfl rfl v_neF) ?_
    refine stp (v := .bool false) (o_pickF rfl rfl) ?_
    refine stp (v := .bool false) (o_mv rfl) ?_
    refine splitF rfl ?_
    refine gyesl rfl ?_
    refine m_ldA (l := [.int .i64 parts, (.slice a11 ps.length c11)]) hM18 (i := 3) (j := 0) rfl rfl rfl rfl rfl ?_
    refine gyesl rfl ?_
    refine m_ldA (l := [.int .i64 parts, x]) hM18 (i := 0) (j := 0) rfl rfl rfl rfl rfl ?_
    refine gyesl rfl ?_
    refine m_call (still_ok parts _ _ _ qs11 ps w18 (hz11.rd hM18 (i := 1) rfl) (hs11.rd hM18 (i := 1) rfl) (hT11.tk (hM18.res (i := 2) rfl).1) (hx.upd hM18.upd) (fun p hp => (hok p hp).upd hM18.upd) (by omega) hq11) rfl fun v21 w21 ⟨hr21, hu21⟩ => ?_
    have hM21 : Mem w [] w21 [[⟨b2, 24, [.int .i64 parts, x]⟩], rs11, NS11, [⟨b12, 24, [.int .i64 parts, (.slice a11 ps.length c11)]⟩]] := hM18.pure hu21
    subst hr21
    refine stg rfl (v := .bool false) (o_not rfl rfl) ?_
    refine stp (v := .bool false) (o_pickF rfl rfl) ?_
    refine h20 _ _ ?_
    clear h20
    refine cndF rfl ?_
    refine h19 _ _ ?_
    clear h19
    refine seq fun K22 h22 => ?_
    refine seq fun K23 h23 => ?_
    refine stp (v := .pointer (some ⟨b12, 1, none⟩)) (o_fa rfl rfl) ?_
    refine m_ld (v := (.slice a11 ps.length c11)) hM21 (i := 3) (j := 0) rfl rfl rfl rfl ?_
    refine stp (v := .int .i64 (qs11.length : Nat)) (o_lenR (hz11.rd hM21 (i := 1) rfl) rfl rfl) ?_
    refine stp (v := .bool (decide (((qs11.length : Nat) : Int) = 0))) (o_bin rfl rfl rfl) ?_
    refine h23 _ _ ?_
    clear h23
    refine cndP rfl (fun c24 => ?_) (fun c24 => ?_)
    ·
      refine seq fun K25 h25 => ?_
      refine stp (v := .bool true) (o_mv rfl) ?_
      refine h25 _ _ ?_
      clear h25
      refine ⟨(.bool true), rfl, ?_⟩
      exact ⟨rfl, hM21.upd⟩
    ·
      refine h22 _ _ ?_
      clear h22
      refine seq fun K26 h26 => ?_
      intro wd e1 e2 e3 e4
      have hd := Upd.same e1 e2 e3 e4 []
      have hM27 := hM21.pure hd
      clear e1 e2 e3 e4
      refine ⟨(some [b12]), ?_⟩
      show vd _ _ _ _ _ _ _
      refine dq (v := .int .i64 part) (o_mv rfl) ?_
      refine dq (v := .string (str key)) (o_mv rfl) ?_
      refine dl (m_ldA (l := [.int .i64 parts, (.slice a11 ps.length c11)]) hM27 (i := 3) (j := 0) rfl rfl rfl rfl rfl ?_)
      refine ⟨(fun b hb => rfl), ?_⟩
      refine dl (m_call (foundAnew_ok parts a11 c11 ps.length qs11 rs11 NS11 wd hs11 hT11 hll11 (hM27.res2 1 2 rfl rfl (by decide)) (by omega) (by simp only [inK]; omega) part (by simp only [inK]; omega) key (by omega) ([]) (by simp)) rfl fun v28 w28 ⟨hr28, qs28, NS28, hT28, hs28, hll28, hm28⟩ => ?_)
      have hM28 : Mem w [] w28 [[⟨b2, 24, [.int .i64 parts, x]⟩], rs11, NS28, [⟨b12, 24, [.int .i64 parts, (.slice a11 ps.length c11)]⟩]] := hM27.step2 1 2 rfl rfl (by decide) hm28
      subst hr28
      have hz28 := sl_less hs28 hll28
      have hh28 := held_upd (wr := wd) (bs := [b12]) hm28.upd (fun b hb => by
        simp only [List.mem_cons, List.not_mem_nil, or_false] at hb
        rw [hb]; exact ⟨(hM27.at (i := 3) (j := 0) rfl rfl).lt, ids_app_not (hM27.apart (i := 3) (j := 0) (k := 1) rfl rfl rfl (by decide)) (hM27.apart (i := 3) (j := 0) (k := 2) rfl rfl rfl (by decide))⟩) (fun b hb => rfl)
      refine ⟨hh28, ?_⟩
      refine dq (v := .bool true) (o_mv rfl) ?_
      refine dsplitT rfl ?_
      refine dqg rfl (v := .int .i64 part) (o_mv rfl) ?_
      refine dqg rfl (v := .string (str key)) (o_mv rfl) ?_
      refine dqgyes rfl rfl ?_
      refine dqldA (cs := [.int .i64 parts, (.slice a11 ps.length c11)]) rfl (by simp [isHeld]) rfl ((hM27.at (i := 3) (j := 0) rfl rfl).agg rfl rfl) ?_
      refine dgyesl rfl ?_
      refine dl (m_call (high_ok w28) rfl fun v29 w29 ⟨hr29, hu29⟩ => ?_)
      have hM29 : Mem w [] w29 [[⟨b2, 24, [.int .i64 parts, x]⟩], rs11, NS28, [⟨b12, 24, [.int .i64 parts, (.slice a11 ps.length c11)]⟩]] := hM28.pure hu29
      subst hr29
      have hrep : (List.replicate 64 (255 : UInt8)).length = 64 := List.length_replicate
      have hh29 := held_upd (wr := wd) (bs := [b12]) hu29 (fun b hb => by
        simp only [List.mem_cons, List.not_mem_nil, or_false] at hb
        rw [hb]; exact ⟨(hM28.at (i := 3) (j := 0) rfl rfl).lt, by simp⟩) hh28
      refine ⟨hh29, ?_⟩
      refine dgyesl rfl ?_
      refine dl (m_call (foundAnew_ok parts a11 c11 ps.length qs28 rs11 NS28 w29 hs28 hT28 hll28 (hM29.res2 1 2 rfl rfl (by decide)) (by omega) (by simp only [inK]; omega) part (by simp only [inK]; omega) key (by omega) (List.replicate 64 255) (by simp)) rfl fun v30 w30 ⟨hr30, qs30, NS30, hT30, hs30, hll30, hm30⟩ => ?_)
      have hM30 : Mem w [] w30 [[⟨b2, 24, [.int .i64 parts, x]⟩], rs11, NS30, [⟨b12, 24, [.int .i64 parts, (.slice a11 ps.length c11)]⟩]] := hM29.step2 1 2 rfl rfl (by decide) hm30
      subst hr30
      have hz30 := sl_less hs30 hll30
      have hh30 := held_upd (wr := wd) (bs := [b12]) hm30.upd (fun b hb => by
        simp only [List.mem_cons, List.not_mem_nil, or_false] at hb
        rw [hb]; exact ⟨(hM29.at (i := 3) (j := 0) rfl rfl).lt, ids_app_not (hM29.apart (i := 3) (j := 0) (k := 1) rfl rfl rfl (by decide)) (hM29.apart (i := 3) (j := 0) (k := 2) rfl rfl rfl (by decide))⟩) hh29
      refine ⟨hh30, ?_⟩
      refine dq (v := .bool true) (o_pickT rfl rfl) ?_
      refine dq (v := .bool true) (o_mv rfl) ?_
      refine h26 _ _ ?_
      clear h26
      refine ⟨(.bool true), rfl, ?_⟩
      exact ⟨rfl, hM30.upd⟩

theorem FootFind_row (f : Ft) (part : Int) (key : List UInt8) (hpt : inK .i64 part) (hkl : key.length ≤ 140737488351232) (w : World) (hf : f.ok w) : Calls Try.prog 3 [.agg (ftC f).toArray, .int .i64 part, .string (str key)].toArray w (Rt fun r w' => r = .bool true ∧ Upd [] w w') :=
  FootFind_ok f.parts f.x f.ps w hf.rd hf.ok hf.hl hf.kp part hpt key hkl
