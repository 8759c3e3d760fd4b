/- Footers read: the decoder's walks. -/
import Derived.Test.YthhmhmnhbababaaD10
namespace Go.Proofs.Ythhmhmnhbababaa.E
open Go

/-- foot.rightTrail -/
theorem rightTrailG_ok (bk pg : Int) (hb : inK .i64 bk) (hp : inK .i64 pg) (w : World) : Calls Try.prog 51 [.agg [.int .i64 bk, .int .i64 pg].toArray].toArray w (Rt fun r w' => ∃ n, r = .tuple #[.int .i64 n, .bool (decide (mayT bk pg))] ∧ Upd [] w w') := by
  have hM0 : Mem w [] w [] := Mem.nil w []
  simp only [inK] at hb hp
  refine calls_vc mixed Try.func51 rfl C51 (by simp [Try.ntmps51]) ?_
  refine seq fun K1 h1 => ?_
  refine m_bx (v := .agg ([.int .i64 bk, .int .i64 pg] : List Value).toArray) hM0 rfl rfl fun b2 w3 (hM3 : Mem w [] w3 [[⟨b2, 36, [.int .i64 bk, .int .i64 pg]⟩]]) => ?_
  refine stp (v := .int .i64 0) (o_mv rfl) ?_
  refine stp (v := .bool false) (o_mv rfl) ?_
  refine h1 _ _ ?_
  clear h1
  refine seq fun K4 h4 => ?_
  refine seq fun K5 h5 => ?_
  intro wd e1 e2 e3 e4
  have hd := Upd.same e1 e2 e3 e4 []
  have hM6 := hM3.pure hd
  clear e1 e2 e3 e4
  refine ⟨(some [b2]), ?_⟩
  show vd _ _ _ _ _ _ _
  refine dq (v := .pointer (some ⟨b2, 0, none⟩)) (o_fa rfl rfl) ?_
  refine dl (m_ld (v := .int .i64 bk) hM6 (i := 0) (j := 0) rfl rfl rfl rfl ?_)
  refine ⟨(fun b hb => rfl), ?_⟩
  refine dq (v := .bool (decide (bk < 0))) (o_bin rfl rfl rfl) ?_
  refine dq (v := .bool (decide (bk < 0))) (o_mv rfl) ?_
  refine dsplitP rfl (fun c7 => ?_) (fun c7 => ?_)
  ·
    refine dgno rfl (by simp) ?_
    refine dgnol rfl (by simp) ?_
    refine dgno rfl (by simp) ?_
    refine dq (v := .bool true) (o_pickT rfl rfl) ?_
    refine dq (v := .bool true) (o_mv rfl) ?_
    refine dsplitT rfl ?_
    refine dgno rfl (by simp) ?_
    refine dgnol rfl (by simp) ?_
    refine dgno rfl (by simp) ?_
    refine dq (v := .bool true) (o_pickT rfl rfl) ?_
    refine dq (v := .bool true) (o_mv rfl) ?_
    refine dsplitT rfl ?_
    refine dgno rfl (by simp) ?_
    refine dqgno rfl (by simp) ?_
    refine dgnol rfl (by simp) ?_
    refine dgno rfl (by simp) ?_
    refine dq (v := .bool true) (o_pickT rfl rfl) ?_
    refine h5 _ _ ?_
    clear h5
    refine cndT rfl ?_
    refine seq fun K8 h8 => ?_
    refine stp (v := .int .i64 0) (o_mv rfl) ?_
    refine stp (v := .bool false) (o_mv rfl) ?_
    refine h8 _ _ ?_
    clear h8
    refine ⟨(.tuple [.int .i64 0, .bool false].toArray), rfl, ?_⟩
    first | omega | (rw [may_no (by unfold mayT; omega)]; exact ⟨_, rfl, hM6.upd⟩) | (rw [may_yes (by unfold mayT; omega)]; exact ⟨_, rfl, hM6.upd⟩)
  ·
    refine dqg rfl (v := .pointer (some ⟨b2, 0, none⟩)) (o_fa rfl rfl) ?_
    refine dgyesl rfl ?_
    refine dl (m_ld (v := .int .i64 bk) hM6 (i := 0) (j := 0) rfl rfl rfl rfl ?_)
    refine ⟨(fun b hb => rfl), ?_⟩
    refine dqg rfl (v := .bool (decide ((268435456 : Int) < bk))) (o_bin rfl rfl rfl) ?_
    refine dq (v := .bool (decide ((268435456 : Int) < bk))) (o_pickF rfl rfl) ?_
    refine dq (v := .bool (decide ((268435456 : Int) < bk))) (o_mv rfl) ?_
    refine dsplitP rfl (fun c9 => ?_) (fun c9 => ?_)
    ·
      refine dgno rfl (by simp) ?_
      refine dgnol rfl (by simp) ?_
      refine dgno rfl (by simp) ?_
      refine dq (v := .bool true) (o_pickT rfl rfl) ?_
      refine dq (v := .bool true) (o_mv rfl) ?_
      refine dsplitT rfl ?_
      refine dgno rfl (by simp) ?_
      refine dqgno rfl (by simp) ?_
      refine dgnol rfl (by simp) ?_
      refine dgno rfl (by simp) ?_
      refine dq (v := .bool true) (o_pickT rfl rfl) ?_
      refine h5 _ _ ?_
      clear h5
      refine cndT rfl ?_
      refine seq fun K10 h10 => ?_
      refine stp (v := .int .i64 0) (o_mv rfl) ?_
      refine stp (v := .bool false) (o_mv rfl) ?_
      refine h10 _ _ ?_
      clear h10
      refine ⟨(.tuple [.int .i64 0, .bool false].toArray), rfl, ?_⟩
      first | omega | (rw [may_no (by unfold mayT; omega)]; exact ⟨_, rfl, hM6.upd⟩) | (rw [may_yes (by unfold mayT; omega)]; exact ⟨_, rfl, hM6.upd⟩)
    ·
      refine dqg rfl (v := .pointer (some ⟨b2, 1, none⟩)) (o_fa rfl rfl) ?_
      refine dgyesl rfl ?_
      refine dl (m_ld (v := .int .i64 pg) hM6 (i := 0) (j := 0) rfl rfl rfl rfl ?_)
      refine ⟨(fun b hb => rfl), ?_⟩
      refine dqg rfl (v := .bool (decide (pg < 1))) (o_bin rfl rfl rfl) ?_
      refine dq (v := .bool (decide (pg < 1))) (o_pickF rfl rfl) ?_
      refine dq (v := .bool (decide (pg < 1))) (o_mv rfl) ?_
      refine dsplitP rfl (fun c11 => ?_) (fun c11 => ?_)
      ·
        refine dgno rfl (by simp) ?_
        refine dqgno rfl (by simp) ?_
        refine dgnol rfl (by simp) ?_
        refine dgno rfl (by simp) ?_
        refine dq (v := .bool true) (o_pickT rfl rfl) ?_
        refine h5 _ _ ?_
        clear h5
        refine cndT rfl ?_
        refine seq fun K12 h12 => ?_
        refine stp (v := .int .i64 0) (o_mv rfl) ?_
        refine stp (v := .bool false) (o_mv rfl) ?_
        refine h12 _ _ ?_
        clear h12
        refine ⟨(.tuple [.int .i64 0, .bool false].toArray), rfl, ?_⟩
        first | omega | (rw [may_no (by unfold mayT; omega)]; exact ⟨_, rfl, hM6.upd⟩) | (rw [may_yes (by unfold mayT; omega)]; exact ⟨_, rfl, hM6.upd⟩)
      ·
        refine dqg rfl (v := .pointer (some ⟨b2, 1, none⟩)) (o_fa rfl rfl) ?_
        refine dqgyes rfl rfl ?_
        refine dqld rfl (by simp [isHeld]) (v := .int .i64 pg) ((hM6.at (i := 0) (j := 0) rfl rfl).cell 1) ?_
        refine dgyesl rfl ?_
        refine dl (m_call (pagesOf_ok 16777216 (by omega) wd) rfl fun v13 w13 ⟨hr13, hu13⟩ => ?_)
        have hM13 : Mem w [] w13 [[⟨b2, 36, [.int .i64 bk, .int .i64 pg]⟩]] := hM6.pure hu13
        subst hr13
        have hh13 := held_upd (wr := wd) (bs := [b2]) hu13 (fun b hb => by
          simp only [List.mem_cons, List.not_mem_nil, or_false] at hb
          rw [hb]; exact ⟨(hM6.at (i := 0) (j := 0) rfl rfl).lt, by simp⟩) (fun b hb => rfl)
        refine ⟨hh13, ?_⟩
        refine dqg rfl (v := .bool (decide ((16777216 + 4 * ((16777216 + 4095) / 4096)) < pg))) (o_bin rfl rfl rfl) ?_
        refine dq (v := .bool (decide ((16777216 + 4 * ((16777216 + 4095) / 4096)) < pg))) (o_pickF rfl rfl) ?_
        refine h5 _ _ ?_
        clear h5
        refine cndP rfl (fun c14 => ?_) (fun c14 => ?_)
        ·
          refine seq fun K15 h15 => ?_
          refine stp (v := .int .i64 0) (o_mv rfl) ?_
          refine stp (v := .bool false) (o_mv rfl) ?_
          refine h15 _ _ ?_
          clear h15
          refine ⟨(.tuple [.int .i64 0, .bool false].toArray), rfl, ?_⟩
          first | omega | (rw [may_no (by unfold mayT; omega)]; exact ⟨_, rfl, hM13.upd⟩) | (rw [may_yes (by unfold mayT; omega)]; exact ⟨_, rfl, hM13.upd⟩)
        ·
          refine h4 _ _ ?_
          clear h4
          refine seq fun K16 h16 => ?_
          refine stp (v := .pointer (some ⟨b2, 1, none⟩)) (o_fa rfl rfl) ?_
          refine m_ld (v := .int .i64 pg) hM13 (i := 0) (j := 0) rfl rfl rfl rfl ?_
          refine stp (v := .int .i64 (pg / 4100)) (o_quo rfl rfl (by omega) (v_quo (by omega) (by omega) (by simp only [inK]; omega))) ?_
          refine stp (v := .int .i64 (pg / 4100)) (o_mv rfl) ?_
          refine h16 _ _ ?_
          clear h16
          refine seq fun K17 h17 => ?_
          refine stp (v := .pointer (some ⟨b2, 1, none⟩)) (o_fa rfl rfl) ?_
          refine m_ld (v := .int .i64 pg) hM13 (i := 0) (j := 0) rfl rfl rfl rfl ?_
          refine stp (v := .int .i64 (pg % 4100)) (o_rem rfl rfl (by omega) (v_rem (by omega))) ?_
          refine stp (v := .int .i64 (pg % 4100)) (o_mv rfl) ?_
          refine h17 _ _ ?_
          clear h17
          refine seq fun K18 h18 => ?_
          refine seq fun K19 h19 => ?_
          refine stp (v := .int .i64 (pg % 4100)) (o_mv rfl) ?_
          refine stp (v := .bool (decide ((0 : Int) < (pg % 4100)))) (o_bin rfl rfl rfl) ?_
          refine h19 _ _ ?_
          clear h19
          refine cndP rfl (fun c20 => ?_) (fun c20 => ?_)
          ·
            refine seq fun K21 h21 => ?_
            refine stp (v := .int .i64 (pg % 4100)) (o_mv rfl) ?_
            refine stp (v := .int .i64 ((pg % 4100) - 4)) (o_bin rfl rfl (v_sub64 (by constructor <;> omega))) ?_
            refine stp (v := .int .i64 ((pg % 4100) - 4)) (o_mv rfl) ?_
            refine h21 _ _ ?_
            clear h21
            refine seq fun K22 h22 => ?_
            refine stp (v := .int .i64 ((pg % 4100) - 4)) (o_mv rfl) ?_
            refine stp (v := .bool (decide (((pg % 4100) - 4) < 1))) (o_bin rfl rfl rfl) ?_
            refine h22 _ _ ?_
            clear h22
            refine cndP rfl (fun c23 => ?_) (fun c23 => ?_)
            ·
              refine seq fun K24 h24 => ?_
              refine stp (v := .int .i64 0) (o_mv rfl) ?_
              refine stp (v := .bool false) (o_mv rfl) ?_
              refine h24 _ _ ?_
              clear h24
              refine ⟨(.tuple [.int .i64 0, .bool false].toArray), rfl, ?_⟩
              first | omega | (rw [may_no (by unfold mayT; omega)]; exact ⟨_, rfl, hM13.upd⟩) | (rw [may_yes (by unfold mayT; omega)]; exact ⟨_, rfl, hM13.upd⟩)
            ·
              refine h18 _ _ ?_
              clear h18
              refine seq fun K25 h25 => ?_
              refine stp (v := .int .i64 (pg / 4100)) (o_mv rfl) ?_
              refine stp (v := .int .i64 ((pg / 4100) * 4096)) (o_bin rfl rfl (v_mul64 (by constructor <;> omega))) ?_
              refine stp (v := .int .i64 ((pg % 4100) - 4)) (o_mv rfl) ?_
              refine stp (v := .int .i64 (((pg / 4100) * 4096) + ((pg % 4100) - 4))) (o_bin rfl rfl (v_add64 (by constructor <;> omega))) ?_
              refine stp (v := .int .i64 (((pg / 4100) * 4096) + ((pg % 4100) - 4))) (o_mv rfl) ?_
              refine stp (v := .bool true) (o_mv rfl) ?_
              refine h25 _ _ ?_
              clear h25
              refine ⟨(.tuple [.int .i64 (((pg / 4100) * 4096) + ((pg % 4100) - 4)), .bool true].toArray), rfl, ?_⟩
              first | omega | (rw [may_no (by unfold mayT; omega)]; exact ⟨_, rfl, hM13.upd⟩) | (rw [may_yes (by unfold mayT; omega)]; exact ⟨_, rfl, hM13.upd⟩)
          ·
            refine h18 _ _ ?_
            clear h18
            refine seq fun K26 h26 => ?_
            refine stp (v := .int .i64 (pg / 4100)) (o_mv rfl) ?_
            refine stp (v := .int .i64 ((pg / 4100) * 4096)) (o_bin rfl rfl (v_mul64 (by constructor <;> omega))) ?_
            refine stp (v := .int .i64 (pg % 4100)) (o_mv rfl) ?_
            refine stp (v := .int .i64 (((pg / 4100) * 4096) + (pg % 4100))) (o_bin rfl rfl (v_add64 (by constructor <;> omega))) ?_
            refine stp (v := .int .i64 (((pg / 4100) * 4096) + (pg % 4100))) (o_mv rfl) ?_
            refine stp (v := .bool true) (o_mv rfl) ?_
            refine h26 _ _ ?_
            clear h26
            refine ⟨(.tuple [.int .i64 (((pg / 4100) * 4096) + (pg % 4100)), .bool true].toArray), rfl, ?_⟩
            first | omega | (rw [may_no (by unfold mayT; omega)]; exact ⟨_, rfl, hM13.upd⟩) | (rw [may_yes (by unfold mayT; omega)]; exact ⟨_, rfl, hM13.upd⟩)

/-- foot.NewDecoder -/
theorem NewDecoder_yes (bk pg : Int) (hb : inK .i64 bk) (hp : inK .i64 pg) (hmay : mayT bk pg) (w : World) : Calls Try.prog 31 [.agg [.int .i64 bk, .int .i64 pg].toArray].toArray w (Rt fun r w' => ∃ bd rs, r = .tuple #[.pointer (some ⟨bd, 0, none⟩), .int .i64 0] ∧ DecS bd bk pg pg [] false rs ∧ Mem w [] w' [rs]) := by
  have hM0 : Mem w [] w [] := Mem.nil w []
  refine calls_vc mixed Try.func31 rfl C31 (by simp [Try.ntmps31]) ?_
  refine seq fun K1 h1 => ?_
  refine m_bx (v := .agg ([.int .i64 bk, .int .i64 pg] : List Value).toArray) hM0 rfl rfl fun b2 w3 (hM3 : Mem w [] w3 [[⟨b2, 36, [.int .i64 bk, .int .i64 pg]⟩]]) => ?_
  refine stp (v := .pointer none) (o_mv rfl) ?_
  refine stp (v := .int .i64 0) (o_mv rfl) ?_
  refine h1 _ _ ?_
  clear h1
  refine seq fun K4 h4 => ?_
  refine seq fun K5 h5 => ?_
  refine m_ldA (l := [.int .i64 bk, .int .i64 pg]) hM3 (i := 0) (j := 0) rfl rfl rfl rfl rfl ?_
  refine m_call (rightTrailG_ok bk pg hb hp w3) rfl fun v6 w6 ⟨n6, hr6, hu6⟩ => ?_
  have hM6 : Mem w [] w6 [[⟨b2, 36, [.int .i64 bk, .int .i64 pg]⟩]] := hM3.pure hu6
  rw [may_yes hmay] at hr6
  subst hr6
  refine stp (v := .tuple [.int .i64 n6, .bool true].toArray) (o_mv rfl) ?_
  refine stp (v := .int .i64 n6) (o_ext rfl rfl) ?_
  refine stp (v := .bool true) (o_ext rfl rfl) ?_
  refine stp (v := .int .i64 n6) (o_mv rfl) ?_
  refine stp (v := .bool true) (o_mv rfl) ?_
  refine h5 _ _ ?_
  clear h5
  refine seq fun K7 h7 => ?_
  refine stp (v := .bool true) (o_mv rfl) ?_
  refine stp (v := .bool false) (o_not rfl rfl) ?_
  refine h7 _ _ ?_
  clear h7
  refine cndF rfl ?_
  refine h4 _ _ ?_
  clear h4
  refine seq fun K8 h8 => ?_
  refine m_ldA (l := [.int .i64 bk, .int .i64 pg]) hM6 (i := 0) (j := 0) rfl rfl rfl rfl rfl ?_
  refine stp (v := .pointer (some ⟨b2, 1, none⟩)) (o_fa rfl rfl) ?_
  refine m_ld (v := .int .i64 pg) hM6 (i := 0) (j := 0) rfl rfl rfl rfl ?_
  refine stp (v := .agg ([.int .i64 bk, .int .i64 pg, .int .i64 pg, .slice none 0 0, .bool false] : List Value).toArray) (o_bld rfl rfl) ?_
  refine m_bx (v := .agg ([.int .i64 bk, .int .i64 pg, .int .i64 pg, .slice none 0 0, .bool false] : List Value).toArray) hM6 rfl rfl fun b9 w10 (hM10 : Mem w [] w10 [[⟨b2, 36, [.int .i64 bk, .int .i64 pg]⟩], [⟨b9, 98, [.int .i64 bk, .int .i64 pg, .int .i64 pg, .slice none 0 0, .bool false]⟩]]) => ?_
  refine stp (v := .pointer (some ⟨b9, 0, none⟩)) (o_mv rfl) ?_
  refine stp (v := .int .i64 0) (o_mv rfl) ?_
  refine h8 _ _ ?_
  clear h8
  refine ⟨(.tuple [.pointer (some ⟨b9, 0, none⟩), .int .i64 0].toArray), rfl, ?_⟩
  exact ⟨_, _, rfl, ⟨_, [], rfl, Sl.nil 1 5⟩, (hM10.drop 0).keep (by simp)⟩

/-- foot.NewDecoder -/
theorem NewDecoder_no (bk pg : Int) (hb : inK .i64 bk) (hp : inK .i64 pg) (hmay : ¬ mayT bk pg) (w : World) : Calls Try.prog 31 [.agg [.int .i64 bk, .int .i64 pg].toArray].toArray w (Rt fun r w' => r = .tuple #[.pointer none, .int .i64 81] ∧ Upd [] w w') := by
  have hM0 : Mem w [] w [] := Mem.nil w []
  refine calls_vc mixed Try.func31 rfl C31 (by simp [Try.ntmps31]) ?_
  refine seq fun K1 h1 => ?_
  refine m_bx (v := .agg ([.int .i64 bk, .int .i64 pg] : List Value).toArray) hM0 rfl rfl fun b2 w3 (hM3 : Mem w [] w3 [[⟨b2, 36, [.int .i64 bk, .int .i64 pg]⟩]]) => ?_
  refine stp (v := .pointer none) (o_mv rfl) ?_
  refine stp (v := .int .i64 0) (o_mv rfl) ?_
  refine h1 _ _ ?_
  clear h1
  refine seq fun K4 h4 => ?_
  refine seq fun K5 h5 => ?_
  refine m_ldA (l := [.int .i64 bk, .int .i64 pg]) hM3 (i := 0) (j := 0) rfl rfl rfl rfl rfl ?_
  refine m_call (rightTrailG_ok bk pg hb hp w3) rfl fun v6 w6 ⟨n6, hr6, hu6⟩ => ?_
  have hM6 : Mem w [] w6 [[⟨b2, 36, [.int .i64 bk, .int .i64 pg]⟩]] := hM3.pure hu6
  rw [may_no hmay] at hr6
  subst hr6
  refine stp (v := .tuple [.int .i64 n6, .bool false].toArray) (o_mv rfl) ?_
  refine stp (v := .int .i64 n6) (o_ext rfl rfl) ?_
  refine stp (v := .bool false) (o_ext rfl rfl) ?_
  refine stp (v := .int .i64 n6) (o_mv rfl) ?_
  refine stp (v := .bool false) (o_mv rfl) ?_
  refine h5 _ _ ?_
  clear h5
  refine seq fun K7 h7 => ?_
  refine stp (v := .bool false) (o_mv rfl) ?_
  refine stp (v := .bool true) (o_not rfl rfl) ?_
  refine h7 _ _ ?_
  clear h7
  refine cndT rfl ?_
  refine seq fun K8 h8 => ?_
  refine stp (v := .pointer none) (o_mv rfl) ?_
  refine stp (v := .int .i64 81) (o_mv rfl) ?_
  refine h8 _ _ ?_
  clear h8
  refine ⟨(.tuple [.pointer none, .int .i64 81].toArray), rfl, ?_⟩
  exact ⟨rfl, hM6.upd⟩

/-- (*foot.Decoder).Page -/
theorem Page_ok (bd : Nat) (bk pg left : Int) (L : List UInt8) (br : Bool) (x : Value) (c : List UInt8) (r0 : List Ent) (w : World) (hd : DecS bd bk pg left L br r0) (hr : Res w r0) (hfar : ∀ w', Upd (ids r0) w w' → RdE byteV w' x c) (hl0 : 0 ≤ left ∧ left ≤ 9223372036854775807) (hl : L.length + c.length ≤ 140737488351232) : Calls Try.prog 33 [.pointer (some ⟨bd, 0, none⟩), x].toArray w (Rt fun r w' => ∃ r', r = .int .i64 (pgE left br c) ∧ DecS bd bk pg (if pgE left br c = 0 then left - (c.length : Nat) else left) (if pgE left br c = 0 then L ++ (openF c).1 else L) (if pgE left br c = 0 then br else true) r' ∧ Mem w (ids r0) w' [r']) := by
  obtain ⟨vb, rb, hr0, hb⟩ := hd
  obtain ⟨S0, hS0⟩ : ∃ S0, S0 = ids r0 := ⟨_, rfl⟩
  rw [← hS0] at hfar ⊢
  subst hr0
  have hM0 : Mem w S0 w [[⟨bd, 98, [.int .i64 bk, .int .i64 pg, .int .i64 left, vb, .bool br]⟩], rb] := (by rw [hS0]; exact Mem.start2 hr)
  refine calls_vc mixed Try.func33 rfl C33 (by simp [Try.ntmps33]) ?_
  refine seq fun K1 h1 => ?_
  refine stp (v := .int .i64 0) (o_mv rfl) ?_
  refine h1 _ _ ?_
  clear h1
  refine seq fun K2 h2 => ?_
  refine seq fun K3 h3 => ?_
  refine stp (v := .pointer (some ⟨bd, 0, none⟩)) (o_mv rfl) ?_
  refine stp (v := .bool false) (o_isnil rfl rfl) ?_
  refine h3 _ _ ?_
  clear h3
  refine cndF rfl ?_
  refine h2 _ _ ?_
  clear h2
  refine seq fun K4 h4 => ?_
  refine stp (v := .pointer (some ⟨bd, 0, none⟩)) (o_mv rfl) ?_
  refine stp (v := .pointer (some ⟨bd, 0, none⟩)) (o_nilchk rfl rfl) ?_
  refine stp (v := .pointer (some ⟨bd, 2, none⟩)) (o_fa rfl rfl) ?_
  refine m_ld (v := .int .i64 left) hM0 (i := 0) (j := 0) rfl rfl rfl rfl ?_
  refine stp (v := .int .i64 (min (left : Int) (4100 : Int))) (o_mm rfl rfl rfl) ?_
  refine stp (v := .int .i64 (min (left : Int) (4100 : Int))) (o_mv rfl) ?_
  refine h4 _ _ ?_
  clear h4
  refine seq fun K5 h5 => ?_
  refine seq fun K6 h6 => ?_
  refine stp (v := .pointer (some ⟨bd, 0, none⟩)) (o_mv rfl) ?_
  refine stp (v := .pointer (some ⟨bd, 0, none⟩)) (o_nilchk rfl rfl) ?_
  refine stp (v := .pointer (some ⟨bd, 4, none⟩)) (o_fa rfl rfl) ?_
  refine m_ld (v := .bool br) hM0 (i := 0) (j := 0) rfl rfl rfl rfl ?_
  rcases br with _ | _
  ·
    refine stp (v := .bool false) (o_mv rfl) ?_
    refine splitF rfl ?_
    refine stg rfl (v := .int .i64 (min (left : Int) (4100 : Int))) (o_mv rfl) ?_
    refine stg rfl (v := .bool (decide ((min (left : Int) (4100 : Int)) = 0))) (o_bin rfl rfl rfl) ?_
    refine stp (v := .bool (decide ((min (left : Int) (4100 : Int)) = 0))) (o_pickF rfl rfl) ?_
    refine stp (v := .bool (decide ((min (left : Int) (4100 : Int)) = 0))) (o_mv rfl) ?_
    refine splitP rfl (fun c7 => ?_) (fun c7 => ?_)
    ·
      refine gno rfl (by simp) ?_
      refine gno rfl (by simp) ?_
      refine gno rfl (by simp) ?_
      refine gno rfl (by simp) ?_
      refine stp (v := .bool true) (o_pickT rfl rfl) ?_
      refine h6 _ _ ?_
      clear h6
      refine cndT rfl ?_
      refine seq fun K8 h8 => ?_
      refine stp (v := .pointer (some ⟨bd, 0, none⟩)) (o_mv rfl) ?_
      refine stp (v := .pointer (some ⟨bd, 0, none⟩)) (o_nilchk rfl rfl) ?_
      refine stp (v := .pointer (some ⟨bd, 4, none⟩)) (o_fa rfl rfl) ?_
      refine m_st (v := .bool true) hM0 (i := 0) rfl rfl rfl rfl (by simp) fun w9 (hM9 : Mem w S0 w9 [[⟨bd, 98, [.int .i64 bk, .int .i64 pg, .int .i64 left, vb, .bool true]⟩], rb]) => ?_
      refine h8 _ _ ?_
      clear h8
      refine seq fun K10 h10 => ?_
      refine stp (v := .int .i64 80) (o_mv rfl) ?_
      refine h10 _ _ ?_
      clear h10
      refine ⟨(.int .i64 80), rfl, ?_⟩
      have je := pgE_no (c := c) (left := left) (br := false) (.inr (.inl (by omega)))
      exact ⟨⟨bd, 98, [.int .i64 bk, .int .i64 pg, .int .i64 left, vb, .bool true]⟩ :: rb, by rw [je], ⟨_, _, by rw [je]; rfl, by rw [je]; exact hb⟩, hM9.keep (by simp)⟩
    ·
      refine stg rfl (v := x) (o_mv rfl) ?_
      refine stg rfl (v := .int .i64 (c.length : Nat)) (o_lenR ((hfar _ hM0.upd)) rfl rfl) ?_
      refine stg rfl (v := .int .i64 (min (left : Int) (4100 : Int))) (o_mv rfl) ?_
      refine stg rfl (v := .bool (decide (¬ ((c.length : Nat) : Int) = (min (left : Int) (4100 : Int))))) (o_bin rfl rfl v_neq) ?_
      refine stp (v := .bool (decide (¬ ((c.length : Nat) : Int) = (min (left : Int) (4100 : Int))))) (o_pickF rfl rfl) ?_
      refine h6 _ _ ?_
      clear h6
      refine cndP rfl (fun c11 => ?_) (fun c11 => ?_)
      ·
        refine seq fun K12 h12 => ?_
        refine stp (v := .pointer (some ⟨bd, 0, none⟩)) (o_mv rfl) ?_
        refine stp (v := .pointer (some ⟨bd, 0, none⟩)) (o_nilchk rfl rfl) ?_
        refine stp (v := .pointer (some ⟨bd, 4, none⟩)) (o_fa rfl rfl) ?_
        refine m_st (v := .bool true) hM0 (i := 0) rfl rfl rfl rfl (by simp) fun w13 (hM13 : Mem w S0 w13 [[⟨bd, 98, [.int .i64 bk, .int .i64 pg, .int .i64 left, vb, .bool true]⟩], rb]) => ?_
        refine h12 _ _ ?_
        clear h12
        refine seq fun K14 h14 => ?_
        refine stp (v := .int .i64 80) (o_mv rfl) ?_
        refine h14 _ _ ?_
        clear h14
        refine ⟨(.int .i64 80), rfl, ?_⟩
        have je := pgE_no (c := c) (left := left) (br := false) (.inr (.inr (.inl (by omega))))
        exact ⟨⟨bd, 98, [.int .i64 bk, .int .i64 pg, .int .i64 left, vb, .bool true]⟩ :: rb, by rw [je], ⟨_, _, by rw [je]; rfl, by rw [je]; exact hb⟩, hM13.keep (by simp)⟩
      ·
        refine h5 _ _ ?_
        clear h5
        refine seq fun K15 h15 => ?_
        refine stp (v := x) (o_mv rfl) ?_
        refine m_call (Open_ok _ c w ((hfar _ hM0.upd)) (by first | omega | (simp; done) | (simp; omega))) rfl fun v16 w16 ⟨v16_, rs16, hr16, hs16, hm16⟩ => ?_
        have hM16 : Mem w S0 w16 [[⟨bd, 98, [.int .i64 bk, .int .i64 pg, .int .i64 left, vb, .bool false]⟩], rb, rs16] := hM0.add hm16
        subst hr16
        have hol16 := openF_len c
        refine stp (v := .tuple [v16_, .int .i64 ((openF c).2)].toArray) (o_mv rfl) ?_
        refine stp (v := v16_) (o_ext rfl rfl) ?_
        refine stp (v := .int .i64 ((openF c).2)) (o_ext rfl rfl) ?_
        refine stp (v := v16_) (o_mv rfl) ?_
        refine stp (v := .int .i64 ((openF c).2)) (o_mv rfl) ?_
        refine h15 _ _ ?_
        clear h15
        refine seq fun K17 h17 => ?_
        refine seq fun K18 h18 => ?_
        refine stp (v := .int .i64 ((openF c).2)) (o_mv rfl) ?_
        refine stp (v := .bool (decide (¬ ((openF c).2) = 0))) (o_bin rfl rfl v_neq) ?_
        refine h18 _ _ ?_
        clear h18
        refine cndP rfl (fun c19 => ?_) (fun c19 => ?_)
        ·
          refine seq fun K20 h20 => ?_
          refine stp (v := .pointer (some ⟨bd, 0, none⟩)) (o_mv rfl) ?_
          refine stp (v := .pointer (some ⟨bd, 0, none⟩)) (o_nilchk rfl rfl) ?_
          refine stp (v := .pointer (some ⟨bd, 4, none⟩)) (o_fa rfl rfl) ?_
          refine m_st (v := .bool true) hM16 (i := 0) rfl rfl rfl rfl (by simp) fun w21 (hM21 : Mem w S0 w21 [[⟨bd, 98, [.int .i64 bk, .int .i64 pg, .int .i64 left, vb, .bool true]⟩], rb, rs16]) => ?_
          refine h20 _ _ ?_
          clear h20
          refine seq fun K22 h22 => ?_
          refine stp (v := .int .i64 80) (o_mv rfl) ?_
          refine h22 _ _ ?_
          clear h22
          refine ⟨(.int .i64 80), rfl, ?_⟩
          have je := pgE_no (c := c) (left := left) (br := false) (.inr (.inr (.inr (by omega))))
          exact ⟨⟨bd, 98, [.int .i64 bk, .int .i64 pg, .int .i64 left, vb, .bool true]⟩ :: rb, by rw [je], ⟨_, _, by rw [je]; rfl, by rw [je]; exact hb⟩, hM21.keep (by simp)⟩
        ·
          refine h17 _ _ ?_
          clear h17
          refine seq fun K23 h23 => ?_
          refine stp (v := .pointer (some ⟨bd, 0, none⟩)) (o_mv rfl) ?_
          refine stp (v := .pointer (some ⟨bd, 0, none⟩)) (o_mv rfl) ?_
          refine stp (v := .pointer (some ⟨bd, 0, none⟩)) (o_nilchk rfl rfl) ?_
          refine stp (v := .pointer (some ⟨bd, 3, none⟩)) (o_fa rfl rfl) ?_
          refine m_ld (v := vb) hM16 (i := 0) (j := 0) rfl rfl rfl rfl ?_
          refine stp (v := v16_) (o_mv rfl) ?_
          refine m_appE hM16 (i := 1) rfl hb rfl rfl (hs16.rd hM16 (i := 2) rfl) (by first | omega | (simp; omega)) (by omega) fun v24 w24 r24 (hs24 : SlE byteV 5 v24 (L ++ ((openF c).1)) r24) (hM24 : Mem w S0 w24 [[⟨bd, 98, [.int .i64 bk, .int .i64 pg, .int .i64 left, vb, .bool false]⟩], r24, rs16]) => ?_
          refine stp (v := .pointer (some ⟨bd, 0, none⟩)) (o_nilchk rfl rfl) ?_
          refine stp (v := .pointer (some ⟨bd, 3, none⟩)) (o_fa rfl rfl) ?_
          refine m_st (v := v24) hM24 (i := 0) rfl rfl rfl (Sl.one hs24) (by simp) fun w25 (hM25 : Mem w S0 w25 [[⟨bd, 98, [.int .i64 bk, .int .i64 pg, .int .i64 left, v24, .bool false]⟩], r24, rs16]) => ?_
          refine h23 _ _ ?_
          clear h23
          refine seq fun K26 h26 => ?_
          refine stp (v := .pointer (some ⟨bd, 0, none⟩)) (o_mv rfl) ?_
          refine stp (v := .pointer (some ⟨bd, 0, none⟩)) (o_nilchk rfl rfl) ?_
          refine stp (v := .pointer (some ⟨bd, 2, none⟩)) (o_fa rfl rfl) ?_
          refine m_ld (v := .int .i64 left) hM25 (i := 0) (j := 0) rfl rfl rfl rfl ?_
          refine stp (v := .int .i64 (min (left : Int) (4100 : Int))) (o_mv rfl) ?_
          refine stp (v := .int .i64 (left - (min (left : Int) (4100 : Int)))) (o_bin rfl rfl (v_sub64 (by constructor <;> omega))) ?_
          refine stp (v := .pointer (some ⟨bd, 0, none⟩)) (o_nilchk rfl rfl) ?_
          refine stp (v := .pointer (some ⟨bd, 2, none⟩)) (o_fa rfl rfl) ?_
          refine m_st (v := .int .i64 (left - (min (left : Int) (4100 : Int)))) hM25 (i := 0) rfl rfl rfl rfl (by simp) fun w27 (hM27 : Mem w S0 w27 [[⟨bd, 98, [.int .i64 bk, .int .i64 pg, .int .i64 (left - (min (left : Int) (4100 : Int))), v24, .bool false]⟩], r24, rs16]) => ?_
          refine h26 _ _ ?_
          clear h26
          refine seq fun K28 h28 => ?_
          refine stp (v := .int .i64 0) (o_mv rfl) ?_
          refine h28 _ _ ?_
          clear h28
          refine ⟨(.int .i64 0), rfl, ?_⟩
          have je := pgE_yes (c := c) (left := left) (by omega)
          exact ⟨⟨bd, 98, [.int .i64 bk, .int .i64 pg, .int .i64 (left - min left 4100), v24, .bool false]⟩ :: r24, by rw [je], ⟨_, _, by rw [je, if_pos rfl, if_pos rfl, show left - min left 4100 = left - (c.length : Nat) by omega], by rw [je]; exact hs24⟩, hM27.keep (by simp)⟩
  ·
    refine stp (v := .bool true) (o_mv rfl) ?_
    refine splitT rfl ?_
    refine gno rfl (by simp) ?_
    refine gno rfl (by simp) ?_
    refine stp (v := .bool true) (o_pickT rfl rfl) ?_
    refine stp (v := .bool true) (o_mv rfl) ?_
    refine splitT rfl ?_
    refine gno rfl (by simp) ?_
    refine gno rfl (by simp) ?_
    refine gno rfl (by simp) ?_
    refine gno rfl (by simp) ?_
    refine stp (v := .bool true) (o_pickT rfl rfl) ?_
    refine h6 _ _ ?_
    clear h6
    refine cndT rfl ?_
    refine seq fun K29 h29 => ?_
    refine stp (v := .pointer (some ⟨bd, 0, none⟩)) (o_mv rfl) ?_
    refine stp (v := .pointer (some ⟨bd, 0, none⟩)) (o_nilchk rfl rfl) ?_
    refine stp (v := .pointer (some ⟨bd, 4, none⟩)) (o_fa rfl rfl) ?_
    refine m_st (v := .bool true) hM0 (i := 0) rfl rfl rfl rfl (by simp) fun w30 (hM30 : Mem w S0 w30 [[⟨bd, 98, [.int .i64 bk, .int .i64 pg, .int .i64 left, vb, .bool true]⟩], rb]) => ?_
    refine h29 _ _ ?_
    clear h29
    refine seq fun K31 h31 => ?_
    refine stp (v := .int .i64 80) (o_mv rfl) ?_
    refine h31 _ _ ?_
    clear h31
    refine ⟨(.int .i64 80), rfl, ?_⟩
    have je := pgE_no (c := c) (left := left) (br := true) (.inl rfl)
    exact ⟨⟨bd, 98, [.int .i64 bk, .int .i64 pg, .int .i64 left, vb, .bool true]⟩ :: rb, by rw [je], ⟨_, _, by rw [je]; rfl, by rw [je]; exact hb⟩, hM30.keep (by simp)⟩
