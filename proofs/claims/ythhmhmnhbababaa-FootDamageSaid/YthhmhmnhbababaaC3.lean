/- Trailers. -/
import Derived.Test.YthhmhmnhbababaaC2
namespace Go.Proofs.Ythhmhmnhbababaa.E
open Go
theorem may_no {a b : Int} (h : ¬ mayT a b) : decide (mayT a b) = false := decide_eq_false h
theorem may_yes {a b : Int} (h : mayT a b) : decide (mayT a b) = true := decide_eq_true h
section
variable {b : List UInt8} {size : Int}
theorem tr_len (h : ¬ b.length = 24) : trailF b size = (0, 0, 81) := by unfold trailF; rw [if_pos h]
theorem tr_open (h : b.length = 24) (h2 : ¬ (openF b).2 = 0) : trailF b size = (0, 0, 81) := by unfold trailF; rw [if_neg (by omega), if_pos h2]
theorem tr_magic (h : b.length = 24) (h2 : (openF b).2 = 0) (h3 : ¬ (openF b).1.take 4 = magic) : trailF b size = (0, 0, 81) := by unfold trailF; rw [if_neg (by omega), if_neg (by omega), if_pos h3]
theorem tr_may (h : b.length = 24) (h2 : (openF b).2 = 0) (h3 : (openF b).1.take 4 = magic) (h4 : ¬ mayT (word (((openF b).1.drop 4).take 8) : Nat) (word (((openF b).1.drop 12).take 8) : Nat)) : trailF b size = (0, 0, 81) := by unfold trailF; rw [if_neg (by omega), if_neg (by omega), if_neg (fun k => k h3), if_pos h4]
theorem tr_size (h : b.length = 24) (h2 : (openF b).2 = 0) (h3 : (openF b).1.take 4 = magic) (h4 : mayT (word (((openF b).1.drop 4).take 8) : Nat) (word (((openF b).1.drop 12).take 8) : Nat)) (h5 : ¬ ((word (((openF b).1.drop 4).take 8) : Nat) : Int) + (word (((openF b).1.drop 12).take 8) : Nat) + 24 = size) : trailF b size = (0, 0, 82) := by
  unfold trailF; rw [if_neg (by omega), if_neg (by omega), if_neg (fun k => k h3), if_neg (fun k => k h4), if_neg h5]
theorem tr_ok (h : b.length = 24) (h2 : (openF b).2 = 0) (h3 : (openF b).1.take 4 = magic) (h4 : mayT (word (((openF b).1.drop 4).take 8) : Nat) (word (((openF b).1.drop 12).take 8) : Nat)) (h5 : ((word (((openF b).1.drop 4).take 8) : Nat) : Int) + (word (((openF b).1.drop 12).take 8) : Nat) + 24 = size) :
    trailF b size = (((word (((openF b).1.drop 4).take 8) : Nat) : Int), ((word (((openF b).1.drop 12).take 8) : Nat) : Int), 0) := by
  unfold trailF; rw [if_neg (by omega), if_neg (by omega), if_neg (fun k => k h3), if_neg (fun k => k h4), if_pos h5]
end
theorem drop_take0 {α : Type} (l : List α) (a n : Nat) : (l.take (a + n)).drop a = (l.drop a).take n := by rw [List.drop_take]; congr 1; omega

/-- foot.pagesOf -/
theorem pagesOf_ok (n : Int) (hn : 0 ≤ n ∧ n ≤ 1099511627776) (w : World) : Calls Try.prog 72 [.int .i64 n].toArray w (Rt fun r w' => r = .int .i64 (n + 4 * ((n + 4095) / 4096)) ∧ Upd [] w w') := by
  have hM0 : Mem w [] w [] := Mem.nil w []
  refine calls_vc mixed Try.func72 rfl C72 (by simp [Try.ntmps72]) ?_
  refine seq fun K1 h1 => ?_
  refine stp (v := .int .i64 0) (o_mv rfl) ?_
  refine h1 _ _ ?_
  clear h1
  refine seq fun K2 h2 => ?_
  refine stp (v := .int .i64 n) (o_mv rfl) ?_
  refine stp (v := .int .i64 n) (o_mv rfl) ?_
  refine stp (v := .int .i64 (n + 4096)) (o_bin rfl rfl (v_add64 (by constructor <;> omega))) ?_
  refine stp (v := .int .i64 ((n + 4096) - 1)) (o_bin rfl rfl (v_sub64 (by constructor <;> omega))) ?_
  refine stp (v := .int .i64 (((n + 4096) - 1) / 4096)) (o_quo rfl rfl (by omega) (v_quo (by omega) (by omega) (by simp only [inK]; omega))) ?_
  refine stp (v := .int .i64 (4 * (((n + 4096) - 1) / 4096))) (o_bin rfl rfl (v_mul64 (by constructor <;> omega))) ?_
  refine stp (v := .int .i64 (n + (4 * (((n + 4096) - 1) / 4096)))) (o_bin rfl rfl (v_add64 (by constructor <;> omega))) ?_
  refine stp (v := .int .i64 (n + (4 * (((n + 4096) - 1) / 4096)))) (o_mv rfl) ?_
  refine h2 _ _ ?_
  clear h2
  refine ⟨(.int .i64 (n + (4 * (((n + 4096) - 1) / 4096)))), rfl, ?_⟩
  exact ⟨v_int (by omega), hM0.upd⟩

/-- foot.rightTrail -/
theorem rightTrail_ok (bl pg : Int) (hb : 0 ≤ bl ∧ bl ≤ 18446744073709551616) (hp : 0 ≤ pg ∧ pg ≤ 1073741824) (w : World) : Calls Try.prog 51 [.agg [.int .i64 bl, .int .i64 pg].toArray].toArray w (Rt fun r w' => ∃ n, r = .tuple #[.int .i64 n, .bool (decide (mayT bl pg))] ∧ Upd [] w w') := by
  have hM0 : Mem w [] w [] := Mem.nil w []
  refine calls_vc mixed Try.func51 rfl C51 (by simp [Try.ntmps51]) ?_
  refine seq fun K1 h1 => ?_
  refine m_bx (v := .agg ([.int .i64 bl, .int .i64 pg] : List Value).toArray) hM0 rfl rfl fun b2 w3 (hM3 : Mem w [] w3 [[⟨b2, 36, [.int .i64 bl, .int .i64 pg]⟩]]) => ?_
  refine stp (v := .int .i64 0) (o_mv rfl) ?_
  refine stp (v := .bool false) (o_mv rfl) ?_
  refine h1 _ _ ?_
  clear h1
  refine seq fun K4 h4 => ?_
  refine seq fun K5 h5 => ?_
  intro wd e1 e2 e3 e4
  have hd := Upd.same e1 e2 e3 e4 []
  have hM6 := hM3.pure hd
  clear e1 e2 e3 e4
  refine ⟨(some [b2]), ?_⟩
  show vd _ _ _ _ _ _ _
  refine dq (v := .pointer (some ⟨b2, 0, none⟩)) (o_fa rfl rfl) ?_
  refine dl (m_ld (v := .int .i64 bl) hM6 (i := 0) (j := 0) rfl rfl rfl rfl ?_)
  refine ⟨(fun b hb => rfl), ?_⟩
  refine dq (v := .bool (decide (bl < 0))) (o_bin rfl rfl rfl) ?_
  refine dq (v := .bool (decide (bl < 0))) (o_mv rfl) ?_
  refine dsplitP rfl (fun c7 => ?_) (fun c7 => ?_)
  ·
    refine dgno rfl (by simp) ?_
    refine dgnol rfl (by simp) ?_
    refine dgno rfl (by simp) ?_
    refine dq (v := .bool true) (o_pickT rfl rfl) ?_
    refine dq (v := .bool true) (o_mv rfl) ?_
    refine dsplitT rfl ?_
    refine dgno rfl (by simp) ?_
    refine dgnol rfl (by simp) ?_
    refine dgno rfl (by simp) ?_
    refine dq (v := .bool true) (o_pickT rfl rfl) ?_
    refine dq (v := .bool true) (o_mv rfl) ?_
    refine dsplitT rfl ?_
    refine dgno rfl (by simp) ?_
    refine dqgno rfl (by simp) ?_
    refine dgnol rfl (by simp) ?_
    refine dgno rfl (by simp) ?_
    refine dq (v := .bool true) (o_pickT rfl rfl) ?_
    refine h5 _ _ ?_
    clear h5
    refine cndT rfl ?_
    refine seq fun K8 h8 => ?_
    refine stp (v := .int .i64 0) (o_mv rfl) ?_
    refine stp (v := .bool false) (o_mv rfl) ?_
    refine h8 _ _ ?_
    clear h8
    refine ⟨(.tuple [.int .i64 0, .bool false].toArray), rfl, ?_⟩
    first | omega | (rw [may_no (by unfold mayT; omega)]; exact ⟨_, rfl, hM6.upd⟩) | (rw [may_yes (by unfold mayT; omega)]; exact ⟨_, rfl, hM6.upd⟩)
  ·
    refine dqg rfl (v := .pointer (some ⟨b2, 0, none⟩)) (o_fa rfl rfl) ?_
    refine dgyesl rfl ?_
    refine dl (m_ld (v := .int .i64 bl) hM6 (i := 0) (j := 0) rfl rfl rfl rfl ?_)
    refine ⟨(fun b hb => rfl), ?_⟩
    refine dqg rfl (v := .bool (decide ((268435456 : Int) < bl))) (o_bin rfl rfl rfl) ?_
    refine dq (v := .bool (decide ((268435456 : Int) < bl))) (o_pickF rfl rfl) ?_
    refine dq (v := .bool (decide ((268435456 : Int) < bl))) (o_mv rfl) ?_
    refine dsplitP rfl (fun c9 => ?_) (fun c9 => ?_)
    ·
      refine dgno rfl (by simp) ?_
      refine dgnol rfl (by simp) ?_
      refine dgno rfl (by simp) ?_
      refine dq (v := .bool true) (o_pickT rfl rfl) ?_
      refine dq (v := .bool true) (o_mv rfl) ?_
      refine dsplitT rfl ?_
      refine dgno rfl (by simp) ?_
      refine dqgno rfl (by simp) ?_
      refine dgnol rfl (by simp) ?_
      refine dgno rfl (by simp) ?_
      refine dq (v := .bool true) (o_pickT rfl rfl) ?_
      refine h5 _ _ ?_
      clear h5
      refine cndT rfl ?_
      refine seq fun K10 h10 => ?_
      refine stp (v := .int .i64 0) (o_mv rfl) ?_
      refine stp (v := .bool false) (o_mv rfl) ?_
      refine h10 _ _ ?_
      clear h10
      refine ⟨(.tuple [.int .i64 0, .bool false].toArray), rfl, ?_⟩
      first | omega | (rw [may_no (by unfold mayT; omega)]; exact ⟨_, rfl, hM6.upd⟩) | (rw [may_yes (by unfold mayT; omega)]; exact ⟨_, rfl, hM6.upd⟩)
    ·
      refine dqg rfl (v := .pointer (some ⟨b2, 1, none⟩)) (o_fa rfl rfl) ?_
      refine dgyesl rfl ?_
      refine dl (m_ld (v := .int .i64 pg) hM6 (i := 0) (j := 0) rfl rfl rfl rfl ?_)
      refine ⟨(fun b hb => rfl), ?_⟩
      refine dqg rfl (v := .bool (decide (pg < 1))) (o_bin rfl rfl rfl) ?_
      refine dq (v := .bool (decide (pg < 1))) (o_pickF rfl rfl) ?_
      refine dq (v := .bool (decide (pg < 1))) (o_mv rfl) ?_
      refine dsplitP rfl (fun c11 => ?_) (fun c11 => ?_)
      ·
        refine dgno rfl (by simp) ?_
        refine dqgno rfl (by simp) ?_
        refine dgnol rfl (by simp) ?_
        refine dgno rfl (by simp) ?_
        refine dq (v := .bool true) (o_pickT rfl rfl) ?_
        refine h5 _ _ ?_
        clear h5
        refine cndT rfl ?_
        refine seq fun K12 h12 => ?_
        refine stp (v := .int .i64 0) (o_mv rfl) ?_
        refine stp (v := .bool false) (o_mv rfl) ?_
        refine h12 _ _ ?_
        clear h12
        refine ⟨(.tuple [.int .i64 0, .bool false].toArray), rfl, ?_⟩
        first | omega | (rw [may_no (by unfold mayT; omega)]; exact ⟨_, rfl, hM6.upd⟩) | (rw [may_yes (by unfold mayT; omega)]; exact ⟨_, rfl, hM6.upd⟩)
      ·
        refine dqg rfl (v := .pointer (some ⟨b2, 1, none⟩)) (o_fa rfl rfl) ?_
        refine dqgyes rfl rfl ?_
        refine dqld rfl (by simp [isHeld]) (v := .int .i64 pg) ((hM6.at (i := 0) (j := 0) rfl rfl).cell 1) ?_
        refine dgyesl rfl ?_
        refine dl (m_call (pagesOf_ok 16777216 (by omega) wd) rfl fun v13 w13 ⟨hr13, hu13⟩ => ?_)
        have hM13 : Mem w [] w13 [[⟨b2, 36, [.int .i64 bl, .int .i64 pg]⟩]] := hM6.pure hu13
        subst hr13
        have hh13 := held_upd (wr := wd) (bs := [b2]) hu13 (fun b hb => by
          simp only [List.mem_cons, List.not_mem_nil, or_false] at hb
          rw [hb]; exact ⟨(hM6.at (i := 0) (j := 0) rfl rfl).lt, by simp⟩) (fun b hb => rfl)
        refine ⟨hh13, ?_⟩
        refine dqg rfl (v := .bool (decide ((16777216 + 4 * ((16777216 + 4095) / 4096)) < pg))) (o_bin rfl rfl rfl) ?_
        refine dq (v := .bool (decide ((16777216 + 4 * ((16777216 + 4095) / 4096)) < pg))) (o_pickF rfl rfl) ?_
        refine h5 _ _ ?_
        clear h5
        refine cndP rfl (fun c14 => ?_) (fun c14 => ?_)
        ·
          refine seq fun K15 h15 => ?_
          refine stp (v := .int .i64 0) (o_mv rfl) ?_
          refine stp (v := .bool false) (o_mv rfl) ?_
          refine h15 _ _ ?_
          clear h15
          refine ⟨(.tuple [.int .i64 0, .bool false].toArray), rfl, ?_⟩
          first | omega | (rw [may_no (by unfold mayT; omega)]; exact ⟨_, rfl, hM13.upd⟩) | (rw [may_yes (by unfold mayT; omega)]; exact ⟨_, rfl, hM13.upd⟩)
        ·
          refine h4 _ _ ?_
          clear h4
          refine seq fun K16 h16 => ?_
          refine stp (v := .pointer (some ⟨b2, 1, none⟩)) (o_fa rfl rfl) ?_
          refine m_ld (v := .int .i64 pg) hM13 (i := 0) (j := 0) rfl rfl rfl rfl ?_
          refine stp (v := .int .i64 (pg / 4100)) (o_quo rfl rfl (by omega) (v_quo (by omega) (by omega) (by simp only [inK]; omega))) ?_
          refine stp (v := .int .i64 (pg / 4100)) (o_mv rfl) ?_
          refine h16 _ _ ?_
          clear h16
          refine seq fun K17 h17 => ?_
          refine stp (v := .pointer (some ⟨b2, 1, none⟩)) (o_fa rfl rfl) ?_
          refine m_ld (v := .int .i64 pg) hM13 (i := 0) (j := 0) rfl rfl rfl rfl ?_
          refine stp (v := .int .i64 (pg % 4100)) (o_rem rfl rfl (by omega) (v_rem (by omega))) ?_
          refine stp (v := .int .i64 (pg % 4100)) (o_mv rfl) ?_
          refine h17 _ _ ?_
          clear h17
          refine seq fun K18 h18 => ?_
          refine seq fun K19 h19 => ?_
          refine stp (v := .int .i64 (pg % 4100)) (o_mv rfl) ?_
          refine stp (v := .bool (decide ((0 : Int) < (pg % 4100)))) (o_bin rfl rfl rfl) ?_
          refine h19 _ _ ?_
          clear h19
          refine cndP rfl (fun c20 => ?_) (fun c20 => ?_)
          ·
            refine seq fun K21 h21 => ?_
            refine stp (v := .int .i64 (pg % 4100)) (o_mv rfl) ?_
            refine stp (v := .int .i64 ((pg % 4100) - 4)) (o_bin rfl rfl (v_sub64 (by constructor <;> omega))) ?_
            refine stp (v := .int .i64 ((pg % 4100) - 4)) (o_mv rfl) ?_
            refine h21 _ _ ?_
            clear h21
            refine seq fun K22 h22 => ?_
            refine stp (v := .int .i64 ((pg % 4100) - 4)) (o_mv rfl) ?_
            refine stp (v := .bool (decide (((pg % 4100) - 4) < 1))) (o_bin rfl rfl rfl) ?_
            refine h22 _ _ ?_
            clear h22
            refine cndP rfl (fun c23 => ?_) (fun c23 => ?_)
            ·
              refine seq fun K24 h24 => ?_
              refine stp (v := .int .i64 0) (o_mv rfl) ?_
              refine stp (v := .bool false) (o_mv rfl) ?_
              refine h24 _ _ ?_
              clear h24
              refine ⟨(.tuple [.int .i64 0, .bool false].toArray), rfl, ?_⟩
              first | omega | (rw [may_no (by unfold mayT; omega)]; exact ⟨_, rfl, hM13.upd⟩) | (rw [may_yes (by unfold mayT; omega)]; exact ⟨_, rfl, hM13.upd⟩)
            ·
              refine h18 _ _ ?_
              clear h18
              refine seq fun K25 h25 => ?_
              refine stp (v := .int .i64 (pg / 4100)) (o_mv rfl) ?_
              refine stp (v := .int .i64 ((pg / 4100) * 4096)) (o_bin rfl rfl (v_mul64 (by constructor <;> omega))) ?_
              refine stp (v := .int .i64 ((pg % 4100) - 4)) (o_mv rfl) ?_
              refine stp (v := .int .i64 (((pg / 4100) * 4096) + ((pg % 4100) - 4))) (o_bin rfl rfl (v_add64 (by constructor <;> omega))) ?_
              refine stp (v := .int .i64 (((pg / 4100) * 4096) + ((pg % 4100) - 4))) (o_mv rfl) ?_
              refine stp (v := .bool true) (o_mv rfl) ?_
              refine h25 _ _ ?_
              clear h25
              refine ⟨(.tuple [.int .i64 (((pg / 4100) * 4096) + ((pg % 4100) - 4)), .bool true].toArray), rfl, ?_⟩
              first | omega | (rw [may_no (by unfold mayT; omega)]; exact ⟨_, rfl, hM13.upd⟩) | (rw [may_yes (by unfold mayT; omega)]; exact ⟨_, rfl, hM13.upd⟩)
          ·
            refine h18 _ _ ?_
            clear h18
            refine seq fun K26 h26 => ?_
            refine stp (v := .int .i64 (pg / 4100)) (o_mv rfl) ?_
            refine stp (v := .int .i64 ((pg / 4100) * 4096)) (o_bin rfl rfl (v_mul64 (by constructor <;> omega))) ?_
            refine stp (v := .int .i64 (pg % 4100)) (o_mv rfl) ?_
            refine stp (v := .int .i64 (((pg / 4100) * 4096) + (pg % 4100))) (o_bin rfl rfl (v_add64 (by constructor <;> omega))) ?_
            refine stp (v := .int .i64 (((pg / 4100) * 4096) + (pg % 4100))) (o_mv rfl) ?_
            refine stp (v := .bool true) (o_mv rfl) ?_
            refine h26 _ _ ?_
            clear h26
            refine ⟨(.tuple [.int .i64 (((pg / 4100) * 4096) + (pg % 4100)), .bool true].toArray), rfl, ?_⟩
            first | omega | (rw [may_no (by unfold mayT; omega)]; exact ⟨_, rfl, hM13.upd⟩) | (rw [may_yes (by unfold mayT; omega)]; exact ⟨_, rfl, hM13.upd⟩)

set_option maxRecDepth 100000 in
/-- foot.Trailer -/
theorem Trailer_ok (x : Value) (b : List UInt8) (size : Int) (hsz : inK .i64 size) (w : World) (hx : RdE byteV w x b) (hl : b.length ≤ 140737488355328) : Calls Try.prog 21 [x, .int .i64 size].toArray w (Rt fun r w' => r = .tuple #[.agg #[.int .i64 (trailF b size).1, .int .i64 (trailF b size).2.1], .int .i64 (trailF b size).2.2] ∧ Upd [] w w') := by
  have hM0 : Mem w [] w [] := Mem.nil w []
  simp only [inK] at hsz
  refine calls_vc mixed Try.func21 rfl C21 (by simp [Try.ntmps21]) ?_
  refine seq fun K1 h1 => ?_
  refine m_al hM0 fun b2 w3 (hM3 : Mem w [] w3 [[⟨b2, 36, [.int .i64 0, .int .i64 0]⟩]]) => ?_
  refine stp (v := .int .i64 0) (o_mv rfl) ?_
  refine h1 _ _ ?_
  clear h1
  refine seq fun K4 h4 => ?_
  refine seq fun K5 h5 => ?_
  refine stp (v := x) (o_mv rfl) ?_
  refine stp (v := .int .i64 (b.length : Nat)) (o_lenR (hx.upd hM3.upd) rfl rfl) ?_
  refine stp (v := .bool (decide (¬ ((b.length : Nat) : Int) = 24))) (o_bin rfl rfl v_neq) ?_
  refine h5 _ _ ?_
  clear h5
  refine cndP rfl (fun c6 => ?_) (fun c6 => ?_)
  ·
    refine seq fun K7 h7 => ?_
    refine stp (v := .agg ([.int .i64 0, .int .i64 0] : List Value).toArray) (o_bld rfl rfl) ?_
    refine m_stA (l := [.int .i64 0, .int .i64 0]) hM3 (i := 0) rfl rfl rfl rfl (by simp [oneCells, Value.oneCell', byteV]) (by simp) fun w8 (hM8 : Mem w [] w8 [[⟨b2, 36, [.int .i64 0, .int .i64 0]⟩]]) => ?_
    refine stp (v := .int .i64 81) (o_mv rfl) ?_
    refine h7 _ _ ?_
    clear h7
    show resV _ _ _ _ _
    refine res_cell (s := some 2) (by kernel_rfl) ?_
    refine vl_ldA (cs := [.int .i64 0, .int .i64 0]) rfl rfl ((hM8.at (i := 0) (j := 0) rfl rfl).agg rfl rfl) ?_
    refine res_tmp ?_
    refine ⟨(.tuple [.agg ([.int .i64 0, .int .i64 0] : List Value).toArray, .int .i64 81].toArray), rfl, ?_⟩
    have je := tr_len (b := b) (size := size) (by omega)
    exact ⟨by rw [je], hM8.upd⟩
  ·
    refine h4 _ _ ?_
    clear h4
    refine seq fun K9 h9 => ?_
    refine stp (v := x) (o_mv rfl) ?_
    refine m_call (Open_ok _ b w3 (hx.upd hM3.upd) (by first | omega | (simp; done) | (simp; omega))) rfl fun v10 w10 ⟨v10_, rs10, hr10, hs10, hm10⟩ => ?_
    have hM10 : Mem w [] w10 [[⟨b2, 36, [.int .i64 0, .int .i64 0]⟩], rs10] := hM3.add hm10
    subst hr10
    have hol10 := openF_len b
    refine stp (v := .tuple [v10_, .int .i64 ((openF b).2)].toArray) (o_mv rfl) ?_
    refine stp (v := v10_) (o_ext rfl rfl) ?_
    refine stp (v := .int .i64 ((openF b).2)) (o_ext rfl rfl) ?_
    refine stp (v := v10_) (o_mv rfl) ?_
    refine stp (v := .int .i64 ((openF b).2)) (o_mv rfl) ?_
    refine h9 _ _ ?_
    clear h9
    refine seq fun K11 h11 => ?_
    refine seq fun K12 h12 => ?_
    refine stp (v := .int .i64 ((openF b).2)) (o_mv rfl) ?_
    refine stp (v := .bool (decide (¬ ((openF b).2) = 0))) (o_bin rfl rfl v_neq) ?_
    refine h12 _ _ ?_
    clear h12
    refine cndP rfl (fun c13 => ?_) (fun c13 => ?_)
    ·
      refine seq fun K14 h14 => ?_
      refine stp (v := .agg ([.int .i64 0, .int .i64 0] : List Value).toArray) (o_bld rfl rfl) ?_
      refine m_stA (l := [.int .i64 0, .int .i64 0]) hM10 (i := 0) rfl rfl rfl rfl (by simp [oneCells, Value.oneCell', byteV]) (by simp) fun w15 (hM15 : Mem w [] w15 [[⟨b2, 36, [.int .i64 0, .int .i64 0]⟩], rs10]) => ?_
      refine stp (v := .int .i64 81) (o_mv rfl) ?_
      refine h14 _ _ ?_
      clear h14
      show resV _ _ _ _ _
      refine res_cell (s := some 2) (by kernel_rfl) ?_
      refine vl_ldA (cs := [.int .i64 0, .int .i64 0]) rfl rfl ((hM15.at (i := 0) (j := 0) rfl rfl).agg rfl rfl) ?_
      refine res_tmp ?_
      refine ⟨(.tuple [.agg ([.int .i64 0, .int .i64 0] : List Value).toArray, .int .i64 81].toArray), rfl, ?_⟩
      have je := tr_open (b := b) (size := size) (by omega) (by omega)
      exact ⟨by rw [je], hM15.upd⟩
    ·
      refine h11 _ _ ?_
      clear h11
      refine seq fun K16 h16 => ?_
      refine stp (v := .int .i64 4) (o_mv rfl) ?_
      refine h16 _ _ ?_
      clear h16
      refine seq fun K17 h17 => ?_
      intro wd e1 e2 e3 e4
      have hd := Upd.same e1 e2 e3 e4 []
      have hM18 := hM10.pure hd
      clear e1 e2 e3 e4
      refine ⟨(some []), ?_⟩
      show vd _ _ _ _ _ _ _
      have h20 := openF_20 (b := b) (by omega) (by omega)
      have hw1 := word_lt (((openF b).1.drop 4).take 8)
      have hw2 := word_lt (((openF b).1.drop 12).take 8)
      refine dq (v := v10_) (o_mv rfl) ?_
      refine dq (v := .int .i64 4) (o_mv rfl) ?_
      refine dq (v := .int .i64 4) (o_mv rfl) ?_
      refine dq (v := .int .i64 (4 + 8)) (o_bin rfl rfl (v_add64 (by constructor <;> omega))) ?_
      refine dqp (m_slcE 4 12 (hs10.rd hM18 (i := 1) rfl) rfl (by omega) (by omega) ⟨_, v_int (by omega)⟩ ⟨_, v_int (by omega)⟩ fun u19 hu19 => ?_)
      show vd _ _ _ _ _ _ _
      have hu19' : RdE byteV wd u19 (((openF b).1.drop 4).take 8) := by
        have e : (((openF b).1).take 12).drop 4 = (((openF b).1.drop 4).take 8) := drop_take0 _ 4 8
        rw [e] at hu19; exact hu19
      refine dq (v := v10_) (o_mv rfl) ?_
      refine dq (v := .int .i64 4) (o_mv rfl) ?_
      refine dq (v := .int .i64 (4 + 8)) (o_bin rfl rfl (v_add64 (by constructor <;> omega))) ?_
      refine dqp (m_slcE 12 ((openF b).1.length) (hs10.rd hM18 (i := 1) rfl) rfl (by omega) (by omega) rfl ⟨_, v_int (by omega)⟩ fun u20 hu20 => ?_)
      show vd _ _ _ _ _ _ _
      have hu20' : RdE byteV wd u20 (((openF b).1.drop 12).take 8) := by
        have e : (((openF b).1).take ((openF b).1.length)).drop 12 = (((openF b).1.drop 12).take 8) := by first | exact drop_take0 _ 12 8 | (rw [List.take_length, List.take_of_length_le (l := List.drop 12 _) (by rw [List.length_drop]; omega)])
        rw [e] at hu20; exact hu20
      refine dl (m_call (Word_ok _ (((openF b).1.drop 4).take 8) wd (hu19') (by first | omega | (simp; done) | (simp; omega))) rfl fun v21 w21 ⟨hr21, hu21⟩ => ?_)
      have hM21 : Mem w [] w21 [[⟨b2, 36, [.int .i64 0, .int .i64 0]⟩], rs10] := hM18.pure hu21
      subst hr21
      refine ⟨(fun b hb => by cases hb), ?_⟩
      refine dl (m_call (Word_ok _ (((openF b).1.drop 12).take 8) w21 (hu20'.upd (hu21)) (by first | omega | (simp; done) | (simp; omega))) rfl fun v22 w22 ⟨hr22, hu22⟩ => ?_)
      have hM22 : Mem w [] w22 [[⟨b2, 36, [.int .i64 0, .int .i64 0]⟩], rs10] := hM21.pure hu22
      subst hr22
      refine ⟨(fun b hb => by cases hb), ?_⟩
      refine dq (v := .int .u64 (word (((openF b).1.drop 4).take 8) : Nat)) (o_mv rfl) ?_
      refine dq (v := .int .u64 (word (((openF b).1.drop 12).take 8) : Nat)) (o_mv rfl) ?_
      refine h17 _ _ ?_
      clear h17
      refine seq fun K23 h23 => ?_
      refine seq fun K24 h24 => ?_
      refine stp (v := v10_) (o_mv rfl) ?_
      refine stp (v := .int .i64 4) (o_mv rfl) ?_
      refine m_slcO 4 (hs10) rfl (by omega) (⟨_, v_int (by omega)⟩) trivial fun u25 hu25 => ?_
      refine m_b2s rfl (hu25.rd hM22 (i := 1) rfl) ?_
      refine stp (v := .bool (decide (¬ (((openF b).1).take 4) = ([119, 110, 119, 49])))) (o_sne rfl rfl rfl) ?_
      refine stp (v := .bool (decide (¬ (((openF b).1).take 4) = ([119, 110, 119, 49])))) (o_mv rfl) ?_
      refine splitP rfl (fun hgT => ?_) (fun hgF => ?_)
      ·
        refine gno rfl (by simp) ?_
        refine gno rfl (by simp) ?_
        refine stp (v := .bool true) (o_pickT rfl rfl) ?_
        refine stp (v := .bool true) (o_mv rfl) ?_
        refine splitT rfl ?_
        refine gno rfl (by simp) ?_
        refine gno rfl (by simp) ?_
        refine stp (v := .bool true) (o_pickT rfl rfl) ?_
        refine h24 _ _ ?_
        clear h24
        refine cndT rfl ?_
        refine seq fun K27 h27 => ?_
        refine stp (v := .agg ([.int .i64 0, .int .i64 0] : List Value).toArray) (o_bld rfl rfl) ?_
        refine m_stA (l := [.int .i64 0, .int .i64 0]) hM22 (i := 0) rfl rfl rfl rfl (by simp [oneCells, Value.oneCell', byteV]) (by simp) fun w28 (hM28 : Mem w [] w28 [[⟨b2, 36, [.int .i64 0, .int .i64 0]⟩], rs10]) => ?_
        refine stp (v := .int .i64 81) (o_mv rfl) ?_
        refine h27 _ _ ?_
        clear h27
        show resV _ _ _ _ _
        refine res_cell (s := some 2) (by kernel_rfl) ?_
        refine vl_ldA (cs := [.int .i64 0, .int .i64 0]) rfl rfl ((hM28.at (i := 0) (j := 0) rfl rfl).agg rfl rfl) ?_
        refine res_tmp ?_
        refine ⟨(.tuple [.agg ([.int .i64 0, .int .i64 0] : List Value).toArray, .int .i64 81].toArray), rfl, ?_⟩
        have je := tr_magic (b := b) (size := size) (by omega) (by omega) (show ¬ (openF b).1.take 4 = magic from by simpa [magic] using hgT)
        exact ⟨by rw [je], hM28.upd⟩
      ·
        refine stg rfl (v := .int .u64 (word (((openF b).1.drop 4).take 8) : Nat)) (o_mv rfl) ?_
        refine stg rfl (v := .bool (decide ((268435456 : Int) < ((word (((openF b).1.drop 4).take 8) : Nat) : Int)))) (o_bin rfl rfl rfl) ?_
        refine stp (v := .bool (decide ((268435456 : Int) < ((word (((openF b).1.drop 4).take 8) : Nat) : Int)))) (o_pickF rfl rfl) ?_
        refine stp (v := .bool (decide ((268435456 : Int) < ((word (((openF b).1.drop 4).take 8) : Nat) : Int)))) (o_mv rfl) ?_
        refine splitP rfl (fun c29 => ?_) (fun c29 => ?_)
        ·
          refine gno rfl (by simp) ?_
          refine gno rfl (by simp) ?_
          refine stp (v := .bool true) (o_pickT rfl rfl) ?_
          refine h24 _ _ ?_
          clear h24
          refine cndT rfl ?_
          refine seq fun K30 h30 => ?_
          refine stp (v := .agg ([.int .i64 0, .int .i64 0] : List Value).toArray) (o_bld rfl rfl) ?_
          refine m_stA (l := [.int .i64 0, .int .i64 0]) hM22 (i := 0) rfl rfl rfl rfl (by simp [oneCells, Value.oneCell', byteV]) (by simp) fun w31 (hM31 : Mem w [] w31 [[⟨b2, 36, [.int .i64 0, .int .i64 0]⟩], rs10]) => ?_
          refine stp (v := .int .i64 81) (o_mv rfl) ?_
          refine h30 _ _ ?_
          clear h30
          show resV _ _ _ _ _
          refine res_cell (s := some 2) (by kernel_rfl) ?_
          refine vl_ldA (cs := [.int .i64 0, .int .i64 0]) rfl rfl ((hM31.at (i := 0) (j := 0) rfl rfl).agg rfl rfl) ?_
          refine res_tmp ?_
          refine ⟨(.tuple [.agg ([.int .i64 0, .int .i64 0] : List Value).toArray, .int .i64 81].toArray), rfl, ?_⟩
          have je := tr_may (b := b) (size := size) (by omega) (by omega) (show (openF b).1.take 4 = magic from by simpa [magic] using hgF) (by unfold mayT; omega)
          exact ⟨by rw [je], hM31.upd⟩
        ·
          refine stg rfl (v := .int .u64 (word (((openF b).1.drop 12).take 8) : Nat)) (o_mv rfl) ?_
          refine stg rfl (v := .bool (decide ((33554432 : Int) < ((word (((openF b).1.drop 12).take 8) : Nat) : Int)))) (o_bin rfl rfl rfl) ?_
          refine stp (v := .bool (decide ((33554432 : Int) < ((word (((openF b).1.drop 12).take 8) : Nat) : Int)))) (o_pickF rfl rfl) ?_
          refine h24 _ _ ?_
          clear h24
          refine cndP rfl (fun c32 => ?_) (fun c32 => ?_)
          ·
            refine seq fun K33 h33 => ?_
            refine stp (v := .agg ([.int .i64 0, .int .i64 0] : List Value).toArray) (o_bld rfl rfl) ?_
            refine m_stA (l := [.int .i64 0, .int .i64 0]) hM22 (i := 0) rfl rfl rfl rfl (by simp [oneCells, Value.oneCell', byteV]) (by simp) fun w34 (hM34 : Mem w [] w34 [[⟨b2, 36, [.int .i64 0, .int .i64 0]⟩], rs10]) => ?_
            refine stp (v := .int .i64 81) (o_mv rfl) ?_
            refine h33 _ _ ?_
            clear h33
            show resV _ _ _ _ _
            refine res_cell (s := some 2) (by kernel_rfl) ?_
            refine vl_ldA (cs := [.int .i64 0, .int .i64 0]) rfl rfl ((hM34.at (i := 0) (j := 0) rfl rfl).agg rfl rfl) ?_
            refine res_tmp ?_
            refine ⟨(.tuple [.agg ([.int .i64 0, .int .i64 0] : List Value).toArray, .int .i64 81].toArray), rfl, ?_⟩
            have je := tr_may (b := b) (size := size) (by omega) (by omega) (show (openF b).1.take 4 = magic from by simpa [magic] using hgF) (by unfold mayT; omega)
            exact ⟨by rw [je], hM34.upd⟩
          ·
            refine h23 _ _ ?_
            clear h23
            refine seq fun K35 h35 => ?_
            refine stp (v := .int .u64 (word (((openF b).1.drop 4).take 8) : Nat)) (o_mv rfl) ?_
            refine stp (v := .int .i64 (word (((openF b).1.drop 4).take 8) : Nat)) (o_conv rfl (v_same (by simp only [inK]; omega))) ?_
            refine stp (v := .int .u64 (word (((openF b).1.drop 12).take 8) : Nat)) (o_mv rfl) ?_
            refine stp (v := .int .i64 (word (((openF b).1.drop 12).take 8) : Nat)) (o_conv rfl (v_same (by simp only [inK]; omega))) ?_
            refine stp (v := .agg ([.int .i64 (word (((openF b).1.drop 4).take 8) : Nat), .int .i64 (word (((openF b).1.drop 12).take 8) : Nat)] : List Value).toArray) (o_bld rfl rfl) ?_
            refine m_al hM22 fun b36 w37 (hM37 : Mem w [] w37 [[⟨b2, 36, [.int .i64 0, .int .i64 0]⟩], rs10, [⟨b36, 36, [.int .i64 0, .int .i64 0]⟩]]) => ?_
            refine m_stA (l := [.int .i64 (word (((openF b).1.drop 4).take 8) : Nat), .int .i64 (word (((openF b).1.drop 12).take 8) : Nat)]) hM37 (i := 2) rfl rfl rfl rfl (by simp [oneCells, Value.oneCell', byteV]) (by simp) fun w38 (hM38 : Mem w [] w38 [[⟨b2, 36, [.int .i64 0, .int .i64 0]⟩], rs10, [⟨b36, 36, [.int .i64 (word (((openF b).1.drop 4).take 8) : Nat), .int .i64 (word (((openF b).1.drop 12).take 8) : Nat)]⟩]]) => ?_
            refine h35 _ _ ?_
            clear h35
            refine seq fun K39 h39 => ?_
            refine seq fun K40 h40 => ?_
            refine m_ldA (l := [.int .i64 (word (((openF b).1.drop 4).take 8) : Nat), .int .i64 (word (((openF b).1.drop 12).take 8) : Nat)]) hM38 (i := 2) (j := 0) rfl rfl rfl rfl rfl ?_
            refine m_call (rightTrail_ok (word (((openF b).1.drop 4).take 8) : Nat) (word (((openF b).1.drop 12).take 8) : Nat) (by omega) (by omega) w38) rfl fun v41 w41 ⟨n41, hr41, hu41⟩ => ?_
            have hM41 : Mem w [] w41 [[⟨b2, 36, [.int .i64 0, .int .i64 0]⟩], rs10, [⟨b36, 36, [.int .i64 (word (((openF b).1.drop 4).take 8) : Nat), .int .i64 (word (((openF b).1.drop 12).take 8) : Nat)]⟩]] := hM38.pure hu41
            subst hr41
            refine stp (v := .tuple [.int .i64 n41, .bool (decide (mayT (word (((openF b).1.drop 4).take 8) : Nat) (word (((openF b).1.drop 12).take 8) : Nat)))].toArray) (o_mv rfl) ?_
            refine stp (v := .int .i64 n41) (o_ext rfl rfl) ?_
            refine stp (v := .bool (decide (mayT (word (((openF b).1.drop 4).take 8) : Nat) (word (((openF b).1.drop 12).take 8) : Nat)))) (o_ext rfl rfl) ?_
            refine stp (v := .int .i64 n41) (o_mv rfl) ?_
            refine stp (v := .bool (decide (mayT (word (((openF b).1.drop 4).take 8) : Nat) (word (((openF b).1.drop 12).take 8) : Nat)))) (o_mv rfl) ?_
            refine h40 _ _ ?_
            clear h40
            refine seq fun K42 h42 => ?_
            refine stp (v := .bool (decide (mayT (word (((openF b).1.drop 4).take 8) : Nat) (word (((openF b).1.drop 12).take 8) : Nat)))) (o_mv rfl) ?_
            refine stp (v := .bool (!(decide (mayT (word (((openF b).1.drop 4).take 8) : Nat) (word (((openF b).1.drop 12).take 8) : Nat))))) (o_not rfl rfl) ?_
            refine h42 _ _ ?_
            clear h42
            refine cnd rfl (fun hmT => ?_) (fun hmF => ?_)
            ·
              refine seq fun K44 h44 => ?_
              refine stp (v := .agg ([.int .i64 0, .int .i64 0] : List Value).toArray) (o_bld rfl rfl) ?_
              refine m_stA (l := [.int .i64 0, .int .i64 0]) hM41 (i := 0) rfl rfl rfl rfl (by simp [oneCells, Value.oneCell', byteV]) (by simp) fun w45 (hM45 : Mem w [] w45 [[⟨b2, 36, [.int .i64 0, .int .i64 0]⟩], rs10, [⟨b36, 36, [.int .i64 (word (((openF b).1.drop 4).take 8) : Nat), .int .i64 (word (((openF b).1.drop 12).take 8) : Nat)]⟩]]) => ?_
              refine stp (v := .int .i64 81) (o_mv rfl) ?_
              refine h44 _ _ ?_
              clear h44
              show resV _ _ _ _ _
              refine res_cell (s := some 2) (by kernel_rfl) ?_
              refine vl_ldA (cs := [.int .i64 0, .int .i64 0]) rfl rfl ((hM45.at (i := 0) (j := 0) rfl rfl).agg rfl rfl) ?_
              refine res_tmp ?_
              refine ⟨(.tuple [.agg ([.int .i64 0, .int .i64 0] : List Value).toArray, .int .i64 81].toArray), rfl, ?_⟩
              have je := tr_may (b := b) (size := size) (by omega) (by omega) (show (openF b).1.take 4 = magic from by simpa [magic] using hgF) (by simpa using hmT)
              exact ⟨by rw [je], hM45.upd⟩
            ·
              refine h39 _ _ ?_
              clear h39
              refine seq fun K46 h46 => ?_
              refine seq fun K47 h47 => ?_
              refine stp (v := .pointer (some ⟨b36, 0, none⟩)) (o_fa rfl rfl) ?_
              refine m_ld (v := .int .i64 (word (((openF b).1.drop 4).take 8) : Nat)) hM41 (i := 2) (j := 0) rfl rfl rfl rfl ?_
              refine stp (v := .pointer (some ⟨b36, 1, none⟩)) (o_fa rfl rfl) ?_
              refine m_ld (v := .int .i64 (word (((openF b).1.drop 12).take 8) : Nat)) hM41 (i := 2) (j := 0) rfl rfl rfl rfl ?_
              refine stp (v := .int .i64 ((word (((openF b).1.drop 4).take 8) : Nat) + (word (((openF b).1.drop 12).take 8) : Nat))) (o_bin rfl rfl (v_add64 (by constructor <;> omega))) ?_
              refine stp (v := .int .i64 (((word (((openF b).1.drop 4).take 8) : Nat) + (word (((openF b).1.drop 12).take 8) : Nat)) + 24)) (o_bin rfl rfl (v_add64 (by constructor <;> omega))) ?_
              refine stp (v := .int .i64 size) (o_mv rfl) ?_
              refine stp (v := .bool (decide (¬ (((word (((openF b).1.drop 4).take 8) : Nat) + (word (((openF b).1.drop 12).take 8) : Nat)) + 24 : Int) = size))) (o_bin rfl rfl v_neq) ?_
              refine h47 _ _ ?_
              clear h47
              refine cndP rfl (fun c48 => ?_) (fun c48 => ?_)
              ·
                refine seq fun K49 h49 => ?_
                refine stp (v := .agg ([.int .i64 0, .int .i64 0] : List Value).toArray) (o_bld rfl rfl) ?_
                refine m_stA (l := [.int .i64 0, .int .i64 0]) hM41 (i := 0) rfl rfl rfl rfl (by simp [oneCells, Value.oneCell', byteV]) (by simp) fun w50 (hM50 : Mem w [] w50 [[⟨b2, 36, [.int .i64 0, .int .i64 0]⟩], rs10, [⟨b36, 36, [.int .i64 (word (((openF b).1.drop 4).take 8) : Nat), .int .i64 (word (((openF b).1.drop 12).take 8) : Nat)]⟩]]) => ?_
                refine stp (v := .int .i64 82) (o_mv rfl) ?_
                refine h49 _ _ ?_
                clear h49
                show resV _ _ _ _ _
                refine res_cell (s := some 2) (by kernel_rfl) ?_
                refine vl_ldA (cs := [.int .i64 0, .int .i64 0]) rfl rfl ((hM50.at (i := 0) (j := 0) rfl rfl).agg rfl rfl) ?_
                refine res_tmp ?_
                refine ⟨(.tuple [.agg ([.int .i64 0, .int .i64 0] : List Value).toArray, .int .i64 82].toArray), rfl, ?_⟩
                have je := tr_size (b := b) (size := size) (by omega) (by omega) (show (openF b).1.take 4 = magic from by simpa [magic] using hgF) (by simpa using hmF) (by omega)
                exact ⟨by rw [je], hM50.upd⟩
              ·
                refine h46 _ _ ?_
                clear h46
                refine seq fun K51 h51 => ?_
                refine m_ldA (l := [.int .i64 (word (((openF b).1.drop 4).take 8) : Nat), .int .i64 (word (((openF b).1.drop 12).take 8) : Nat)]) hM41 (i := 2) (j := 0) rfl rfl rfl rfl rfl ?_
                refine m_stA (l := [.int .i64 (word (((openF b).1.drop 4).take 8) : Nat), .int .i64 (word (((openF b).1.drop 12).take 8) : Nat)]) hM41 (i := 0) rfl rfl rfl rfl (by simp [oneCells, Value.oneCell', byteV]) (by simp) fun w52 (hM52 : Mem w [] w52 [[⟨b2, 36, [.int .i64 (word (((openF b).1.drop 4).take 8) : Nat), .int .i64 (word (((openF b).1.drop 12).take 8) : Nat)]⟩], rs10, [⟨b36, 36, [.int .i64 (word (((openF b).1.drop 4).take 8) : Nat), .int .i64 (word (((openF b).1.drop 12).take 8) : Nat)]⟩]]) => ?_
                refine stp (v := .int .i64 0) (o_mv rfl) ?_
                refine h51 _ _ ?_
                clear h51
                show resV _ _ _ _ _
                refine res_cell (s := some 2) (by kernel_rfl) ?_
                refine vl_ldA (cs := [.int .i64 (word (((openF b).1.drop 4).take 8) : Nat), .int .i64 (word (((openF b).1.drop 12).take 8) : Nat)]) rfl rfl ((hM52.at (i := 0) (j := 0) rfl rfl).agg rfl rfl) ?_
                refine res_tmp ?_
                refine ⟨(.tuple [.agg ([.int .i64 (word (((openF b).1.drop 4).take 8) : Nat), .int .i64 (word (((openF b).1.drop 12).take 8) : Nat)] : List Value).toArray, .int .i64 0].toArray), rfl, ?_⟩
                have je := tr_ok (b := b) (size := size) (by omega) (by omega) (show (openF b).1.take 4 = magic from by simpa [magic] using hgF) (by simpa using hmF) (by omega)
                exact ⟨by rw [je], hM52.upd⟩
