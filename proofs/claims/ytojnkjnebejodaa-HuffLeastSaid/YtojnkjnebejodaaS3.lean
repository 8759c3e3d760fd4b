/- Sorting: the merge, the whole. -/
import Derived.Test.YtojnkjnebejodaaS2
namespace Go.Proofs.Ytojnkjnebejodaa.E
open Go

def SymOk (N : Nat) : Prop := ∀ (x : Value) (l : List Th) (r0 : List Ent) (w : World) (hs0 : SlS thC 257 81 x l r0) (hr : Res w r0) (hl : l.length ≤ 1000000) (a m b : Nat) (hb : a < m ∧ m < b ∧ b ≤ l.length) (h1 : Srt Th.r th0 l a m) (h2 : Srt Th.r th0 l m b) (hc : CrO Th.r Th.w th0 l a m b) (_ : b - a < N), Calls Try.prog 78 [x, .int .i64 (a : Nat), .int .i64 (m : Nat), .int .i64 (b : Nat), .func (.func 68) ([] : List Value).toArray ([] : List Value).toArray].toArray w (Rt fun _ w' => ∃ l' r', PostS Th.r th0 l l' a b ∧ SlS thC 257 81 x l' r' ∧ Mem w (ids r0) w' [r'])

set_option maxHeartbeats 1000000 in
set_option maxRecDepth 100000 in
/-- slices.symMergeCmpFunc[huff.thing] -/
theorem sym_step (N : Nat) (ih : SymOk N) (x : Value) (l : List Th) (r0 : List Ent) (w : World) (hs0 : SlS thC 257 81 x l r0) (hr : Res w r0) (hl : l.length ≤ 1000000) (a m b : Nat) (hb : a < m ∧ m < b ∧ b ≤ l.length) (h1 : Srt Th.r th0 l a m) (h2 : Srt Th.r th0 l m b) (hc : CrO Th.r Th.w th0 l a m b) (hN : b - a ≤ N) : Calls Try.prog 78 [x, .int .i64 (a : Nat), .int .i64 (m : Nat), .int .i64 (b : Nat), .func (.func 68) ([] : List Value).toArray ([] : List Value).toArray].toArray w (Rt fun _ w' => ∃ l' r', PostS Th.r th0 l l' a b ∧ SlS thC 257 81 x l' r' ∧ Mem w (ids r0) w' [r']) := by
  have hM0 : Mem w (ids r0) w [r0] := Mem.start hr
  refine calls_vc mixed Try.func78 rfl C78 (by simp [Try.ntmps78]) ?_
  refine seq fun K1 h1 => ?_
  refine seq fun K2 h2 => ?_
  refine stp (v := .int .i64 (m : Nat)) (o_mv rfl) ?_
  refine stp (v := .int .i64 (a : Nat)) (o_mv rfl) ?_
  refine stp (v := .int .i64 ((m : Nat) - (a : Nat))) (o_bin rfl rfl (v_sub64 (by constructor <;> omega))) ?_
  refine stp (v := .bool (decide (((m : Nat) - (a : Nat) : Int) = 1))) (o_bin rfl rfl rfl) ?_
  refine h2 _ _ ?_
  clear h2
  refine cndP rfl (fun c3 => ?_) (fun c3 => ?_)
  ·
    refine seq fun K4 h4 => ?_
    refine stp (v := .int .i64 (m : Nat)) (o_mv rfl) ?_
    refine stp (v := .int .i64 (m : Nat)) (o_mv rfl) ?_
    refine h4 _ _ ?_
    clear h4
    refine seq fun K5 h5 => ?_
    refine stp (v := .int .i64 (b : Nat)) (o_mv rfl) ?_
    refine stp (v := .int .i64 (b : Nat)) (o_mv rfl) ?_
    refine h5 _ _ ?_
    clear h5
    refine seq fun K6 h6 => ?_
    refine lp (n := fun _ _ => False) (ι := (Nat) × (Nat)) (fun ⟨i, j⟩ f w' => f 10 = .int .i64 (i : Nat) ∧ f 11 = .int .i64 (j : Nat) ∧ f 0 = x ∧ f 1 = .int .i64 (a : Nat) ∧ f 4 = .func (.func 68) [].toArray [].toArray ∧ Mem w (ids r0) w' [r0] ∧ (m ≤ i ∧ i ≤ j ∧ j ≤ b) ∧ (i = m ∨ Th.r (l.getD (i - 1) th0) < Th.r (l.getD a th0)) ∧ (j = b ∨ Th.r (l.getD a th0) < Th.r (l.getD j th0))) (fun ⟨i, j⟩ => j - i) (m, b) ?_ ?_
    · exact ⟨by first | rfl | exact v_int (by omega) | exact v_int (by simp) | exact v_int (by simp; omega), by first | rfl | exact v_int (by omega) | exact v_int (by simp) | exact v_int (by simp; omega), rfl, by first | rfl | exact v_int (by omega) | exact v_int (by simp) | exact v_int (by simp; omega), rfl, hM0, by omega, .inl rfl, .inl rfl⟩
    · rintro ⟨i, j⟩ f w7 ⟨e7_10, e7_11, e7_0, e7_1, e7_4, hM7, hij, hlo, hhi⟩ K8 h8
      obtain ⟨frm, rfl⟩ : ∃ frm, f = (upd (upd (upd (upd (upd frm 10 (.int .i64 (i : Nat))) 11 (.int .i64 (j : Nat))) 0 (x)) 1 (.int .i64 (a : Nat))) 4 (.func (.func 68) [].toArray [].toArray)) := ⟨f, by rw [upd_self e7_10, upd_self e7_11, upd_self e7_0, upd_self e7_1, upd_self e7_4]⟩
      clear e7_10 e7_11 e7_0 e7_1 e7_4
      refine seq fun K9 h9 => ?_
      refine seq fun K10 h10 => ?_
      refine stp (v := .int .i64 (i : Nat)) (o_mv rfl) ?_
      refine stp (v := .int .i64 (j : Nat)) (o_mv rfl) ?_
      refine stp (v := .bool (decide (((i : Nat) : Int) < (j : Nat)))) (o_bin rfl rfl rfl) ?_
      refine h10 _ _ ?_
      clear h10
      refine cndP rfl (fun c11 => ?_) (fun c11 => ?_)
      ·
        refine h9 _ _ ?_
        clear h9
        refine seq fun K12 h12 => ?_
        refine stp (v := .int .i64 (i : Nat)) (o_mv rfl) ?_
        refine stp (v := .int .i64 (j : Nat)) (o_mv rfl) ?_
        refine stp (v := .int .i64 ((i : Nat) + (j : Nat))) (o_bin rfl rfl (v_add64 (by constructor <;> omega))) ?_
        refine stp (v := .int .u64 ((i : Nat) + (j : Nat))) (o_conv rfl (v_same (by simp only [inK]; omega))) ?_
        refine stp (v := .int .u64 (((i : Nat) + (j : Nat)) / 2)) (o_shr rfl rfl (by omega) (v_shr 1 (by decide))) ?_
        obtain ⟨hh, hhh⟩ : ∃ t, t = (i + j) / 2 := ⟨_, rfl⟩
        refine stp (v := .int .i64 (hh : Nat)) (o_conv rfl ((v_same (by simp only [inK]; omega)).trans (v_int (by omega)))) ?_
        refine stp (v := .int .i64 (hh : Nat)) (o_mv rfl) ?_
        refine h12 _ _ ?_
        clear h12
        refine seq fun K13 h13 => ?_
        intro wd e1 e2 e3 e4
        have hd := Upd.same e1 e2 e3 e4 []
        have hM14 := hM7.pure hd
        clear e1 e2 e3 e4
        refine ⟨(some [(blkV x)]), ?_⟩
        show vd _ _ _ _ _ _ _
        refine dq (v := .func (.func 68) [].toArray [].toArray) (o_mv rfl) ?_
        refine dq (v := x) (o_mv rfl) ?_
        refine dq (v := .int .i64 (hh : Nat)) (o_mv rfl) ?_
        refine dqp (m_idxS3 th0 (j := hh) (hs0.rd hM14 (i := 0) rfl) (hs0.rd hM14 (i := 0) rfl) rfl rfl (by omega) fun b15 o15 hp15 hbb15 => ?_)
        show vd _ _ _ _ _ _ _
        subst hbb15
        refine dq (v := x) (o_mv rfl) ?_
        refine dq (v := .int .i64 (a : Nat)) (o_mv rfl) ?_
        refine dqp (m_idxS3 th0 (j := a) (hs0.rd hM14 (i := 0) rfl) (hs0.rd hM14 (i := 0) rfl) rfl rfl (by omega) fun b16 o16 hp16 hbb16 => ?_)
        show vd _ _ _ _ _ _ _
        subst hbb16
        refine dqldA (cs := thC (l.getD a th0)) rfl (by simp [isHeld]) (thC_len _) (hp16.all) ?_
        refine dl (ldA (cs := thC (l.getD hh th0)) rfl (thC_len _) (hp15.all) ?_)
        refine ⟨(fun b hb => rfl), ?_⟩
        refine dl (m_callv rfl (by kernel_rfl) (cmpW_ok (l.getD hh th0) (l.getD a th0) wd) rfl fun v17 w17 ⟨hr17, hu17⟩ => ?_)
        have hM17 : Mem w (ids r0) w17 [r0] := hM14.pure hu17
        subst hr17
        have hh17 := held_upd (wr := wd) (bs := [(blkV x)]) hu17 (fun b hb => by
          simp only [List.mem_cons, List.not_mem_nil, or_false] at hb
          rw [hb]; exact ⟨Rd.blkV_ltS (hs0.rd hM14 (i := 0) rfl) (by omega), by simp⟩) (fun b hb => rfl)
        refine ⟨hh17, ?_⟩
        refine dq (v := .bool (decide ((cmpW (l.getD hh th0) (l.getD a th0)) < 0))) (o_bin rfl rfl rfl) ?_
        refine h13 _ _ ?_
        clear h13
        refine cndP rfl (fun c18 => ?_) (fun c18 => ?_)
        ·
          refine stp (v := .int .i64 (hh : Nat)) (o_mv rfl) ?_
          refine stp (v := .int .i64 ((hh : Nat) + 1)) (o_bin rfl rfl (v_add64 (by constructor <;> omega))) ?_
          refine stp (v := .int .i64 ((hh : Nat) + 1)) (o_mv rfl) ?_
          refine h8 (hh + 1, j) _ _ ⟨by first | rfl | exact v_int (by omega) | exact v_int (by simp) | exact v_int (by simp; omega), by first | rfl | exact v_int (by omega) | exact v_int (by simp) | exact v_int (by simp; omega), rfl, by first | rfl | exact v_int (by omega) | exact v_int (by simp) | exact v_int (by simp; omega), rfl, hM17, by omega, .inr (by rw [Nat.add_sub_cancel]; exact (hc a hh (by omega) (by omega) (by omega) (by omega)).1 (cmpW_neg.1 (by assumption))), hhi⟩ (by (try dsimp only); omega)
        ·
          refine stp (v := .int .i64 (hh : Nat)) (o_mv rfl) ?_
          refine stp (v := .int .i64 (hh : Nat)) (o_mv rfl) ?_
          refine h8 (i, hh) _ _ ⟨by first | rfl | exact v_int (by omega) | exact v_int (by simp) | exact v_int (by simp; omega), by first | rfl | exact v_int (by omega) | exact v_int (by simp) | exact v_int (by simp; omega), rfl, by first | rfl | exact v_int (by omega) | exact v_int (by simp) | exact v_int (by simp; omega), rfl, hM17, by omega, hlo, .inr ((hc a hh (by omega) (by omega) (by omega) (by omega)).2 (fun k => absurd (cmpW_neg.2 k) (by assumption)))⟩ (by (try dsimp only); omega)
      ·
        refine h6 _ _ ?_
        clear h6
        refine seq fun K19 h19 => ?_
        refine seq fun K20 h20 => ?_
        refine stp (v := .int .i64 (a : Nat)) (o_mv rfl) ?_
        refine stp (v := .int .i64 (a : Nat)) (o_mv rfl) ?_
        refine h20 _ _ ?_
        clear h20
        refine lp (n := fun _ _ => False) (ι := (Nat) × (List Th) × (List Ent)) (fun ⟨k, lc, r0_⟩ f w' => f 0 = x ∧ f 13 = .int .i64 (k : Nat) ∧ f 10 = .int .i64 (i : Nat) ∧ Mem w (ids r0) w' [r0_] ∧ (a ≤ k ∧ k + 1 ≤ i) ∧ (MvL th0 l lc a k) ∧ (lc.length = l.length) ∧ (SlS thC 257 81 x (lc) r0_)) (fun ⟨k, lc, r0_⟩ => i - k) (a, l, r0) ?_ ?_
        · exact ⟨rfl, by first | rfl | exact v_int (by omega) | exact v_int (by simp) | exact v_int (by simp; omega), by first | rfl | exact v_int (by omega) | exact v_int (by simp) | exact v_int (by simp; omega), hM7, by omega, MvL.init, rfl, by first | exact hs0 | simpa using hs0⟩
        · rintro ⟨k, lc, r0_⟩ f w21 ⟨e21_0, e21_13, e21_10, hM21, hk, hV, hn, hy0_⟩ K22 h22
          obtain ⟨frm, rfl⟩ : ∃ frm, f = (upd (upd (upd frm 0 (x)) 13 (.int .i64 (k : Nat))) 10 (.int .i64 (i : Nat))) := ⟨f, by rw [upd_self e21_0, upd_self e21_13, upd_self e21_10]⟩
          clear e21_0 e21_13 e21_10
          refine seq fun K23 h23 => ?_
          refine seq fun K24 h24 => ?_
          refine stp (v := .int .i64 (k : Nat)) (o_mv rfl) ?_
          refine stp (v := .int .i64 (i : Nat)) (o_mv rfl) ?_
          refine stp (v := .int .i64 ((i : Nat) - 1)) (o_bin rfl rfl (v_sub64 (by constructor <;> omega))) ?_
          refine stp (v := .bool (decide (((k : Nat) : Int) < ((i : Nat) - 1)))) (o_bin rfl rfl rfl) ?_
          refine h24 _ _ ?_
          clear h24
          refine cndP rfl (fun c25 => ?_) (fun c25 => ?_)
          ·
            refine h23 _ _ ?_
            clear h23
            refine seq fun K26 h26 => ?_
            intro wd e1 e2 e3 e4
            have hd := Upd.same e1 e2 e3 e4 []
            have hM27 := hM21.pure hd
            clear e1 e2 e3 e4
            refine ⟨(some []), ?_⟩
            show vd _ _ _ _ _ _ _
            refine dq (v := x) (o_mv rfl) ?_
            refine dq (v := .int .i64 (k : Nat)) (o_mv rfl) ?_
            refine dq (v := x) (o_mv rfl) ?_
            refine dq (v := .int .i64 (k : Nat)) (o_mv rfl) ?_
            refine dq (v := .int .i64 ((k : Nat) + 1)) (o_bin rfl rfl (v_add64 (by constructor <;> omega))) ?_
            refine dq (v := x) (o_mv rfl) ?_
            refine dq (v := .int .i64 (k : Nat)) (o_mv rfl) ?_
            refine dq (v := .int .i64 ((k : Nat) + 1)) (o_bin rfl rfl (v_add64 (by constructor <;> omega))) ?_
            refine dqp (m_idxS th0 (j := ((k) + 1)) (hy0_.rd hM27 (i := 0) rfl) rfl (v_int (by omega)) (by omega) fun b28 o28 hp28 => ?_)
            show vd _ _ _ _ _ _ _
            refine dq (v := x) (o_mv rfl) ?_
            refine dq (v := .int .i64 (k : Nat)) (o_mv rfl) ?_
            refine dqp (m_idxS th0 (j := k) (hy0_.rd hM27 (i := 0) rfl) rfl rfl (by omega) fun b29 o29 hp29 => ?_)
            show vd _ _ _ _ _ _ _
            show _ ∧ _
            refine ⟨?_, ?_⟩
            ·
              show vd _ _ _ _ _ _ _
              refine dl (ldA (cs := thC (lc.getD ((k) + 1) th0)) rfl (thC_len _) (hp28.all) ?_)
              refine ⟨(fun b hb => by cases hb), ?_⟩
              refine dl (ldA (cs := thC (lc.getD k th0)) rfl (thC_len _) (hp29.all) ?_)
              refine ⟨(fun b hb => by cases hb), ?_⟩
              refine dset (m_setS (enc := thC) th0 (q := lc.getD ((k) + 1) th0) (j := k) hM27 (i := 0) rfl hy0_ rfl (v_int (by omega)) (by omega) (by simp) (rfl) fun w30 r30 u30 he30 hs30 (hM30 : Mem w (ids r0) w30 [r30]) => ?_)
              refine ⟨(fun b hb => by cases hb), ?_⟩
              show vd _ _ _ _ _ _ _
              refine dset (m_setS (enc := thC) th0 (q := lc.getD k th0) (j := (k + 1)) hM30 (i := 0) rfl hs30 rfl (v_int (by omega)) (by rw [List.length_set]; omega) (by simp) (rfl) fun w31 r31 u31 he31 hs31 (hM31 : Mem w (ids r0) w31 [r31]) => ?_)
              refine ⟨(fun b hb => by cases hb), ?_⟩
              show vd _ _ _ _ _ _ _
              refine h26 _ _ ?_
              clear h26
              refine stp (v := .int .i64 (k : Nat)) (o_mv rfl) ?_
              refine stp (v := .int .i64 ((k : Nat) + 1)) (o_bin rfl rfl (v_add64 (by constructor <;> omega))) ?_
              refine stp (v := .int .i64 ((k : Nat) + 1)) (o_mv rfl) ?_
              refine h22 (k + 1, swp th0 lc k (k + 1), r31) _ _ ⟨rfl, by first | rfl | exact v_int (by omega) | exact v_int (by simp) | exact v_int (by simp; omega), by first | rfl | exact v_int (by omega) | exact v_int (by simp) | exact v_int (by simp; omega), hM31, by omega, hV.step (by omega) (by omega), by rw [swp_len]; exact hn, by first | exact hs31 | simpa using hs31⟩ (by (try dsimp only); omega)
            ·
              show vd _ _ _ _ _ _ _
              refine dl (ldA (cs := thC (lc.getD k th0)) rfl (thC_len _) (hp29.all) ?_)
              refine ⟨(fun b hb => by cases hb), ?_⟩
              refine dl (ldA (cs := thC (lc.getD ((k) + 1) th0)) rfl (thC_len _) (hp28.all) ?_)
              refine ⟨(fun b hb => by cases hb), ?_⟩
              refine dset (m_setS (enc := thC) th0 (q := lc.getD ((k) + 1) th0) (j := k) hM27 (i := 0) rfl hy0_ rfl (v_int (by omega)) (by omega) (by simp) (rfl) fun w32 r32 u32 he32 hs32 (hM32 : Mem w (ids r0) w32 [r32]) => ?_)
              refine ⟨(fun b hb => by cases hb), ?_⟩
              show vd _ _ _ _ _ _ _
              refine dset (m_setS (enc := thC) th0 (q := lc.getD k th0) (j := (k + 1)) hM32 (i := 0) rfl hs32 rfl (v_int (by omega)) (by rw [List.length_set]; omega) (by simp) (rfl) fun w33 r33 u33 he33 hs33 (hM33 : Mem w (ids r0) w33 [r33]) => ?_)
              refine ⟨(fun b hb => by cases hb), ?_⟩
              show vd _ _ _ _ _ _ _
              refine h26 _ _ ?_
              clear h26
              refine stp (v := .int .i64 (k : Nat)) (o_mv rfl) ?_
              refine stp (v := .int .i64 ((k : Nat) + 1)) (o_bin rfl rfl (v_add64 (by constructor <;> omega))) ?_
              refine stp (v := .int .i64 ((k : Nat) + 1)) (o_mv rfl) ?_
              refine h22 (k + 1, swp th0 lc k (k + 1), r33) _ _ ⟨rfl, by first | rfl | exact v_int (by omega) | exact v_int (by simp) | exact v_int (by simp; omega), by first | rfl | exact v_int (by omega) | exact v_int (by simp) | exact v_int (by simp; omega), hM33, by omega, hV.step (by omega) (by omega), by rw [swp_len]; exact hn, by first | exact hs33 | simpa using hs33⟩ (by (try dsimp only); omega)
          ·
            refine h19 _ _ ?_
            clear h19
            refine ⟨(.tuple [].toArray), rfl, ?_⟩
            obtain rfl : i = j := by omega
            exact ⟨_, _, hV.done (i := i) (by rw [show a + 1 = m by omega]; exact h2) (by omega) (by omega) (by rw [show a + 1 = m by omega]; exact hlo) hhi, hy0_, hM21⟩
  ·
    refine h1 _ _ ?_
    clear h1
    refine seq fun K34 h34 => ?_
    refine seq fun K35 h35 => ?_
    refine stp (v := .int .i64 (b : Nat)) (o_mv rfl) ?_
    refine stp (v := .int .i64 (m : Nat)) (o_mv rfl) ?_
    refine stp (v := .int .i64 ((b : Nat) - (m : Nat))) (o_bin rfl rfl (v_sub64 (by constructor <;> omega))) ?_
    refine stp (v := .bool (decide (((b : Nat) - (m : Nat) : Int) = 1))) (o_bin rfl rfl rfl) ?_
    refine h35 _ _ ?_
    clear h35
    refine cndP rfl (fun c36 => ?_) (fun c36 => ?_)
    ·
      refine seq fun K37 h37 => ?_
      refine stp (v := .int .i64 (a : Nat)) (o_mv rfl) ?_
      refine stp (v := .int .i64 (a : Nat)) (o_mv rfl) ?_
      refine h37 _ _ ?_
      clear h37
      refine seq fun K38 h38 => ?_
      refine stp (v := .int .i64 (m : Nat)) (o_mv rfl) ?_
      refine stp (v := .int .i64 (m : Nat)) (o_mv rfl) ?_
      refine h38 _ _ ?_
      clear h38
      refine seq fun K39 h39 => ?_
      refine lp (n := fun _ _ => False) (ι := (Nat) × (Nat)) (fun ⟨i, j⟩ f w' => f 14 = .int .i64 (i : Nat) ∧ f 15 = .int .i64 (j : Nat) ∧ f 0 = x ∧ f 2 = .int .i64 (m : Nat) ∧ f 4 = .func (.func 68) [].toArray [].toArray ∧ Mem w (ids r0) w' [r0] ∧ (a ≤ i ∧ i ≤ j ∧ j ≤ m) ∧ (i = a ∨ Th.r (l.getD (i - 1) th0) < Th.r (l.getD m th0)) ∧ (j = m ∨ Th.r (l.getD m th0) < Th.r (l.getD j th0))) (fun ⟨i, j⟩ => j - i) (a, m) ?_ ?_
      · exact ⟨by first | rfl | exact v_int (by omega) | exact v_int (by simp) | exact v_int (by simp; omega), by first | rfl | exact v_int (by omega) | exact v_int (by simp) | exact v_int (by simp; omega), rfl, by first | rfl | exact v_int (by omega) | exact v_int (by simp) | exact v_int (by simp; omega), rfl, hM0, by omega, .inl rfl, .inl rfl⟩
      · rintro ⟨i, j⟩ f w40 ⟨e40_14, e40_15, e40_0, e40_2, e40_4, hM40, hij, hlo, hhi⟩ K41 h41
        obtain ⟨frm, rfl⟩ : ∃ frm, f = (upd (upd (upd (upd (upd frm 14 (.int .i64 (i : Nat))) 15 (.int .i64 (j : Nat))) 0 (x)) 2 (.int .i64 (m : Nat))) 4 (.func (.func 68) [].toArray [].toArray)) := ⟨f, by rw [upd_self e40_14, upd_self e40_15, upd_self e40_0, upd_self e40_2, upd_self e40_4]⟩
        clear e40_14 e40_15 e40_0 e40_2 e40_4
        refine seq fun K42 h42 => ?_
        refine seq fun K43 h43 => ?_
        refine stp (v := .int .i64 (i : Nat)) (o_mv rfl) ?_
        refine stp (v := .int .i64 (j : Nat)) (o_mv rfl) ?_
        refine stp (v := .bool (decide (((i : Nat) : Int) < (j : Nat)))) (o_bin rfl rfl rfl) ?_
        refine h43 _ _ ?_
        clear h43
        refine cndP rfl (fun c44 => ?_) (fun c44 => ?_)
        ·
          refine h42 _ _ ?_
          clear h42
          refine seq fun K45 h45 => ?_
          refine stp (v := .int .i64 (i : Nat)) (o_mv rfl) ?_
          refine stp (v := .int .i64 (j : Nat)) (o_mv rfl) ?_
          refine stp (v := .int .i64 ((i : Nat) + (j : Nat))) (o_bin rfl rfl (v_add64 (by constructor <;> omega))) ?_
          refine stp (v := .int .u64 ((i : Nat) + (j : Nat))) (o_conv rfl (v_same (by simp only [inK]; omega))) ?_
          refine stp (v := .int .u64 (((i : Nat) + (j : Nat)) / 2)) (o_shr rfl rfl (by omega) (v_shr 1 (by decide))) ?_
          obtain ⟨hh, hhh⟩ : ∃ t, t = (i + j) / 2 := ⟨_, rfl⟩
          refine stp (v := .int .i64 (hh : Nat)) (o_conv rfl ((v_same (by simp only [inK]; omega)).trans (v_int (by omega)))) ?_
          refine stp (v := .int .i64 (hh : Nat)) (o_mv rfl) ?_
          refine h45 _ _ ?_
          clear h45
          refine seq fun K46 h46 => ?_
          intro wd e1 e2 e3 e4
          have hd := Upd.same e1 e2 e3 e4 []
          have hM47 := hM40.pure hd
          clear e1 e2 e3 e4
          refine ⟨(some [(blkV x)]), ?_⟩
          show vd _ _ _ _ _ _ _
          refine dq (v := .func (.func 68) [].toArray [].toArray) (o_mv rfl) ?_
          refine dq (v := x) (o_mv rfl) ?_
          refine dq (v := .int .i64 (m : Nat)) (o_mv rfl) ?_
          refine dqp (m_idxS3 th0 (j := m) (hs0.rd hM47 (i := 0) rfl) (hs0.rd hM47 (i := 0) rfl) rfl rfl (by omega) fun b48 o48 hp48 hbb48 => ?_)
          show vd _ _ _ _ _ _ _
          subst hbb48
          refine dq (v := x) (o_mv rfl) ?_
          refine dq (v := .int .i64 (hh : Nat)) (o_mv rfl) ?_
          refine dqp (m_idxS3 th0 (j := hh) (hs0.rd hM47 (i := 0) rfl) (hs0.rd hM47 (i := 0) rfl) rfl rfl (by omega) fun b49 o49 hp49 hbb49 => ?_)
          show vd _ _ _ _ _ _ _
          subst hbb49
          refine dqldA (cs := thC (l.getD hh th0)) rfl (by simp [isHeld]) (thC_len _) (hp49.all) ?_
          refine dl (ldA (cs := thC (l.getD m th0)) rfl (thC_len _) (hp48.all) ?_)
          refine ⟨(fun b hb => rfl), ?_⟩
          refine dl (m_callv rfl (by kernel_rfl) (cmpW_ok (l.getD m th0) (l.getD hh th0) wd) rfl fun v50 w50 ⟨hr50, hu50⟩ => ?_)
          have hM50 : Mem w (ids r0) w50 [r0] := hM47.pure hu50
          subst hr50
          have hh50 := held_upd (wr := wd) (bs := [(blkV x)]) hu50 (fun b hb => by
            simp only [List.mem_cons, List.not_mem_nil, or_false] at hb
            rw [hb]; exact ⟨Rd.blkV_ltS (hs0.rd hM47 (i := 0) rfl) (by omega), by simp⟩) (fun b hb => rfl)
          refine ⟨hh50, ?_⟩
          refine dq (v := .bool (decide ((cmpW (l.getD m th0) (l.getD hh th0)) < 0))) (o_bin rfl rfl rfl) ?_
          refine dq (v := .bool (decide (¬ ((cmpW (l.getD m th0) (l.getD hh th0)) < 0)))) (o_not rfl v_not) ?_
          refine h46 _ _ ?_
          clear h46
          refine cndP rfl (fun c51 => ?_) (fun c51 => ?_)
          ·
            refine stp (v := .int .i64 (hh : Nat)) (o_mv rfl) ?_
            refine stp (v := .int .i64 ((hh : Nat) + 1)) (o_bin rfl rfl (v_add64 (by constructor <;> omega))) ?_
            refine stp (v := .int .i64 ((hh : Nat) + 1)) (o_mv rfl) ?_
            refine h41 (hh + 1, j) _ _ ⟨by first | rfl | exact v_int (by omega) | exact v_int (by simp) | exact v_int (by simp; omega), by first | rfl | exact v_int (by omega) | exact v_int (by simp) | exact v_int (by simp; omega), rfl, by first | rfl | exact v_int (by omega) | exact v_int (by simp) | exact v_int (by simp; omega), rfl, hM50, by omega, .inr (by rw [Nat.add_sub_cancel]; exact (hc hh m (by omega) (by omega) (by omega) (by omega)).2 (fun k => absurd (cmpW_neg.2 k) (by assumption))), hhi⟩ (by (try dsimp only); omega)
          ·
            refine stp (v := .int .i64 (hh : Nat)) (o_mv rfl) ?_
            refine stp (v := .int .i64 (hh : Nat)) (o_mv rfl) ?_
            refine h41 (i, hh) _ _ ⟨by first | rfl | exact v_int (by omega) | exact v_int (by simp) | exact v_int (by simp; omega), by first | rfl | exact v_int (by omega) | exact v_int (by simp) | exact v_int (by simp; omega), rfl, by first | rfl | exact v_int (by omega) | exact v_int (by simp) | exact v_int (by simp; omega), rfl, hM50, by omega, hlo, .inr ((hc hh m (by omega) (by omega) (by omega) (by omega)).1 (cmpW_neg.1 (Decidable.not_not.1 (by assumption))))⟩ (by (try dsimp only); omega)
        ·
          refine h39 _ _ ?_
          clear h39
          refine seq fun K52 h52 => ?_
          refine seq fun K53 h53 => ?_
          refine stp (v := .int .i64 (m : Nat)) (o_mv rfl) ?_
          refine stp (v := .int .i64 (m : Nat)) (o_mv rfl) ?_
          refine h53 _ _ ?_
          clear h53
          refine lp (n := fun _ _ => False) (ι := (Nat) × (List Th) × (List Ent)) (fun ⟨k, lc, r0_⟩ f w' => f 0 = x ∧ f 17 = .int .i64 (k : Nat) ∧ f 14 = .int .i64 (i : Nat) ∧ Mem w (ids r0) w' [r0_] ∧ (i ≤ k ∧ k ≤ m) ∧ (MvR th0 l lc m k) ∧ (lc.length = l.length) ∧ (SlS thC 257 81 x (lc) r0_)) (fun ⟨k, lc, r0_⟩ => k) (m, l, r0) ?_ ?_
          · exact ⟨rfl, by first | rfl | exact v_int (by omega) | exact v_int (by simp) | exact v_int (by simp; omega), by first | rfl | exact v_int (by omega) | exact v_int (by simp) | exact v_int (by simp; omega), hM40, by omega, MvR.init, rfl, by first | exact hs0 | simpa using hs0⟩
          · rintro ⟨k, lc, r0_⟩ f w54 ⟨e54_0, e54_17, e54_14, hM54, hk, hV, hn, hy0_⟩ K55 h55
            obtain ⟨frm, rfl⟩ : ∃ frm, f = (upd (upd (upd frm 0 (x)) 17 (.int .i64 (k : Nat))) 14 (.int .i64 (i : Nat))) := ⟨f, by rw [upd_self e54_0, upd_self e54_17, upd_self e54_14]⟩
            clear e54_0 e54_17 e54_14
            refine seq fun K56 h56 => ?_
            refine seq fun K57 h57 => ?_
            refine stp (v := .int .i64 (k : Nat)) (o_mv rfl) ?_
            refine stp (v := .int .i64 (i : Nat)) (o_mv rfl) ?_
            refine stp (v := .bool (decide (((i : Nat) : Int) < ((k : Nat) : Int)))) (o_bin rfl rfl rfl) ?_
            refine h57 _ _ ?_
            clear h57
            refine cndP rfl (fun c58 => ?_) (fun c58 => ?_)
            ·
              refine h56 _ _ ?_
              clear h56
              refine seq fun K59 h59 => ?_
              intro wd e1 e2 e3 e4
              have hd := Upd.same e1 e2 e3 e4 []
              have hM60 := hM54.pure hd
              clear e1 e2 e3 e4
              refine ⟨(some []), ?_⟩
              show vd _ _ _ _ _ _ _
              refine dq (v := x) (o_mv rfl) ?_
              refine dq (v := .int .i64 (k : Nat)) (o_mv rfl) ?_
              refine dq (v := x) (o_mv rfl) ?_
              refine dq (v := .int .i64 (k : Nat)) (o_mv rfl) ?_
              refine dq (v := .int .i64 ((k : Nat) - 1)) (o_bin rfl rfl (v_sub64 (by constructor <;> omega))) ?_
              refine dq (v := x) (o_mv rfl) ?_
              refine dq (v := .int .i64 (k : Nat)) (o_mv rfl) ?_
              refine dq (v := .int .i64 ((k : Nat) - 1)) (o_bin rfl rfl (v_sub64 (by constructor <;> omega))) ?_
              refine dqp (m_idxS th0 (j := (k - 1)) (hy0_.rd hM60 (i := 0) rfl) rfl (v_int (by omega)) (by omega) fun b61 o61 hp61 => ?_)
              show vd _ _ _ _ _ _ _
              refine dq (v := x) (o_mv rfl) ?_
              refine dq (v := .int .i64 (k : Nat)) (o_mv rfl) ?_
              refine dqp (m_idxS th0 (j := k) (hy0_.rd hM60 (i := 0) rfl) rfl rfl (by omega) fun b62 o62 hp62 => ?_)
              show vd _ _ _ _ _ _ _
              show _ ∧ _
              refine ⟨?_, ?_⟩
              ·
                show vd _ _ _ _ _ _ _
                refine dl (ldA (cs := thC (lc.getD (k - 1) th0)) rfl (thC_len _) (hp61.all) ?_)
                refine ⟨(fun b hb => by cases hb), ?_⟩
                refine dl (ldA (cs := thC (lc.getD k th0)) rfl (thC_len _) (hp62.all) ?_)
                refine ⟨(fun b hb => by cases hb), ?_⟩
                refine dset (m_setS (enc := thC) th0 (q := lc.getD (k - 1) th0) (j := k) hM60 (i := 0) rfl hy0_ rfl rfl (by omega) (by simp) (rfl) fun w63 r63 u63 he63 hs63 (hM63 : Mem w (ids r0) w63 [r63]) => ?_)
                refine ⟨(fun b hb => by cases hb), ?_⟩
                show vd _ _ _ _ _ _ _
                refine dset (m_setS (enc := thC) th0 (q := lc.getD k th0) (j := (k - 1)) hM63 (i := 0) rfl hs63 rfl (v_int (by omega)) (by rw [List.length_set]; omega) (by simp) (rfl) fun w64 r64 u64 he64 hs64 (hM64 : Mem w (ids r0) w64 [r64]) => ?_)
                refine ⟨(fun b hb => by cases hb), ?_⟩
                show vd _ _ _ _ _ _ _
                refine h59 _ _ ?_
                clear h59
                refine stp (v := .int .i64 (k : Nat)) (o_mv rfl) ?_
                refine stp (v := .int .i64 ((k : Nat) - 1)) (o_bin rfl rfl (v_sub64 (by constructor <;> omega))) ?_
                refine stp (v := .int .i64 ((k : Nat) - 1)) (o_mv rfl) ?_
                refine h55 (k - 1, swp th0 lc k (k - 1), r64) _ _ ⟨rfl, by first | rfl | exact v_int (by omega) | exact v_int (by simp) | exact v_int (by simp; omega), by first | rfl | exact v_int (by omega) | exact v_int (by simp) | exact v_int (by simp; omega), hM64, by omega, hV.step (by omega) (by omega), by rw [swp_len]; exact hn, by first | exact hs64 | simpa using hs64⟩ (by (try dsimp only); omega)
              ·
                show vd _ _ _ _ _ _ _
                refine dl (ldA (cs := thC (lc.getD k th0)) rfl (thC_len _) (hp62.all) ?_)
                refine ⟨(fun b hb => by cases hb), ?_⟩
                refine dl (ldA (cs := thC (lc.getD (k - 1) th0)) rfl (thC_len _) (hp61.all) ?_)
                refine ⟨(fun b hb => by cases hb), ?_⟩
                refine dset (m_setS (enc := thC) th0 (q := lc.getD (k - 1) th0) (j := k) hM60 (i := 0) rfl hy0_ rfl rfl (by omega) (by simp) (rfl) fun w65 r65 u65 he65 hs65 (hM65 : Mem w (ids r0) w65 [r65]) => ?_)
                refine ⟨(fun b hb => by cases hb), ?_⟩
                show vd _ _ _ _ _ _ _
                refine dset (m_setS (enc := thC) th0 (q := lc.getD k th0) (j := (k - 1)) hM65 (i := 0) rfl hs65 rfl (v_int (by omega)) (by rw [List.length_set]; omega) (by simp) (rfl) fun w66 r66 u66 he66 hs66 (hM66 : Mem w (ids r0) w66 [r66]) => ?_)
                refine ⟨(fun b hb => by cases hb), ?_⟩
                show vd _ _ _ _ _ _ _
                refine h59 _ _ ?_
                clear h59
                refine stp (v := .int .i64 (k : Nat)) (o_mv rfl) ?_
                refine stp (v := .int .i64 ((k : Nat) - 1)) (o_bin rfl rfl (v_sub64 (by constructor <;> omega))) ?_
                refine stp (v := .int .i64 ((k : Nat) - 1)) (o_mv rfl) ?_
                refine h55 (k - 1, swp th0 lc k (k - 1), r66) _ _ ⟨rfl, by first | rfl | exact v_int (by omega) | exact v_int (by simp) | exact v_int (by simp; omega), by first | rfl | exact v_int (by omega) | exact v_int (by simp) | exact v_int (by simp; omega), hM66, by omega, hV.step (by omega) (by omega), by rw [swp_len]; exact hn, by first | exact hs66 | simpa using hs66⟩ (by (try dsimp only); omega)
            ·
              refine h52 _ _ ?_
              clear h52
              refine ⟨(.tuple [].toArray), rfl, ?_⟩
              obtain rfl : i = j := by omega
              obtain rfl : i = k := by omega
              rw [show b = m + 1 by omega]
              exact ⟨_, _, hV.done h1 (by omega) hlo hhi, hy0_, hM54⟩
    ·
      refine h34 _ _ ?_
      clear h34
      refine seq fun K67 h67 => ?_
      refine stp (v := .int .i64 (a : Nat)) (o_mv rfl) ?_
      refine stp (v := .int .i64 (b : Nat)) (o_mv rfl) ?_
      refine stp (v := .int .i64 ((a : Nat) + (b : Nat))) (o_bin rfl rfl (v_add64 (by constructor <;> omega))) ?_
      refine stp (v := .int .u64 ((a : Nat) + (b : Nat))) (o_conv rfl (v_same (by simp only [inK]; omega))) ?_
      refine stp (v := .int .u64 (((a : Nat) + (b : Nat)) / 2)) (o_shr rfl rfl (by omega) (v_shr 1 (by decide))) ?_
      obtain ⟨mid, hmid⟩ : ∃ t, t = (a + b) / 2 := ⟨_, rfl⟩
      refine stp (v := .int .i64 (mid : Nat)) (o_conv rfl ((v_same (by simp only [inK]; omega)).trans (v_int (by omega)))) ?_
      refine stp (v := .int .i64 (mid : Nat)) (o_mv rfl) ?_
      refine h67 _ _ ?_
      clear h67
      refine seq fun K68 h68 => ?_
      refine stp (v := .int .i64 (mid : Nat)) (o_mv rfl) ?_
      refine stp (v := .int .i64 (m : Nat)) (o_mv rfl) ?_
      refine stp (v := .int .i64 ((mid : Nat) + (m : Nat))) (o_bin rfl rfl (v_add64 (by constructor <;> omega))) ?_
      refine stp (v := .int .i64 ((mid : Nat) + (m : Nat))) (o_mv rfl) ?_
      refine h68 _ _ ?_
      clear h68
      refine seq fun K69 h69 => ?_
      refine stp (v := .int .i64 0) (o_mv rfl) ?_
      refine stp (v := .int .i64 0) (o_mv rfl) ?_
      refine h69 _ _ ?_
      clear h69
      refine seqc (fun f w' => ∃ (s0 : Nat) (q0 : Nat), f 20 = .int .i64 (s0 : Nat) ∧ f 21 = .int .i64 (q0 : Nat) ∧ f 0 = x ∧ f 1 = .int .i64 (a : Nat) ∧ f 2 = .int .i64 (m : Nat) ∧ f 3 = .int .i64 (b : Nat) ∧ f 4 = .func (.func 68) [].toArray [].toArray ∧ f 18 = .int .i64 (mid : Nat) ∧ f 19 = .int .i64 ((mid : Nat) + (m : Nat)) ∧ Mem w (ids r0) w' [r0] ∧ ((s0 = a ∧ q0 = m ∧ m ≤ mid) ∨ (s0 = mid + m - b ∧ q0 = mid ∧ mid < m))) ?_ ?_
      · intro K70 h70
        refine seq fun K72 h72 => ?_
        refine stp (v := .int .i64 (m : Nat)) (o_mv rfl) ?_
        refine stp (v := .int .i64 (mid : Nat)) (o_mv rfl) ?_
        refine stp (v := .bool (decide (((mid : Nat) : Int) < ((m : Nat) : Int)))) (o_bin rfl rfl rfl) ?_
        refine h72 _ _ ?_
        clear h72
        refine cndP rfl (fun c73 => ?_) (fun c73 => ?_)
        ·
          refine seq fun K74 h74 => ?_
          refine stp (v := .int .i64 ((mid : Nat) + (m : Nat))) (o_mv rfl) ?_
          refine stp (v := .int .i64 (b : Nat)) (o_mv rfl) ?_
          refine stp (v := .int .i64 (mid + m - b : Nat)) (o_bin rfl rfl ((v_sub64 (by constructor <;> omega)).trans (v_int (by omega)))) ?_
          refine stp (v := .int .i64 (mid + m - b : Nat)) (o_mv rfl) ?_
          refine h74 _ _ ?_
          clear h74
          refine stp (v := .int .i64 (mid : Nat)) (o_mv rfl) ?_
          refine stp (v := .int .i64 (mid : Nat)) (o_mv rfl) ?_
          refine h70 _ _ ⟨(mid + m - b), mid, by first | rfl | exact v_int (by omega) | exact v_int (by simp) | exact v_int (by simp; omega), by first | rfl | exact v_int (by omega) | exact v_int (by simp) | exact v_int (by simp; omega), rfl, by first | rfl | exact v_int (by omega) | exact v_int (by simp) | exact v_int (by simp; omega), by first | rfl | exact v_int (by omega) | exact v_int (by simp) | exact v_int (by simp; omega), by first | rfl | exact v_int (by omega) | exact v_int (by simp) | exact v_int (by simp; omega), rfl, by first | rfl | exact v_int (by omega) | exact v_int (by simp) | exact v_int (by simp; omega), by first | rfl | exact v_int (by omega) | exact v_int (by simp) | exact v_int (by simp; omega), hM0, by omega⟩
        ·
          refine seq fun K75 h75 => ?_
          refine stp (v := .int .i64 (a : Nat)) (o_mv rfl) ?_
          refine stp (v := .int .i64 (a : Nat)) (o_mv rfl) ?_
          refine h75 _ _ ?_
          clear h75
          refine stp (v := .int .i64 (m : Nat)) (o_mv rfl) ?_
          refine stp (v := .int .i64 (m : Nat)) (o_mv rfl) ?_
          refine h70 _ _ ⟨a, m, by first | rfl | exact v_int (by omega) | exact v_int (by simp) | exact v_int (by simp; omega), by first | rfl | exact v_int (by omega) | exact v_int (by simp) | exact v_int (by simp; omega), rfl, by first | rfl | exact v_int (by omega) | exact v_int (by simp) | exact v_int (by simp; omega), by first | rfl | exact v_int (by omega) | exact v_int (by simp) | exact v_int (by simp; omega), by first | rfl | exact v_int (by omega) | exact v_int (by simp) | exact v_int (by simp; omega), rfl, by first | rfl | exact v_int (by omega) | exact v_int (by simp) | exact v_int (by simp; omega), by first | rfl | exact v_int (by omega) | exact v_int (by simp) | exact v_int (by simp; omega), hM0, by omega⟩
      · rintro f w71 ⟨s0, q0, e71_20, e71_21, e71_0, e71_1, e71_2, e71_3, e71_4, e71_18, e71_19, hM71, hst⟩
        obtain ⟨frm, rfl⟩ : ∃ frm, f = (upd (upd (upd (upd (upd (upd (upd (upd (upd frm 20 (.int .i64 (s0 : Nat))) 21 (.int .i64 (q0 : Nat))) 0 (x)) 1 (.int .i64 (a : Nat))) 2 (.int .i64 (m : Nat))) 3 (.int .i64 (b : Nat))) 4 (.func (.func 68) [].toArray [].toArray)) 18 (.int .i64 (mid : Nat))) 19 (.int .i64 ((mid : Nat) + (m : Nat)))) := ⟨f, by rw [upd_self e71_20, upd_self e71_21, upd_self e71_0, upd_self e71_1, upd_self e71_2, upd_self e71_3, upd_self e71_4, upd_self e71_18, upd_self e71_19]⟩
        clear e71_20 e71_21 e71_0 e71_1 e71_2 e71_3 e71_4 e71_18 e71_19
        refine seq fun K76 h76 => ?_
        refine stp (v := .int .i64 ((mid : Nat) + (m : Nat))) (o_mv rfl) ?_
        refine stp (v := .int .i64 (mid + m - 1 : Nat)) (o_bin rfl rfl ((v_sub64 (by constructor <;> omega)).trans (v_int (by omega)))) ?_
        refine stp (v := .int .i64 (mid + m - 1 : Nat)) (o_mv rfl) ?_
        refine h76 _ _ ?_
        clear h76
        refine seq fun K77 h77 => ?_
        refine lp (n := fun _ _ => False) (ι := (Nat) × (Nat)) (fun ⟨st, r⟩ f w' => f 20 = .int .i64 (st : Nat) ∧ f 21 = .int .i64 (r : Nat) ∧ f 0 = x ∧ f 1 = .int .i64 (a : Nat) ∧ f 2 = .int .i64 (m : Nat) ∧ f 3 = .int .i64 (b : Nat) ∧ f 4 = .func (.func 68) [].toArray [].toArray ∧ f 18 = .int .i64 (mid : Nat) ∧ f 19 = .int .i64 ((mid : Nat) + (m : Nat)) ∧ f 22 = .int .i64 (mid + m - 1 : Nat) ∧ Mem w (ids r0) w' [r0] ∧ (s0 ≤ st ∧ st ≤ r ∧ r ≤ q0) ∧ (st = s0 ∨ Th.r (l.getD (st - 1) th0) < Th.r (l.getD (mid + m - st) th0)) ∧ (r = q0 ∨ Th.r (l.getD (mid + m - 1 - r) th0) < Th.r (l.getD r th0))) (fun ⟨st, r⟩ => r - st) (s0, q0) ?_ ?_
        · exact ⟨by first | rfl | exact v_int (by omega) | exact v_int (by simp) | exact v_int (by simp; omega), by first | rfl | exact v_int (by omega) | exact v_int (by simp) | exact v_int (by simp; omega), rfl, by first | rfl | exact v_int (by omega) | exact v_int (by simp) | exact v_int (by simp; omega), by first | rfl | exact v_int (by omega) | exact v_int (by simp) | exact v_int (by simp; omega), by first | rfl | exact v_int (by omega) | exact v_int (by simp) | exact v_int (by simp; omega), rfl, by first | rfl | exact v_int (by omega) | exact v_int (by simp) | exact v_int (by simp; omega), by first | rfl | exact v_int (by omega) | exact v_int (by simp) | exact v_int (by simp; omega), by first | rfl | exact v_int (by omega) | exact v_int (by simp) | exact v_int (by simp; omega), hM71, by omega, .inl rfl, .inl rfl⟩
        · rintro ⟨st, r⟩ f w78 ⟨e78_20, e78_21, e78_0, e78_1, e78_2, e78_3, e78_4, e78_18, e78_19, e78_22, hM78, hrng, hlo, hhi⟩ K79 h79
          obtain ⟨frm, rfl⟩ : ∃ frm, f = (upd (upd (upd (upd (upd (upd (upd (upd (upd (upd frm 20 (.int .i64 (st : Nat))) 21 (.int .i64 (r : Nat))) 0 (x)) 1 (.int .i64 (a : Nat))) 2 (.int .i64 (m : Nat))) 3 (.int .i64 (b : Nat))) 4 (.func (.func 68) [].toArray [].toArray)) 18 (.int .i64 (mid : Nat))) 19 (.int .i64 ((mid : Nat) + (m : Nat)))) 22 (.int .i64 (mid + m - 1 : Nat))) := ⟨f, by rw [upd_self e78_20, upd_self e78_21, upd_self e78_0, upd_self e78_1, upd_self e78_2, upd_self e78_3, upd_self e78_4, upd_self e78_18, upd_self e78_19, upd_self e78_22]⟩
          clear e78_20 e78_21 e78_0 e78_1 e78_2 e78_3 e78_4 e78_18 e78_19 e78_22
          refine seq fun K80 h80 => ?_
          refine seq fun K81 h81 => ?_
          refine stp (v := .int .i64 (st : Nat)) (o_mv rfl) ?_
          refine stp (v := .int .i64 (r : Nat)) (o_mv rfl) ?_
          refine stp (v := .bool (decide (((st : Nat) : Int) < (r : Nat)))) (o_bin rfl rfl rfl) ?_
          refine h81 _ _ ?_
          clear h81
          refine cndP rfl (fun c82 => ?_) (fun c82 => ?_)
          ·
            refine h80 _ _ ?_
            clear h80
            refine seq fun K83 h83 => ?_
            refine stp (v := .int .i64 (st : Nat)) (o_mv rfl) ?_
            refine stp (v := .int .i64 (r : Nat)) (o_mv rfl) ?_
            refine stp (v := .int .i64 ((st : Nat) + (r : Nat))) (o_bin rfl rfl (v_add64 (by constructor <;> omega))) ?_
            refine stp (v := .int .u64 ((st : Nat) + (r : Nat))) (o_conv rfl (v_same (by simp only [inK]; omega))) ?_
            refine stp (v := .int .u64 (((st : Nat) + (r : Nat)) / 2)) (o_shr rfl rfl (by omega) (v_shr 1 (by decide))) ?_
            obtain ⟨cc, hcc⟩ : ∃ t, t = (st + r) / 2 := ⟨_, rfl⟩
            refine stp (v := .int .i64 (cc : Nat)) (o_conv rfl ((v_same (by simp only [inK]; omega)).trans (v_int (by omega)))) ?_
            refine stp (v := .int .i64 (cc : Nat)) (o_mv rfl) ?_
            refine h83 _ _ ?_
            clear h83
            refine seq fun K84 h84 => ?_
            intro wd e1 e2 e3 e4
            have hd := Upd.same e1 e2 e3 e4 []
            have hM85 := hM78.pure hd
            clear e1 e2 e3 e4
            refine ⟨(some [(blkV x)]), ?_⟩
            show vd _ _ _ _ _ _ _
            refine dq (v := .func (.func 68) [].toArray [].toArray) (o_mv rfl) ?_
            refine dq (v := x) (o_mv rfl) ?_
            refine dq (v := .int .i64 (mid + m - 1 : Nat)) (o_mv rfl) ?_
            refine dq (v := .int .i64 (cc : Nat)) (o_mv rfl) ?_
            refine dq (v := .int .i64 (mid + m - 1 - cc : Nat)) (o_bin rfl rfl ((v_sub64 (by constructor <;> omega)).trans (v_int (by omega)))) ?_
            refine dqp (m_idxS3 th0 (j := mid + m - 1 - cc) (hs0.rd hM85 (i := 0) rfl) (hs0.rd hM85 (i := 0) rfl) rfl rfl (by omega) fun b86 o86 hp86 hbb86 => ?_)
            show vd _ _ _ _ _ _ _
            subst hbb86
            refine dq (v := x) (o_mv rfl) ?_
            refine dq (v := .int .i64 (cc : Nat)) (o_mv rfl) ?_
            refine dqp (m_idxS3 th0 (j := cc) (hs0.rd hM85 (i := 0) rfl) (hs0.rd hM85 (i := 0) rfl) rfl rfl (by omega) fun b87 o87 hp87 hbb87 => ?_)
            show vd _ _ _ _ _ _ _
            subst hbb87
            refine dqldA (cs := thC (l.getD cc th0)) rfl (by simp [isHeld]) (thC_len _) (hp87.all) ?_
            refine dl (ldA (cs := thC (l.getD (mid + m - 1 - cc) th0)) rfl (thC_len _) (hp86.all) ?_)
            refine ⟨(fun b hb => rfl), ?_⟩
            refine dl (m_callv rfl (by kernel_rfl) (cmpW_ok (l.getD (mid + m - 1 - cc) th0) (l.getD cc th0) wd) rfl fun v88 w88 ⟨hr88, hu88⟩ => ?_)
            have hM88 : Mem w (ids r0) w88 [r0] := hM85.pure hu88
            subst hr88
            have hh88 := held_upd (wr := wd) (bs := [(blkV x)]) hu88 (fun b hb => by
              simp only [List.mem_cons, List.not_mem_nil, or_false] at hb
              rw [hb]; exact ⟨Rd.blkV_ltS (hs0.rd hM85 (i := 0) rfl) (by omega), by simp⟩) (fun b hb => rfl)
            refine ⟨hh88, ?_⟩
            refine dq (v := .bool (decide ((cmpW (l.getD (mid + m - 1 - cc) th0) (l.getD cc th0)) < 0))) (o_bin rfl rfl rfl) ?_
            refine dq (v := .bool (decide (¬ ((cmpW (l.getD (mid + m - 1 - cc) th0) (l.getD cc th0)) < 0)))) (o_not rfl v_not) ?_
            refine h84 _ _ ?_
            clear h84
            refine cndP rfl (fun c89 => ?_) (fun c89 => ?_)
            ·
              refine stp (v := .int .i64 (cc : Nat)) (o_mv rfl) ?_
              refine stp (v := .int .i64 ((cc : Nat) + 1)) (o_bin rfl rfl (v_add64 (by constructor <;> omega))) ?_
              refine stp (v := .int .i64 ((cc : Nat) + 1)) (o_mv rfl) ?_
              refine h79 (cc + 1, r) _ _ ⟨by first | rfl | exact v_int (by omega) | exact v_int (by simp) | exact v_int (by simp; omega), by first | rfl | exact v_int (by omega) | exact v_int (by simp) | exact v_int (by simp; omega), rfl, by first | rfl | exact v_int (by omega) | exact v_int (by simp) | exact v_int (by simp; omega), by first | rfl | exact v_int (by omega) | exact v_int (by simp) | exact v_int (by simp; omega), by first | rfl | exact v_int (by omega) | exact v_int (by simp) | exact v_int (by simp; omega), rfl, by first | rfl | exact v_int (by omega) | exact v_int (by simp) | exact v_int (by simp; omega), by first | rfl | exact v_int (by omega) | exact v_int (by simp) | exact v_int (by simp; omega), by first | rfl | exact v_int (by omega) | exact v_int (by simp) | exact v_int (by simp; omega), hM88, by omega, .inr (by rw [Nat.add_sub_cancel, show mid + m - (cc + 1) = mid + m - 1 - cc by omega]; exact (hc cc (mid + m - 1 - cc) (by omega) (by omega) (by omega) (by omega)).2 (fun k => absurd (cmpW_neg.2 k) (by assumption))), hhi⟩ (by (try dsimp only); omega)
            ·
              refine stp (v := .int .i64 (cc : Nat)) (o_mv rfl) ?_
              refine stp (v := .int .i64 (cc : Nat)) (o_mv rfl) ?_
              refine h79 (st, cc) _ _ ⟨by first | rfl | exact v_int (by omega) | exact v_int (by simp) | exact v_int (by simp; omega), by first | rfl | exact v_int (by omega) | exact v_int (by simp) | exact v_int (by simp; omega), rfl, by first | rfl | exact v_int (by omega) | exact v_int (by simp) | exact v_int (by simp; omega), by first | rfl | exact v_int (by omega) | exact v_int (by simp) | exact v_int (by simp; omega), by first | rfl | exact v_int (by omega) | exact v_int (by simp) | exact v_int (by simp; omega), rfl, by first | rfl | exact v_int (by omega) | exact v_int (by simp) | exact v_int (by simp; omega), by first | rfl | exact v_int (by omega) | exact v_int (by simp) | exact v_int (by simp; omega), by first | rfl | exact v_int (by omega) | exact v_int (by simp) | exact v_int (by simp; omega), hM88, by omega, hlo, .inr ((hc cc (mid + m - 1 - cc) (by omega) (by omega) (by omega) (by omega)).1 (cmpW_neg.1 (Decidable.not_not.1 (by assumption))))⟩ (by (try dsimp only); omega)
          ·
            refine h77 _ _ ?_
            clear h77
            refine seq fun K90 h90 => ?_
            have hCut := CutM.mk' (ρ := Th.r) ⟨hb.1, hb.2.1, hmid⟩ h1 h2 hst hrng (by omega) hlo hhi
            have hrg := hCut.rng
            refine stp (v := .int .i64 ((mid : Nat) + (m : Nat))) (o_mv rfl) ?_
            refine stp (v := .int .i64 (st : Nat)) (o_mv rfl) ?_
            refine stp (v := .int .i64 (mid + m - st : Nat)) (o_bin rfl rfl ((v_sub64 (by constructor <;> omega)).trans (v_int (by omega)))) ?_
            refine stp (v := .int .i64 (mid + m - st : Nat)) (o_mv rfl) ?_
            refine h90 _ _ ?_
            clear h90
            refine seqc (fun f w' => ∃ (l1 : List Th) (r1 : List Ent), f 0 = x ∧ f 1 = .int .i64 (a : Nat) ∧ f 3 = .int .i64 (b : Nat) ∧ f 4 = .func (.func 68) [].toArray [].toArray ∧ f 18 = .int .i64 (mid : Nat) ∧ f 20 = .int .i64 (st : Nat) ∧ f 24 = .int .i64 (mid + m - st : Nat) ∧ Mem w (ids r0) w' [r1] ∧ (SlS thC 257 81 x l1 r1) ∧ (RotR th0 l l1 st m (mid + m - st)) ∧ (l1.length = l.length)) ?_ ?_
            · intro K91 h91
              refine seq fun K93 h93 => ?_
              refine stp (v := .int .i64 (st : Nat)) (o_mv rfl) ?_
              refine stp (v := .int .i64 (m : Nat)) (o_mv rfl) ?_
              refine stp (v := .bool (decide (((st : Nat) : Int) < (m : Nat)))) (o_bin rfl rfl rfl) ?_
              refine stp (v := .bool (decide (((st : Nat) : Int) < (m : Nat)))) (o_mv rfl) ?_
              refine splitP rfl (fun c94 => ?_) (fun c94 => ?_)
              ·
                refine stg rfl (v := .int .i64 (m : Nat)) (o_mv rfl) ?_
                refine stg rfl (v := .int .i64 (mid + m - st : Nat)) (o_mv rfl) ?_
                refine stg rfl (v := .bool (decide (((m : Nat) : Int) < (mid + m - st : Nat)))) (o_bin rfl rfl rfl) ?_
                refine stp (v := .bool (decide (((m : Nat) : Int) < (mid + m - st : Nat)))) (o_pickT rfl rfl) ?_
                refine h93 _ _ ?_
                clear h93
                refine cndP rfl (fun c95 => ?_) (fun c95 => ?_)
                ·
                  refine stp (v := x) (o_mv rfl) ?_
                  refine stp (v := .int .i64 (st : Nat)) (o_mv rfl) ?_
                  refine stp (v := .int .i64 (m : Nat)) (o_mv rfl) ?_
                  refine stp (v := .int .i64 (mid + m - st : Nat)) (o_mv rfl) ?_
                  refine stp (v := .func (.func 68) [].toArray [].toArray) (o_mv rfl) ?_
                  refine m_call (rotate_ok _ l r0 w78 hs0 (hM78.res (i := 0) rfl) (by omega) st m (mid + m - st) (by omega)) rfl fun v96 w96 ⟨l96_, r'96, hP191, hs96, hm96⟩ => ?_
                  have hM96 : Mem w (ids r0) w96 [r'96] := hM78.step 0 rfl hm96
                  have hn96_ : l96_.length = l.length := hP191.1.length_eq
                  refine h91 _ _ ⟨l96_, r'96, rfl, by first | rfl | exact v_int (by omega) | exact v_int (by simp) | exact v_int (by simp; omega), by first | rfl | exact v_int (by omega) | exact v_int (by simp) | exact v_int (by simp; omega), rfl, by first | rfl | exact v_int (by omega) | exact v_int (by simp) | exact v_int (by simp; omega), by first | rfl | exact v_int (by omega) | exact v_int (by simp) | exact v_int (by simp; omega), by first | rfl | exact v_int (by omega) | exact v_int (by simp) | exact v_int (by simp; omega), hM96, hs96, by first | exact hP191 | exact rot_refl (by omega), by omega⟩
                ·
                  refine h91 _ _ ⟨l, r0, rfl, by first | rfl | exact v_int (by omega) | exact v_int (by simp) | exact v_int (by simp; omega), by first | rfl | exact v_int (by omega) | exact v_int (by simp) | exact v_int (by simp; omega), rfl, by first | rfl | exact v_int (by omega) | exact v_int (by simp) | exact v_int (by simp; omega), by first | rfl | exact v_int (by omega) | exact v_int (by simp) | exact v_int (by simp; omega), by first | rfl | exact v_int (by omega) | exact v_int (by simp) | exact v_int (by simp; omega), hM78, hs0, by first | exact hP191 | exact rot_refl (by omega), by omega⟩
              ·
                refine gno rfl (by simp) ?_
                refine gno rfl (by simp) ?_
                refine gno rfl (by simp) ?_
                refine stp (v := .bool false) (o_pickF rfl rfl) ?_
                refine h93 _ _ ?_
                clear h93
                refine cndF rfl ?_
                refine h91 _ _ ⟨l, r0, rfl, by first | rfl | exact v_int (by omega) | exact v_int (by simp) | exact v_int (by simp; omega), by first | rfl | exact v_int (by omega) | exact v_int (by simp) | exact v_int (by simp; omega), rfl, by first | rfl | exact v_int (by omega) | exact v_int (by simp) | exact v_int (by simp; omega), by first | rfl | exact v_int (by omega) | exact v_int (by simp) | exact v_int (by simp; omega), by first | rfl | exact v_int (by omega) | exact v_int (by simp) | exact v_int (by simp; omega), hM78, hs0, by first | exact hP191 | exact rot_refl (by omega), by omega⟩
            · rintro f w92 ⟨l1, r1, e92_0, e92_1, e92_3, e92_4, e92_18, e92_20, e92_24, hM92, hs1, hR, hl1⟩
              obtain ⟨frm, rfl⟩ : ∃ frm, f = (upd (upd (upd (upd (upd (upd (upd frm 0 (x)) 1 (.int .i64 (a : Nat))) 3 (.int .i64 (b : Nat))) 4 (.func (.func 68) [].toArray [].toArray)) 18 (.int .i64 (mid : Nat))) 20 (.int .i64 (st : Nat))) 24 (.int .i64 (mid + m - st : Nat))) := ⟨f, by rw [upd_self e92_0, upd_self e92_1, upd_self e92_3, upd_self e92_4, upd_self e92_18, upd_self e92_20, upd_self e92_24]⟩
              clear e92_0 e92_1 e92_3 e92_4 e92_18 e92_20 e92_24
              refine seqc (fun f w' => ∃ (l2 : List Th) (r2 : List Ent), f 0 = x ∧ f 3 = .int .i64 (b : Nat) ∧ f 4 = .func (.func 68) [].toArray [].toArray ∧ f 18 = .int .i64 (mid : Nat) ∧ f 24 = .int .i64 (mid + m - st : Nat) ∧ Mem w (ids r0) w' [r2] ∧ (SlS thC 257 81 x l2 r2) ∧ (PostS Th.r th0 l1 l2 a mid) ∧ (l2.length = l.length)) ?_ ?_
              · intro K97 h97
                refine seq fun K99 h99 => ?_
                refine stp (v := .int .i64 (a : Nat)) (o_mv rfl) ?_
                refine stp (v := .int .i64 (st : Nat)) (o_mv rfl) ?_
                refine stp (v := .bool (decide (((a : Nat) : Int) < (st : Nat)))) (o_bin rfl rfl rfl) ?_
                refine stp (v := .bool (decide (((a : Nat) : Int) < (st : Nat)))) (o_mv rfl) ?_
                refine splitP rfl (fun c100 => ?_) (fun c100 => ?_)
                ·
                  refine stg rfl (v := .int .i64 (st : Nat)) (o_mv rfl) ?_
                  refine stg rfl (v := .int .i64 (mid : Nat)) (o_mv rfl) ?_
                  refine stg rfl (v := .bool (decide (((st : Nat) : Int) < (mid : Nat)))) (o_bin rfl rfl rfl) ?_
                  refine stp (v := .bool (decide (((st : Nat) : Int) < (mid : Nat)))) (o_pickT rfl rfl) ?_
                  refine h99 _ _ ?_
                  clear h99
                  refine cndP rfl (fun c101 => ?_) (fun c101 => ?_)
                  ·
                    refine stp (v := x) (o_mv rfl) ?_
                    refine stp (v := .int .i64 (a : Nat)) (o_mv rfl) ?_
                    refine stp (v := .int .i64 (st : Nat)) (o_mv rfl) ?_
                    refine stp (v := .int .i64 (mid : Nat)) (o_mv rfl) ?_
                    refine stp (v := .func (.func 68) [].toArray [].toArray) (o_mv rfl) ?_
                    refine m_call (ih _ l1 r1 w92 hs1 (hM92.res (i := 0) rfl) (by omega) a st mid (by omega) (hCut.lower hR).1 (hCut.lower hR).2 (hCut.crLo hR hc) (by omega)) rfl fun v102 w102 ⟨l102_, r'102, hP205, hs102, hm102⟩ => ?_
                    have hM102 : Mem w (ids r0) w102 [r'102] := hM92.step 0 rfl hm102
                    have hn102_ : l102_.length = l1.length := hP205.perm.length_eq
                    refine h97 _ _ ⟨l102_, r'102, rfl, by first | rfl | exact v_int (by omega) | exact v_int (by simp) | exact v_int (by simp; omega), rfl, by first | rfl | exact v_int (by omega) | exact v_int (by simp) | exact v_int (by simp; omega), by first | rfl | exact v_int (by omega) | exact v_int (by simp) | exact v_int (by simp; omega), hM102, hs102, by first | exact hP205 | exact hCut.lowOne hR (by omega), by omega⟩
                  ·
                    refine h97 _ _ ⟨l1, r1, rfl, by first | rfl | exact v_int (by omega) | exact v_int (by simp) | exact v_int (by simp; omega), rfl, by first | rfl | exact v_int (by omega) | exact v_int (by simp) | exact v_int (by simp; omega), by first | rfl | exact v_int (by omega) | exact v_int (by simp) | exact v_int (by simp; omega), hM92, hs1, by first | exact hP205 | exact hCut.lowOne hR (by omega), by omega⟩
                ·
                  refine gno rfl (by simp) ?_
                  refine gno rfl (by simp) ?_
                  refine gno rfl (by simp) ?_
                  refine stp (v := .bool false) (o_pickF rfl rfl) ?_
                  refine h99 _ _ ?_
                  clear h99
                  refine cndF rfl ?_
                  refine h97 _ _ ⟨l1, r1, rfl, by first | rfl | exact v_int (by omega) | exact v_int (by simp) | exact v_int (by simp; omega), rfl, by first | rfl | exact v_int (by omega) | exact v_int (by simp) | exact v_int (by simp; omega), by first | rfl | exact v_int (by omega) | exact v_int (by simp) | exact v_int (by simp; omega), hM92, hs1, by first | exact hP205 | exact hCut.lowOne hR (by omega), by omega⟩
              · rintro f w98 ⟨l2, r2, e98_0, e98_3, e98_4, e98_18, e98_24, hM98, hs2, hP2, hl2⟩
                obtain ⟨frm, rfl⟩ : ∃ frm, f = (upd (upd (upd (upd (upd frm 0 (x)) 3 (.int .i64 (b : Nat))) 4 (.func (.func 68) [].toArray [].toArray)) 18 (.int .i64 (mid : Nat))) 24 (.int .i64 (mid + m - st : Nat))) := ⟨f, by rw [upd_self e98_0, upd_self e98_3, upd_self e98_4, upd_self e98_18, upd_self e98_24]⟩
                clear e98_0 e98_3 e98_4 e98_18 e98_24
                refine seq fun K103 h103 => ?_
                refine stp (v := .int .i64 (mid : Nat)) (o_mv rfl) ?_
                refine stp (v := .int .i64 (mid + m - st : Nat)) (o_mv rfl) ?_
                refine stp (v := .bool (decide (((mid : Nat) : Int) < (mid + m - st : Nat)))) (o_bin rfl rfl rfl) ?_
                refine stp (v := .bool (decide (((mid : Nat) : Int) < (mid + m - st : Nat)))) (o_mv rfl) ?_
                refine splitP rfl (fun c104 => ?_) (fun c104 => ?_)
                ·
                  refine stg rfl (v := .int .i64 (mid + m - st : Nat)) (o_mv rfl) ?_
                  refine stg rfl (v := .int .i64 (b : Nat)) (o_mv rfl) ?_
                  refine stg rfl (v := .bool (decide (((mid + m - st : Nat) : Int) < (b : Nat)))) (o_bin rfl rfl rfl) ?_
                  refine stp (v := .bool (decide (((mid + m - st : Nat) : Int) < (b : Nat)))) (o_pickT rfl rfl) ?_
                  refine h103 _ _ ?_
                  clear h103
                  refine cndP rfl (fun c105 => ?_) (fun c105 => ?_)
                  ·
                    refine stp (v := x) (o_mv rfl) ?_
                    refine stp (v := .int .i64 (mid : Nat)) (o_mv rfl) ?_
                    refine stp (v := .int .i64 (mid + m - st : Nat)) (o_mv rfl) ?_
                    refine stp (v := .int .i64 (b : Nat)) (o_mv rfl) ?_
                    refine stp (v := .func (.func 68) [].toArray [].toArray) (o_mv rfl) ?_
                    refine m_call (ih _ l2 r2 w98 hs2 (hM98.res (i := 0) rfl) (by omega) mid (mid + m - st) b (by omega) (hCut.upL2 hR hP2).1 (hCut.upL2 hR hP2).2 (hCut.crHi2 hR hc hP2) (by omega)) rfl fun v106 w106 ⟨l106_, r'106, hP219, hs106, hm106⟩ => ?_
                    have hM106 : Mem w (ids r0) w106 [r'106] := hM98.step 0 rfl hm106
                    have hn106_ : l106_.length = l2.length := hP219.perm.length_eq
                    refine ⟨(.tuple [].toArray), rfl, ?_⟩
                    first | exact ⟨_, _, hCut.done hR hP2 hP219, hs106, hM106⟩ | exact ⟨_, _, hCut.done hR hP2 (hCut.upOne hR hP2 (by omega)), hs106, hM106⟩
                  ·
                    refine ⟨(.tuple [].toArray), rfl, ?_⟩
                    first | exact ⟨_, _, hCut.done hR hP2 hP219, hs2, hM98⟩ | exact ⟨_, _, hCut.done hR hP2 (hCut.upOne hR hP2 (by omega)), hs2, hM98⟩
                ·
                  refine gno rfl (by simp) ?_
                  refine gno rfl (by simp) ?_
                  refine gno rfl (by simp) ?_
                  refine stp (v := .bool false) (o_pickF rfl rfl) ?_
                  refine h103 _ _ ?_
                  clear h103
                  refine cndF rfl ?_
                  refine ⟨(.tuple [].toArray), rfl, ?_⟩
                  first | exact ⟨_, _, hCut.done hR hP2 hP219, hs2, hM98⟩ | exact ⟨_, _, hCut.done hR hP2 (hCut.upOne hR hP2 (by omega)), hs2, hM98⟩
