/- Sorting: the whole sort. -/
import Derived.Test.YtojnkjnebejodaaS3
namespace Go.Proofs.Ytojnkjnebejodaa.E
open Go
theorem sym_all : ∀ N, SymOk N
  | 0 => fun x l r0 w hs0 hr hl a m b hb h1 h2 hc hN => by omega
  | N + 1 => fun x l r0 w hs0 hr hl a m b hb h1 h2 hc hN => sym_step N (sym_all N) x l r0 w hs0 hr hl a m b hb h1 h2 hc (by omega)

theorem sym_ok (x : Value) (l : List Th) (r0 : List Ent) (w : World) (hs0 : SlS thC 257 81 x l r0) (hr : Res w r0) (hl : l.length ≤ 1000000) (a m b : Nat) (hb : a < m ∧ m < b ∧ b ≤ l.length) (h1 : Srt Th.r th0 l a m) (h2 : Srt Th.r th0 l m b) (hc : CrO Th.r Th.w th0 l a m b) : Calls Try.prog 78 [x, .int .i64 (a : Nat), .int .i64 (m : Nat), .int .i64 (b : Nat), .func (.func 68) ([] : List Value).toArray ([] : List Value).toArray].toArray w (Rt fun _ w' => ∃ l' r', PostS Th.r th0 l l' a b ∧ SlS thC 257 81 x l' r' ∧ Mem w (ids r0) w' [r']) := sym_all (b - a + 1) x l r0 w hs0 hr hl a m b hb h1 h2 hc (by omega)

/-- slices.stableCmpFunc[huff.thing] -/
theorem stable_ok (x : Value) (l : List Th) (r0 : List Ent) (w : World) (hs0 : SlS thC 257 81 x l r0) (hr : Res w r0) (hl : l.length ≤ 256) (hc : ∀ p q, p < q → q < l.length → Cr Th.r Th.w (l.getD p th0) (l.getD q th0)) : Calls Try.prog 76 [x, .int .i64 (l.length : Nat), .func (.func 68) ([] : List Value).toArray ([] : List Value).toArray].toArray w (Rt fun _ w' => ∃ l' r', l'.Perm l ∧ Srt Th.r th0 l' 0 l.length ∧ SlS thC 257 81 x l' r' ∧ Mem w (ids r0) w' [r']) := by
  have hM0 : Mem w (ids r0) w [r0] := Mem.start hr
  refine calls_vc mixed Try.func76 rfl C76 (by simp [Try.ntmps76]) ?_
  refine seq fun K1 h1 => ?_
  refine stp (v := .int .i64 20) (o_mv rfl) ?_
  refine h1 _ _ ?_
  clear h1
  refine seq fun K2 h2 => ?_
  refine stp (v := .int .i64 20) (o_mv rfl) ?_
  refine stp (v := .int .i64 0) (o_mv rfl) ?_
  refine stp (v := .int .i64 20) (o_mv rfl) ?_
  refine h2 _ _ ?_
  clear h2
  refine seq fun K3 h3 => ?_
  refine lp (n := fun _ _ => False) (ι := (Nat) × (List Th) × (List Ent)) (fun ⟨a, lc, r0_⟩ f w' => f 0 = x ∧ f 7 = .int .i64 (a : Nat) ∧ f 8 = .int .i64 ((a : Nat) + 20) ∧ f 1 = .int .i64 (l.length : Nat) ∧ f 2 = .func (.func 68) [].toArray [].toArray ∧ f 6 = .int .i64 20 ∧ Mem w (ids r0) w' [r0_] ∧ (BlkS Th.r th0 l lc 1 20 a l.length) ∧ (a % 20 = 0 ∧ a ≤ l.length) ∧ (lc.length = l.length) ∧ (SlS thC 257 81 x (lc) r0_)) (fun ⟨a, lc, r0_⟩ => l.length - a) (0, l, r0) ?_ ?_
  · exact ⟨rfl, by first | rfl | exact v_int (by omega) | exact v_int (by simp) | exact v_int (by simp; omega), by first | rfl | exact v_int (by omega) | exact v_int (by simp) | exact v_int (by simp; omega), by first | rfl | exact v_int (by omega) | exact v_int (by simp) | exact v_int (by simp; omega), rfl, by first | rfl | exact v_int (by omega) | exact v_int (by simp) | exact v_int (by simp; omega), hM0, BlkS.init rfl, by omega, rfl, by first | exact hs0 | simpa using hs0⟩
  · rintro ⟨a, lc, r0_⟩ f w4 ⟨e4_0, e4_7, e4_8, e4_1, e4_2, e4_6, hM4, hB, ha, hn, hy0_⟩ K5 h5
    obtain ⟨frm, rfl⟩ : ∃ frm, f = (upd (upd (upd (upd (upd (upd frm 0 (x)) 7 (.int .i64 (a : Nat))) 8 (.int .i64 ((a : Nat) + 20))) 1 (.int .i64 (l.length : Nat))) 2 (.func (.func 68) [].toArray [].toArray)) 6 (.int .i64 20)) := ⟨f, by rw [upd_self e4_0, upd_self e4_7, upd_self e4_8, upd_self e4_1, upd_self e4_2, upd_self e4_6]⟩
    clear e4_0 e4_7 e4_8 e4_1 e4_2 e4_6
    refine seq fun K6 h6 => ?_
    refine seq fun K7 h7 => ?_
    refine stp (v := .int .i64 ((a : Nat) + 20)) (o_mv rfl) ?_
    refine stp (v := .int .i64 (l.length : Nat)) (o_mv rfl) ?_
    refine stp (v := .bool (decide (((a : Nat) + 20 : Int) ≤ (l.length : Nat)))) (o_bin rfl rfl rfl) ?_
    refine h7 _ _ ?_
    clear h7
    refine cndP rfl (fun c8 => ?_) (fun c8 => ?_)
    ·
      refine h6 _ _ ?_
      clear h6
      refine seq fun K9 h9 => ?_
      refine stp (v := x) (o_mv rfl) ?_
      refine stp (v := .int .i64 (a : Nat)) (o_mv rfl) ?_
      refine stp (v := .int .i64 ((a : Nat) + 20)) (o_mv rfl) ?_
      refine stp (v := .func (.func 68) [].toArray [].toArray) (o_mv rfl) ?_
      refine m_call (insert_ok _ lc r0_ w4 hy0_ (hM4.res (i := 0) rfl) (by omega) a ((a) + 20) (by omega) (fun p q k1 k2 k3 => hB.crA (.inl ⟨rfl, rfl⟩) hc p q k1 k2 (by omega))) rfl fun v10 w10 ⟨l10_, r'10, hP18, hs10, hm10⟩ => ?_
      have hM10 : Mem w (ids r0) w10 [r'10] := hM4.step 0 rfl hm10
      have hn10_ : l10_.length = lc.length := hP18.perm.length_eq
      refine h9 _ _ ?_
      clear h9
      refine seq fun K11 h11 => ?_
      refine stp (v := .int .i64 ((a : Nat) + 20)) (o_mv rfl) ?_
      refine stp (v := .int .i64 ((a : Nat) + 20)) (o_mv rfl) ?_
      refine h11 _ _ ?_
      clear h11
      refine stp (v := .int .i64 ((a : Nat) + 20)) (o_mv rfl) ?_
      refine stp (v := .int .i64 20) (o_mv rfl) ?_
      refine stp (v := .int .i64 (((a : Nat) + 20) + 20)) (o_bin rfl rfl (v_add64 (by constructor <;> omega))) ?_
      refine stp (v := .int .i64 (((a : Nat) + 20) + 20)) (o_mv rfl) ?_
      refine h5 (a + 20, l10_, r'10) _ _ ⟨rfl, by first | rfl | exact v_int (by omega) | exact v_int (by simp) | exact v_int (by simp; omega), by first | rfl | exact v_int (by omega) | exact v_int (by simp) | exact v_int (by simp; omega), by first | rfl | exact v_int (by omega) | exact v_int (by simp) | exact v_int (by simp; omega), rfl, by first | rfl | exact v_int (by omega) | exact v_int (by simp) | exact v_int (by simp; omega), hM10, hB.put (.inl ⟨rfl, rfl⟩) ha.1 (by omega) hP18, by omega, by omega, by first | exact hs10 | simpa using hs10⟩ (by (try dsimp only); omega)
    ·
      refine h3 _ _ ?_
      clear h3
      refine seq fun K12 h12 => ?_
      refine stp (v := x) (o_mv rfl) ?_
      refine stp (v := .int .i64 (a : Nat)) (o_mv rfl) ?_
      refine stp (v := .int .i64 (l.length : Nat)) (o_mv rfl) ?_
      refine stp (v := .func (.func 68) [].toArray [].toArray) (o_mv rfl) ?_
      refine m_call (insert_ok _ lc r0_ w4 hy0_ (hM4.res (i := 0) rfl) (by omega) a l.length (by omega) (fun p q k1 k2 k3 => hB.crA (.inl ⟨rfl, rfl⟩) hc p q k1 k2 (by omega))) rfl fun v13 w13 ⟨l13_, r'13, hP27, hs13, hm13⟩ => ?_
      have hM13 : Mem w (ids r0) w13 [r'13] := hM4.step 0 rfl hm13
      have hn13_ : l13_.length = lc.length := hP27.perm.length_eq
      refine h12 _ _ ?_
      clear h12
      refine lp (n := fun _ _ => False) (ι := (Nat) × (List Th) × (List Ent)) (fun ⟨s, l2, r0_⟩ f w' => f 0 = x ∧ f 6 = .int .i64 (s : Nat) ∧ f 1 = .int .i64 (l.length : Nat) ∧ f 2 = .func (.func 68) [].toArray [].toArray ∧ Mem w (ids r0) w' [r0_] ∧ (s = 20 ∨ s = 40 ∨ s = 80 ∨ s = 160 ∨ s = 320) ∧ (l2.length = l.length) ∧ (BlkS Th.r th0 l l2 s (2 * s) 0 l.length) ∧ (SlS thC 257 81 x (l2) r0_)) (fun ⟨s, l2, r0_⟩ => l.length - s) (20, l13_, r'13) ?_ ?_
      · exact ⟨rfl, by first | rfl | exact v_int (by omega) | exact v_int (by simp) | exact v_int (by simp; omega), by first | rfl | exact v_int (by omega) | exact v_int (by simp) | exact v_int (by simp; omega), rfl, hM13, by omega, by omega, (hB.put (b := l.length) (.inl ⟨rfl, rfl⟩) ha.1 (by omega) hP27).turn _, by first | exact hs13 | simpa using hs13⟩
      · rintro ⟨s, l2, r0_⟩ f w14 ⟨e14_0, e14_6, e14_1, e14_2, hM14, hs, hn2, hB2, hy0_⟩ K15 h15
        obtain ⟨frm, rfl⟩ : ∃ frm, f = (upd (upd (upd (upd frm 0 (x)) 6 (.int .i64 (s : Nat))) 1 (.int .i64 (l.length : Nat))) 2 (.func (.func 68) [].toArray [].toArray)) := ⟨f, by rw [upd_self e14_0, upd_self e14_6, upd_self e14_1, upd_self e14_2]⟩
        clear e14_0 e14_6 e14_1 e14_2
        refine seq fun K16 h16 => ?_
        refine seq fun K17 h17 => ?_
        refine stp (v := .int .i64 (s : Nat)) (o_mv rfl) ?_
        refine stp (v := .int .i64 (l.length : Nat)) (o_mv rfl) ?_
        refine stp (v := .bool (decide (((s : Nat) : Int) < (l.length : Nat)))) (o_bin rfl rfl rfl) ?_
        refine h17 _ _ ?_
        clear h17
        refine cndP rfl (fun c18 => ?_) (fun c18 => ?_)
        ·
          refine h16 _ _ ?_
          clear h16
          refine seq fun K19 h19 => ?_
          have hz : Sizes s (2 * s) := by unfold Sizes; omega
          refine stp (v := .int .i64 (s : Nat)) (o_mv rfl) ?_
          refine stp (v := .int .i64 (2 * (s : Nat))) (o_bin rfl rfl (v_mul64 (by constructor <;> omega))) ?_
          refine stp (v := .int .i64 0) (o_mv rfl) ?_
          refine stp (v := .int .i64 (2 * (s : Nat))) (o_mv rfl) ?_
          refine h19 _ _ ?_
          clear h19
          refine seq fun K20 h20 => ?_
          refine lp (n := fun _ _ => False) (ι := (Nat) × (List Th) × (List Ent)) (fun ⟨a3, l3, r0_⟩ f w' => f 0 = x ∧ f 7 = .int .i64 (a3 : Nat) ∧ f 8 = .int .i64 ((a3 : Nat) + 2 * (s : Nat)) ∧ f 1 = .int .i64 (l.length : Nat) ∧ f 2 = .func (.func 68) [].toArray [].toArray ∧ f 6 = .int .i64 (s : Nat) ∧ Mem w (ids r0) w' [r0_] ∧ (BlkS Th.r th0 l l3 s (2 * s) a3 l.length) ∧ (a3 % (2 * s) = 0) ∧ (a3 ≤ l.length) ∧ (l3.length = l.length) ∧ (SlS thC 257 81 x (l3) r0_)) (fun ⟨a3, l3, r0_⟩ => l.length - a3) (0, l2, r0_) ?_ ?_
          · exact ⟨rfl, by first | rfl | exact v_int (by omega) | exact v_int (by simp) | exact v_int (by simp; omega), by first | rfl | exact v_int (by omega) | exact v_int (by simp) | exact v_int (by simp; omega), by first | rfl | exact v_int (by omega) | exact v_int (by simp) | exact v_int (by simp; omega), rfl, by first | rfl | exact v_int (by omega) | exact v_int (by simp) | exact v_int (by simp; omega), hM14, hB2, by simp, by omega, hn2, by first | exact hy0_ | simpa using hy0_⟩
          · rintro ⟨a3, l3, r0_⟩ f w21 ⟨e21_0, e21_7, e21_8, e21_1, e21_2, e21_6, hM21, hB3, ha3, ha4, hn3, hy0_⟩ K22 h22
            obtain ⟨frm, rfl⟩ : ∃ frm, f = (upd (upd (upd (upd (upd (upd frm 0 (x)) 7 (.int .i64 (a3 : Nat))) 8 (.int .i64 ((a3 : Nat) + 2 * (s : Nat)))) 1 (.int .i64 (l.length : Nat))) 2 (.func (.func 68) [].toArray [].toArray)) 6 (.int .i64 (s : Nat))) := ⟨f, by rw [upd_self e21_0, upd_self e21_7, upd_self e21_8, upd_self e21_1, upd_self e21_2, upd_self e21_6]⟩
            clear e21_0 e21_7 e21_8 e21_1 e21_2 e21_6
            refine seq fun K23 h23 => ?_
            refine seq fun K24 h24 => ?_
            refine stp (v := .int .i64 ((a3 : Nat) + 2 * (s : Nat))) (o_mv rfl) ?_
            refine stp (v := .int .i64 (l.length : Nat)) (o_mv rfl) ?_
            refine stp (v := .bool (decide (((a3 : Nat) + 2 * (s : Nat) : Int) ≤ (l.length : Nat)))) (o_bin rfl rfl rfl) ?_
            refine h24 _ _ ?_
            clear h24
            refine cndP rfl (fun c25 => ?_) (fun c25 => ?_)
            ·
              refine h23 _ _ ?_
              clear h23
              refine seq fun K26 h26 => ?_
              refine stp (v := x) (o_mv rfl) ?_
              refine stp (v := .int .i64 (a3 : Nat)) (o_mv rfl) ?_
              refine stp (v := .int .i64 (a3 : Nat)) (o_mv rfl) ?_
              refine stp (v := .int .i64 (s : Nat)) (o_mv rfl) ?_
              refine stp (v := .int .i64 ((a3 : Nat) + (s : Nat))) (o_bin rfl rfl (v_add64 (by constructor <;> omega))) ?_
              refine stp (v := .int .i64 ((a3 : Nat) + 2 * (s : Nat))) (o_mv rfl) ?_
              refine stp (v := .func (.func 68) [].toArray [].toArray) (o_mv rfl) ?_
              refine m_call (sym_ok _ l3 r0_ w21 hy0_ (hM21.res (i := 0) rfl) (by omega) a3 ((a3) + (s)) ((a3) + 2 * (s)) (by omega) ((hB3.srt1 hz ha3 rfl).1 _ (by omega) (by omega)) ((hB3.srt1 hz ha3 rfl).2 _ (by omega) (by omega)) (hB3.crO hz hc ha3 rfl (by omega) rfl)) rfl fun v27 w27 ⟨l27_, r'27, hP43, hs27, hm27⟩ => ?_
              have hM27 : Mem w (ids r0) w27 [r'27] := hM21.step 0 rfl hm27
              have hn27_ : l27_.length = l3.length := hP43.perm.length_eq
              refine h26 _ _ ?_
              clear h26
              refine seq fun K28 h28 => ?_
              refine stp (v := .int .i64 ((a3 : Nat) + 2 * (s : Nat))) (o_mv rfl) ?_
              refine stp (v := .int .i64 ((a3 : Nat) + 2 * (s : Nat))) (o_mv rfl) ?_
              refine h28 _ _ ?_
              clear h28
              refine stp (v := .int .i64 ((a3 : Nat) + 2 * (s : Nat))) (o_mv rfl) ?_
              refine stp (v := .int .i64 (s : Nat)) (o_mv rfl) ?_
              refine stp (v := .int .i64 (2 * (s : Nat))) (o_bin rfl rfl (v_mul64 (by constructor <;> omega))) ?_
              refine stp (v := .int .i64 (((a3 : Nat) + 2 * (s : Nat)) + (2 * (s : Nat)))) (o_bin rfl rfl (v_add64 (by constructor <;> omega))) ?_
              refine stp (v := .int .i64 (((a3 : Nat) + 2 * (s : Nat)) + (2 * (s : Nat)))) (o_mv rfl) ?_
              refine h22 (a3 + 2 * s, l27_, r'27) _ _ ⟨rfl, by first | rfl | exact v_int (by omega) | exact v_int (by simp) | exact v_int (by simp; omega), by first | rfl | exact v_int (by omega) | exact v_int (by simp) | exact v_int (by simp; omega), by first | rfl | exact v_int (by omega) | exact v_int (by simp) | exact v_int (by simp; omega), rfl, by first | rfl | exact v_int (by omega) | exact v_int (by simp) | exact v_int (by simp; omega), hM27, hB3.put hz ha3 (by omega) hP43, by rw [Nat.add_mod_right]; exact ha3, by omega, by omega, by first | exact hs27 | simpa using hs27⟩ (by (try dsimp only); omega)
            ·
              refine h20 _ _ ?_
              clear h20
              refine seq fun K29 h29 => ?_
              refine seq fun K30 h30 => ?_
              refine stp (v := .int .i64 (a3 : Nat)) (o_mv rfl) ?_
              refine stp (v := .int .i64 (s : Nat)) (o_mv rfl) ?_
              refine stp (v := .int .i64 ((a3 : Nat) + (s : Nat))) (o_bin rfl rfl (v_add64 (by constructor <;> omega))) ?_
              refine stp (v := .int .i64 ((a3 : Nat) + (s : Nat))) (o_mv rfl) ?_
              refine h30 _ _ ?_
              clear h30
              refine seq fun K31 h31 => ?_
              refine stp (v := .int .i64 ((a3 : Nat) + (s : Nat))) (o_mv rfl) ?_
              refine stp (v := .int .i64 (l.length : Nat)) (o_mv rfl) ?_
              refine stp (v := .bool (decide (((a3 : Nat) + (s : Nat) : Int) < (l.length : Nat)))) (o_bin rfl rfl rfl) ?_
              refine h31 _ _ ?_
              clear h31
              refine cndP rfl (fun c32 => ?_) (fun c32 => ?_)
              ·
                refine stp (v := x) (o_mv rfl) ?_
                refine stp (v := .int .i64 (a3 : Nat)) (o_mv rfl) ?_
                refine stp (v := .int .i64 ((a3 : Nat) + (s : Nat))) (o_mv rfl) ?_
                refine stp (v := .int .i64 (l.length : Nat)) (o_mv rfl) ?_
                refine stp (v := .func (.func 68) [].toArray [].toArray) (o_mv rfl) ?_
                refine m_call (sym_ok _ l3 r0_ w21 hy0_ (hM21.res (i := 0) rfl) (by omega) a3 ((a3) + (s)) l.length (by omega) ((hB3.srt1 hz ha3 rfl).1 _ (by omega) (by omega)) ((hB3.srt1 hz ha3 rfl).2 _ (by omega) (by omega)) (hB3.crO hz hc ha3 rfl (by omega) rfl)) rfl fun v33 w33 ⟨l33_, r'33, hP60, hs33, hm33⟩ => ?_
                have hM33 : Mem w (ids r0) w33 [r'33] := hM21.step 0 rfl hm33
                have hn33_ : l33_.length = l3.length := hP60.perm.length_eq
                refine h29 _ _ ?_
                clear h29
                refine stp (v := .int .i64 (s : Nat)) (o_mv rfl) ?_
                refine stp (v := .int .i64 ((s : Nat) * 2)) (o_bin rfl rfl (v_mul64 (by constructor <;> omega))) ?_
                refine stp (v := .int .i64 ((s : Nat) * 2)) (o_mv rfl) ?_
                refine h15 (s * 2, l33_, r'33) _ _ ⟨rfl, by first | rfl | exact v_int (by omega) | exact v_int (by simp) | exact v_int (by simp; omega), by first | rfl | exact v_int (by omega) | exact v_int (by simp) | exact v_int (by simp; omega), rfl, hM33, by omega, by omega, by rw [show 2 * (s * 2) = 2 * s * 2 by omega, show s * 2 = 2 * s by omega]; exact BlkS.turn (hB3.put (b := l.length) hz ha3 (by omega) hP60) _, by first | exact hs33 | simpa using hs33⟩ (by (try dsimp only); omega)
              ·
                refine h29 _ _ ?_
                clear h29
                refine stp (v := .int .i64 (s : Nat)) (o_mv rfl) ?_
                refine stp (v := .int .i64 ((s : Nat) * 2)) (o_bin rfl rfl (v_mul64 (by constructor <;> omega))) ?_
                refine stp (v := .int .i64 ((s : Nat) * 2)) (o_mv rfl) ?_
                refine h15 (s * 2, l3, r0_) _ _ ⟨rfl, by first | rfl | exact v_int (by omega) | exact v_int (by simp) | exact v_int (by simp; omega), by first | rfl | exact v_int (by omega) | exact v_int (by simp) | exact v_int (by simp; omega), rfl, hM21, by omega, by omega, by rw [show 2 * (s * 2) = 2 * s * 2 by omega, show s * 2 = 2 * s by omega]; exact BlkS.turn (hB3.put (b := l.length) hz ha3 (by omega) (PostS.refl ((hB3.srt1 hz ha3 rfl).1 _ (by omega) (by omega)))) _, by first | exact hy0_ | simpa using hy0_⟩ (by (try dsimp only); omega)
        ·
          refine ⟨(.tuple [].toArray), rfl, ?_⟩
          exact ⟨_, _, (hB2.done (by omega)).1, (hB2.done (by omega)).2, hy0_, hM14⟩

/-- slices.SortStableFunc[[]huff.thing,huff.thing] -/
theorem sort_ok (x : Value) (l : List Th) (r0 : List Ent) (w : World) (hs0 : SlS thC 257 81 x l r0) (hr : Res w r0) (hl : l.length ≤ 256) (hc : ∀ p q, p < q → q < l.length → Cr Th.r Th.w (l.getD p th0) (l.getD q th0)) : Calls Try.prog 67 [x, .func (.func 68) ([] : List Value).toArray ([] : List Value).toArray].toArray w (Rt fun _ w' => ∃ l' r', l'.Perm l ∧ Srt Th.r th0 l' 0 l.length ∧ SlS thC 257 81 x l' r' ∧ Mem w (ids r0) w' [r']) := by
  have hM0 : Mem w (ids r0) w [r0] := Mem.start hr
  refine calls_vc mixed Try.func67 rfl C67 (by simp [Try.ntmps67]) ?_
  refine stp (v := x) (o_mv rfl) ?_
  refine stp (v := x) (o_mv rfl) ?_
  refine stp (v := .int .i64 (l.length : Nat)) (o_lenR (hs0.rd hM0 (i := 0) rfl) rfl rfl) ?_
  refine stp (v := .func (.func 68) [].toArray [].toArray) (o_mv rfl) ?_
  refine m_call (stable_ok _ l r0 w hs0 (hM0.res (i := 0) rfl) (by omega) hc) rfl fun v1 w1 ⟨l1_, r'1, hp1, hq1, hs1, hm1⟩ => ?_
  have hM1 : Mem w (ids r0) w1 [r'1] := hM0.step 0 rfl hm1
  refine ⟨(.tuple [].toArray), rfl, ?_⟩
  exact ⟨_, _, hp1, hq1, hs1, hM1⟩
