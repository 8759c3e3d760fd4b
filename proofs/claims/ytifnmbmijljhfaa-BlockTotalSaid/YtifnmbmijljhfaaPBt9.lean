/- Part 9 of the proof of what the last of these files says. -/
import Derived.Test.YtifnmbmijljhfaaPBt8
namespace Go.Proofs.Ytifnmbmijljhfaa.E.Hf
open Go
theorem swap_ok (x : Value) (l : List Th) (r0 : List Ent) (w : World) (hs0 : SlS thC 257 133 x l r0) (hr : Res w r0) (hl : l.length ≤ 1000000) (a b n : Nat) (hb : a + n ≤ b ∧ b + n ≤ l.length) : Calls Try.prog 81 [x, .int .i64 (a : Nat), .int .i64 (b : Nat), .int .i64 (n : Nat), .func (.func 74) ([] : List Value).toArray ([] : List Value).toArray].toArray w (Rt fun _ w' => ∃ l' r', SwR th0 l l' a b n ∧ SlS thC 257 133 x l' r' ∧ Mem w (ids r0) w' [r']) := by
 have hM0 : Mem w (ids r0) w [r0] := Mem.start hr
 refine calls_vc mixed Try.func81 rfl C81 (by simp [Try.ntmps81]) <| seq fun _ h1 => mv <| h1 _ _ <| lp (n := fun _ _ => False) (ι := (Nat) × (List Th) × (List Ent)) (fun ⟨i, lc, r0_⟩ f w' => f 0 = x ∧ f 10 = .int .i64 (i : Nat) ∧ f 1 = .int .i64 (a : Nat) ∧ f 2 = .int .i64 (b : Nat) ∧ f 3 = .int .i64 (n : Nat) ∧ Mem w (ids r0) w' [r0_] ∧ (i ≤ n) ∧ (SwR th0 l lc a b i) ∧ (lc.length = l.length) ∧ (SlS thC 257 133 x (lc) r0_)) (fun ⟨i, lc, r0_⟩ => n - i) (0, l, r0) ?_ ?_
 ·exact ⟨rfl, vi, vi, vi, vi, hM0, by omega, SwR.init, rfl, by first | exact hs0 | simpa using hs0⟩
 rintro ⟨i, lc, r0_⟩ f w2 ⟨e2_0, e2_10, e2_1, e2_2, e2_3, hM2, hi, hS, hn, hy0_⟩ K3 h3
 obtain ⟨frm, rfl⟩ := re5 e2_0 e2_10 e2_1 e2_2 e2_3
 refine seq fun _ h4 => seq fun _ h5 => mv <| mv <| bn rfl rfl <| h5 _ _ <| cndP rfl (fun c6 => ?_) (fun c6 => ?_)
 ·refine h4 _ _ <| seq fun _ h7 => ?_
  intro wd e1 e2 e3 e4
  have hd := Upd.same e1 e2 e3 e4 []
  have hM8 := hM2.pure hd
  clear e1 e2 e3 e4
  refine ⟨(some []), ?_⟩
  show vd _ _ _ _ _ _ _
  refine dmv <| dmv <| dmv <| dq (v := .int .i64 ((a : Nat) + (i : Nat))) (o_bin rfl rfl (v_add64 (by omega))) <| dmv <| dmv <| dmv <| dq (v := .int .i64 ((b : Nat) + (i : Nat))) (o_bin rfl rfl (v_add64 (by omega))) <| dmv <| dmv <| dmv <| dq (v := .int .i64 ((b : Nat) + (i : Nat))) (o_bin rfl rfl (v_add64 (by omega))) <| dqp (m_idxS th0 (j := ((b) + (i))) (hy0_.rd hM8 (i := 0) rfl) rfl (v_int (by omega)) (by omega) fun b9 o9 hp9 => ?_)
  show vd _ _ _ _ _ _ _
  refine dmv <| dmv <| dmv <| dq (v := .int .i64 ((a : Nat) + (i : Nat))) (o_bin rfl rfl (v_add64 (by omega))) <| dqp (m_idxS th0 (j := ((a) + (i))) (hy0_.rd hM8 (i := 0) rfl) rfl (v_int (by omega)) (by omega) fun b10 o10 hp10 => ?_)
  show vd _ _ _ _ _ _ _
  show _ ∧ _
  refine ⟨?_, ?_⟩
  ·show vd _ _ _ _ _ _ _
   refine dl (ldA (cs := thC (lc.getD ((b) + (i)) th0)) rfl (thC_len _) (hp9.all) <| ⟨(fun b hb => by cases hb), dl (ldA (cs := thC (lc.getD ((a) + (i)) th0)) rfl (thC_len _) (hp10.all) <| ⟨(fun b hb => by cases hb), dset (m_setS (enc := thC) th0 (q := lc.getD ((b) + (i)) th0) (j := (a + i)) hM8 (i := 0) rfl hy0_ rfl (v_int (by omega)) (by omega) (by simp) (rfl) fun w11 r11 u11 he11 hs11 (hM11 : Mem w (ids r0) w11 [r11]) => ⟨(fun b hb => by cases hb), ?_⟩)⟩)⟩)
   show vd _ _ _ _ _ _ _
   refine dset (m_setS (enc := thC) th0 (q := lc.getD ((a) + (i)) th0) (j := (b + i)) hM11 (i := 0) rfl hs11 rfl (v_int (by omega)) (by rw [List.length_set]; omega) (by simp) (rfl) fun w12 r12 u12 he12 hs12 (hM12 : Mem w (ids r0) w12 [r12]) => ⟨(fun b hb => by cases hb), ?_⟩)
   show vd _ _ _ _ _ _ _
   refine h7 _ _ <| mv <| stp (v := .int .i64 ((i : Nat) + 1)) (o_bin rfl rfl (v_add64 (by omega))) <| mv <| h3 (i + 1, swp th0 lc (a + i) (b + i), r12) _ _ ⟨rfl, vi, vi, vi, vi, hM12, by omega, hS.step (by omega) (by omega), by rw [swp_len]; exact hn, by first | exact hs12 | simpa using hs12⟩ (by (try dsimp only); omega)
  show vd _ _ _ _ _ _ _
  refine dl (ldA (cs := thC (lc.getD ((a) + (i)) th0)) rfl (thC_len _) (hp10.all) <| ⟨(fun b hb => by cases hb), dl (ldA (cs := thC (lc.getD ((b) + (i)) th0)) rfl (thC_len _) (hp9.all) <| ⟨(fun b hb => by cases hb), dset (m_setS (enc := thC) th0 (q := lc.getD ((b) + (i)) th0) (j := (a + i)) hM8 (i := 0) rfl hy0_ rfl (v_int (by omega)) (by omega) (by simp) (rfl) fun w13 r13 u13 he13 hs13 (hM13 : Mem w (ids r0) w13 [r13]) => ⟨(fun b hb => by cases hb), ?_⟩)⟩)⟩)
  show vd _ _ _ _ _ _ _
  refine dset (m_setS (enc := thC) th0 (q := lc.getD ((a) + (i)) th0) (j := (b + i)) hM13 (i := 0) rfl hs13 rfl (v_int (by omega)) (by rw [List.length_set]; omega) (by simp) (rfl) fun w14 r14 u14 he14 hs14 (hM14 : Mem w (ids r0) w14 [r14]) => ⟨(fun b hb => by cases hb), ?_⟩)
  show vd _ _ _ _ _ _ _
  refine h7 _ _ <| mv <| stp (v := .int .i64 ((i : Nat) + 1)) (o_bin rfl rfl (v_add64 (by omega))) <| mv <| h3 (i + 1, swp th0 lc (a + i) (b + i), r14) _ _ ⟨rfl, vi, vi, vi, vi, hM14, by omega, hS.step (by omega) (by omega), by rw [swp_len]; exact hn, by first | exact hs14 | simpa using hs14⟩ (by (try dsimp only); omega)
 refine ⟨(.tuple [].toArray), rfl, ?_⟩
 obtain rfl : i = n := by omega
 exact ⟨_, _, hS, hy0_, hM2⟩
theorem rotate_ok (x : Value) (l : List Th) (r0 : List Ent) (w : World) (hs0 : SlS thC 257 133 x l r0) (hr : Res w r0) (hl : l.length ≤ 1000000) (s m e : Nat) (hb : s < m ∧ m < e ∧ e ≤ l.length) : Calls Try.prog 80 [x, .int .i64 (s : Nat), .int .i64 (m : Nat), .int .i64 (e : Nat), .func (.func 74) ([] : List Value).toArray ([] : List Value).toArray].toArray w (Rt fun _ w' => ∃ l' r', RotR th0 l l' s m e ∧ SlS thC 257 133 x l' r' ∧ Mem w (ids r0) w' [r']) := by
 have hM0 : Mem w (ids r0) w [r0] := Mem.start hr
 refine calls_vc mixed Try.func80 rfl C80 (by simp [Try.ntmps80]) <| seq fun _ h1 => mv <| mv <| stp (v := .int .i64 ((m : Nat) - (s : Nat))) (o_bin rfl rfl (v_sub64 (by omega))) <| mv <| h1 _ _ <| seq fun _ h2 => mv <| mv <| stp (v := .int .i64 ((e : Nat) - (m : Nat))) (o_bin rfl rfl (v_sub64 (by omega))) <| mv <| h2 _ _ <| seq fun _ h3 => ?_
 refine lp (n := fun _ _ => False) (ι := (Nat) × (Nat) × (List Th) × (List Ent)) (fun ⟨i, j, lc, r0_⟩ f w' => f 0 = x ∧ f 10 = .int .i64 (i : Nat) ∧ f 11 = .int .i64 (j : Nat) ∧ f 2 = .int .i64 (m : Nat) ∧ f 4 = .func (.func 74) [].toArray [].toArray ∧ Mem w (ids r0) w' [r0_] ∧ (RotI th0 l lc s m e i j) ∧ (lc.length = l.length) ∧ (0 < i ∧ 0 < j ∧ s + i ≤ m ∧ m + j ≤ e) ∧ (SlS thC 257 133 x (lc) r0_)) (fun ⟨i, j, lc, r0_⟩ => i + j) (m - s, e - m, l, r0) ?_ ?_
 ·exact ⟨rfl, vi, vi, vi, rfl, hM0, RotI.init (by omega), rfl, by omega, by first | exact hs0 | simpa using hs0⟩
 rintro ⟨i, j, lc, r0_⟩ f w4 ⟨e4_0, e4_10, e4_11, e4_2, e4_4, hM4, hI, hn, hij, hy0_⟩ K5 h5
 obtain ⟨frm, rfl⟩ := re5 e4_0 e4_10 e4_11 e4_2 e4_4
 refine seq fun _ h6 => seq fun _ h7 => mv <| mv <| bneq rfl rfl <| h7 _ _ <| cndP rfl (fun c8 => ?_) (fun c8 => ?_)
 ·refine h6 _ _ <| seq fun _ h9 => mv <| mv <| bn rfl rfl <| h9 _ _ <| cndP rfl (fun c10 => ?_) (fun c10 => ?_)
  ·refine seq fun _ h11 => mv <| mv <| mv <| stp (v := .int .i64 (m - i : Nat)) (o_bin rfl rfl ((v_sub64 (by omega)).trans (v_int (by omega)))) <| mv <| mv <| mv <| m_call (swap_ok _ lc r0_ w4 hy0_ (hM4.res (i := 0) rfl) (by omega) (m - i) m j (by omega)) rfl fun v12 w12 ⟨l12_, r'12, hP31, hs12, hm12⟩ => ?_
   have hM12 : Mem w (ids r0) w12 [r'12] := hM4.step 0 rfl hm12
   have hn12_ : l12_.length = lc.length := hP31.1.length_eq
   refine h11 _ _ <| mv <| mv <| stp (v := .int .i64 (i - j : Nat)) (o_bin rfl rfl ((v_sub64 (by omega)).trans (v_int (by omega)))) <| mv <| h5 (i - j, j, l12_, r'12) _ _ ⟨rfl, vi, vi, vi, rfl, hM12, hI.left (by omega) hP31, by omega, by omega, by first | exact hs12 | simpa using hs12⟩ (by (try dsimp only); omega)
  refine seq fun _ h13 => mv <| mv <| mv <| stp (v := .int .i64 (m - i : Nat)) (o_bin rfl rfl ((v_sub64 (by omega)).trans (v_int (by omega)))) <| mv <| mv <| stp (v := .int .i64 ((m : Nat) + (j : Nat))) (o_bin rfl rfl (v_add64 (by omega))) <| mv <| stp (v := .int .i64 (m + j - i : Nat)) (o_bin rfl rfl ((v_sub64 (by omega)).trans (v_int (by omega)))) <| mv <| mv <| m_call (swap_ok _ lc r0_ w4 hy0_ (hM4.res (i := 0) rfl) (by omega) (m - i) (m + j - i) i (by omega)) rfl fun v14 w14 ⟨l14_, r'14, hP46, hs14, hm14⟩ => ?_
  have hM14 : Mem w (ids r0) w14 [r'14] := hM4.step 0 rfl hm14
  have hn14_ : l14_.length = lc.length := hP46.1.length_eq
  refine h13 _ _ <| mv <| mv <| stp (v := .int .i64 (j - i : Nat)) (o_bin rfl rfl ((v_sub64 (by omega)).trans (v_int (by omega)))) <| mv <| h5 (i, j - i, l14_, r'14) _ _ ⟨rfl, vi, vi, vi, rfl, hM14, hI.right (by omega) hP46, by omega, by omega, by first | exact hs14 | simpa using hs14⟩ (by (try dsimp only); omega)
 refine h3 _ _ <| mv <| mv <| mv <| stp (v := .int .i64 (m - i : Nat)) (o_bin rfl rfl ((v_sub64 (by omega)).trans (v_int (by omega)))) <| mv <| mv <| mv <| m_call (swap_ok _ lc r0_ w4 hy0_ (hM4.res (i := 0) rfl) (by omega) (m - i) m i (by omega)) rfl fun v15 w15 ⟨l15_, r'15, hP57, hs15, hm15⟩ => ?_
 have hM15 : Mem w (ids r0) w15 [r'15] := hM4.step 0 rfl hm15
 have hn15_ : l15_.length = lc.length := hP57.1.length_eq
 refine ⟨(.tuple [].toArray), rfl, ?_⟩
 obtain rfl : i = j := by omega
 exact ⟨_, _, hI.done hP57, hs15, hM15⟩
theorem insert_ok (x : Value) (l : List Th) (r0 : List Ent) (w : World) (hs0 : SlS thC 257 133 x l r0) (hr : Res w r0) (hl : l.length ≤ 1000000) (a b : Nat) (hb : a ≤ l.length ∧ b ≤ l.length) (hc : ∀ p q, a ≤ p → p < q → q < b → Cr Th.r Th.w (l.getD p th0) (l.getD q th0)) : Calls Try.prog 78 [x, .int .i64 (a : Nat), .int .i64 (b : Nat), .func (.func 74) ([] : List Value).toArray ([] : List Value).toArray].toArray w (Rt fun _ w' => ∃ l' r', PostS Th.r th0 l l' a b ∧ SlS thC 257 133 x l' r' ∧ Mem w (ids r0) w' [r']) := by
 have hM0 : Mem w (ids r0) w [r0] := Mem.start hr
 refine calls_vc mixed Try.func78 rfl C78 (by simp [Try.ntmps78]) <| seq fun _ h1 => mv <| stp (v := .int .i64 ((a : Nat) + 1)) (o_bin rfl rfl (v_add64 (by omega))) <| mv <| h1 _ _ <| lp (n := fun _ _ => False) (ι := (Nat) × (List Th) × (List Ent)) (fun ⟨i, lc, r0_⟩ f w' => f 0 = x ∧ f 8 = .int .i64 (i : Nat) ∧ f 1 = .int .i64 (a : Nat) ∧ f 2 = .int .i64 (b : Nat) ∧ f 3 = .func (.func 74) [].toArray [].toArray ∧ Mem w (ids r0) w' [r0_] ∧ (PostS Th.r th0 l lc a i) ∧ (lc.length = l.length) ∧ (a + 1 ≤ i) ∧ (i ≤ b ∨ lc = l) ∧ (SlS thC 257 133 x (lc) r0_)) (fun ⟨i, lc, r0_⟩ => b - i) (a + 1, l, r0) ?_ ?_
 ·exact ⟨rfl, vi, vi, vi, rfl, hM0, PostS.refl fun p q h1 h2 h3 => by omega, rfl, by omega, .inr rfl, by first | exact hs0 | simpa using hs0⟩
 rintro ⟨i, lc, r0_⟩ f w2 ⟨e2_0, e2_8, e2_1, e2_2, e2_3, hM2, hP, hn, hia, hib, hy0_⟩ K3 h3
 obtain ⟨frm, rfl⟩ := re5 e2_0 e2_8 e2_1 e2_2 e2_3
 refine seq fun _ h4 => seq fun _ h5 => mv <| mv <| bn rfl rfl <| h5 _ _ <| cndP rfl (fun c6 => ?_) (fun c6 => ?_)
 ·refine h4 _ _ <| seq fun _ h7 => seq fun _ h8 => mv <| mv <| h8 _ _ <| lp (n := fun _ _ => False) (ι := (Nat) × (List Th) × (List Ent)) (fun ⟨j, l2, r0_⟩ f w' => f 0 = x ∧ f 9 = .int .i64 (j : Nat) ∧ f 1 = .int .i64 (a : Nat) ∧ f 2 = .int .i64 (b : Nat) ∧ f 3 = .func (.func 74) [].toArray [].toArray ∧ f 8 = .int .i64 (i : Nat) ∧ Mem w (ids r0) w' [r0_] ∧ (InsI Th.r th0 l l2 a i j) ∧ (l2.length = l.length) ∧ (a ≤ j ∧ j ≤ i) ∧ (SlS thC 257 133 x (l2) r0_)) (fun ⟨j, l2, r0_⟩ => j) (i, lc, r0_) ?_ ?_
  ·exact ⟨rfl, vi, vi, vi, rfl, vi, hM2, InsI.init hP (by omega), hn, by omega, by first | exact hy0_ | simpa using hy0_⟩
  rintro ⟨j, l2, r0_⟩ f w9 ⟨e9_0, e9_9, e9_1, e9_2, e9_3, e9_8, hM9, hI, hn2, hja, hy0_⟩ K10 h10
  obtain ⟨frm, rfl⟩ := re6 e9_0 e9_9 e9_1 e9_2 e9_3 e9_8
  refine seq fun _ h11 => seq fun _ h12 => ?_
  intro wd e1 e2 e3 e4
  have hd := Upd.same e1 e2 e3 e4 []
  have hM13 := hM9.pure hd
  clear e1 e2 e3 e4
  refine ⟨(some [(blkV x)]), ?_⟩
  show vd _ _ _ _ _ _ _
  refine dmv <| dmv <| dbn rfl rfl <| dmv <| dsplitP rfl (fun c14 => ?_) (fun c14 => ?_)
  ·refine dgmv rfl <| dgmv rfl <| dgmv rfl <| dgyes rfl rfl (dqp (m_idxS3 th0 (j := j) (hy0_.rd hM13 (i := 0) rfl) (hy0_.rd hM13 (i := 0) rfl) rfl rfl (by omega) fun b15 o15 hp15 hbb15 => ?_))
   show vd _ _ _ _ _ _ _
   subst hbb15
   refine dgmv rfl <| dgmv rfl <| dqg rfl (v := .int .i64 ((j : Nat) - 1)) (o_bin rfl rfl (v_sub64 (by omega))) <| dgyes rfl rfl (dqp (m_idxS3 th0 (j := (j - 1)) (hy0_.rd hM13 (i := 0) rfl) (hy0_.rd hM13 (i := 0) rfl) rfl (v_int (by omega)) (by omega) fun b16 o16 hp16 hbb16 => ?_))
   show vd _ _ _ _ _ _ _
   subst hbb16
   refine dqgyes rfl rfl <| dqldA (cs := thC (l2.getD (j - 1) th0)) rfl (by simp [isHeld]) (thC_len _) (hp16.all) <| dgyesl rfl <| dl (ldA (cs := thC (l2.getD j th0)) rfl (thC_len _) (hp15.all) <| ⟨(fun b hb => rfl), dgyesl rfl <| dl (m_callv rfl (by kernel_rfl) (cmpW_ok (l2.getD j th0) (l2.getD (j - 1) th0) wd) rfl fun v17 w17 ⟨hr17, hu17⟩ => ?_)⟩)
   have hM17 : Mem w (ids r0) w17 [r0_] := hM13.pure hu17
   subst hr17
   have hh17 := held_upd (wr := wd) (bs := [(blkV x)]) hu17 (fun b hb => by
    simp only [List.mem_cons, List.not_mem_nil, or_false] at hb
    rw [hb]; exact ⟨Rd.blkV_ltS (hy0_.rd hM13 (i := 0) rfl) (by omega), by simp⟩) (fun b hb => rfl)
   refine ⟨hh17, dgbn rfl rfl rfl <| dpkT rfl <| h12 _ _ <| cndP rfl (fun c18 => ?_) (fun c18 => ?_)⟩
   ·refine h11 _ _ <| seq fun _ h19 => ?_
    intro wd e1 e2 e3 e4
    have hd := Upd.same e1 e2 e3 e4 []
    have hM20 := hM17.pure hd
    clear e1 e2 e3 e4
    refine ⟨(some []), ?_⟩
    show vd _ _ _ _ _ _ _
    refine dmv <| dmv <| dmv <| dmv <| dq (v := .int .i64 ((j : Nat) - 1)) (o_bin rfl rfl (v_sub64 (by omega))) <| dmv <| dmv <| dq (v := .int .i64 ((j : Nat) - 1)) (o_bin rfl rfl (v_sub64 (by omega))) <| dqp (m_idxS th0 (j := (j - 1)) (hy0_.rd hM20 (i := 0) rfl) rfl (v_int (by omega)) (by omega) fun b21 o21 hp21 => ?_)
    show vd _ _ _ _ _ _ _
    refine dmv <| dmv <| dqp (m_idxS th0 (j := j) (hy0_.rd hM20 (i := 0) rfl) rfl rfl (by omega) fun b22 o22 hp22 => ?_)
    show vd _ _ _ _ _ _ _
    show _ ∧ _
    refine ⟨?_, ?_⟩
    ·show vd _ _ _ _ _ _ _
     refine dl (ldA (cs := thC (l2.getD (j - 1) th0)) rfl (thC_len _) (hp21.all) <| ⟨(fun b hb => by cases hb), dl (ldA (cs := thC (l2.getD j th0)) rfl (thC_len _) (hp22.all) <| ⟨(fun b hb => by cases hb), dset (m_setS (enc := thC) th0 (q := l2.getD (j - 1) th0) (j := j) hM20 (i := 0) rfl hy0_ rfl rfl (by omega) (by simp) (rfl) fun w23 r23 u23 he23 hs23 (hM23 : Mem w (ids r0) w23 [r23]) => ⟨(fun b hb => by cases hb), ?_⟩)⟩)⟩)
     show vd _ _ _ _ _ _ _
     refine dset (m_setS (enc := thC) th0 (q := l2.getD j th0) (j := (j - 1)) hM23 (i := 0) rfl hs23 rfl (v_int (by omega)) (by rw [List.length_set]; omega) (by simp) (rfl) fun w24 r24 u24 he24 hs24 (hM24 : Mem w (ids r0) w24 [r24]) => ⟨(fun b hb => by cases hb), ?_⟩)
     show vd _ _ _ _ _ _ _
     refine h19 _ _ <| mv <| stp (v := .int .i64 ((j : Nat) - 1)) (o_bin rfl rfl (v_sub64 (by omega))) <| mv <| h10 (j - 1, swp th0 l2 j (j - 1), r24) _ _ ⟨rfl, vi, vi, vi, rfl, vi, hM24, hI.step (by omega) (by omega) ((hI.cr (by omega) fun p q k1 k2 k3 => hc p q k1 k2 (by omega)).1 (cmpW_neg.1 (by assumption))), by rw [swp_len]; exact hn2, by omega, by first | exact hs24 | simpa using hs24⟩ (by (try dsimp only); omega)
    show vd _ _ _ _ _ _ _
    refine dl (ldA (cs := thC (l2.getD j th0)) rfl (thC_len _) (hp22.all) <| ⟨(fun b hb => by cases hb), dl (ldA (cs := thC (l2.getD (j - 1) th0)) rfl (thC_len _) (hp21.all) <| ⟨(fun b hb => by cases hb), dset (m_setS (enc := thC) th0 (q := l2.getD (j - 1) th0) (j := j) hM20 (i := 0) rfl hy0_ rfl rfl (by omega) (by simp) (rfl) fun w25 r25 u25 he25 hs25 (hM25 : Mem w (ids r0) w25 [r25]) => ⟨(fun b hb => by cases hb), ?_⟩)⟩)⟩)
    show vd _ _ _ _ _ _ _
    refine dset (m_setS (enc := thC) th0 (q := l2.getD j th0) (j := (j - 1)) hM25 (i := 0) rfl hs25 rfl (v_int (by omega)) (by rw [List.length_set]; omega) (by simp) (rfl) fun w26 r26 u26 he26 hs26 (hM26 : Mem w (ids r0) w26 [r26]) => ⟨(fun b hb => by cases hb), ?_⟩)
    show vd _ _ _ _ _ _ _
    refine h19 _ _ <| mv <| stp (v := .int .i64 ((j : Nat) - 1)) (o_bin rfl rfl (v_sub64 (by omega))) <| mv <| h10 (j - 1, swp th0 l2 j (j - 1), r26) _ _ ⟨rfl, vi, vi, vi, rfl, vi, hM26, hI.step (by omega) (by omega) ((hI.cr (by omega) fun p q k1 k2 k3 => hc p q k1 k2 (by omega)).1 (cmpW_neg.1 (by assumption))), by rw [swp_len]; exact hn2, by omega, by first | exact hs26 | simpa using hs26⟩ (by (try dsimp only); omega)
   refine h7 _ _ <| mv <| stp (v := .int .i64 ((i : Nat) + 1)) (o_bin rfl rfl (v_add64 (by omega))) <| mv <| h3 (i + 1, l2, r0_) _ _ ⟨rfl, vi, vi, vi, rfl, hM17, hI.done (.inr ((hI.cr (by omega) fun p q k1 k2 k3 => hc p q k1 k2 (by omega)).2 (fun k => absurd (cmpW_neg.2 k) (by assumption)))), by omega, by omega, .inl (by omega), by first | exact hy0_ | simpa using hy0_⟩ (by (try dsimp only); omega)
  refine dx rfl <| dx rfl <| dx rfl <| dx rfl <| dx rfl <| dx rfl <| dx rfl <| dx rfl <| dxq rfl <| dxl rfl <| dxl rfl <| dx rfl <| dpkF rfl <| h12 _ _ <| cndF rfl <| h7 _ _ <| mv <| stp (v := .int .i64 ((i : Nat) + 1)) (o_bin rfl rfl (v_add64 (by omega))) <| mv <| h3 (i + 1, l2, r0_) _ _ ⟨rfl, vi, vi, vi, rfl, hM13, hI.done (.inl (by omega)), by omega, by omega, .inl (by omega), by first | exact hy0_ | simpa using hy0_⟩ (by (try dsimp only); omega)
 refine ⟨(.tuple [].toArray), rfl, ⟨_, _, hP.upto (by omega) hib, hy0_, hM2⟩⟩
end Go.Proofs.Ytifnmbmijljhfaa.E.Hf
namespace Go.Proofs.Ytifnmbmijljhfaa.E.Hf
open Go
def SymOk (N : Nat) : Prop := ∀ (x : Value) (l : List Th) (r0 : List Ent) (w : World) (hs0 : SlS thC 257 133 x l r0) (hr : Res w r0) (hl : l.length ≤ 1000000) (a m b : Nat) (hb : a < m ∧ m < b ∧ b ≤ l.length) (h1 : Srt Th.r th0 l a m) (h2 : Srt Th.r th0 l m b) (hc : CrO Th.r Th.w th0 l a m b) (_ : b - a < N), Calls Try.prog 79 [x, .int .i64 (a : Nat), .int .i64 (m : Nat), .int .i64 (b : Nat), .func (.func 74) ([] : List Value).toArray ([] : List Value).toArray].toArray w (Rt fun _ w' => ∃ l' r', PostS Th.r th0 l l' a b ∧ SlS thC 257 133 x l' r' ∧ Mem w (ids r0) w' [r'])
set_option maxHeartbeats 1000000 in
set_option maxRecDepth 100000 in
theorem sym_step (N : Nat) (ih : SymOk N) (x : Value) (l : List Th) (r0 : List Ent) (w : World) (hs0 : SlS thC 257 133 x l r0) (hr : Res w r0) (hl : l.length ≤ 1000000) (a m b : Nat) (hb : a < m ∧ m < b ∧ b ≤ l.length) (h1 : Srt Th.r th0 l a m) (h2 : Srt Th.r th0 l m b) (hc : CrO Th.r Th.w th0 l a m b) (hN : b - a ≤ N) : Calls Try.prog 79 [x, .int .i64 (a : Nat), .int .i64 (m : Nat), .int .i64 (b : Nat), .func (.func 74) ([] : List Value).toArray ([] : List Value).toArray].toArray w (Rt fun _ w' => ∃ l' r', PostS Th.r th0 l l' a b ∧ SlS thC 257 133 x l' r' ∧ Mem w (ids r0) w' [r']) := by
 have hM0 : Mem w (ids r0) w [r0] := Mem.start hr
 refine calls_vc mixed Try.func79 rfl C79 (by simp [Try.ntmps79]) ?_
 refine seq fun K1 h1 => ?_
 refine seq fun K2 h2 => ?_
 refine stp (v := .int .i64 (m : Nat)) (o_mv rfl) ?_
 refine stp (v := .int .i64 (a : Nat)) (o_mv rfl) ?_
 refine stp (v := .int .i64 ((m : Nat) - (a : Nat))) (o_bin rfl rfl (v_sub64 (by constructor <;> omega))) ?_
 refine stp (v := .bool (decide (((m : Nat) - (a : Nat) : Int) = 1))) (o_bin rfl rfl rfl) ?_
 refine h2 _ _ ?_
 clear h2
 refine cndP rfl (fun c3 => ?_) (fun c3 => ?_)
 ·refine seq fun K4 h4 => ?_
  refine stp (v := .int .i64 (m : Nat)) (o_mv rfl) ?_
  refine stp (v := .int .i64 (m : Nat)) (o_mv rfl) ?_
  refine h4 _ _ ?_
  clear h4
  refine seq fun K5 h5 => ?_
  refine stp (v := .int .i64 (b : Nat)) (o_mv rfl) ?_
  refine stp (v := .int .i64 (b : Nat)) (o_mv rfl) ?_
  refine h5 _ _ ?_
  clear h5
  refine seq fun K6 h6 => ?_
  refine lp (n := fun _ _ => False) (ι := (Nat) × (Nat)) (fun ⟨i, j⟩ f w' => f 10 = .int .i64 (i : Nat) ∧ f 11 = .int .i64 (j : Nat) ∧ f 0 = x ∧ f 1 = .int .i64 (a : Nat) ∧ f 4 = .func (.func 74) [].toArray [].toArray ∧ Mem w (ids r0) w' [r0] ∧ (m ≤ i ∧ i ≤ j ∧ j ≤ b) ∧ (i = m ∨ Th.r (l.getD (i - 1) th0) < Th.r (l.getD a th0)) ∧ (j = b ∨ Th.r (l.getD a th0) < Th.r (l.getD j th0))) (fun ⟨i, j⟩ => j - i) (m, b) ?_ ?_
  ·exact ⟨by first | rfl | exact v_int (by omega) | exact v_int (by simp) | exact v_int (by simp; omega), by first | rfl | exact v_int (by omega) | exact v_int (by simp) | exact v_int (by simp; omega), rfl, by first | rfl | exact v_int (by omega) | exact v_int (by simp) | exact v_int (by simp; omega), rfl, hM0, by omega, .inl rfl, .inl rfl⟩
  rintro ⟨i, j⟩ f w7 ⟨e7_10, e7_11, e7_0, e7_1, e7_4, hM7, hij, hlo, hhi⟩ K8 h8
  obtain ⟨frm, rfl⟩ : ∃ frm, f = (upd (upd (upd (upd (upd frm 10 (.int .i64 (i : Nat))) 11 (.int .i64 (j : Nat))) 0 (x)) 1 (.int .i64 (a : Nat))) 4 (.func (.func 74) [].toArray [].toArray)) := ⟨f, by rw [upd_self e7_10, upd_self e7_11, upd_self e7_0, upd_self e7_1, upd_self e7_4]⟩
  clear e7_10 e7_11 e7_0 e7_1 e7_4
  refine seq fun K9 h9 => ?_
  refine seq fun K10 h10 => ?_
  refine stp (v := .int .i64 (i : Nat)) (o_mv rfl) ?_
  refine stp (v := .int .i64 (j : Nat)) (o_mv rfl) ?_
  refine stp (v := .bool (decide (((i : Nat) : Int) < (j : Nat)))) (o_bin rfl rfl rfl) ?_
  refine h10 _ _ ?_
  clear h10
  refine cndP rfl (fun c11 => ?_) (fun c11 => ?_)
  ·refine h9 _ _ ?_
   clear h9
   refine seq fun K12 h12 => ?_
   refine stp (v := .int .i64 (i : Nat)) (o_mv rfl) ?_
   refine stp (v := .int .i64 (j : Nat)) (o_mv rfl) ?_
   refine stp (v := .int .i64 ((i : Nat) + (j : Nat))) (o_bin rfl rfl (v_add64 (by constructor <;> omega))) ?_
   refine stp (v := .int .u64 ((i : Nat) + (j : Nat))) (o_conv rfl (v_same (by simp only [inK]; omega))) ?_
   refine stp (v := .int .u64 (((i : Nat) + (j : Nat)) / 2)) (o_shr rfl rfl (by omega) (v_shr 1 (by decide))) ?_
   obtain ⟨hh, hhh⟩ : ∃ t, t = (i + j) / 2 := ⟨_, rfl⟩
   refine stp (v := .int .i64 (hh : Nat)) (o_conv rfl ((v_same (by simp only [inK]; omega)).trans (v_int (by omega)))) ?_
   refine stp (v := .int .i64 (hh : Nat)) (o_mv rfl) ?_
   refine h12 _ _ ?_
   clear h12
   refine seq fun K13 h13 => ?_
   intro wd e1 e2 e3 e4
   have hd := Upd.same e1 e2 e3 e4 []
   have hM14 := hM7.pure hd
   clear e1 e2 e3 e4
   refine ⟨(some [(blkV x)]), ?_⟩
   show vd _ _ _ _ _ _ _
   refine dq (v := .func (.func 74) [].toArray [].toArray) (o_mv rfl) ?_
   refine dq (v := x) (o_mv rfl) ?_
   refine dq (v := .int .i64 (hh : Nat)) (o_mv rfl) ?_
   refine dqp (m_idxS3 th0 (j := hh) (hs0.rd hM14 (i := 0) rfl) (hs0.rd hM14 (i := 0) rfl) rfl rfl (by omega) fun b15 o15 hp15 hbb15 => ?_)
   show vd _ _ _ _ _ _ _
   subst hbb15
   refine dq (v := x) (o_mv rfl) ?_
   refine dq (v := .int .i64 (a : Nat)) (o_mv rfl) ?_
   refine dqp (m_idxS3 th0 (j := a) (hs0.rd hM14 (i := 0) rfl) (hs0.rd hM14 (i := 0) rfl) rfl rfl (by omega) fun b16 o16 hp16 hbb16 => ?_)
   show vd _ _ _ _ _ _ _
   subst hbb16
   refine dqldA (cs := thC (l.getD a th0)) rfl (by simp [isHeld]) (thC_len _) (hp16.all) ?_
   refine dl (ldA (cs := thC (l.getD hh th0)) rfl (thC_len _) (hp15.all) ?_)
   refine ⟨(fun b hb => rfl), ?_⟩
   refine dl (m_callv rfl (by kernel_rfl) (cmpW_ok (l.getD hh th0) (l.getD a th0) wd) rfl fun v17 w17 ⟨hr17, hu17⟩ => ?_)
   have hM17 : Mem w (ids r0) w17 [r0] := hM14.pure hu17
   subst hr17
   have hh17 := held_upd (wr := wd) (bs := [(blkV x)]) hu17 (fun b hb => by
    simp only [List.mem_cons, List.not_mem_nil, or_false] at hb
    rw [hb]; exact ⟨Rd.blkV_ltS (hs0.rd hM14 (i := 0) rfl) (by omega), by simp⟩) (fun b hb => rfl)
   refine ⟨hh17, ?_⟩
   refine dq (v := .bool (decide ((cmpW (l.getD hh th0) (l.getD a th0)) < 0))) (o_bin rfl rfl rfl) ?_
   refine h13 _ _ ?_
   clear h13
   refine cndP rfl (fun c18 => ?_) (fun c18 => ?_)
   ·refine stp (v := .int .i64 (hh : Nat)) (o_mv rfl) ?_
    refine stp (v := .int .i64 ((hh : Nat) + 1)) (o_bin rfl rfl (v_add64 (by constructor <;> omega))) ?_
    refine stp (v := .int .i64 ((hh : Nat) + 1)) (o_mv rfl) ?_
    refine h8 (hh + 1, j) _ _ ⟨by first | rfl | exact v_int (by omega) | exact v_int (by simp) | exact v_int (by simp; omega), by first | rfl | exact v_int (by omega) | exact v_int (by simp) | exact v_int (by simp; omega), rfl, by first | rfl | exact v_int (by omega) | exact v_int (by simp) | exact v_int (by simp; omega), rfl, hM17, by omega, .inr (by rw [Nat.add_sub_cancel]; exact (hc a hh (by omega) (by omega) (by omega) (by omega)).1 (cmpW_neg.1 (by assumption))), hhi⟩ (by (try dsimp only); omega)
   refine stp (v := .int .i64 (hh : Nat)) (o_mv rfl) ?_
   refine stp (v := .int .i64 (hh : Nat)) (o_mv rfl) ?_
   refine h8 (i, hh) _ _ ⟨by first | rfl | exact v_int (by omega) | exact v_int (by simp) | exact v_int (by simp; omega), by first | rfl | exact v_int (by omega) | exact v_int (by simp) | exact v_int (by simp; omega), rfl, by first | rfl | exact v_int (by omega) | exact v_int (by simp) | exact v_int (by simp; omega), rfl, hM17, by omega, hlo, .inr ((hc a hh (by omega) (by omega) (by omega) (by omega)).2 (fun k => absurd (cmpW_neg.2 k) (by assumption)))⟩ (by (try dsimp only); omega)
  refine h6 _ _ ?_
  clear h6
  refine seq fun K19 h19 => ?_
  refine seq fun K20 h20 => ?_
  refine stp (v := .int .i64 (a : Nat)) (o_mv rfl) ?_
  refine stp (v := .int .i64 (a : Nat)) (o_mv rfl) ?_
  refine h20 _ _ ?_
  clear h20
  refine lp (n := fun _ _ => False) (ι := (Nat) × (List Th) × (List Ent)) (fun ⟨k, lc, r0_⟩ f w' => f 0 = x ∧ f 13 = .int .i64 (k : Nat) ∧ f 10 = .int .i64 (i : Nat) ∧ Mem w (ids r0) w' [r0_] ∧ (a ≤ k ∧ k + 1 ≤ i) ∧ (MvL th0 l lc a k) ∧ (lc.length = l.length) ∧ (SlS thC 257 133 x (lc) r0_)) (fun ⟨k, lc, r0_⟩ => i - k) (a, l, r0) ?_ ?_
  ·exact ⟨rfl, by first | rfl | exact v_int (by omega) | exact v_int (by simp) | exact v_int (by simp; omega), by first | rfl | exact v_int (by omega) | exact v_int (by simp) | exact v_int (by simp; omega), hM7, by omega, MvL.init, rfl, by first | exact hs0 | simpa using hs0⟩
  rintro ⟨k, lc, r0_⟩ f w21 ⟨e21_0, e21_13, e21_10, hM21, hk, hV, hn, hy0_⟩ K22 h22
  obtain ⟨frm, rfl⟩ : ∃ frm, f = (upd (upd (upd frm 0 (x)) 13 (.int .i64 (k : Nat))) 10 (.int .i64 (i : Nat))) := ⟨f, by rw [upd_self e21_0, upd_self e21_13, upd_self e21_10]⟩
  clear e21_0 e21_13 e21_10
  refine seq fun K23 h23 => ?_
  refine seq fun K24 h24 => ?_
  refine stp (v := .int .i64 (k : Nat)) (o_mv rfl) ?_
  refine stp (v := .int .i64 (i : Nat)) (o_mv rfl) ?_
  refine stp (v := .int .i64 ((i : Nat) - 1)) (o_bin rfl rfl (v_sub64 (by constructor <;> omega))) ?_
  refine stp (v := .bool (decide (((k : Nat) : Int) < ((i : Nat) - 1)))) (o_bin rfl rfl rfl) ?_
  refine h24 _ _ ?_
  clear h24
  refine cndP rfl (fun c25 => ?_) (fun c25 => ?_)
  ·refine h23 _ _ ?_
   clear h23
   refine seq fun K26 h26 => ?_
   intro wd e1 e2 e3 e4
   have hd := Upd.same e1 e2 e3 e4 []
   have hM27 := hM21.pure hd
   clear e1 e2 e3 e4
   refine ⟨(some []), ?_⟩
   show vd _ _ _ _ _ _ _
   refine dq (v := x) (o_mv rfl) ?_
   refine dq (v := .int .i64 (k : Nat)) (o_mv rfl) ?_
   refine dq (v := x) (o_mv rfl) ?_
   refine dq (v := .int .i64 (k : Nat)) (o_mv rfl) ?_
   refine dq (v := .int .i64 ((k : Nat) + 1)) (o_bin rfl rfl (v_add64 (by constructor <;> omega))) ?_
   refine dq (v := x) (o_mv rfl) ?_
   refine dq (v := .int .i64 (k : Nat)) (o_mv rfl) ?_
   refine dq (v := .int .i64 ((k : Nat) + 1)) (o_bin rfl rfl (v_add64 (by constructor <;> omega))) ?_
   refine dqp (m_idxS th0 (j := ((k) + 1)) (hy0_.rd hM27 (i := 0) rfl) rfl (v_int (by omega)) (by omega) fun b28 o28 hp28 => ?_)
   show vd _ _ _ _ _ _ _
   refine dq (v := x) (o_mv rfl) ?_
   refine dq (v := .int .i64 (k : Nat)) (o_mv rfl) ?_
   refine dqp (m_idxS th0 (j := k) (hy0_.rd hM27 (i := 0) rfl) rfl rfl (by omega) fun b29 o29 hp29 => ?_)
   show vd _ _ _ _ _ _ _
   show _ ∧ _
   refine ⟨?_, ?_⟩
   ·show vd _ _ _ _ _ _ _
    refine dl (ldA (cs := thC (lc.getD ((k) + 1) th0)) rfl (thC_len _) (hp28.all) ?_)
    refine ⟨(fun b hb => by cases hb), ?_⟩
    refine dl (ldA (cs := thC (lc.getD k th0)) rfl (thC_len _) (hp29.all) ?_)
    refine ⟨(fun b hb => by cases hb), ?_⟩
    refine dset (m_setS (enc := thC) th0 (q := lc.getD ((k) + 1) th0) (j := k) hM27 (i := 0) rfl hy0_ rfl (v_int (by omega)) (by omega) (by simp) (rfl) fun w30 r30 u30 he30 hs30 (hM30 : Mem w (ids r0) w30 [r30]) => ?_)
    refine ⟨(fun b hb => by cases hb), ?_⟩
    show vd _ _ _ _ _ _ _
    refine dset (m_setS (enc := thC) th0 (q := lc.getD k th0) (j := (k + 1)) hM30 (i := 0) rfl hs30 rfl (v_int (by omega)) (by rw [List.length_set]; omega) (by simp) (rfl) fun w31 r31 u31 he31 hs31 (hM31 : Mem w (ids r0) w31 [r31]) => ?_)
    refine ⟨(fun b hb => by cases hb), ?_⟩
    show vd _ _ _ _ _ _ _
    refine h26 _ _ ?_
    clear h26
    refine stp (v := .int .i64 (k : Nat)) (o_mv rfl) ?_
    refine stp (v := .int .i64 ((k : Nat) + 1)) (o_bin rfl rfl (v_add64 (by constructor <;> omega))) ?_
    refine stp (v := .int .i64 ((k : Nat) + 1)) (o_mv rfl) ?_
    refine h22 (k + 1, swp th0 lc k (k + 1), r31) _ _ ⟨rfl, by first | rfl | exact v_int (by omega) | exact v_int (by simp) | exact v_int (by simp; omega), by first | rfl | exact v_int (by omega) | exact v_int (by simp) | exact v_int (by simp; omega), hM31, by omega, hV.step (by omega) (by omega), by rw [swp_len]; exact hn, by first | exact hs31 | simpa using hs31⟩ (by (try dsimp only); omega)
   show vd _ _ _ _ _ _ _
   refine dl (ldA (cs := thC (lc.getD k th0)) rfl (thC_len _) (hp29.all) ?_)
   refine ⟨(fun b hb => by cases hb), ?_⟩
   refine dl (ldA (cs := thC (lc.getD ((k) + 1) th0)) rfl (thC_len _) (hp28.all) ?_)
   refine ⟨(fun b hb => by cases hb), ?_⟩
   refine dset (m_setS (enc := thC) th0 (q := lc.getD ((k) + 1) th0) (j := k) hM27 (i := 0) rfl hy0_ rfl (v_int (by omega)) (by omega) (by simp) (rfl) fun w32 r32 u32 he32 hs32 (hM32 : Mem w (ids r0) w32 [r32]) => ?_)
   refine ⟨(fun b hb => by cases hb), ?_⟩
   show vd _ _ _ _ _ _ _
   refine dset (m_setS (enc := thC) th0 (q := lc.getD k th0) (j := (k + 1)) hM32 (i := 0) rfl hs32 rfl (v_int (by omega)) (by rw [List.length_set]; omega) (by simp) (rfl) fun w33 r33 u33 he33 hs33 (hM33 : Mem w (ids r0) w33 [r33]) => ?_)
   refine ⟨(fun b hb => by cases hb), ?_⟩
   show vd _ _ _ _ _ _ _
   refine h26 _ _ ?_
   clear h26
   refine stp (v := .int .i64 (k : Nat)) (o_mv rfl) ?_
   refine stp (v := .int .i64 ((k : Nat) + 1)) (o_bin rfl rfl (v_add64 (by constructor <;> omega))) ?_
   refine stp (v := .int .i64 ((k : Nat) + 1)) (o_mv rfl) ?_
   refine h22 (k + 1, swp th0 lc k (k + 1), r33) _ _ ⟨rfl, by first | rfl | exact v_int (by omega) | exact v_int (by simp) | exact v_int (by simp; omega), by first | rfl | exact v_int (by omega) | exact v_int (by simp) | exact v_int (by simp; omega), hM33, by omega, hV.step (by omega) (by omega), by rw [swp_len]; exact hn, by first | exact hs33 | simpa using hs33⟩ (by (try dsimp only); omega)
  refine h19 _ _ ?_
  clear h19
  refine ⟨(.tuple [].toArray), rfl, ?_⟩
  obtain rfl : i = j := by omega
  exact ⟨_, _, hV.done (i := i) (by rw [show a + 1 = m by omega]; exact h2) (by omega) (by omega) (by rw [show a + 1 = m by omega]; exact hlo) hhi, hy0_, hM21⟩
 refine h1 _ _ ?_
 clear h1
 refine seq fun K34 h34 => ?_
 refine seq fun K35 h35 => ?_
 refine stp (v := .int .i64 (b : Nat)) (o_mv rfl) ?_
 refine stp (v := .int .i64 (m : Nat)) (o_mv rfl) ?_
 refine stp (v := .int .i64 ((b : Nat) - (m : Nat))) (o_bin rfl rfl (v_sub64 (by constructor <;> omega))) ?_
 refine stp (v := .bool (decide (((b : Nat) - (m : Nat) : Int) = 1))) (o_bin rfl rfl rfl) ?_
 refine h35 _ _ ?_
 clear h35
 refine cndP rfl (fun c36 => ?_) (fun c36 => ?_)
 ·refine seq fun K37 h37 => ?_
  refine stp (v := .int .i64 (a : Nat)) (o_mv rfl) ?_
  refine stp (v := .int .i64 (a : Nat)) (o_mv rfl) ?_
  refine h37 _ _ ?_
  clear h37
  refine seq fun K38 h38 => ?_
  refine stp (v := .int .i64 (m : Nat)) (o_mv rfl) ?_
  refine stp (v := .int .i64 (m : Nat)) (o_mv rfl) ?_
  refine h38 _ _ ?_
  clear h38
  refine seq fun K39 h39 => ?_
  refine lp (n := fun _ _ => False) (ι := (Nat) × (Nat)) (fun ⟨i, j⟩ f w' => f 14 = .int .i64 (i : Nat) ∧ f 15 = .int .i64 (j : Nat) ∧ f 0 = x ∧ f 2 = .int .i64 (m : Nat) ∧ f 4 = .func (.func 74) [].toArray [].toArray ∧ Mem w (ids r0) w' [r0] ∧ (a ≤ i ∧ i ≤ j ∧ j ≤ m) ∧ (i = a ∨ Th.r (l.getD (i - 1) th0) < Th.r (l.getD m th0)) ∧ (j = m ∨ Th.r (l.getD m th0) < Th.r (l.getD j th0))) (fun ⟨i, j⟩ => j - i) (a, m) ?_ ?_
  ·exact ⟨by first | rfl | exact v_int (by omega) | exact v_int (by simp) | exact v_int (by simp; omega), by first | rfl | exact v_int (by omega) | exact v_int (by simp) | exact v_int (by simp; omega), rfl, by first | rfl | exact v_int (by omega) | exact v_int (by simp) | exact v_int (by simp; omega), rfl, hM0, by omega, .inl rfl, .inl rfl⟩
  rintro ⟨i, j⟩ f w40 ⟨e40_14, e40_15, e40_0, e40_2, e40_4, hM40, hij, hlo, hhi⟩ K41 h41
  obtain ⟨frm, rfl⟩ : ∃ frm, f = (upd (upd (upd (upd (upd frm 14 (.int .i64 (i : Nat))) 15 (.int .i64 (j : Nat))) 0 (x)) 2 (.int .i64 (m : Nat))) 4 (.func (.func 74) [].toArray [].toArray)) := ⟨f, by rw [upd_self e40_14, upd_self e40_15, upd_self e40_0, upd_self e40_2, upd_self e40_4]⟩
  clear e40_14 e40_15 e40_0 e40_2 e40_4
  refine seq fun K42 h42 => ?_
  refine seq fun K43 h43 => ?_
  refine stp (v := .int .i64 (i : Nat)) (o_mv rfl) ?_
  refine stp (v := .int .i64 (j : Nat)) (o_mv rfl) ?_
  refine stp (v := .bool (decide (((i : Nat) : Int) < (j : Nat)))) (o_bin rfl rfl rfl) ?_
  refine h43 _ _ ?_
  clear h43
  refine cndP rfl (fun c44 => ?_) (fun c44 => ?_)
  ·refine h42 _ _ ?_
   clear h42
   refine seq fun K45 h45 => ?_
   refine stp (v := .int .i64 (i : Nat)) (o_mv rfl) ?_
   refine stp (v := .int .i64 (j : Nat)) (o_mv rfl) ?_
   refine stp (v := .int .i64 ((i : Nat) + (j : Nat))) (o_bin rfl rfl (v_add64 (by constructor <;> omega))) ?_
   refine stp (v := .int .u64 ((i : Nat) + (j : Nat))) (o_conv rfl (v_same (by simp only [inK]; omega))) ?_
   refine stp (v := .int .u64 (((i : Nat) + (j : Nat)) / 2)) (o_shr rfl rfl (by omega) (v_shr 1 (by decide))) ?_
   obtain ⟨hh, hhh⟩ : ∃ t, t = (i + j) / 2 := ⟨_, rfl⟩
   refine stp (v := .int .i64 (hh : Nat)) (o_conv rfl ((v_same (by simp only [inK]; omega)).trans (v_int (by omega)))) ?_
   refine stp (v := .int .i64 (hh : Nat)) (o_mv rfl) ?_
   refine h45 _ _ ?_
   clear h45
   refine seq fun K46 h46 => ?_
   intro wd e1 e2 e3 e4
   have hd := Upd.same e1 e2 e3 e4 []
   have hM47 := hM40.pure hd
   clear e1 e2 e3 e4
   refine ⟨(some [(blkV x)]), ?_⟩
   show vd _ _ _ _ _ _ _
   refine dq (v := .func (.func 74) [].toArray [].toArray) (o_mv rfl) ?_
   refine dq (v := x) (o_mv rfl) ?_
   refine dq (v := .int .i64 (m : Nat)) (o_mv rfl) ?_
   refine dqp (m_idxS3 th0 (j := m) (hs0.rd hM47 (i := 0) rfl) (hs0.rd hM47 (i := 0) rfl) rfl rfl (by omega) fun b48 o48 hp48 hbb48 => ?_)
   show vd _ _ _ _ _ _ _
   subst hbb48
   refine dq (v := x) (o_mv rfl) ?_
   refine dq (v := .int .i64 (hh : Nat)) (o_mv rfl) ?_
   refine dqp (m_idxS3 th0 (j := hh) (hs0.rd hM47 (i := 0) rfl) (hs0.rd hM47 (i := 0) rfl) rfl rfl (by omega) fun b49 o49 hp49 hbb49 => ?_)
   show vd _ _ _ _ _ _ _
   subst hbb49
   refine dqldA (cs := thC (l.getD hh th0)) rfl (by simp [isHeld]) (thC_len _) (hp49.all) ?_
   refine dl (ldA (cs := thC (l.getD m th0)) rfl (thC_len _) (hp48.all) ?_)
   refine ⟨(fun b hb => rfl), ?_⟩
   refine dl (m_callv rfl (by kernel_rfl) (cmpW_ok (l.getD m th0) (l.getD hh th0) wd) rfl fun v50 w50 ⟨hr50, hu50⟩ => ?_)
   have hM50 : Mem w (ids r0) w50 [r0] := hM47.pure hu50
   subst hr50
   have hh50 := held_upd (wr := wd) (bs := [(blkV x)]) hu50 (fun b hb => by
    simp only [List.mem_cons, List.not_mem_nil, or_false] at hb
    rw [hb]; exact ⟨Rd.blkV_ltS (hs0.rd hM47 (i := 0) rfl) (by omega), by simp⟩) (fun b hb => rfl)
   refine ⟨hh50, ?_⟩
   refine dq (v := .bool (decide ((cmpW (l.getD m th0) (l.getD hh th0)) < 0))) (o_bin rfl rfl rfl) ?_
   refine dq (v := .bool (decide (¬ ((cmpW (l.getD m th0) (l.getD hh th0)) < 0)))) (o_not rfl v_not) ?_
   refine h46 _ _ ?_
   clear h46
   refine cndP rfl (fun c51 => ?_) (fun c51 => ?_)
   ·refine stp (v := .int .i64 (hh : Nat)) (o_mv rfl) ?_
    refine stp (v := .int .i64 ((hh : Nat) + 1)) (o_bin rfl rfl (v_add64 (by constructor <;> omega))) ?_
    refine stp (v := .int .i64 ((hh : Nat) + 1)) (o_mv rfl) ?_
    refine h41 (hh + 1, j) _ _ ⟨by first | rfl | exact v_int (by omega) | exact v_int (by simp) | exact v_int (by simp; omega), by first | rfl | exact v_int (by omega) | exact v_int (by simp) | exact v_int (by simp; omega), rfl, by first | rfl | exact v_int (by omega) | exact v_int (by simp) | exact v_int (by simp; omega), rfl, hM50, by omega, .inr (by rw [Nat.add_sub_cancel]; exact (hc hh m (by omega) (by omega) (by omega) (by omega)).2 (fun k => absurd (cmpW_neg.2 k) (by assumption))), hhi⟩ (by (try dsimp only); omega)
   refine stp (v := .int .i64 (hh : Nat)) (o_mv rfl) ?_
   refine stp (v := .int .i64 (hh : Nat)) (o_mv rfl) ?_
   refine h41 (i, hh) _ _ ⟨by first | rfl | exact v_int (by omega) | exact v_int (by simp) | exact v_int (by simp; omega), by first | rfl | exact v_int (by omega) | exact v_int (by simp) | exact v_int (by simp; omega), rfl, by first | rfl | exact v_int (by omega) | exact v_int (by simp) | exact v_int (by simp; omega), rfl, hM50, by omega, hlo, .inr ((hc hh m (by omega) (by omega) (by omega) (by omega)).1 (cmpW_neg.1 (Decidable.not_not.1 (by assumption))))⟩ (by (try dsimp only); omega)
  refine h39 _ _ ?_
  clear h39
  refine seq fun K52 h52 => ?_
  refine seq fun K53 h53 => ?_
  refine stp (v := .int .i64 (m : Nat)) (o_mv rfl) ?_
  refine stp (v := .int .i64 (m : Nat)) (o_mv rfl) ?_
  refine h53 _ _ ?_
  clear h53
  refine lp (n := fun _ _ => False) (ι := (Nat) × (List Th) × (List Ent)) (fun ⟨k, lc, r0_⟩ f w' => f 0 = x ∧ f 17 = .int .i64 (k : Nat) ∧ f 14 = .int .i64 (i : Nat) ∧ Mem w (ids r0) w' [r0_] ∧ (i ≤ k ∧ k ≤ m) ∧ (MvR th0 l lc m k) ∧ (lc.length = l.length) ∧ (SlS thC 257 133 x (lc) r0_)) (fun ⟨k, lc, r0_⟩ => k) (m, l, r0) ?_ ?_
  ·exact ⟨rfl, by first | rfl | exact v_int (by omega) | exact v_int (by simp) | exact v_int (by simp; omega), by first | rfl | exact v_int (by omega) | exact v_int (by simp) | exact v_int (by simp; omega), hM40, by omega, MvR.init, rfl, by first | exact hs0 | simpa using hs0⟩
  rintro ⟨k, lc, r0_⟩ f w54 ⟨e54_0, e54_17, e54_14, hM54, hk, hV, hn, hy0_⟩ K55 h55
  obtain ⟨frm, rfl⟩ : ∃ frm, f = (upd (upd (upd frm 0 (x)) 17 (.int .i64 (k : Nat))) 14 (.int .i64 (i : Nat))) := ⟨f, by rw [upd_self e54_0, upd_self e54_17, upd_self e54_14]⟩
  clear e54_0 e54_17 e54_14
  refine seq fun K56 h56 => ?_
  refine seq fun K57 h57 => ?_
  refine stp (v := .int .i64 (k : Nat)) (o_mv rfl) ?_
  refine stp (v := .int .i64 (i : Nat)) (o_mv rfl) ?_
  refine stp (v := .bool (decide (((i : Nat) : Int) < ((k : Nat) : Int)))) (o_bin rfl rfl rfl) ?_
  refine h57 _ _ ?_
  clear h57
  refine cndP rfl (fun c58 => ?_) (fun c58 => ?_)
  ·refine h56 _ _ ?_
   clear h56
   refine seq fun K59 h59 => ?_
   intro wd e1 e2 e3 e4
   have hd := Upd.same e1 e2 e3 e4 []
   have hM60 := hM54.pure hd
   clear e1 e2 e3 e4
   refine ⟨(some []), ?_⟩
   show vd _ _ _ _ _ _ _
   refine dq (v := x) (o_mv rfl) ?_
   refine dq (v := .int .i64 (k : Nat)) (o_mv rfl) ?_
   refine dq (v := x) (o_mv rfl) ?_
   refine dq (v := .int .i64 (k : Nat)) (o_mv rfl) ?_
   refine dq (v := .int .i64 ((k : Nat) - 1)) (o_bin rfl rfl (v_sub64 (by constructor <;> omega))) ?_
   refine dq (v := x) (o_mv rfl) ?_
   refine dq (v := .int .i64 (k : Nat)) (o_mv rfl) ?_
   refine dq (v := .int .i64 ((k : Nat) - 1)) (o_bin rfl rfl (v_sub64 (by constructor <;> omega))) ?_
   refine dqp (m_idxS th0 (j := (k - 1)) (hy0_.rd hM60 (i := 0) rfl) rfl (v_int (by omega)) (by omega) fun b61 o61 hp61 => ?_)
   show vd _ _ _ _ _ _ _
   refine dq (v := x) (o_mv rfl) ?_
   refine dq (v := .int .i64 (k : Nat)) (o_mv rfl) ?_
   refine dqp (m_idxS th0 (j := k) (hy0_.rd hM60 (i := 0) rfl) rfl rfl (by omega) fun b62 o62 hp62 => ?_)
   show vd _ _ _ _ _ _ _
   show _ ∧ _
   refine ⟨?_, ?_⟩
   ·show vd _ _ _ _ _ _ _
    refine dl (ldA (cs := thC (lc.getD (k - 1) th0)) rfl (thC_len _) (hp61.all) ?_)
    refine ⟨(fun b hb => by cases hb), ?_⟩
    refine dl (ldA (cs := thC (lc.getD k th0)) rfl (thC_len _) (hp62.all) ?_)
    refine ⟨(fun b hb => by cases hb), ?_⟩
    refine dset (m_setS (enc := thC) th0 (q := lc.getD (k - 1) th0) (j := k) hM60 (i := 0) rfl hy0_ rfl rfl (by omega) (by simp) (rfl) fun w63 r63 u63 he63 hs63 (hM63 : Mem w (ids r0) w63 [r63]) => ?_)
    refine ⟨(fun b hb => by cases hb), ?_⟩
    show vd _ _ _ _ _ _ _
    refine dset (m_setS (enc := thC) th0 (q := lc.getD k th0) (j := (k - 1)) hM63 (i := 0) rfl hs63 rfl (v_int (by omega)) (by rw [List.length_set]; omega) (by simp) (rfl) fun w64 r64 u64 he64 hs64 (hM64 : Mem w (ids r0) w64 [r64]) => ?_)
    refine ⟨(fun b hb => by cases hb), ?_⟩
    show vd _ _ _ _ _ _ _
    refine h59 _ _ ?_
    clear h59
    refine stp (v := .int .i64 (k : Nat)) (o_mv rfl) ?_
    refine stp (v := .int .i64 ((k : Nat) - 1)) (o_bin rfl rfl (v_sub64 (by constructor <;> omega))) ?_
    refine stp (v := .int .i64 ((k : Nat) - 1)) (o_mv rfl) ?_
    refine h55 (k - 1, swp th0 lc k (k - 1), r64) _ _ ⟨rfl, by first | rfl | exact v_int (by omega) | exact v_int (by simp) | exact v_int (by simp; omega), by first | rfl | exact v_int (by omega) | exact v_int (by simp) | exact v_int (by simp; omega), hM64, by omega, hV.step (by omega) (by omega), by rw [swp_len]; exact hn, by first | exact hs64 | simpa using hs64⟩ (by (try dsimp only); omega)
   show vd _ _ _ _ _ _ _
   refine dl (ldA (cs := thC (lc.getD k th0)) rfl (thC_len _) (hp62.all) ?_)
   refine ⟨(fun b hb => by cases hb), ?_⟩
   refine dl (ldA (cs := thC (lc.getD (k - 1) th0)) rfl (thC_len _) (hp61.all) ?_)
   refine ⟨(fun b hb => by cases hb), ?_⟩
   refine dset (m_setS (enc := thC) th0 (q := lc.getD (k - 1) th0) (j := k) hM60 (i := 0) rfl hy0_ rfl rfl (by omega) (by simp) (rfl) fun w65 r65 u65 he65 hs65 (hM65 : Mem w (ids r0) w65 [r65]) => ?_)
   refine ⟨(fun b hb => by cases hb), ?_⟩
   show vd _ _ _ _ _ _ _
   refine dset (m_setS (enc := thC) th0 (q := lc.getD k th0) (j := (k - 1)) hM65 (i := 0) rfl hs65 rfl (v_int (by omega)) (by rw [List.length_set]; omega) (by simp) (rfl) fun w66 r66 u66 he66 hs66 (hM66 : Mem w (ids r0) w66 [r66]) => ?_)
   refine ⟨(fun b hb => by cases hb), ?_⟩
   show vd _ _ _ _ _ _ _
   refine h59 _ _ ?_
   clear h59
   refine stp (v := .int .i64 (k : Nat)) (o_mv rfl) ?_
   refine stp (v := .int .i64 ((k : Nat) - 1)) (o_bin rfl rfl (v_sub64 (by constructor <;> omega))) ?_
   refine stp (v := .int .i64 ((k : Nat) - 1)) (o_mv rfl) ?_
   refine h55 (k - 1, swp th0 lc k (k - 1), r66) _ _ ⟨rfl, by first | rfl | exact v_int (by omega) | exact v_int (by simp) | exact v_int (by simp; omega), by first | rfl | exact v_int (by omega) | exact v_int (by simp) | exact v_int (by simp; omega), hM66, by omega, hV.step (by omega) (by omega), by rw [swp_len]; exact hn, by first | exact hs66 | simpa using hs66⟩ (by (try dsimp only); omega)
  refine h52 _ _ ?_
  clear h52
  refine ⟨(.tuple [].toArray), rfl, ?_⟩
  obtain rfl : i = j := by omega
  obtain rfl : i = k := by omega
  rw [show b = m + 1 by omega]
  exact ⟨_, _, hV.done h1 (by omega) hlo hhi, hy0_, hM54⟩
 refine h34 _ _ ?_
 clear h34
 refine seq fun K67 h67 => ?_
 refine stp (v := .int .i64 (a : Nat)) (o_mv rfl) ?_
 refine stp (v := .int .i64 (b : Nat)) (o_mv rfl) ?_
 refine stp (v := .int .i64 ((a : Nat) + (b : Nat))) (o_bin rfl rfl (v_add64 (by constructor <;> omega))) ?_
 refine stp (v := .int .u64 ((a : Nat) + (b : Nat))) (o_conv rfl (v_same (by simp only [inK]; omega))) ?_
 refine stp (v := .int .u64 (((a : Nat) + (b : Nat)) / 2)) (o_shr rfl rfl (by omega) (v_shr 1 (by decide))) ?_
 obtain ⟨mid, hmid⟩ : ∃ t, t = (a + b) / 2 := ⟨_, rfl⟩
 refine stp (v := .int .i64 (mid : Nat)) (o_conv rfl ((v_same (by simp only [inK]; omega)).trans (v_int (by omega)))) ?_
 refine stp (v := .int .i64 (mid : Nat)) (o_mv rfl) ?_
 refine h67 _ _ ?_
 clear h67
 refine seq fun K68 h68 => ?_
 refine stp (v := .int .i64 (mid : Nat)) (o_mv rfl) ?_
 refine stp (v := .int .i64 (m : Nat)) (o_mv rfl) ?_
 refine stp (v := .int .i64 ((mid : Nat) + (m : Nat))) (o_bin rfl rfl (v_add64 (by constructor <;> omega))) ?_
 refine stp (v := .int .i64 ((mid : Nat) + (m : Nat))) (o_mv rfl) ?_
 refine h68 _ _ ?_
 clear h68
 refine seq fun K69 h69 => ?_
 refine stp (v := .int .i64 0) (o_mv rfl) ?_
 refine stp (v := .int .i64 0) (o_mv rfl) ?_
 refine h69 _ _ ?_
 clear h69
 refine seqc (fun f w' => ∃ (s0 : Nat) (q0 : Nat), f 20 = .int .i64 (s0 : Nat) ∧ f 21 = .int .i64 (q0 : Nat) ∧ f 0 = x ∧ f 1 = .int .i64 (a : Nat) ∧ f 2 = .int .i64 (m : Nat) ∧ f 3 = .int .i64 (b : Nat) ∧ f 4 = .func (.func 74) [].toArray [].toArray ∧ f 18 = .int .i64 (mid : Nat) ∧ f 19 = .int .i64 ((mid : Nat) + (m : Nat)) ∧ Mem w (ids r0) w' [r0] ∧ ((s0 = a ∧ q0 = m ∧ m ≤ mid) ∨ (s0 = mid + m - b ∧ q0 = mid ∧ mid < m))) ?_ ?_
 ·intro K70 h70
  refine seq fun K72 h72 => ?_
  refine stp (v := .int .i64 (m : Nat)) (o_mv rfl) ?_
  refine stp (v := .int .i64 (mid : Nat)) (o_mv rfl) ?_
  refine stp (v := .bool (decide (((mid : Nat) : Int) < ((m : Nat) : Int)))) (o_bin rfl rfl rfl) ?_
  refine h72 _ _ ?_
  clear h72
  refine cndP rfl (fun c73 => ?_) (fun c73 => ?_)
  ·refine seq fun K74 h74 => ?_
   refine stp (v := .int .i64 ((mid : Nat) + (m : Nat))) (o_mv rfl) ?_
   refine stp (v := .int .i64 (b : Nat)) (o_mv rfl) ?_
   refine stp (v := .int .i64 (mid + m - b : Nat)) (o_bin rfl rfl ((v_sub64 (by constructor <;> omega)).trans (v_int (by omega)))) ?_
   refine stp (v := .int .i64 (mid + m - b : Nat)) (o_mv rfl) ?_
   refine h74 _ _ ?_
   clear h74
   refine stp (v := .int .i64 (mid : Nat)) (o_mv rfl) ?_
   refine stp (v := .int .i64 (mid : Nat)) (o_mv rfl) ?_
   refine h70 _ _ ⟨(mid + m - b), mid, by first | rfl | exact v_int (by omega) | exact v_int (by simp) | exact v_int (by simp; omega), by first | rfl | exact v_int (by omega) | exact v_int (by simp) | exact v_int (by simp; omega), rfl, by first | rfl | exact v_int (by omega) | exact v_int (by simp) | exact v_int (by simp; omega), by first | rfl | exact v_int (by omega) | exact v_int (by simp) | exact v_int (by simp; omega), by first | rfl | exact v_int (by omega) | exact v_int (by simp) | exact v_int (by simp; omega), rfl, by first | rfl | exact v_int (by omega) | exact v_int (by simp) | exact v_int (by simp; omega), by first | rfl | exact v_int (by omega) | exact v_int (by simp) | exact v_int (by simp; omega), hM0, by omega⟩
  refine seq fun K75 h75 => ?_
  refine stp (v := .int .i64 (a : Nat)) (o_mv rfl) ?_
  refine stp (v := .int .i64 (a : Nat)) (o_mv rfl) ?_
  refine h75 _ _ ?_
  clear h75
  refine stp (v := .int .i64 (m : Nat)) (o_mv rfl) ?_
  refine stp (v := .int .i64 (m : Nat)) (o_mv rfl) ?_
  refine h70 _ _ ⟨a, m, by first | rfl | exact v_int (by omega) | exact v_int (by simp) | exact v_int (by simp; omega), by first | rfl | exact v_int (by omega) | exact v_int (by simp) | exact v_int (by simp; omega), rfl, by first | rfl | exact v_int (by omega) | exact v_int (by simp) | exact v_int (by simp; omega), by first | rfl | exact v_int (by omega) | exact v_int (by simp) | exact v_int (by simp; omega), by first | rfl | exact v_int (by omega) | exact v_int (by simp) | exact v_int (by simp; omega), rfl, by first | rfl | exact v_int (by omega) | exact v_int (by simp) | exact v_int (by simp; omega), by first | rfl | exact v_int (by omega) | exact v_int (by simp) | exact v_int (by simp; omega), hM0, by omega⟩
 rintro f w71 ⟨s0, q0, e71_20, e71_21, e71_0, e71_1, e71_2, e71_3, e71_4, e71_18, e71_19, hM71, hst⟩
 obtain ⟨frm, rfl⟩ : ∃ frm, f = (upd (upd (upd (upd (upd (upd (upd (upd (upd frm 20 (.int .i64 (s0 : Nat))) 21 (.int .i64 (q0 : Nat))) 0 (x)) 1 (.int .i64 (a : Nat))) 2 (.int .i64 (m : Nat))) 3 (.int .i64 (b : Nat))) 4 (.func (.func 74) [].toArray [].toArray)) 18 (.int .i64 (mid : Nat))) 19 (.int .i64 ((mid : Nat) + (m : Nat)))) := ⟨f, by rw [upd_self e71_20, upd_self e71_21, upd_self e71_0, upd_self e71_1, upd_self e71_2, upd_self e71_3, upd_self e71_4, upd_self e71_18, upd_self e71_19]⟩
 clear e71_20 e71_21 e71_0 e71_1 e71_2 e71_3 e71_4 e71_18 e71_19
 refine seq fun K76 h76 => ?_
 refine stp (v := .int .i64 ((mid : Nat) + (m : Nat))) (o_mv rfl) ?_
 refine stp (v := .int .i64 (mid + m - 1 : Nat)) (o_bin rfl rfl ((v_sub64 (by constructor <;> omega)).trans (v_int (by omega)))) ?_
 refine stp (v := .int .i64 (mid + m - 1 : Nat)) (o_mv rfl) ?_
 refine h76 _ _ ?_
 clear h76
 refine seq fun K77 h77 => ?_
 refine lp (n := fun _ _ => False) (ι := (Nat) × (Nat)) (fun ⟨st, r⟩ f w' => f 20 = .int .i64 (st : Nat) ∧ f 21 = .int .i64 (r : Nat) ∧ f 0 = x ∧ f 1 = .int .i64 (a : Nat) ∧ f 2 = .int .i64 (m : Nat) ∧ f 3 = .int .i64 (b : Nat) ∧ f 4 = .func (.func 74) [].toArray [].toArray ∧ f 18 = .int .i64 (mid : Nat) ∧ f 19 = .int .i64 ((mid : Nat) + (m : Nat)) ∧ f 22 = .int .i64 (mid + m - 1 : Nat) ∧ Mem w (ids r0) w' [r0] ∧ (s0 ≤ st ∧ st ≤ r ∧ r ≤ q0) ∧ (st = s0 ∨ Th.r (l.getD (st - 1) th0) < Th.r (l.getD (mid + m - st) th0)) ∧ (r = q0 ∨ Th.r (l.getD (mid + m - 1 - r) th0) < Th.r (l.getD r th0))) (fun ⟨st, r⟩ => r - st) (s0, q0) ?_ ?_
 ·exact ⟨by first | rfl | exact v_int (by omega) | exact v_int (by simp) | exact v_int (by simp; omega), by first | rfl | exact v_int (by omega) | exact v_int (by simp) | exact v_int (by simp; omega), rfl, by first | rfl | exact v_int (by omega) | exact v_int (by simp) | exact v_int (by simp; omega), by first | rfl | exact v_int (by omega) | exact v_int (by simp) | exact v_int (by simp; omega), by first | rfl | exact v_int (by omega) | exact v_int (by simp) | exact v_int (by simp; omega), rfl, by first | rfl | exact v_int (by omega) | exact v_int (by simp) | exact v_int (by simp; omega), by first | rfl | exact v_int (by omega) | exact v_int (by simp) | exact v_int (by simp; omega), by first | rfl | exact v_int (by omega) | exact v_int (by simp) | exact v_int (by simp; omega), hM71, by omega, .inl rfl, .inl rfl⟩
 rintro ⟨st, r⟩ f w78 ⟨e78_20, e78_21, e78_0, e78_1, e78_2, e78_3, e78_4, e78_18, e78_19, e78_22, hM78, hrng, hlo, hhi⟩ K79 h79
 obtain ⟨frm, rfl⟩ : ∃ frm, f = (upd (upd (upd (upd (upd (upd (upd (upd (upd (upd frm 20 (.int .i64 (st : Nat))) 21 (.int .i64 (r : Nat))) 0 (x)) 1 (.int .i64 (a : Nat))) 2 (.int .i64 (m : Nat))) 3 (.int .i64 (b : Nat))) 4 (.func (.func 74) [].toArray [].toArray)) 18 (.int .i64 (mid : Nat))) 19 (.int .i64 ((mid : Nat) + (m : Nat)))) 22 (.int .i64 (mid + m - 1 : Nat))) := ⟨f, by rw [upd_self e78_20, upd_self e78_21, upd_self e78_0, upd_self e78_1, upd_self e78_2, upd_self e78_3, upd_self e78_4, upd_self e78_18, upd_self e78_19, upd_self e78_22]⟩
 clear e78_20 e78_21 e78_0 e78_1 e78_2 e78_3 e78_4 e78_18 e78_19 e78_22
 refine seq fun K80 h80 => ?_
 refine seq fun K81 h81 => ?_
 refine stp (v := .int .i64 (st : Nat)) (o_mv rfl) ?_
 refine stp (v := .int .i64 (r : Nat)) (o_mv rfl) ?_
 refine stp (v := .bool (decide (((st : Nat) : Int) < (r : Nat)))) (o_bin rfl rfl rfl) ?_
 refine h81 _ _ ?_
 clear h81
 refine cndP rfl (fun c82 => ?_) (fun c82 => ?_)
 ·refine h80 _ _ ?_
  clear h80
  refine seq fun K83 h83 => ?_
  refine stp (v := .int .i64 (st : Nat)) (o_mv rfl) ?_
  refine stp (v := .int .i64 (r : Nat)) (o_mv rfl) ?_
  refine stp (v := .int .i64 ((st : Nat) + (r : Nat))) (o_bin rfl rfl (v_add64 (by constructor <;> omega))) ?_
  refine stp (v := .int .u64 ((st : Nat) + (r : Nat))) (o_conv rfl (v_same (by simp only [inK]; omega))) ?_
  refine stp (v := .int .u64 (((st : Nat) + (r : Nat)) / 2)) (o_shr rfl rfl (by omega) (v_shr 1 (by decide))) ?_
  obtain ⟨cc, hcc⟩ : ∃ t, t = (st + r) / 2 := ⟨_, rfl⟩
  refine stp (v := .int .i64 (cc : Nat)) (o_conv rfl ((v_same (by simp only [inK]; omega)).trans (v_int (by omega)))) ?_
  refine stp (v := .int .i64 (cc : Nat)) (o_mv rfl) ?_
  refine h83 _ _ ?_
  clear h83
  refine seq fun K84 h84 => ?_
  intro wd e1 e2 e3 e4
  have hd := Upd.same e1 e2 e3 e4 []
  have hM85 := hM78.pure hd
  clear e1 e2 e3 e4
  refine ⟨(some [(blkV x)]), ?_⟩
  show vd _ _ _ _ _ _ _
  refine dq (v := .func (.func 74) [].toArray [].toArray) (o_mv rfl) ?_
  refine dq (v := x) (o_mv rfl) ?_
  refine dq (v := .int .i64 (mid + m - 1 : Nat)) (o_mv rfl) ?_
  refine dq (v := .int .i64 (cc : Nat)) (o_mv rfl) ?_
  refine dq (v := .int .i64 (mid + m - 1 - cc : Nat)) (o_bin rfl rfl ((v_sub64 (by constructor <;> omega)).trans (v_int (by omega)))) ?_
  refine dqp (m_idxS3 th0 (j := mid + m - 1 - cc) (hs0.rd hM85 (i := 0) rfl) (hs0.rd hM85 (i := 0) rfl) rfl rfl (by omega) fun b86 o86 hp86 hbb86 => ?_)
  show vd _ _ _ _ _ _ _
  subst hbb86
  refine dq (v := x) (o_mv rfl) ?_
  refine dq (v := .int .i64 (cc : Nat)) (o_mv rfl) ?_
  refine dqp (m_idxS3 th0 (j := cc) (hs0.rd hM85 (i := 0) rfl) (hs0.rd hM85 (i := 0) rfl) rfl rfl (by omega) fun b87 o87 hp87 hbb87 => ?_)
  show vd _ _ _ _ _ _ _
  subst hbb87
  refine dqldA (cs := thC (l.getD cc th0)) rfl (by simp [isHeld]) (thC_len _) (hp87.all) ?_
  refine dl (ldA (cs := thC (l.getD (mid + m - 1 - cc) th0)) rfl (thC_len _) (hp86.all) ?_)
  refine ⟨(fun b hb => rfl), ?_⟩
  refine dl (m_callv rfl (by kernel_rfl) (cmpW_ok (l.getD (mid + m - 1 - cc) th0) (l.getD cc th0) wd) rfl fun v88 w88 ⟨hr88, hu88⟩ => ?_)
  have hM88 : Mem w (ids r0) w88 [r0] := hM85.pure hu88
  subst hr88
  have hh88 := held_upd (wr := wd) (bs := [(blkV x)]) hu88 (fun b hb => by
   simp only [List.mem_cons, List.not_mem_nil, or_false] at hb
   rw [hb]; exact ⟨Rd.blkV_ltS (hs0.rd hM85 (i := 0) rfl) (by omega), by simp⟩) (fun b hb => rfl)
  refine ⟨hh88, ?_⟩
  refine dq (v := .bool (decide ((cmpW (l.getD (mid + m - 1 - cc) th0) (l.getD cc th0)) < 0))) (o_bin rfl rfl rfl) ?_
  refine dq (v := .bool (decide (¬ ((cmpW (l.getD (mid + m - 1 - cc) th0) (l.getD cc th0)) < 0)))) (o_not rfl v_not) ?_
  refine h84 _ _ ?_
  clear h84
  refine cndP rfl (fun c89 => ?_) (fun c89 => ?_)
  ·refine stp (v := .int .i64 (cc : Nat)) (o_mv rfl) ?_
   refine stp (v := .int .i64 ((cc : Nat) + 1)) (o_bin rfl rfl (v_add64 (by constructor <;> omega))) ?_
   refine stp (v := .int .i64 ((cc : Nat) + 1)) (o_mv rfl) ?_
   refine h79 (cc + 1, r) _ _ ⟨by first | rfl | exact v_int (by omega) | exact v_int (by simp) | exact v_int (by simp; omega), by first | rfl | exact v_int (by omega) | exact v_int (by simp) | exact v_int (by simp; omega), rfl, by first | rfl | exact v_int (by omega) | exact v_int (by simp) | exact v_int (by simp; omega), by first | rfl | exact v_int (by omega) | exact v_int (by simp) | exact v_int (by simp; omega), by first | rfl | exact v_int (by omega) | exact v_int (by simp) | exact v_int (by simp; omega), rfl, by first | rfl | exact v_int (by omega) | exact v_int (by simp) | exact v_int (by simp; omega), by first | rfl | exact v_int (by omega) | exact v_int (by simp) | exact v_int (by simp; omega), by first | rfl | exact v_int (by omega) | exact v_int (by simp) | exact v_int (by simp; omega), hM88, by omega, .inr (by rw [Nat.add_sub_cancel, show mid + m - (cc + 1) = mid + m - 1 - cc by omega]; exact (hc cc (mid + m - 1 - cc) (by omega) (by omega) (by omega) (by omega)).2 (fun k => absurd (cmpW_neg.2 k) (by assumption))), hhi⟩ (by (try dsimp only); omega)
  refine stp (v := .int .i64 (cc : Nat)) (o_mv rfl) ?_
  refine stp (v := .int .i64 (cc : Nat)) (o_mv rfl) ?_
  refine h79 (st, cc) _ _ ⟨by first | rfl | exact v_int (by omega) | exact v_int (by simp) | exact v_int (by simp; omega), by first | rfl | exact v_int (by omega) | exact v_int (by simp) | exact v_int (by simp; omega), rfl, by first | rfl | exact v_int (by omega) | exact v_int (by simp) | exact v_int (by simp; omega), by first | rfl | exact v_int (by omega) | exact v_int (by simp) | exact v_int (by simp; omega), by first | rfl | exact v_int (by omega) | exact v_int (by simp) | exact v_int (by simp; omega), rfl, by first | rfl | exact v_int (by omega) | exact v_int (by simp) | exact v_int (by simp; omega), by first | rfl | exact v_int (by omega) | exact v_int (by simp) | exact v_int (by simp; omega), by first | rfl | exact v_int (by omega) | exact v_int (by simp) | exact v_int (by simp; omega), hM88, by omega, hlo, .inr ((hc cc (mid + m - 1 - cc) (by omega) (by omega) (by omega) (by omega)).1 (cmpW_neg.1 (Decidable.not_not.1 (by assumption))))⟩ (by (try dsimp only); omega)
 refine h77 _ _ ?_
 clear h77
 refine seq fun K90 h90 => ?_
 have hCut := CutM.mk' (ρ := Th.r) ⟨hb.1, hb.2.1, hmid⟩ h1 h2 hst hrng (by omega) hlo hhi
 have hrg := hCut.rng
 refine stp (v := .int .i64 ((mid : Nat) + (m : Nat))) (o_mv rfl) ?_
 refine stp (v := .int .i64 (st : Nat)) (o_mv rfl) ?_
 refine stp (v := .int .i64 (mid + m - st : Nat)) (o_bin rfl rfl ((v_sub64 (by constructor <;> omega)).trans (v_int (by omega)))) ?_
 refine stp (v := .int .i64 (mid + m - st : Nat)) (o_mv rfl) ?_
 refine h90 _ _ ?_
 clear h90
 refine seqc (fun f w' => ∃ (l1 : List Th) (r1 : List Ent), f 0 = x ∧ f 1 = .int .i64 (a : Nat) ∧ f 3 = .int .i64 (b : Nat) ∧ f 4 = .func (.func 74) [].toArray [].toArray ∧ f 18 = .int .i64 (mid : Nat) ∧ f 20 = .int .i64 (st : Nat) ∧ f 24 = .int .i64 (mid + m - st : Nat) ∧ Mem w (ids r0) w' [r1] ∧ (SlS thC 257 133 x l1 r1) ∧ (RotR th0 l l1 st m (mid + m - st)) ∧ (l1.length = l.length)) ?_ ?_
 ·intro K91 h91
  refine seq fun K93 h93 => ?_
  refine stp (v := .int .i64 (st : Nat)) (o_mv rfl) ?_
  refine stp (v := .int .i64 (m : Nat)) (o_mv rfl) ?_
  refine stp (v := .bool (decide (((st : Nat) : Int) < (m : Nat)))) (o_bin rfl rfl rfl) ?_
  refine stp (v := .bool (decide (((st : Nat) : Int) < (m : Nat)))) (o_mv rfl) ?_
  refine splitP rfl (fun c94 => ?_) (fun c94 => ?_)
  ·refine stg rfl (v := .int .i64 (m : Nat)) (o_mv rfl) ?_
   refine stg rfl (v := .int .i64 (mid + m - st : Nat)) (o_mv rfl) ?_
   refine stg rfl (v := .bool (decide (((m : Nat) : Int) < (mid + m - st : Nat)))) (o_bin rfl rfl rfl) ?_
   refine stp (v := .bool (decide (((m : Nat) : Int) < (mid + m - st : Nat)))) (o_pickT rfl rfl) ?_
   refine h93 _ _ ?_
   clear h93
   refine cndP rfl (fun c95 => ?_) (fun c95 => ?_)
   ·refine stp (v := x) (o_mv rfl) ?_
    refine stp (v := .int .i64 (st : Nat)) (o_mv rfl) ?_
    refine stp (v := .int .i64 (m : Nat)) (o_mv rfl) ?_
    refine stp (v := .int .i64 (mid + m - st : Nat)) (o_mv rfl) ?_
    refine stp (v := .func (.func 74) [].toArray [].toArray) (o_mv rfl) ?_
    refine m_call (rotate_ok _ l r0 w78 hs0 (hM78.res (i := 0) rfl) (by omega) st m (mid + m - st) (by omega)) rfl fun v96 w96 ⟨l96_, r'96, hP191, hs96, hm96⟩ => ?_
    have hM96 : Mem w (ids r0) w96 [r'96] := hM78.step 0 rfl hm96
    have hn96_ : l96_.length = l.length := hP191.1.length_eq
    refine h91 _ _ ⟨l96_, r'96, rfl, by first | rfl | exact v_int (by omega) | exact v_int (by simp) | exact v_int (by simp; omega), by first | rfl | exact v_int (by omega) | exact v_int (by simp) | exact v_int (by simp; omega), rfl, by first | rfl | exact v_int (by omega) | exact v_int (by simp) | exact v_int (by simp; omega), by first | rfl | exact v_int (by omega) | exact v_int (by simp) | exact v_int (by simp; omega), by first | rfl | exact v_int (by omega) | exact v_int (by simp) | exact v_int (by simp; omega), hM96, hs96, by first | exact hP191 | exact rot_refl (by omega), by omega⟩
   refine h91 _ _ ⟨l, r0, rfl, by first | rfl | exact v_int (by omega) | exact v_int (by simp) | exact v_int (by simp; omega), by first | rfl | exact v_int (by omega) | exact v_int (by simp) | exact v_int (by simp; omega), rfl, by first | rfl | exact v_int (by omega) | exact v_int (by simp) | exact v_int (by simp; omega), by first | rfl | exact v_int (by omega) | exact v_int (by simp) | exact v_int (by simp; omega), by first | rfl | exact v_int (by omega) | exact v_int (by simp) | exact v_int (by simp; omega), hM78, hs0, by first | exact hP191 | exact rot_refl (by omega), by omega⟩
  refine gno rfl (by simp) ?_
  refine gno rfl (by simp) ?_
  refine gno rfl (by simp) ?_
  refine stp (v := .bool false) (o_pickF rfl rfl) ?_
  refine h93 _ _ ?_
  clear h93
  refine cndF rfl ?_
  refine h91 _ _ ⟨l, r0, rfl, by first | rfl | exact v_int (by omega) | exact v_int (by simp) | exact v_int (by simp; omega), by first | rfl | exact v_int (by omega) | exact v_int (by simp) | exact v_int (by simp; omega), rfl, by first | rfl | exact v_int (by omega) | exact v_int (by simp) | exact v_int (by simp; omega), by first | rfl | exact v_int (by omega) | exact v_int (by simp) | exact v_int (by simp; omega), by first | rfl | exact v_int (by omega) | exact v_int (by simp) | exact v_int (by simp; omega), hM78, hs0, by first | exact hP191 | exact rot_refl (by omega), by omega⟩
 rintro f w92 ⟨l1, r1, e92_0, e92_1, e92_3, e92_4, e92_18, e92_20, e92_24, hM92, hs1, hR, hl1⟩
 obtain ⟨frm, rfl⟩ : ∃ frm, f = (upd (upd (upd (upd (upd (upd (upd frm 0 (x)) 1 (.int .i64 (a : Nat))) 3 (.int .i64 (b : Nat))) 4 (.func (.func 74) [].toArray [].toArray)) 18 (.int .i64 (mid : Nat))) 20 (.int .i64 (st : Nat))) 24 (.int .i64 (mid + m - st : Nat))) := ⟨f, by rw [upd_self e92_0, upd_self e92_1, upd_self e92_3, upd_self e92_4, upd_self e92_18, upd_self e92_20, upd_self e92_24]⟩
 clear e92_0 e92_1 e92_3 e92_4 e92_18 e92_20 e92_24
 refine seqc (fun f w' => ∃ (l2 : List Th) (r2 : List Ent), f 0 = x ∧ f 3 = .int .i64 (b : Nat) ∧ f 4 = .func (.func 74) [].toArray [].toArray ∧ f 18 = .int .i64 (mid : Nat) ∧ f 24 = .int .i64 (mid + m - st : Nat) ∧ Mem w (ids r0) w' [r2] ∧ (SlS thC 257 133 x l2 r2) ∧ (PostS Th.r th0 l1 l2 a mid) ∧ (l2.length = l.length)) ?_ ?_
 ·intro K97 h97
  refine seq fun K99 h99 => ?_
  refine stp (v := .int .i64 (a : Nat)) (o_mv rfl) ?_
  refine stp (v := .int .i64 (st : Nat)) (o_mv rfl) ?_
  refine stp (v := .bool (decide (((a : Nat) : Int) < (st : Nat)))) (o_bin rfl rfl rfl) ?_
  refine stp (v := .bool (decide (((a : Nat) : Int) < (st : Nat)))) (o_mv rfl) ?_
  refine splitP rfl (fun c100 => ?_) (fun c100 => ?_)
  ·refine stg rfl (v := .int .i64 (st : Nat)) (o_mv rfl) ?_
   refine stg rfl (v := .int .i64 (mid : Nat)) (o_mv rfl) ?_
   refine stg rfl (v := .bool (decide (((st : Nat) : Int) < (mid : Nat)))) (o_bin rfl rfl rfl) ?_
   refine stp (v := .bool (decide (((st : Nat) : Int) < (mid : Nat)))) (o_pickT rfl rfl) ?_
   refine h99 _ _ ?_
   clear h99
   refine cndP rfl (fun c101 => ?_) (fun c101 => ?_)
   ·refine stp (v := x) (o_mv rfl) ?_
    refine stp (v := .int .i64 (a : Nat)) (o_mv rfl) ?_
    refine stp (v := .int .i64 (st : Nat)) (o_mv rfl) ?_
    refine stp (v := .int .i64 (mid : Nat)) (o_mv rfl) ?_
    refine stp (v := .func (.func 74) [].toArray [].toArray) (o_mv rfl) ?_
    refine m_call (ih _ l1 r1 w92 hs1 (hM92.res (i := 0) rfl) (by omega) a st mid (by omega) (hCut.lower hR).1 (hCut.lower hR).2 (hCut.crLo hR hc) (by omega)) rfl fun v102 w102 ⟨l102_, r'102, hP205, hs102, hm102⟩ => ?_
    have hM102 : Mem w (ids r0) w102 [r'102] := hM92.step 0 rfl hm102
    have hn102_ : l102_.length = l1.length := hP205.perm.length_eq
    refine h97 _ _ ⟨l102_, r'102, rfl, by first | rfl | exact v_int (by omega) | exact v_int (by simp) | exact v_int (by simp; omega), rfl, by first | rfl | exact v_int (by omega) | exact v_int (by simp) | exact v_int (by simp; omega), by first | rfl | exact v_int (by omega) | exact v_int (by simp) | exact v_int (by simp; omega), hM102, hs102, by first | exact hP205 | exact hCut.lowOne hR (by omega), by omega⟩
   refine h97 _ _ ⟨l1, r1, rfl, by first | rfl | exact v_int (by omega) | exact v_int (by simp) | exact v_int (by simp; omega), rfl, by first | rfl | exact v_int (by omega) | exact v_int (by simp) | exact v_int (by simp; omega), by first | rfl | exact v_int (by omega) | exact v_int (by simp) | exact v_int (by simp; omega), hM92, hs1, by first | exact hP205 | exact hCut.lowOne hR (by omega), by omega⟩
  refine gno rfl (by simp) ?_
  refine gno rfl (by simp) ?_
  refine gno rfl (by simp) ?_
  refine stp (v := .bool false) (o_pickF rfl rfl) ?_
  refine h99 _ _ ?_
  clear h99
  refine cndF rfl ?_
  refine h97 _ _ ⟨l1, r1, rfl, by first | rfl | exact v_int (by omega) | exact v_int (by simp) | exact v_int (by simp; omega), rfl, by first | rfl | exact v_int (by omega) | exact v_int (by simp) | exact v_int (by simp; omega), by first | rfl | exact v_int (by omega) | exact v_int (by simp) | exact v_int (by simp; omega), hM92, hs1, by first | exact hP205 | exact hCut.lowOne hR (by omega), by omega⟩
 rintro f w98 ⟨l2, r2, e98_0, e98_3, e98_4, e98_18, e98_24, hM98, hs2, hP2, hl2⟩
 obtain ⟨frm, rfl⟩ : ∃ frm, f = (upd (upd (upd (upd (upd frm 0 (x)) 3 (.int .i64 (b : Nat))) 4 (.func (.func 74) [].toArray [].toArray)) 18 (.int .i64 (mid : Nat))) 24 (.int .i64 (mid + m - st : Nat))) := ⟨f, by rw [upd_self e98_0, upd_self e98_3, upd_self e98_4, upd_self e98_18, upd_self e98_24]⟩
 clear e98_0 e98_3 e98_4 e98_18 e98_24
 refine seq fun K103 h103 => ?_
 refine stp (v := .int .i64 (mid : Nat)) (o_mv rfl) ?_
 refine stp (v := .int .i64 (mid + m - st : Nat)) (o_mv rfl) ?_
 refine stp (v := .bool (decide (((mid : Nat) : Int) < (mid + m - st : Nat)))) (o_bin rfl rfl rfl) ?_
 refine stp (v := .bool (decide (((mid : Nat) : Int) < (mid + m - st : Nat)))) (o_mv rfl) ?_
 refine splitP rfl (fun c104 => ?_) (fun c104 => ?_)
 ·refine stg rfl (v := .int .i64 (mid + m - st : Nat)) (o_mv rfl) ?_
  refine stg rfl (v := .int .i64 (b : Nat)) (o_mv rfl) ?_
  refine stg rfl (v := .bool (decide (((mid + m - st : Nat) : Int) < (b : Nat)))) (o_bin rfl rfl rfl) ?_
  refine stp (v := .bool (decide (((mid + m - st : Nat) : Int) < (b : Nat)))) (o_pickT rfl rfl) ?_
  refine h103 _ _ ?_
  clear h103
  refine cndP rfl (fun c105 => ?_) (fun c105 => ?_)
  ·refine stp (v := x) (o_mv rfl) ?_
   refine stp (v := .int .i64 (mid : Nat)) (o_mv rfl) ?_
   refine stp (v := .int .i64 (mid + m - st : Nat)) (o_mv rfl) ?_
   refine stp (v := .int .i64 (b : Nat)) (o_mv rfl) ?_
   refine stp (v := .func (.func 74) [].toArray [].toArray) (o_mv rfl) ?_
   refine m_call (ih _ l2 r2 w98 hs2 (hM98.res (i := 0) rfl) (by omega) mid (mid + m - st) b (by omega) (hCut.upL2 hR hP2).1 (hCut.upL2 hR hP2).2 (hCut.crHi2 hR hc hP2) (by omega)) rfl fun v106 w106 ⟨l106_, r'106, hP219, hs106, hm106⟩ => ?_
   have hM106 : Mem w (ids r0) w106 [r'106] := hM98.step 0 rfl hm106
   have hn106_ : l106_.length = l2.length := hP219.perm.length_eq
   refine ⟨(.tuple [].toArray), rfl, ?_⟩
   exact ⟨_, _, hCut.done hR hP2 hP219, hs106, hM106⟩
  refine ⟨(.tuple [].toArray), rfl, ?_⟩
  exact ⟨_, _, hCut.done hR hP2 (hCut.upOne hR hP2 (by omega)), hs2, hM98⟩
 refine gno rfl (by simp) ?_
 refine gno rfl (by simp) ?_
 refine gno rfl (by simp) ?_
 refine stp (v := .bool false) (o_pickF rfl rfl) ?_
 refine h103 _ _ ?_
 clear h103
 refine cndF rfl ?_
 refine ⟨(.tuple [].toArray), rfl, ?_⟩
 exact ⟨_, _, hCut.done hR hP2 (hCut.upOne hR hP2 (by omega)), hs2, hM98⟩
end Go.Proofs.Ytifnmbmijljhfaa.E.Hf
namespace Go.Proofs.Ytifnmbmijljhfaa.E.Hf
open Go
theorem sym_all : ∀ N, SymOk N
 | 0 => fun x l r0 w hs0 hr hl a m b hb h1 h2 hc hN => by omega
 | N + 1 => fun x l r0 w hs0 hr hl a m b hb h1 h2 hc hN => sym_step N (sym_all N) x l r0 w hs0 hr hl a m b hb h1 h2 hc (by omega)
theorem sym_ok (x : Value) (l : List Th) (r0 : List Ent) (w : World) (hs0 : SlS thC 257 133 x l r0) (hr : Res w r0) (hl : l.length ≤ 1000000) (a m b : Nat) (hb : a < m ∧ m < b ∧ b ≤ l.length) (h1 : Srt Th.r th0 l a m) (h2 : Srt Th.r th0 l m b) (hc : CrO Th.r Th.w th0 l a m b) : Calls Try.prog 79 [x, .int .i64 (a : Nat), .int .i64 (m : Nat), .int .i64 (b : Nat), .func (.func 74) ([] : List Value).toArray ([] : List Value).toArray].toArray w (Rt fun _ w' => ∃ l' r', PostS Th.r th0 l l' a b ∧ SlS thC 257 133 x l' r' ∧ Mem w (ids r0) w' [r']) := sym_all (b - a + 1) x l r0 w hs0 hr hl a m b hb h1 h2 hc (by omega)
theorem stable_ok (x : Value) (l : List Th) (r0 : List Ent) (w : World) (hs0 : SlS thC 257 133 x l r0) (hr : Res w r0) (hl : l.length ≤ 256) (hc : ∀ p q, p < q → q < l.length → Cr Th.r Th.w (l.getD p th0) (l.getD q th0)) : Calls Try.prog 77 [x, .int .i64 (l.length : Nat), .func (.func 74) ([] : List Value).toArray ([] : List Value).toArray].toArray w (Rt fun _ w' => ∃ l' r', l'.Perm l ∧ Srt Th.r th0 l' 0 l.length ∧ SlS thC 257 133 x l' r' ∧ Mem w (ids r0) w' [r']) := by
 have hM0 : Mem w (ids r0) w [r0] := Mem.start hr
 refine calls_vc mixed Try.func77 rfl C77 (by simp [Try.ntmps77]) <| seq fun _ h1 => mv <| h1 _ _ <| seq fun _ h2 => mv <| mv <| mv <| h2 _ _ <| seq fun _ h3 => lp (n := fun _ _ => False) (ι := (Nat) × (List Th) × (List Ent)) (fun ⟨a, lc, r0_⟩ f w' => f 0 = x ∧ f 7 = .int .i64 (a : Nat) ∧ f 8 = .int .i64 ((a : Nat) + 20) ∧ f 1 = .int .i64 (l.length : Nat) ∧ f 2 = .func (.func 74) [].toArray [].toArray ∧ f 6 = .int .i64 20 ∧ Mem w (ids r0) w' [r0_] ∧ (BlkS Th.r th0 l lc 1 20 a l.length) ∧ (a % 20 = 0 ∧ a ≤ l.length) ∧ (lc.length = l.length) ∧ (SlS thC 257 133 x (lc) r0_)) (fun ⟨a, lc, r0_⟩ => l.length - a) (0, l, r0) ?_ ?_
 ·exact ⟨rfl, vi, vi, vi, rfl, vi, hM0, BlkS.init rfl, by omega, rfl, by first | exact hs0 | simpa using hs0⟩
 rintro ⟨a, lc, r0_⟩ f w4 ⟨e4_0, e4_7, e4_8, e4_1, e4_2, e4_6, hM4, hB, ha, hn, hy0_⟩ K5 h5
 obtain ⟨frm, rfl⟩ := re6 e4_0 e4_7 e4_8 e4_1 e4_2 e4_6
 refine seq fun _ h6 => seq fun _ h7 => mv <| mv <| bn rfl rfl <| h7 _ _ <| cndP rfl (fun c8 => ?_) (fun c8 => ?_)
 ·refine h6 _ _ <| seq fun _ h9 => mv <| mv <| mv <| mv <| m_call (insert_ok _ lc r0_ w4 hy0_ (hM4.res (i := 0) rfl) (by omega) a ((a) + 20) (by omega) (fun p q k1 k2 k3 => hB.crA (.inl ⟨rfl, rfl⟩) hc p q k1 k2 (by omega))) rfl fun v10 w10 ⟨l10_, r'10, hP18, hs10, hm10⟩ => ?_
  have hM10 : Mem w (ids r0) w10 [r'10] := hM4.step 0 rfl hm10
  have hn10_ : l10_.length = lc.length := hP18.perm.length_eq
  refine h9 _ _ <| seq fun _ h11 => mv <| mv <| h11 _ _ <| mv <| mv <| stp (v := .int .i64 (((a : Nat) + 20) + 20)) (o_bin rfl rfl (v_add64 (by omega))) <| mv <| h5 (a + 20, l10_, r'10) _ _ ⟨rfl, vi, vi, vi, rfl, vi, hM10, hB.put (.inl ⟨rfl, rfl⟩) ha.1 (by omega) hP18, by omega, by omega, by first | exact hs10 | simpa using hs10⟩ (by (try dsimp only); omega)
 refine h3 _ _ <| seq fun _ h12 => mv <| mv <| mv <| mv <| m_call (insert_ok _ lc r0_ w4 hy0_ (hM4.res (i := 0) rfl) (by omega) a l.length (by omega) (fun p q k1 k2 k3 => hB.crA (.inl ⟨rfl, rfl⟩) hc p q k1 k2 (by omega))) rfl fun v13 w13 ⟨l13_, r'13, hP27, hs13, hm13⟩ => ?_
 have hM13 : Mem w (ids r0) w13 [r'13] := hM4.step 0 rfl hm13
 have hn13_ : l13_.length = lc.length := hP27.perm.length_eq
 refine h12 _ _ <| lp (n := fun _ _ => False) (ι := (Nat) × (List Th) × (List Ent)) (fun ⟨s, l2, r0_⟩ f w' => f 0 = x ∧ f 6 = .int .i64 (s : Nat) ∧ f 1 = .int .i64 (l.length : Nat) ∧ f 2 = .func (.func 74) [].toArray [].toArray ∧ Mem w (ids r0) w' [r0_] ∧ (s = 20 ∨ s = 40 ∨ s = 80 ∨ s = 160 ∨ s = 320) ∧ (l2.length = l.length) ∧ (BlkS Th.r th0 l l2 s (2 * s) 0 l.length) ∧ (SlS thC 257 133 x (l2) r0_)) (fun ⟨s, l2, r0_⟩ => l.length - s) (20, l13_, r'13) ?_ ?_
 ·exact ⟨rfl, vi, vi, rfl, hM13, by omega, by omega, (hB.put (b := l.length) (.inl ⟨rfl, rfl⟩) ha.1 (by omega) hP27).turn _, by first | exact hs13 | simpa using hs13⟩
 rintro ⟨s, l2, r0_⟩ f w14 ⟨e14_0, e14_6, e14_1, e14_2, hM14, hs, hn2, hB2, hy0_⟩ K15 h15
 obtain ⟨frm, rfl⟩ := re4 e14_0 e14_6 e14_1 e14_2
 refine seq fun _ h16 => seq fun _ h17 => mv <| mv <| bn rfl rfl <| h17 _ _ <| cndP rfl (fun c18 => ?_) (fun c18 => ?_)
 ·refine h16 _ _ <| seq fun _ h19 => ?_
  have hz : Sizes s (2 * s) := by unfold Sizes; omega
  refine mv <| stp (v := .int .i64 (2 * (s : Nat))) (o_bin rfl rfl (v_mul64 (by omega))) <| mv <| mv <| h19 _ _ <| seq fun _ h20 => lp (n := fun _ _ => False) (ι := (Nat) × (List Th) × (List Ent)) (fun ⟨a3, l3, r0_⟩ f w' => f 0 = x ∧ f 7 = .int .i64 (a3 : Nat) ∧ f 8 = .int .i64 ((a3 : Nat) + 2 * (s : Nat)) ∧ f 1 = .int .i64 (l.length : Nat) ∧ f 2 = .func (.func 74) [].toArray [].toArray ∧ f 6 = .int .i64 (s : Nat) ∧ Mem w (ids r0) w' [r0_] ∧ (BlkS Th.r th0 l l3 s (2 * s) a3 l.length) ∧ (a3 % (2 * s) = 0) ∧ (a3 ≤ l.length) ∧ (l3.length = l.length) ∧ (SlS thC 257 133 x (l3) r0_)) (fun ⟨a3, l3, r0_⟩ => l.length - a3) (0, l2, r0_) ?_ ?_
  ·exact ⟨rfl, vi, vi, vi, rfl, vi, hM14, hB2, by simp, by omega, hn2, by first | exact hy0_ | simpa using hy0_⟩
  rintro ⟨a3, l3, r0_⟩ f w21 ⟨e21_0, e21_7, e21_8, e21_1, e21_2, e21_6, hM21, hB3, ha3, ha4, hn3, hy0_⟩ K22 h22
  obtain ⟨frm, rfl⟩ := re6 e21_0 e21_7 e21_8 e21_1 e21_2 e21_6
  refine seq fun _ h23 => seq fun _ h24 => mv <| mv <| bn rfl rfl <| h24 _ _ <| cndP rfl (fun c25 => ?_) (fun c25 => ?_)
  ·refine h23 _ _ <| seq fun _ h26 => mv <| mv <| mv <| mv <| stp (v := .int .i64 ((a3 : Nat) + (s : Nat))) (o_bin rfl rfl (v_add64 (by omega))) <| mv <| mv <| m_call (sym_ok _ l3 r0_ w21 hy0_ (hM21.res (i := 0) rfl) (by omega) a3 ((a3) + (s)) ((a3) + 2 * (s)) (by omega) ((hB3.srt1 hz ha3 rfl).1 _ (by omega) (by omega)) ((hB3.srt1 hz ha3 rfl).2 _ (by omega) (by omega)) (hB3.crO hz hc ha3 rfl (by omega) rfl)) rfl fun v27 w27 ⟨l27_, r'27, hP43, hs27, hm27⟩ => ?_
   have hM27 : Mem w (ids r0) w27 [r'27] := hM21.step 0 rfl hm27
   have hn27_ : l27_.length = l3.length := hP43.perm.length_eq
   refine h26 _ _ <| seq fun _ h28 => mv <| mv <| h28 _ _ <| mv <| mv <| stp (v := .int .i64 (2 * (s : Nat))) (o_bin rfl rfl (v_mul64 (by omega))) <| stp (v := .int .i64 (((a3 : Nat) + 2 * (s : Nat)) + (2 * (s : Nat)))) (o_bin rfl rfl (v_add64 (by omega))) <| mv <| h22 (a3 + 2 * s, l27_, r'27) _ _ ⟨rfl, vi, vi, vi, rfl, vi, hM27, hB3.put hz ha3 (by omega) hP43, by rw [Nat.add_mod_right]; exact ha3, by omega, by omega, by first | exact hs27 | simpa using hs27⟩ (by (try dsimp only); omega)
  refine h20 _ _ <| seq fun _ h29 => seq fun _ h30 => mv <| mv <| stp (v := .int .i64 ((a3 : Nat) + (s : Nat))) (o_bin rfl rfl (v_add64 (by omega))) <| mv <| h30 _ _ <| seq fun _ h31 => mv <| mv <| bn rfl rfl <| h31 _ _ <| cndP rfl (fun c32 => ?_) (fun c32 => ?_)
  ·refine mv <| mv <| mv <| mv <| mv <| m_call (sym_ok _ l3 r0_ w21 hy0_ (hM21.res (i := 0) rfl) (by omega) a3 ((a3) + (s)) l.length (by omega) ((hB3.srt1 hz ha3 rfl).1 _ (by omega) (by omega)) ((hB3.srt1 hz ha3 rfl).2 _ (by omega) (by omega)) (hB3.crO hz hc ha3 rfl (by omega) rfl)) rfl fun v33 w33 ⟨l33_, r'33, hP60, hs33, hm33⟩ => ?_
   have hM33 : Mem w (ids r0) w33 [r'33] := hM21.step 0 rfl hm33
   have hn33_ : l33_.length = l3.length := hP60.perm.length_eq
   refine h29 _ _ <| mv <| stp (v := .int .i64 ((s : Nat) * 2)) (o_bin rfl rfl (v_mul64 (by omega))) <| mv <| h15 (s * 2, l33_, r'33) _ _ ⟨rfl, vi, vi, rfl, hM33, by omega, by omega, by rw [show 2 * (s * 2) = 2 * s * 2 by omega, show s * 2 = 2 * s by omega]; exact BlkS.turn (hB3.put (b := l.length) hz ha3 (by omega) hP60) _, by first | exact hs33 | simpa using hs33⟩ (by (try dsimp only); omega)
  refine h29 _ _ <| mv <| stp (v := .int .i64 ((s : Nat) * 2)) (o_bin rfl rfl (v_mul64 (by omega))) <| mv <| h15 (s * 2, l3, r0_) _ _ ⟨rfl, vi, vi, rfl, hM21, by omega, by omega, by rw [show 2 * (s * 2) = 2 * s * 2 by omega, show s * 2 = 2 * s by omega]; exact BlkS.turn (hB3.put (b := l.length) hz ha3 (by omega) (PostS.refl ((hB3.srt1 hz ha3 rfl).1 _ (by omega) (by omega)))) _, by first | exact hy0_ | simpa using hy0_⟩ (by (try dsimp only); omega)
 refine ⟨(.tuple [].toArray), rfl, ⟨_, _, (hB2.done (by omega)).1, (hB2.done (by omega)).2, hy0_, hM14⟩⟩
theorem sort_ok (x : Value) (l : List Th) (r0 : List Ent) (w : World) (hs0 : SlS thC 257 133 x l r0) (hr : Res w r0) (hl : l.length ≤ 256) (hc : ∀ p q, p < q → q < l.length → Cr Th.r Th.w (l.getD p th0) (l.getD q th0)) : Calls Try.prog 73 [x, .func (.func 74) ([] : List Value).toArray ([] : List Value).toArray].toArray w (Rt fun _ w' => ∃ l' r', l'.Perm l ∧ Srt Th.r th0 l' 0 l.length ∧ SlS thC 257 133 x l' r' ∧ Mem w (ids r0) w' [r']) := by
 have hM0 : Mem w (ids r0) w [r0] := Mem.start hr
 refine calls_vc mixed Try.func73 rfl C73 (by simp [Try.ntmps73]) <| mv <| mv <| stp (v := .int .i64 (l.length : Nat)) (o_lenR (hs0.rd hM0 (i := 0) rfl) rfl rfl) <| mv <| m_call (stable_ok _ l r0 w hs0 (hM0.res (i := 0) rfl) (by omega) hc) rfl fun v1 w1 ⟨l1_, r'1, hp1, hq1, hs1, hm1⟩ => ?_
 have hM1 : Mem w (ids r0) w1 [r'1] := hM0.step 0 rfl hm1
 refine ⟨(.tuple [].toArray), rfl, ⟨_, _, hp1, hq1, hs1, hM1⟩⟩
end Go.Proofs.Ytifnmbmijljhfaa.E.Hf
namespace Go.Proofs.Ytifnmbmijljhfaa.E.Hf
open Go
def inB (lo hi : Int) (l : List Int) : Bool := l.all fun x => decide (lo ≤ x) && decide (x ≤ hi)
theorem inB_iff {lo hi : Int} {l : List Int} : inB lo hi l = true ↔ ∀ i, i < l.length → lo ≤ l.getD i 0 ∧ l.getD i 0 ≤ hi := by
 unfold inB
 rw [List.all_eq_true]
 constructor
 ·intro h i hi'
  have := h (l.getD i 0) (by rw [List.getD_eq_getElem?_getD, List.getElem?_eq_getElem hi']; exact List.getElem_mem hi')
  simpa using this
 intro h x hx
 obtain ⟨i, hi', rfl⟩ := List.getElem_of_mem hx
 have := h i hi'
 rw [List.getD_eq_getElem?_getD, List.getElem?_eq_getElem hi'] at this
 simpa using this
theorem inB_no {lo hi : Int} {l : List Int} {i : Nat} (h : i < l.length) (h2 : l.getD i 0 < lo ∨ hi < l.getD i 0) : inB lo hi l = false := by
 cases hb : inB lo hi l
 ·rfl
 have := inB_iff.1 hb i h; omega
def errIf (b : Bool) (e : Int) : Int := if b then 0 else e
theorem all_succ {l : List Int} {i : Nat} {lo hi : Int} (hp : ∀ j, j < i → lo ≤ l.getD j 0 ∧ l.getD j 0 ≤ hi) (h : lo ≤ l.getD i 0 ∧ l.getD i 0 ≤ hi) : ∀ j, j < i + 1 → lo ≤ l.getD j 0 ∧ l.getD j 0 ≤ hi := by
 intro j hj
 rcases Nat.lt_or_eq_of_le (Nat.le_of_lt_succ hj) with h' | h'
 ·exact hp j h'
 subst h'; exact h
theorem wrong_ok (x : Value) (l : List Int) (w : World) (hx : RdE i64V w x l) (hl : l.length ≤ 1152921504606846976) : Calls Try.prog 64 [x].toArray w (Rt fun r w' => r = .int .i64 (errIf (inB 0 1099511627776 l) 3) ∧ Upd [] w w') := by
 have hM0 : Mem w [] w [] := Mem.nil w []
 refine calls_vc mixed Try.func64 rfl C64 (by simp [Try.ntmps64]) <| seq fun _ h1 => mv <| h1 _ _ <| seq fun _ h2 => seq fun _ h3 => mv <| stp (v := .int .i64 (l.length : Nat)) (o_lenR (hx.upd hM0.upd) rfl rfl) <| mv <| h3 _ _ <| lp (n := fun _ _ => False) (ι := (Nat)) (fun i f w' => f 0 = x ∧ f 5 = x ∧ f 6 = .int .i64 (l.length : Nat) ∧ f 7 = .int .i64 (i : Nat) ∧ Mem w [] w' [] ∧ (i ≤ l.length) ∧ (∀ j, j < i → 0 ≤ l.getD j 0 ∧ l.getD j 0 ≤ 1099511627776)) (fun i => l.length - i) (0) ?_ ?_
 ·exact ⟨rfl, rfl, vi, vi, hM0, by omega, by omega⟩
 rintro i f w4 ⟨e4_0, e4_5, e4_6, e4_7, hM4, hi, hp⟩ K5 h5
 obtain ⟨frm, rfl⟩ := re4 e4_0 e4_5 e4_6 e4_7
 refine seq fun _ h6 => bn rfl rfl <| h6 _ _ <| seq fun _ h7 => cndP rfl (fun c8 => ?_) (fun c8 => ?_)
 ·refine h7 _ _ <| seq fun _ h9 => seq fun _ h10 => m_idxE 0 (j := i) (hx.upd hM4.upd) rfl rfl (by omega) fun b11 o11 hp11 => ld (v := .int .i64 (l.getD i 0)) rfl (hp11) <| mv <| h10 _ _ <| seq fun _ h12 => mv <| bn rfl rfl <| mv <| splitP rfl (fun c13 => ?_) (fun c13 => ?_)
  ·refine gx rfl <| gx rfl <| pkT rfl <| h12 _ _ <| cndT rfl <| seq fun _ h14 => mv <| h14 _ _ <| ⟨(.int .i64 3), rfl, ⟨by rw [inB_no (i := i) (by omega) (by omega)] <;> rfl, hM4.upd⟩⟩
  refine gmv rfl <| gbn rfl rfl rfl <| pkF rfl <| h12 _ _ <| cndP rfl (fun c15 => ?_) (fun c15 => ?_)
  ·refine seq fun _ h16 => mv <| h16 _ _ <| ⟨(.int .i64 3), rfl, ⟨by rw [inB_no (i := i) (by omega) (by omega)] <;> rfl, hM4.upd⟩⟩
  refine h9 _ _ <| stp (v := .int .i64 ((i : Nat) + 1)) (o_bin rfl rfl (v_add64 (by omega))) <| mv <| h5 (i + 1) _ _ ⟨rfl, rfl, vi, vi, hM4, by omega, all_succ hp (by omega)⟩ (by (try dsimp only); omega)
 refine h2 _ _ <| seq fun _ h17 => mv <| h17 _ _ <| ⟨(.int .i64 0), rfl, ⟨by rw [inB_iff.2 (fun j hj => hp j (by omega))] <;> rfl, hM4.upd⟩⟩
theorem inside_ok (x : Value) (l : List Int) (w : World) (hx : RdE i64V w x l) (hl : l.length ≤ 1152921504606846976) : Calls Try.prog 67 [x].toArray w (Rt fun r w' => r = .bool (inB 0 15 l) ∧ Upd [] w w') := by
 have hM0 : Mem w [] w [] := Mem.nil w []
 refine calls_vc mixed Try.func67 rfl C67 (by simp [Try.ntmps67]) <| seq fun _ h1 => mv <| h1 _ _ <| seq fun _ h2 => seq fun _ h3 => mv <| stp (v := .int .i64 (l.length : Nat)) (o_lenR (hx.upd hM0.upd) rfl rfl) <| mv <| h3 _ _ <| lp (n := fun _ _ => False) (ι := (Nat)) (fun i f w' => f 0 = x ∧ f 5 = x ∧ f 6 = .int .i64 (l.length : Nat) ∧ f 7 = .int .i64 (i : Nat) ∧ Mem w [] w' [] ∧ (i ≤ l.length) ∧ (∀ j, j < i → 0 ≤ l.getD j 0 ∧ l.getD j 0 ≤ 15)) (fun i => l.length - i) (0) ?_ ?_
 ·exact ⟨rfl, rfl, vi, vi, hM0, by omega, by omega⟩
 rintro i f w4 ⟨e4_0, e4_5, e4_6, e4_7, hM4, hi, hp⟩ K5 h5
 obtain ⟨frm, rfl⟩ := re4 e4_0 e4_5 e4_6 e4_7
 refine seq fun _ h6 => bn rfl rfl <| h6 _ _ <| seq fun _ h7 => cndP rfl (fun c8 => ?_) (fun c8 => ?_)
 ·refine h7 _ _ <| seq fun _ h9 => seq fun _ h10 => m_idxE 0 (j := i) (hx.upd hM4.upd) rfl rfl (by omega) fun b11 o11 hp11 => ld (v := .int .i64 (l.getD i 0)) rfl (hp11) <| mv <| h10 _ _ <| seq fun _ h12 => mv <| bn rfl rfl <| mv <| splitP rfl (fun c13 => ?_) (fun c13 => ?_)
  ·refine gx rfl <| gx rfl <| pkT rfl <| h12 _ _ <| cndT rfl <| seq fun _ h14 => mv <| h14 _ _ <| ⟨(.bool false), rfl, ⟨by rw [inB_no (i := i) (by omega) (by omega)] <;> rfl, hM4.upd⟩⟩
  refine gmv rfl <| gbn rfl rfl rfl <| pkF rfl <| h12 _ _ <| cndP rfl (fun c15 => ?_) (fun c15 => ?_)
  ·refine seq fun _ h16 => mv <| h16 _ _ <| ⟨(.bool false), rfl, ⟨by rw [inB_no (i := i) (by omega) (by omega)] <;> rfl, hM4.upd⟩⟩
  refine h9 _ _ <| stp (v := .int .i64 ((i : Nat) + 1)) (o_bin rfl rfl (v_add64 (by omega))) <| mv <| h5 (i + 1) _ _ ⟨rfl, rfl, vi, vi, hM4, by omega, all_succ hp (by omega)⟩ (by (try dsimp only); omega)
 refine h2 _ _ <| seq fun _ h17 => mv <| h17 _ _ <| ⟨(.bool true), rfl, ⟨by rw [inB_iff.2 (fun j hj => hp j (by omega))] <;> rfl, hM4.upd⟩⟩
end Go.Proofs.Ytifnmbmijljhfaa.E.Hf
namespace Go.Proofs.Ytifnmbmijljhfaa.E.Hf
open Go
theorem thC_set {t : Th} {i v : Nat} {r : Int} (hi : i < 256) : (thC t).set (1 + i) (.int .u8 (v : Int)) = thC ⟨t.w, fun k => if k = i then v else t.f k, r⟩ := by
 unfold thC
 rw [Nat.add_comm 1 i, List.set_cons_succ]
 congr 1
 apply List.ext_getElem (by simp)
 intro k h1 h2
 simp only [List.length_set, List.length_map, List.length_range] at h1
 simp only [List.getElem_set, List.getElem_map, List.getElem_range]
 by_cases c : i = k
 ·subst c; simp
 rw [if_neg c, if_neg (fun e => c e.symm)]
theorem thC_w {c : Int} : fillC (zcOf Try.t133) [(0, 1, .int .i64 c)] = some (thC ⟨c, fun _ => 0, 0⟩) := by
 rw [zcTh]
 unfold fillC
 rw [if_pos ⟨rfl, by rw [thC_len]; omega⟩]
 rfl
theorem thC_cell {t : Th} {i : Nat} (hi : i < 256) : (thC t)[1 + i]? = some (.int .u8 ((t.f i : Nat) : Int)) := by
 unfold thC
 rw [Nat.add_comm 1 i, List.getElem?_cons_succ, List.getElem?_map, List.getElem?_range hi]; rfl
def one (c : Int) (i : Nat) : Th := ⟨c, fun k => if k = i then 1 else 0, 256 * c - i⟩
theorem one_cr {c c' : Int} {i i' : Nat} (h : i' < i) (hi : i < 256) : Cr Th.r Th.w (one c i) (one c' i') := by
 unfold Cr one
 dsimp only
 omega
def thsA (cs : List Int) : Nat → List Th
 | 0 => []
 | j + 1 => thsA cs j ++ (if 0 < cs.getD (cs.length - 1 - j) 0 then [one (cs.getD (cs.length - 1 - j) 0) (cs.length - 1 - j)] else [])
theorem thsA_yes {cs : List Int} {j : Nat} (h : 0 < cs.getD (cs.length - 1 - j) 0) : thsA cs (j + 1) = thsA cs j ++ [one (cs.getD (cs.length - 1 - j) 0) (cs.length - 1 - j)] := by rw [thsA, if_pos h]
theorem thsA_no {cs : List Int} {j : Nat} (h : ¬ 0 < cs.getD (cs.length - 1 - j) 0) : thsA cs (j + 1) = thsA cs j := by rw [thsA, if_neg h, List.append_nil]
theorem thsA_len (cs : List Int) : ∀ j, (thsA cs j).length ≤ j
 | 0 => by simp [thsA]
 | j + 1 => by
  have := thsA_len cs j
  by_cases h : 0 < cs.getD (cs.length - 1 - j) 0
  ·rw [thsA_yes h, List.length_append, List.length_singleton]; omega
  rw [thsA_no h]; omega
theorem thsA_mem (cs : List Int) : ∀ j, j ≤ cs.length → ∀ t ∈ thsA cs j, ∃ i, t = one (cs.getD i 0) i ∧ cs.length - j ≤ i ∧ i < cs.length ∧ 0 < cs.getD i 0
 | 0, _, t, h => by cases h
 | j + 1, hj, t, h => by
  by_cases c : 0 < cs.getD (cs.length - 1 - j) 0
  ·rw [thsA_yes c] at h
   rcases List.mem_append.1 h with h | h
   ·obtain ⟨i, h1, h2, h3, h4⟩ := thsA_mem cs j (by omega) t h
    exact ⟨i, h1, by omega, h3, h4⟩
   rw [List.mem_singleton] at h
   exact ⟨_, h, by omega, by omega, c⟩
  rw [thsA_no c] at h
  obtain ⟨i, h1, h2, h3, h4⟩ := thsA_mem cs j (by omega) t h
  exact ⟨i, h1, by omega, h3, h4⟩
theorem thsA_pw (cs : List Int) (hl : cs.length ≤ 256) : ∀ j, j ≤ cs.length → (thsA cs j).Pairwise (fun x y => Cr Th.r Th.w x y)
 | 0, _ => by simp [thsA]
 | j + 1, hj => by
  have ih := thsA_pw cs hl j (by omega)
  by_cases c : 0 < cs.getD (cs.length - 1 - j) 0
  ·rw [thsA_yes c, List.pairwise_append]
   refine ⟨ih, List.pairwise_singleton _ _, fun a ha b hb => ?_⟩
   rw [List.mem_singleton] at hb
   obtain ⟨i, rfl, h2, h3, h4⟩ := thsA_mem cs j (by omega) a ha
   rw [hb]
   exact one_cr (by omega) (by omega)
  rw [thsA_no c]; exact ih
theorem pw_get {α : Type} {R : α → α → Prop} {l : List α} (z : α) (h : l.Pairwise R) : ∀ p q, p < q → q < l.length → R (l.getD p z) (l.getD q z) := fun p q h1 h2 => by
 have := (List.pairwise_iff_getElem.1 h) p q (by omega) h2 h1
 rw [List.getD_eq_getElem?_getD, List.getD_eq_getElem?_getD, List.getElem?_eq_getElem (by omega), List.getElem?_eq_getElem h2]
 exact this
theorem get_pw {α : Type} {R : α → α → Prop} {l : List α} (z : α) (h : ∀ p q, p < q → q < l.length → R (l.getD p z) (l.getD q z)) : l.Pairwise R := by
 rw [List.pairwise_iff_getElem]
 intro p q hp hq hpq
 have := h p q hpq hq
 rwa [List.getD_eq_getElem?_getD, List.getD_eq_getElem?_getD, List.getElem?_eq_getElem hp, List.getElem?_eq_getElem hq] at this
theorem thsA_cr {cs : List Int} (hl : cs.length ≤ 256) : ∀ p q, p < q → q < (thsA cs cs.length).length → Cr Th.r Th.w ((thsA cs cs.length).getD p th0) ((thsA cs cs.length).getD q th0) := pw_get th0 (thsA_pw cs hl _ (Nat.le_refl _))
abbrev SrtR (l : List Th) : Prop := l.Pairwise (fun a b => a.r < b.r)
def insR (x : Th) : List Th → List Th
 | [] => [x]
 | y :: r => if y.r < x.r then y :: insR x r else x :: y :: r
theorem insR_perm (x : Th) : ∀ l, (insR x l).Perm (x :: l)
 | [] => .refl _
 | y :: r => by
  unfold insR
  split
  ·exact ((insR_perm x r).cons y).trans (.swap x y r)
  exact .refl _
theorem insR_srt (x : Th) : ∀ l, SrtR l → (∀ y ∈ l, y.r ≠ x.r) → SrtR (insR x l)
 | [], _, _ => List.pairwise_singleton _ _
 | y :: r, h, hn => by
  have h1 := List.pairwise_cons.1 h
  unfold insR
  split
  ·rename_i c
   refine List.pairwise_cons.2 ⟨fun z hz => ?_, insR_srt x r h1.2 fun z hz => hn z (List.mem_cons_of_mem _ hz)⟩
   rcases List.mem_cons.1 ((insR_perm x r).subset hz) with rfl | hz
   ·exact c
   exact h1.1 z hz
  rename_i c
  have hyx := hn y List.mem_cons_self
  refine List.pairwise_cons.2 ⟨fun z hz => ?_, h⟩
  rcases List.mem_cons.1 hz with rfl | hz
  ·omega
  have := h1.1 z hz; omega
def sortR : List Th → List Th
 | [] => []
 | x :: l => insR x (sortR l)
theorem sortR_perm : ∀ l, (sortR l).Perm l
 | [] => .refl _
 | x :: l => (insR_perm x _).trans ((sortR_perm l).cons x)
theorem sortR_srt : ∀ l : List Th, l.Pairwise (fun x y => x.r ≠ y.r) → SrtR (sortR l)
 | [], _ => List.Pairwise.nil
 | x :: l, h => by
  have h1 := List.pairwise_cons.1 h
  exact insR_srt x _ (sortR_srt l h1.2) fun y hy => (h1.1 y ((sortR_perm l).subset hy)).symm
theorem srt_uniq {l m : List Th} (h1 : SrtR l) (h2 : SrtR m) (h : l.Perm m) : l = m :=
 List.Perm.eq_of_pairwise (le := fun a b : Th => a.r < b.r) (fun a b _ _ k1 k2 => by omega) h1 h2 h
def thF (cs : List Int) : List Th := sortR (thsA cs cs.length)
theorem cr_ne {x y : Th} (h : Cr Th.r Th.w x y) : x.r ≠ y.r := by
 intro e
 by_cases c : y.w < x.w
 ·have := h.1 c; omega
 have := h.2 c; omega
theorem thF_perm (cs : List Int) : (thF cs).Perm (thsA cs cs.length) := sortR_perm _
theorem thF_srt {cs : List Int} (hl : cs.length ≤ 256) : SrtR (thF cs) := sortR_srt _ ((thsA_pw cs hl _ (Nat.le_refl _)).imp cr_ne)
theorem thF_eq {cs : List Int} {l : List Th} (hl : cs.length ≤ 256) (hp : l.Perm (thsA cs cs.length)) (hs : SrtR l) : l = thF cs := srt_uniq hs (thF_srt hl) (hp.trans (thF_perm cs).symm)
def bothT (a b : Th) : Th := ⟨a.w + b.w, fun k => a.f k + b.f k, 0⟩
def pairsL : List Th → List Th
 | a :: b :: r => bothT a b :: pairsL r
 | _ => []
def mergeL : List Th → List Th → List Th
 | fs, [] => fs
 | [], p :: ps => p :: ps
 | f :: fs, p :: ps => if f.w ≤ p.w then f :: mergeL fs (p :: ps) else p :: mergeL (f :: fs) ps
termination_by fs ps => fs.length + ps.length
theorem mergeL_nilR (fs : List Th) : mergeL fs [] = fs := by cases fs <;> rw [mergeL]
theorem mergeL_nilL (ps : List Th) : mergeL [] ps = ps := by cases ps <;> rw [mergeL]
theorem mergeL_le {f p : Th} {fs ps : List Th} (h : f.w ≤ p.w) : mergeL (f :: fs) (p :: ps) = f :: mergeL fs (p :: ps) := by rw [mergeL, if_pos h]
theorem mergeL_gt {f p : Th} {fs ps : List Th} (h : ¬ f.w ≤ p.w) : mergeL (f :: fs) (p :: ps) = p :: mergeL (f :: fs) ps := by rw [mergeL, if_neg h]
def tot (k : Nat) (l : List Th) : Nat := (l.map fun t => t.f k).sum
theorem tot_cons (k : Nat) (t : Th) (l : List Th) : tot k (t :: l) = t.f k + tot k l := by simp [tot]
theorem tot_append (k : Nat) (l m : List Th) : tot k (l ++ m) = tot k l + tot k m := by simp [tot]
theorem tot_perm {k : Nat} {l m : List Th} (h : l.Perm m) : tot k l = tot k m := (h.map _).sum_nat
theorem tot_mem {k : Nat} {l : List Th} {t : Th} (h : t ∈ l) : t.f k ≤ tot k l := by
 induction l with
 | nil => cases h
 | cons x l ih =>
  rw [tot_cons]
  rcases List.mem_cons.1 h with rfl | h
  ·omega
  have := ih h; omega
theorem tot_drop (k i : Nat) (l : List Th) : tot k (l.drop i) ≤ tot k l := by
 have := tot_append k (l.take i) (l.drop i)
 rw [List.take_append_drop] at this; omega
theorem tot_take (k i : Nat) (l : List Th) : tot k (l.take i) ≤ tot k l := by
 have := tot_append k (l.take i) (l.drop i)
 rw [List.take_append_drop] at this; omega
theorem tot_pairs (k : Nat) : ∀ l, tot k (pairsL l) ≤ tot k l
 | [] => by simp [pairsL]
 | [a] => by simp [pairsL, tot]
 | a :: b :: r => by
  have := tot_pairs k r
  rw [pairsL, tot_cons, tot_cons, tot_cons]
  show a.f k + b.f k + _ ≤ _
  omega
theorem mergeL_perm : ∀ (n : Nat) (fs ps : List Th), fs.length + ps.length ≤ n → (mergeL fs ps).Perm (fs ++ ps)
 | _, fs, [], _ => by rw [mergeL_nilR, List.append_nil]
 | _, [], p :: ps, _ => by rw [mergeL_nilL]; exact .refl _
 | 0, f :: fs, p :: ps, h => by simp at h
 | n + 1, f :: fs, p :: ps, h => by
  simp only [List.length_cons] at h
  by_cases c : f.w ≤ p.w
  ·rw [mergeL_le c]; exact (mergeL_perm n fs (p :: ps) (by simp only [List.length_cons]; omega)).cons f
  rw [mergeL_gt c]
  exact ((mergeL_perm n (f :: fs) ps (by simp only [List.length_cons]; omega)).cons p).trans List.perm_middle.symm
theorem merge_perm (fs ps : List Th) : (mergeL fs ps).Perm (fs ++ ps) := mergeL_perm _ fs ps (Nat.le_refl _)
theorem pairs_len : ∀ l, (pairsL l).length = l.length / 2
 | [] => rfl
 | [a] => by simp [pairsL]
 | a :: b :: r => by rw [pairsL, List.length_cons, pairs_len r]; simp only [List.length_cons]; omega
def rowF (fs : List Th) : Nat → List Th
 | 0 => fs
 | j + 1 => mergeL fs (pairsL (rowF fs j))
theorem row_len (fs : List Th) (j : Nat) : (rowF fs (j + 1)).length = fs.length + (rowF fs j).length / 2 := by
 rw [rowF, (merge_perm _ _).length_eq, List.length_append, pairs_len]
theorem row_le (fs : List Th) : ∀ j, (rowF fs j).length ≤ 2 * fs.length
 | 0 => by rw [rowF]; omega
 | j + 1 => by have := row_le fs j; rw [row_len]; omega
theorem row_tot (fs : List Th) (k : Nat) : ∀ j, tot k (rowF fs j) ≤ (j + 1) * tot k fs
 | 0 => by rw [rowF]; omega
 | j + 1 => by
  have h1 := row_tot fs k j
  have h2 := tot_pairs k (rowF fs j)
  rw [rowF, tot_perm (merge_perm _ _), tot_append, Nat.add_mul (j + 1) 1]; omega
def wB (W : Int) (l : List Th) : Prop := ∀ t ∈ l, 0 ≤ t.w ∧ t.w ≤ W
theorem wB_pairs {W : Int} : ∀ l, wB W l → wB (2 * W) (pairsL l)
 | [], _ => fun _ h => by cases h
 | [a], _ => fun _ h => by cases h
 | a :: b :: r, h => fun t ht => by
  rcases List.mem_cons.1 ht with rfl | ht
  ·have h1 := h a List.mem_cons_self
   have h2 := h b (List.mem_cons_of_mem _ List.mem_cons_self)
   show 0 ≤ a.w + b.w ∧ a.w + b.w ≤ _
   omega
  exact wB_pairs r (fun x hx => h x (List.mem_cons_of_mem _ (List.mem_cons_of_mem _ hx))) t ht
theorem wB_merge {W V : Int} {fs ps : List Th} (h1 : wB W fs) (h2 : wB V ps) (hV : W ≤ V) : wB V (mergeL fs ps) := fun t ht => by
 rcases List.mem_append.1 ((merge_perm fs ps).subset ht) with h | h
 ·have := h1 t h; omega
 exact h2 t h
theorem row_w {W : Int} {fs : List Th} (h : wB W fs) (hW : 0 ≤ W) : ∀ j, wB (2 ^ j * W) (rowF fs j)
 | 0 => by simpa [rowF] using h
 | j + 1 => by
  have := wB_pairs _ (row_w h hW j)
  rw [rowF]
  refine wB_merge h (by rw [Int.pow_succ, Int.mul_comm (2 ^ j) 2, Int.mul_assoc]; exact this) ?_
  have hp : (1 : Int) ≤ 2 ^ (j + 1) := by
   have : (1 : Nat) ≤ 2 ^ (j + 1) := Nat.one_le_two_pow
   exact_mod_cast this
  have := Int.mul_le_mul_of_nonneg_right hp hW
  omega
theorem pairs_drop {row : List Th} {i : Nat} (h : i + 1 < row.length) : pairsL (row.drop i) = bothT (row.getD i th0) (row.getD (i + 1) th0) :: pairsL (row.drop (i + 2)) := by
 rw [dropG th0 (by omega), dropG th0 (i := i + 1) (by omega), pairsL]
theorem pairs_end {row : List Th} {i : Nat} (h : row.length ≤ i + 1) : pairsL (row.drop i) = [] := by
 rcases Nat.lt_or_ge i row.length with k | k
 ·rw [dropG th0 k, List.drop_eq_nil_of_le (by omega)]; rfl
 rw [List.drop_eq_nil_of_le k]; rfl
theorem two_tot {row : List Th} {i : Nat} (h : i + 1 < row.length) (k : Nat) : (row.getD i th0).f k + (row.getD (i + 1) th0).f k ≤ tot k row := by
 have h1 := tot_drop k i row
 rw [dropG th0 (by omega), dropG th0 (i := i + 1) (by omega), tot_cons, tot_cons] at h1
 omega
set_option maxRecDepth 100000 in
theorem things_ok (x : Value) (cs : List Int) (w : World) (hx : RdE i64V w x cs) (hl : cs.length ≤ 256) : Calls Try.prog 65 [x].toArray w (Rt fun r w' => ∃ rs, SlS thC 257 133 r (thF cs) rs ∧ Mem w [] w' [rs]) := by
 have hM0 : Mem w [] w [] := Mem.nil w []
 refine calls_vc mixed Try.func65 rfl C65 (by simp [Try.ntmps65]) <| seq fun _ h1 => mv <| h1 _ _ <| seq fun _ h2 => mv <| h2 _ _ <| seq fun _ h3 => seq fun _ h4 => mv <| stp (v := .int .i64 (cs.length : Nat)) (o_lenR (hx.upd hM0.upd) rfl rfl) <| stp (v := .int .i64 ((cs.length : Nat) - 1)) (o_bin rfl rfl (v_sub64 (by omega))) <| mv <| h4 _ _ ?_
 have hM5 : Mem w [] w [[]] := hM0.addNil
 have hs5 : SlS thC 257 133 (.slice none 0 0) [] [] := Sl.nil 257 133
 refine lp (n := fun _ _ => False) (ι := (Nat) × (Value) × (List Ent)) (fun ⟨j, y3_, r3_⟩ f w' => f 3 = y3_ ∧ f 4 = .int .i64 ((cs.length : Int) - 1 - (j : Nat)) ∧ f 0 = x ∧ Mem w [] w' [r3_] ∧ (j ≤ cs.length) ∧ ((thsA cs j).length ≤ j) ∧ (SlS thC 257 133 y3_ (thsA cs j) r3_)) (fun ⟨j, y3_, r3_⟩ => cs.length - j) (0, ((.slice none 0 0)), ([])) ?_ ?_
 ·exact ⟨rfl, vi, rfl, hM5, by omega, thsA_len cs 0, by first | exact hs5 | simpa using hs5⟩
 rintro ⟨j, y3_, r3_⟩ f w6 ⟨e6_3, e6_4, e6_0, hM6, hj, hA, hy3_⟩ K7 h7
 obtain ⟨frm, rfl⟩ := re3 e6_3 e6_4 e6_0
 refine seq fun _ h8 => seq fun _ h9 => mv <| bn rfl rfl <| h9 _ _ <| cndP rfl (fun c10 => ?_) (fun c10 => ?_)
 ·refine h8 _ _ <| seq fun _ h11 => seq fun _ h12 => mv <| mv <| m_idxE 0 (j := (cs.length - 1 - j)) (hx.upd hM6.upd) rfl (v_int (by omega)) (by omega) fun b13 o13 hp13 => ld (v := .int .i64 (cs.getD (cs.length - 1 - j) 0)) rfl (hp13) <| bn rfl rfl <| h12 _ _ <| cndP rfl (fun c14 => ?_) (fun c14 => ?_)
  ·refine seq fun _ h15 => mv <| mv <| m_idxE 0 (j := (cs.length - 1 - j)) (hx.upd hM6.upd) rfl (v_int (by omega)) (by omega) fun b16 o16 hp16 => ld (v := .int .i64 (cs.getD (cs.length - 1 - j) 0)) rfl (hp16) <| stp (v := .agg ((thC (⟨(cs.getD (cs.length - 1 - j) 0), fun _ => 0, 0⟩ : Th)).toArray)) (o_bld2 (vs := [(0, 1, .int .i64 (cs.getD (cs.length - 1 - j) 0))]) rfl thC_w rfl) <| m_al hM6 fun b17 w18 (hM18 : Mem w [] w18 [r3_, [⟨b17, 133, (zcOf Try.t133)⟩]]) => m_stA (l := (thC (⟨(cs.getD (cs.length - 1 - j) 0), fun _ => 0, 0⟩ : Th))) hM18 (i := 1) rfl rfl rfl (by simp) (thC_one _) (by simp) fun w19 hm19 => ?_
   have hM19 : Mem w [] w19 [r3_, [⟨b17, 133, (thC (⟨(cs.getD (cs.length - 1 - j) 0), fun _ => 0, 0⟩ : Th))⟩]] := by
    have e : splice (zcOf Try.t133) 0 (thC (⟨(cs.getD (cs.length - 1 - j) 0), fun _ => 0, 0⟩ : Th)) = (thC (⟨(cs.getD (cs.length - 1 - j) 0), fun _ => 0, 0⟩ : Th)) := splice_full (by simp; first | done | (simp) | omega)
    rw [e] at hm19
    exact hm19
   refine h15 _ _ <| seq fun _ h20 => mv <| fa rfl <| stp (v := .pointer (some ⟨b17, 1 + (cs.length - 1 - j), none⟩)) (o_idxa rfl rfl (by omega) (v_ptr (by first | (rw [Int.toNat_natCast, Nat.mul_one]; done) | (simp; done) | omega))) <| m_st (v := .int .u8 1) hM19 (i := 1) rfl rfl rfl rfl (by rw [thC_len]; omega) fun w21 hm21 => ?_
   have hM21 : Mem w [] w21 [r3_, [⟨b17, 133, (thC (one (cs.getD (cs.length - 1 - j) 0) (cs.length - 1 - j)))⟩]] := by
    have e : (thC (⟨(cs.getD (cs.length - 1 - j) 0), fun _ => 0, 0⟩ : Th)).set (1 + (cs.length - 1 - j)) (.int .u8 1) = (thC (one (cs.getD (cs.length - 1 - j) 0) (cs.length - 1 - j))) := thC_set (t := ⟨(cs.getD (cs.length - 1 - j) 0), fun _ => 0, 0⟩) (by omega)
    rw [← e]; exact hm21
   refine h20 _ _ <| mv <| ldA (cs := (thC (one (cs.getD (cs.length - 1 - j) 0) (cs.length - 1 - j)))) rfl (thC_len _) (hM21.at (i := 1) (j := 0) rfl rfl).all <| m_app1S (enc := thC) (q := (one (cs.getD (cs.length - 1 - j) 0) (cs.length - 1 - j))) hM21 (i := 0) rfl hy3_ rfl (by simp) (fill_big (zcTh_len) (thC_len _)) (zcTh_len) (by first | omega | (simp; omega)) (by omega) fun v22 w22 r22 u22 (hs22 : SlS thC 257 133 v22 ((thsA cs j) ++ [(one (cs.getD (cs.length - 1 - j) 0) (cs.length - 1 - j))]) r22) (hM22 : Mem w [] w22 [r22, [⟨b17, 133, (thC (one (cs.getD (cs.length - 1 - j) 0) (cs.length - 1 - j)))⟩]]) => mv <| h11 _ _ <| mv <| stp (v := .int .i64 (((cs.length : Int) - 1 - (j : Nat)) - 1)) (o_bin rfl rfl (v_sub64 (by omega))) <| mv <| h7 (j + 1, v22, r22) _ _ ⟨rfl, vi, rfl, hM22.keep (by simp), by omega, thsA_len cs _, by rw [thsA_yes (by assumption)]; exact hs22⟩ (by (try dsimp only); omega)
  refine h11 _ _ <| mv <| stp (v := .int .i64 (((cs.length : Int) - 1 - (j : Nat)) - 1)) (o_bin rfl rfl (v_sub64 (by omega))) <| mv <| h7 (j + 1, y3_, r3_) _ _ ⟨rfl, vi, rfl, hM6, by omega, thsA_len cs _, by rw [thsA_no (by assumption)]; exact hy3_⟩ (by (try dsimp only); omega)
 refine h3 _ _ <| seq fun _ h23 => mv ?_
 have hje : j = cs.length := by omega
 have hcr := thsA_cr (cs := cs) hl
 rw [← hje] at hcr
 refine m_call (sort_ok _ (thsA cs j) r3_ w6 hy3_ (hM6.res (i := 0) rfl) (by omega) hcr) rfl fun v24 w24 ⟨l24_, r'24, hpS, hqS, hs24, hm24⟩ => ?_
 have hM24 : Mem w [] w24 [r'24] := hM6.step 0 rfl hm24
 refine h23 _ _ <| seq fun _ h25 => mv <| mv <| h25 _ _ <| ⟨y3_, rfl, ?_⟩
 have e : l24_ = thF cs := thF_eq hl (by rw [hje] at hpS; exact hpS) (get_pw th0 fun p q h1 h2 => hqS p q (Nat.zero_le _) h1 (by have := hpS.length_eq; omega))
 exact ⟨_, by rw [← e]; exact hs24, hM24.keep (by simp)⟩
end Go.Proofs.Ytifnmbmijljhfaa.E.Hf
namespace Go.Proofs.Ytifnmbmijljhfaa.E.Hf
open Go
def oftC (t : Th) : List Value := (List.range 256).map fun i => .int .u8 ((t.f i : Nat) : Int)
theorem oft_len (t : Th) : (oftC t).length = 256 := by simp [oftC]
theorem thC_oft (t : Th) : ∀ i, i < (oftC t).length → (thC t)[1 + i]? = (oftC t)[i]? := fun i _ => by
 rw [Nat.add_comm]; rfl
theorem oft_get {t : Th} {i : Nat} (h : i < 256) : (oftC t)[i]? = some (.int .u8 ((t.f i : Nat) : Int)) := by
 unfold oftC; rw [List.getElem?_map, List.getElem?_range h]; rfl
theorem o_idxv {f : Fr} {n : Nat} {x i : Operand} {cs : List Value} {k : IntKind} {j : Nat} {v : Value} (hx : ev f x = .agg cs.toArray) (hi : ev f i = .int k (j : Nat)) (hj : j < n) (hv : cs[j]? = some v) : PeV (.idxv n 1 false x i) f v := fun K h => by
 show kagg (ev f x) _; rw [hx]; show anyint (ev f i) _; rw [hi]
 refine ⟨by omega, ?_⟩
 show match cs.toArray[((j : Nat) : Int).toNat * 1]? with | some v => K v | none => False
 rw [Int.toNat_natCast, Nat.mul_one, List.getElem?_toArray, hv]; exact h
def accT (a b : Th) (i : Nat) : Th := ⟨a.w + b.w, fun k => if k < i then a.f k + b.f k else a.f k, 0⟩
theorem thC_ext {t u : Th} (h : t.w = u.w) (h2 : ∀ k, k < 256 → t.f k = u.f k) : thC t = thC u := by
 unfold thC
 rw [h]
 congr 1
 apply List.map_congr_left
 intro k hk
 rw [h2 k (List.mem_range.1 hk)]
theorem acc_zero {a b : Th} : (thC a).set 0 (.int .i64 (a.w + b.w)) = thC (accT a b 0) := by
 show thC ⟨a.w + b.w, a.f, 0⟩ = _
 exact thC_ext rfl fun k _ => by simp [accT]
theorem acc_cell {a b : Th} {i : Nat} (h : i < 256) : (thC (accT a b i))[1 + i]? = some (.int .u8 ((a.f i : Nat) : Int)) := by
 rw [thC_cell h]; simp [accT]
theorem acc_set {a b : Th} {i : Nat} (h : i < 256) : (thC (accT a b i)).set (1 + i) (.int .u8 ((a.f i + b.f i : Nat) : Int)) = thC (accT a b (i + 1)) := by
 rw [thC_set (r := 0) h]
 refine thC_ext rfl fun k _ => ?_
 show (if k = i then a.f i + b.f i else if k < i then a.f k + b.f k else a.f k) = if k < i + 1 then a.f k + b.f k else a.f k
 by_cases c : k = i
 ·subst c; simp
 rw [if_neg c]
 by_cases c2 : k < i
 ·rw [if_pos c2, if_pos (by omega)]
 rw [if_neg c2, if_neg (by omega)]
theorem acc_end {a b : Th} : thC (accT a b 256) = thC (bothT a b) := thC_ext rfl fun k hk => by
 show (if k < 256 then _ else _) = _
 rw [if_pos hk]; rfl
theorem merge_T {fs ps : List Th} {p : Th} (h0 : 0 < fs.length) (h : (fs.getD 0 th0).w ≤ p.w) : mergeL fs (p :: ps) = fs.getD 0 th0 :: mergeL (fs.drop 1) (p :: ps) := by
 cases fs with
 | nil => simp at h0
 | cons f fs => exact mergeL_le h
theorem merge_F {fs ps : List Th} {p : Th} (h : fs.length = 0 ∨ ¬ (fs.getD 0 th0).w ≤ p.w) : mergeL fs (p :: ps) = p :: mergeL fs ps := by
 cases fs with
 | nil => rw [mergeL_nilL, mergeL_nilL]
 | cons f fs =>
  rcases h with h | h
  ·simp at h
  exact mergeL_gt h
section
variable {P : Program} {r : List MI} {f : Fr} {w w0 : World} {S : List Nat} {R : List (List Ent)} {K : Fr → World → Prop} {d : Nat}
theorem m_alU {t : TypeId} {cs : List Value} (hM : Mem w0 S w R) (h : ∀ b w', Upd [] w w' → Mem w0 S w' (R ++ [[⟨b, t, cs⟩]]) → vr P r (upd f d (.pointer (some ⟨b, 0, none⟩))) w' K) : vr P (.l none (some d) (.al t cs) :: r) f w K :=
 m_al (Mem.nil w []) fun b w' hM' => h b w' hM'.upd (hM.add hM')
end
set_option maxHeartbeats 2000000 in
set_option maxRecDepth 100000 in
theorem both_ok (a b : Th) (w : World) (hf : ∀ k, k < 256 → a.f k + b.f k ≤ 255) (hw : -4611686018427387904 ≤ a.w + b.w ∧ a.w + b.w ≤ 4611686018427387904) : Calls Try.prog 75 [.agg (thC a).toArray, .agg (thC b).toArray].toArray w (Rt fun r w' => r = .agg (thC (bothT a b)).toArray ∧ Upd [] w w') := by
 have hM0 : Mem w [] w [] := Mem.nil w []
 refine calls_vc mixed Try.func75 rfl C75 (by simp [Try.ntmps75]) <| seq fun _ h1 => m_bx (v := .agg ((thC a).toArray)) hM0 rfl rfl fun b2 w3 (hM3 : Mem w [] w3 [[⟨b2, 133, (thC a)⟩]]) => m_bx (v := .agg ((thC b).toArray)) hM3 rfl rfl fun b4 w5 (hM5 : Mem w [] w5 [[⟨b2, 133, (thC a)⟩], [⟨b4, 133, (thC b)⟩]]) => m_al hM5 fun b6 w7 (hM7 : Mem w [] w7 [[⟨b2, 133, (thC a)⟩], [⟨b4, 133, (thC b)⟩], [⟨b6, 133, (zcOf Try.t133)⟩]]) => h1 _ _ <| seq fun _ h8 => fa rfl <| m_ld (v := .int .i64 a.w) hM7 (i := 0) (j := 0) rfl rfl rfl rfl <| fa rfl <| m_ld (v := .int .i64 b.w) hM7 (i := 1) (j := 0) rfl rfl rfl rfl <| stp (v := .int .i64 (a.w + b.w)) (o_bin rfl rfl (v_add64 (by omega))) <| fa rfl <| m_st (v := .int .i64 (a.w + b.w)) hM7 (i := 0) rfl rfl rfl rfl (by simp) fun w9 hm9 => ?_
 have hM9 : Mem w [] w9 [[⟨b2, 133, (thC (accT a b 0))⟩], [⟨b4, 133, (thC b)⟩], [⟨b6, 133, (zcOf Try.t133)⟩]] := by
  have e : (thC a).set 0 (.int .i64 (a.w + b.w)) = (thC (accT a b 0)) := acc_zero
  rw [← e]; exact hm9
 refine h8 _ _ <| seq fun _ h10 => seq fun _ h11 => fa rfl <| ldA (cs := (oftC b)) rfl (by first | rfl | (first | exact oft_len _ | exact thC_len _)) ((hM9.at (i := 1) (j := 0) rfl rfl).row (l := oftC b) (thC_oft b)) <| mv <| h11 _ _ <| lp (n := fun _ _ => False) (ι := (Nat)) (fun i f w' => f 15 = .int .i64 (i : Nat) ∧ f 2 = .pointer (some ⟨b2, 0, none⟩) ∧ f 4 = .pointer (some ⟨b6, 0, none⟩) ∧ f 14 = .agg ((oftC b).toArray) ∧ Mem w [] w' [[⟨b2, 133, (thC (accT a b i))⟩], [⟨b4, 133, (thC b)⟩], [⟨b6, 133, (zcOf Try.t133)⟩]] ∧ (i ≤ 256)) (fun i => 256 - i) (0) ?_ ?_
 ·exact ⟨vi, rfl, rfl, by first | rfl | simp [upd], hM9, by omega⟩
 rintro i f w12 ⟨e12_15, e12_2, e12_4, e12_14, hM12, hi⟩ K13 h13
 obtain ⟨frm, rfl⟩ := re4 e12_15 e12_2 e12_4 e12_14
 refine seq fun _ h14 => bn rfl rfl <| h14 _ _ <| seq fun _ h15 => cndP rfl (fun c16 => ?_) (fun c16 => ?_)
 ·refine h15 _ _ <| seq fun _ h17 => seq fun _ h18 => mv <| stp (v := .int .u8 (b.f i : Nat)) (o_idxv (cs := oftC b) rfl rfl (by omega) (oft_get (by omega))) <| mv <| mv <| h18 _ _ <| mv <| fa rfl <| stp (v := .pointer (some ⟨b2, 1 + i, none⟩)) (o_idxa rfl rfl (by omega) (v_ptr (by first | (rw [Int.toNat_natCast, Nat.mul_one]; done) | (simp; done) | omega))) <| ld (v := .int .u8 (a.f i : Nat)) rfl (((hM12.at (i := 0) (j := 0) rfl rfl).cell _).trans (acc_cell (by omega))) <| mv ?_
  have hfi := hf i (by omega)
  refine stp (v := .int .u8 (a.f i + b.f i : Nat)) (o_bin rfl rfl ((v_same (by simp only [inK]; omega)).trans (v_int (by omega)))) <| fa rfl <| stp (v := .pointer (some ⟨b2, 1 + i, none⟩)) (o_idxa rfl rfl (by omega) (v_ptr (by first | (rw [Int.toNat_natCast, Nat.mul_one]; done) | (simp; done) | omega))) <| m_st (v := .int .u8 (a.f i + b.f i : Nat)) hM12 (i := 0) rfl rfl rfl rfl (by rw [thC_len]; omega) fun w19 hm19 => ?_
  have hM19 : Mem w [] w19 [[⟨b2, 133, (thC (accT a b (i + 1)))⟩], [⟨b4, 133, (thC b)⟩], [⟨b6, 133, (zcOf Try.t133)⟩]] := by
   have e : (thC (accT a b i)).set (1 + i) (.int .u8 (a.f i + b.f i : Nat)) = (thC (accT a b (i + 1))) := acc_set (by omega)
   rw [← e]; exact hm19
  refine h17 _ _ <| stp (v := .int .i64 ((i : Nat) + 1)) (o_bin rfl rfl (v_add64 (by omega))) <| mv <| h13 (i + 1) _ _ ⟨vi, rfl, rfl, by first | rfl | simp [upd], hM19, by omega⟩ (by (try dsimp only); omega)
 refine h10 _ _ <| seq fun _ h20 => ?_
 have hie : i = 256 := by omega
 refine ldA (cs := (thC (accT a b i))) rfl (thC_len _) (hM12.at (i := 0) (j := 0) rfl rfl).all <| m_stA (l := (thC (accT a b i))) hM12 (i := 2) rfl rfl rfl (by simp) (thC_one _) (by simp) fun w21 hm21 => ?_
 have hM21 : Mem w [] w21 [[⟨b2, 133, (thC (accT a b i))⟩], [⟨b4, 133, (thC b)⟩], [⟨b6, 133, (thC (accT a b i))⟩]] := by
  have e : splice (zcOf Try.t133) 0 (thC (accT a b i)) = (thC (accT a b i)) := splice_full (by simp; first | done | (simp) | omega)
  rw [e] at hm21
  exact hm21
 refine h20 _ _ ?_
 show resV _ _ _ _ _
 refine res_cell (s := some 257) (by kernel_rfl) <| vl_ldA (cs := (thC (accT a b i))) rfl (by (first | exact oft_len _ | exact thC_len _)) (hM21.at (i := 2) (j := 0) rfl rfl).all <| ⟨(.agg (((thC (accT a b i))).toArray)), rfl, ⟨by rw [hie, acc_end], hM21.upd⟩⟩
set_option maxHeartbeats 1000000 in
set_option maxRecDepth 100000 in
theorem next_ok (x y : Value) (fs row : List Th) (W : Int) (w : World) (hx : RdS thC w x fs) (hy : RdS thC w y row) (hfl : fs.length ≤ 256) (hrl : row.length ≤ 512) (hW : W ≤ 1152921504606846976) (hw : wB W row) (ht : ∀ k, k < 256 → tot k row ≤ 255) : Calls Try.prog 66 [x, y].toArray w (Rt fun r w' => ∃ rs, SlS thC 257 133 r (mergeL fs (pairsL row)) rs ∧ Mem w [] w' [rs]) := by
 have hM0 : Mem w [] w [] := Mem.nil w []
 refine calls_vc mixed Try.func66 rfl C66 (by simp [Try.ntmps66]) <| seq fun _ h1 => mv <| h1 _ _ <| seq fun _ h2 => mv <| stp (v := .int .i64 (fs.length : Nat)) (o_lenR (hx.upd hM0.upd) rfl rfl) <| mv <| stp (v := .int .i64 (row.length : Nat)) (o_lenR (hy.upd hM0.upd) rfl rfl) <| stp (v := .int .i64 (row.length / 2 : Nat)) (o_quo rfl rfl (by omega) ((v_quo (by omega) (by omega) (by simp only [inK]; omega)).trans (v_int (by omega)))) <| stp (v := .int .i64 ((fs.length : Nat) + (row.length / 2 : Nat))) (o_bin rfl rfl (v_add64 (by omega))) <| m_mksS (enc := thC) (z := th0) (n := 0) (c := (fs.length + row.length / 2)) (zcTh) hM0 (v_int (by omega)) (v_int (by omega)) (by omega) (by omega) (by omega) fun v3 w3 r3 hs3 (hM3 : Mem w [] w3 [r3]) => mv <| h2 _ _ ?_
 refine seq fun _ h4 => seq fun _ h5 => mv <| h5 _ _ <| lp (n := fun _ _ => False) (ι := (Nat) × (List Th) × (Value) × (List Th) × (Value) × (List Ent)) (fun ⟨i, lo, x1, f1, y5_, r5_⟩ f w' => f 0 = x1 ∧ f 5 = y5_ ∧ f 6 = .int .i64 (i : Nat) ∧ f 1 = y ∧ Mem w [] w' [r5_] ∧ (RdS thC w x1 f1) ∧ (i ≤ row.length + 1) ∧ (f1.length ≤ fs.length) ∧ (lo.length ≤ fs.length - f1.length + i) ∧ (lo ++ mergeL f1 (pairsL (row.drop i)) = mergeL fs (pairsL row)) ∧ (SlS thC 257 133 y5_ (lo) r5_)) (fun ⟨i, lo, x1, f1, y5_, r5_⟩ => row.length + 1 - i) (0, [], x, fs, v3, r3) ?_ ?_
 ·exact ⟨rfl, rfl, vi, rfl, hM3, hx, by omega, by omega, by simp, by rw [List.drop_zero, List.nil_append], by first | exact hs3 | simpa using hs3⟩
 rintro ⟨i, lo, x1, f1, y5_, r5_⟩ f w6 ⟨e6_0, e6_5, e6_6, e6_1, hM6, hx1, hi, hf1, hlo, hL, hy5_⟩ K7 h7
 obtain ⟨frm, rfl⟩ := re4 e6_0 e6_5 e6_6 e6_1
 refine seq fun _ h8 => seq fun _ h9 => mv <| stp (v := .int .i64 ((i : Nat) + 1)) (o_bin rfl rfl (v_add64 (by omega))) <| mv <| stp (v := .int .i64 (row.length : Nat)) (o_lenR (hy.upd hM6.upd) rfl rfl) <| bn rfl rfl <| h9 _ _ <| cndP rfl (fun c10 => ?_) (fun c10 => ?_)
 ·refine h8 _ _ <| seq fun _ h11 => seq fun _ h12 => ?_
  intro wd e1 e2 e3 e4
  have hd := Upd.same e1 e2 e3 e4 []
  have hM13 := hM6.pure hd
  clear e1 e2 e3 e4
  refine ⟨(some [(blkV y)]), ?_⟩
  show vd _ _ _ _ _ _ _
  have hw1 := hw _ (getD_memG th0 (l := row) (i := i) (by omega))
  have hw2 := hw _ (getD_memG th0 (l := row) (i := i + 1) (by omega))
  refine dmv <| dmv <| dqp (m_idxS3 th0 (j := i) (hy.upd hM13.upd) (hy.upd hM13.upd) rfl rfl (by omega) fun b14 o14 hp14 hbb14 => ?_)
  show vd _ _ _ _ _ _ _
  subst hbb14
  refine dmv <| dmv <| dq (v := .int .i64 ((i : Nat) + 1)) (o_bin rfl rfl (v_add64 (by omega))) <| dqp (m_idxS3 th0 (j := (i + 1)) (hy.upd hM13.upd) (hy.upd hM13.upd) rfl (v_int (by omega)) (by omega) fun b15 o15 hp15 hbb15 => ?_)
  show vd _ _ _ _ _ _ _
  subst hbb15
  refine dqldA (cs := thC (row.getD (i + 1) th0)) rfl (by simp [isHeld]) (thC_len _) (hp15.all) <| dqldA (cs := thC (row.getD i th0)) rfl (by simp [isHeld]) (thC_len _) (hp14.all) ?_
  show _ ∧ _
  refine ⟨?_, ?_⟩
  ·show vd _ _ _ _ _ _ _
   refine dl (m_call (both_ok (row.getD i th0) (row.getD (i + 1) th0) wd (fun k hk => Nat.le_trans (two_tot (by omega) k) (ht k hk)) (by omega)) rfl fun v16 w16 ⟨hr16, hu16⟩ => ?_)
   have hM16 : Mem w [] w16 [r5_] := hM13.pure hu16
   subst hr16
   have hh16 := held_upd (wr := wd) (bs := [(blkV y)]) hu16 (fun b hb => by
    simp only [List.mem_cons, List.not_mem_nil, or_false] at hb
    rw [hb]; exact ⟨Rd.blkV_ltS (hy.upd hM13.upd) (by omega), by simp⟩) (fun b hb => rfl)
   refine ⟨hh16, dl (m_alU hM16 fun b17 w18 hup18 (hM18 : Mem w [] w18 [r5_, [⟨b17, 133, (zcOf Try.t133)⟩]]) => ?_)⟩
   have hh18 := held_upd (wr := wd) (bs := [(blkV y)]) hup18 (fun b hb => by
    simp only [List.mem_cons, List.not_mem_nil, or_false] at hb
    rw [hb]; exact ⟨Rd.blkV_ltS (hy.upd hM16.upd) (by omega), by simp⟩) hh16
   refine ⟨hh18, dl (m_stAU (l := (thC (bothT (row.getD i th0) (row.getD (i + 1) th0)))) hM18 (i := 1) rfl rfl rfl (by simp) (thC_one _) (by simp) fun w19 hup19 hm19 => ?_)⟩
   have hh19 := held_upd (wr := wd) (bs := [(blkV y)]) hup19 (fun b hb => by
    simp only [List.mem_cons, List.not_mem_nil, or_false] at hb
    rw [hb]; exact ⟨Rd.blkV_ltS (hy.upd hM18.upd) (by omega), hM18.old (i := 1) rfl (Rd.blkV_ltS hy (by omega))⟩) hh18
   refine ⟨hh19, ?_⟩
   have hM19 : Mem w [] w19 [r5_, [⟨b17, 133, (thC (bothT (row.getD i th0) (row.getD (i + 1) th0)))⟩]] := by
    have e : splice (zcOf Try.t133) 0 (thC (bothT (row.getD i th0) (row.getD (i + 1) th0))) = (thC (bothT (row.getD i th0) (row.getD (i + 1) th0))) := splice_full (by simp; first | done | (simp) | omega)
    rw [e] at hm19
    exact hm19
   refine h12 _ _ <| seq fun _ h20 => lp (n := fun _ _ => False) (ι := (List Th) × (Value) × (List Th) × (Value) × (List Ent)) (fun ⟨l2, x2, f2, y5_, r5_⟩ f w' => f 0 = x2 ∧ f 5 = y5_ ∧ f 1 = y ∧ f 6 = .int .i64 (i : Nat) ∧ f 7 = .pointer (some ⟨b17, 0, none⟩) ∧ Mem w [] w' [r5_, [⟨b17, 133, (thC (bothT (row.getD i th0) (row.getD (i + 1) th0)))⟩]] ∧ (RdS thC w x2 f2) ∧ (f2.length ≤ fs.length) ∧ (l2.length ≤ fs.length - f2.length + i) ∧ (l2 ++ mergeL f2 ((bothT (row.getD i th0) (row.getD (i + 1) th0)) :: pairsL (row.drop (i + 2))) = mergeL fs (pairsL row)) ∧ (SlS thC 257 133 y5_ (l2) r5_)) (fun ⟨l2, x2, f2, y5_, r5_⟩ => f2.length) (lo, x1, f1, y5_, r5_) ?_ ?_
   ·exact ⟨rfl, rfl, rfl, vi, rfl, hM19, hx1, by omega, by omega, by rw [← pairs_drop (by omega)]; exact hL, by first | exact hy5_ | simpa using hy5_⟩
   rintro ⟨l2, x2, f2, y5_, r5_⟩ f w21 ⟨e21_0, e21_5, e21_1, e21_6, e21_7, hM21, hx2, hf2, hl2, hL2, hy5_⟩ K22 h22
   obtain ⟨frm, rfl⟩ := re5 e21_0 e21_5 e21_1 e21_6 e21_7
   refine seq fun _ h23 => seq fun _ h24 => ?_
   intro wd e1 e2 e3 e4
   have hd := Upd.same e1 e2 e3 e4 []
   have hM25 := hM21.pure hd
   clear e1 e2 e3 e4
   refine ⟨none, ?_⟩
   show vd _ _ _ _ _ _ _
   refine dmv <| dq (v := .int .i64 (f2.length : Nat)) (o_lenR (hx2.upd hM25.upd) rfl rfl) <| dbn rfl rfl <| dmv <| dsplitP rfl (fun c26 => ?_) (fun c26 => ?_)
   ·refine dgmv rfl <| dgyes rfl rfl (dqp (m_idxS th0 (j := 0) (hx2.upd hM25.upd) rfl rfl (by omega) fun b27 o27 hp27 => ?_))
    show vd _ _ _ _ _ _ _
    refine dgfa rfl rfl <| dgfa rfl rfl <| dqgyes rfl rfl <| dqld rfl (trivial) (v := .int .i64 ((bothT (row.getD i th0) (row.getD (i + 1) th0)).w)) ((hM25.at (i := 1) (j := 0) rfl rfl).cell 0) <| dgyesl rfl <| dl (ld (v := .int .i64 ((f2.getD 0 th0).w)) rfl (hp27.get 0 rfl) <| ⟨rfl, dgbn rfl rfl rfl <| dpkT rfl <| h24 _ _ <| cndP rfl (fun c28 => ?_) (fun c28 => ?_)⟩)
    ·refine h23 _ _ <| seq fun _ h29 => mv <| mv <| m_idxS th0 (j := 0) (hx2.upd hM25.upd) rfl rfl (by omega) fun b30 o30 hp30 => ldA (cs := thC (f2.getD 0 th0)) rfl (thC_len _) (hp30.all) <| m_app1S (enc := thC) (q := f2.getD 0 th0) hM25 (i := 0) rfl hy5_ rfl (by simp) (fill_big (zcTh_len) (thC_len _)) (zcTh_len) (by first | omega | (simp; omega)) (by omega) fun v31 w31 r31 u31 (hs31 : SlS thC 257 133 v31 (l2 ++ [f2.getD 0 th0]) r31) (hM31 : Mem w [] w31 [r31, [⟨b17, 133, (thC (bothT (row.getD i th0) (row.getD (i + 1) th0)))⟩]]) => mv <| h29 _ _ <| mv <| m_slcES (enc := thC) 1 f2.length (hx2) rfl (by first | omega | (simp; done) | (simp; omega)) (by first | omega | (simp; done) | (simp; omega)) rfl ⟨_, rfl⟩ fun u32 hu32 => mv <| h22 (l2 ++ [f2.getD 0 th0], u32, f2.drop 1, v31, r31) _ _ ⟨rfl, rfl, rfl, vi, rfl, hM31.keep (by simp), by have h9 := hu32; rw [List.take_length] at h9; exact h9, by rw [List.length_drop]; omega, by rw [List.length_append, List.length_drop]; simp only [List.length_cons, List.length_nil]; omega, by rw [List.append_assoc, List.singleton_append, ← merge_T (by omega) (by assumption)]; exact hL2, by first | exact hs31 | simpa using hs31⟩ (by (try dsimp only); rw [List.length_drop]; omega)
    refine h20 _ _ <| mv <| ldA (cs := (thC (bothT (row.getD i th0) (row.getD (i + 1) th0)))) rfl (thC_len _) (hM25.at (i := 1) (j := 0) rfl rfl).all <| m_app1S (enc := thC) (q := (bothT (row.getD i th0) (row.getD (i + 1) th0))) hM25 (i := 0) rfl hy5_ rfl (by simp) (fill_big (zcTh_len) (thC_len _)) (zcTh_len) (by first | omega | (simp; omega)) (by omega) fun v33 w33 r33 u33 (hs33 : SlS thC 257 133 v33 (l2 ++ [(bothT (row.getD i th0) (row.getD (i + 1) th0))]) r33) (hM33 : Mem w [] w33 [r33, [⟨b17, 133, (thC (bothT (row.getD i th0) (row.getD (i + 1) th0)))⟩]]) => mv <| h11 _ _ <| mv <| stp (v := .int .i64 ((i : Nat) + 2)) (o_bin rfl rfl (v_add64 (by omega))) <| mv <| h7 (i + 2, l2 ++ [(bothT (row.getD i th0) (row.getD (i + 1) th0))], x2, f2, v33, r33) _ _ ⟨rfl, rfl, vi, rfl, hM33.keep (by simp), hx2, by omega, by omega, by rw [List.length_append]; simp only [List.length_cons, List.length_nil]; omega, by rw [List.append_assoc, List.singleton_append, ← merge_F (.inr (by assumption))]; exact hL2, by first | exact hs33 | simpa using hs33⟩ (by (try dsimp only); omega)
   refine dx rfl <| dx rfl <| dx rfl <| dx rfl <| dxq rfl <| dxl rfl <| dx rfl <| dpkF rfl <| h24 _ _ <| cndF rfl <| h20 _ _ <| mv <| ldA (cs := (thC (bothT (row.getD i th0) (row.getD (i + 1) th0)))) rfl (thC_len _) (hM25.at (i := 1) (j := 0) rfl rfl).all <| m_app1S (enc := thC) (q := (bothT (row.getD i th0) (row.getD (i + 1) th0))) hM25 (i := 0) rfl hy5_ rfl (by simp) (fill_big (zcTh_len) (thC_len _)) (zcTh_len) (by first | omega | (simp; omega)) (by omega) fun v34 w34 r34 u34 (hs34 : SlS thC 257 133 v34 (l2 ++ [(bothT (row.getD i th0) (row.getD (i + 1) th0))]) r34) (hM34 : Mem w [] w34 [r34, [⟨b17, 133, (thC (bothT (row.getD i th0) (row.getD (i + 1) th0)))⟩]]) => mv <| h11 _ _ <| mv <| stp (v := .int .i64 ((i : Nat) + 2)) (o_bin rfl rfl (v_add64 (by omega))) <| mv <| h7 (i + 2, l2 ++ [(bothT (row.getD i th0) (row.getD (i + 1) th0))], x2, f2, v34, r34) _ _ ⟨rfl, rfl, vi, rfl, hM34.keep (by simp), hx2, by omega, by omega, by rw [List.length_append]; simp only [List.length_cons, List.length_nil]; omega, by rw [List.append_assoc, List.singleton_append, ← merge_F (.inl (by omega))]; exact hL2, by first | exact hs34 | simpa using hs34⟩ (by (try dsimp only); omega)
  show vd _ _ _ _ _ _ _
  refine dl (m_alU hM13 fun b35 w36 hup36 (hM36 : Mem w [] w36 [r5_, [⟨b35, 133, (zcOf Try.t133)⟩]]) => ?_)
  have hh36 := held_upd (wr := wd) (bs := [(blkV y)]) hup36 (fun b hb => by
   simp only [List.mem_cons, List.not_mem_nil, or_false] at hb
   rw [hb]; exact ⟨Rd.blkV_ltS (hy.upd hM13.upd) (by omega), by simp⟩) (fun b hb => rfl)
  refine ⟨hh36, dl (m_call (both_ok (row.getD i th0) (row.getD (i + 1) th0) w36 (fun k hk => Nat.le_trans (two_tot (by omega) k) (ht k hk)) (by omega)) rfl fun v37 w37 ⟨hr37, hu37⟩ => ?_)⟩
  have hM37 : Mem w [] w37 [r5_, [⟨b35, 133, (zcOf Try.t133)⟩]] := hM36.pure hu37
  subst hr37
  have hh37 := held_upd (wr := wd) (bs := [(blkV y)]) hu37 (fun b hb => by
   simp only [List.mem_cons, List.not_mem_nil, or_false] at hb
   rw [hb]; exact ⟨Rd.blkV_ltS (hy.upd hM36.upd) (by omega), by simp⟩) hh36
  refine ⟨hh37, dl (m_stAU (l := (thC (bothT (row.getD i th0) (row.getD (i + 1) th0)))) hM37 (i := 1) rfl rfl rfl (by simp) (thC_one _) (by simp) fun w38 hup38 hm38 => ?_)⟩
  have hh38 := held_upd (wr := wd) (bs := [(blkV y)]) hup38 (fun b hb => by
   simp only [List.mem_cons, List.not_mem_nil, or_false] at hb
   rw [hb]; exact ⟨Rd.blkV_ltS (hy.upd hM37.upd) (by omega), hM37.old (i := 1) rfl (Rd.blkV_ltS hy (by omega))⟩) hh37
  refine ⟨hh38, ?_⟩
  have hM38 : Mem w [] w38 [r5_, [⟨b35, 133, (thC (bothT (row.getD i th0) (row.getD (i + 1) th0)))⟩]] := by
   have e : splice (zcOf Try.t133) 0 (thC (bothT (row.getD i th0) (row.getD (i + 1) th0))) = (thC (bothT (row.getD i th0) (row.getD (i + 1) th0))) := splice_full (by simp; first | done | (simp) | omega)
   rw [e] at hm38
   exact hm38
  refine h12 _ _ <| seq fun _ h39 => lp (n := fun _ _ => False) (ι := (List Th) × (Value) × (List Th) × (Value) × (List Ent)) (fun ⟨l2, x2, f2, y5_, r5_⟩ f w' => f 0 = x2 ∧ f 5 = y5_ ∧ f 1 = y ∧ f 6 = .int .i64 (i : Nat) ∧ f 7 = .pointer (some ⟨b35, 0, none⟩) ∧ Mem w [] w' [r5_, [⟨b35, 133, (thC (bothT (row.getD i th0) (row.getD (i + 1) th0)))⟩]] ∧ (RdS thC w x2 f2) ∧ (f2.length ≤ fs.length) ∧ (l2.length ≤ fs.length - f2.length + i) ∧ (l2 ++ mergeL f2 ((bothT (row.getD i th0) (row.getD (i + 1) th0)) :: pairsL (row.drop (i + 2))) = mergeL fs (pairsL row)) ∧ (SlS thC 257 133 y5_ (l2) r5_)) (fun ⟨l2, x2, f2, y5_, r5_⟩ => f2.length) (lo, x1, f1, y5_, r5_) ?_ ?_
  ·exact ⟨rfl, rfl, rfl, vi, rfl, hM38, hx1, by omega, by omega, by rw [← pairs_drop (by omega)]; exact hL, by first | exact hy5_ | simpa using hy5_⟩
  rintro ⟨l2, x2, f2, y5_, r5_⟩ f w40 ⟨e40_0, e40_5, e40_1, e40_6, e40_7, hM40, hx2, hf2, hl2, hL2, hy5_⟩ K41 h41
  obtain ⟨frm, rfl⟩ := re5 e40_0 e40_5 e40_1 e40_6 e40_7
  refine seq fun _ h42 => seq fun _ h43 => ?_
  intro wd e1 e2 e3 e4
  have hd := Upd.same e1 e2 e3 e4 []
  have hM44 := hM40.pure hd
  clear e1 e2 e3 e4
  refine ⟨none, ?_⟩
  show vd _ _ _ _ _ _ _
  refine dmv <| dq (v := .int .i64 (f2.length : Nat)) (o_lenR (hx2.upd hM44.upd) rfl rfl) <| dbn rfl rfl <| dmv <| dsplitP rfl (fun c45 => ?_) (fun c45 => ?_)
  ·refine dgmv rfl <| dgyes rfl rfl (dqp (m_idxS th0 (j := 0) (hx2.upd hM44.upd) rfl rfl (by omega) fun b46 o46 hp46 => ?_))
   show vd _ _ _ _ _ _ _
   refine dgfa rfl rfl <| dgfa rfl rfl <| dqgyes rfl rfl <| dqld rfl (trivial) (v := .int .i64 ((bothT (row.getD i th0) (row.getD (i + 1) th0)).w)) ((hM44.at (i := 1) (j := 0) rfl rfl).cell 0) <| dgyesl rfl <| dl (ld (v := .int .i64 ((f2.getD 0 th0).w)) rfl (hp46.get 0 rfl) <| ⟨rfl, dgbn rfl rfl rfl <| dpkT rfl <| h43 _ _ <| cndP rfl (fun c47 => ?_) (fun c47 => ?_)⟩)
   ·refine h42 _ _ <| seq fun _ h48 => mv <| mv <| m_idxS th0 (j := 0) (hx2.upd hM44.upd) rfl rfl (by omega) fun b49 o49 hp49 => ldA (cs := thC (f2.getD 0 th0)) rfl (thC_len _) (hp49.all) <| m_app1S (enc := thC) (q := f2.getD 0 th0) hM44 (i := 0) rfl hy5_ rfl (by simp) (fill_big (zcTh_len) (thC_len _)) (zcTh_len) (by first | omega | (simp; omega)) (by omega) fun v50 w50 r50 u50 (hs50 : SlS thC 257 133 v50 (l2 ++ [f2.getD 0 th0]) r50) (hM50 : Mem w [] w50 [r50, [⟨b35, 133, (thC (bothT (row.getD i th0) (row.getD (i + 1) th0)))⟩]]) => mv <| h48 _ _ <| mv <| m_slcES (enc := thC) 1 f2.length (hx2) rfl (by first | omega | (simp; done) | (simp; omega)) (by first | omega | (simp; done) | (simp; omega)) rfl ⟨_, rfl⟩ fun u51 hu51 => mv <| h41 (l2 ++ [f2.getD 0 th0], u51, f2.drop 1, v50, r50) _ _ ⟨rfl, rfl, rfl, vi, rfl, hM50.keep (by simp), by have h9 := hu51; rw [List.take_length] at h9; exact h9, by rw [List.length_drop]; omega, by rw [List.length_append, List.length_drop]; simp only [List.length_cons, List.length_nil]; omega, by rw [List.append_assoc, List.singleton_append, ← merge_T (by omega) (by assumption)]; exact hL2, by first | exact hs50 | simpa using hs50⟩ (by (try dsimp only); rw [List.length_drop]; omega)
   refine h39 _ _ <| mv <| ldA (cs := (thC (bothT (row.getD i th0) (row.getD (i + 1) th0)))) rfl (thC_len _) (hM44.at (i := 1) (j := 0) rfl rfl).all <| m_app1S (enc := thC) (q := (bothT (row.getD i th0) (row.getD (i + 1) th0))) hM44 (i := 0) rfl hy5_ rfl (by simp) (fill_big (zcTh_len) (thC_len _)) (zcTh_len) (by first | omega | (simp; omega)) (by omega) fun v52 w52 r52 u52 (hs52 : SlS thC 257 133 v52 (l2 ++ [(bothT (row.getD i th0) (row.getD (i + 1) th0))]) r52) (hM52 : Mem w [] w52 [r52, [⟨b35, 133, (thC (bothT (row.getD i th0) (row.getD (i + 1) th0)))⟩]]) => mv <| h11 _ _ <| mv <| stp (v := .int .i64 ((i : Nat) + 2)) (o_bin rfl rfl (v_add64 (by omega))) <| mv <| h7 (i + 2, l2 ++ [(bothT (row.getD i th0) (row.getD (i + 1) th0))], x2, f2, v52, r52) _ _ ⟨rfl, rfl, vi, rfl, hM52.keep (by simp), hx2, by omega, by omega, by rw [List.length_append]; simp only [List.length_cons, List.length_nil]; omega, by rw [List.append_assoc, List.singleton_append, ← merge_F (.inr (by assumption))]; exact hL2, by first | exact hs52 | simpa using hs52⟩ (by (try dsimp only); omega)
  refine dx rfl <| dx rfl <| dx rfl <| dx rfl <| dxq rfl <| dxl rfl <| dx rfl <| dpkF rfl <| h43 _ _ <| cndF rfl <| h39 _ _ <| mv <| ldA (cs := (thC (bothT (row.getD i th0) (row.getD (i + 1) th0)))) rfl (thC_len _) (hM44.at (i := 1) (j := 0) rfl rfl).all <| m_app1S (enc := thC) (q := (bothT (row.getD i th0) (row.getD (i + 1) th0))) hM44 (i := 0) rfl hy5_ rfl (by simp) (fill_big (zcTh_len) (thC_len _)) (zcTh_len) (by first | omega | (simp; omega)) (by omega) fun v53 w53 r53 u53 (hs53 : SlS thC 257 133 v53 (l2 ++ [(bothT (row.getD i th0) (row.getD (i + 1) th0))]) r53) (hM53 : Mem w [] w53 [r53, [⟨b35, 133, (thC (bothT (row.getD i th0) (row.getD (i + 1) th0)))⟩]]) => mv <| h11 _ _ <| mv <| stp (v := .int .i64 ((i : Nat) + 2)) (o_bin rfl rfl (v_add64 (by omega))) <| mv <| h7 (i + 2, l2 ++ [(bothT (row.getD i th0) (row.getD (i + 1) th0))], x2, f2, v53, r53) _ _ ⟨rfl, rfl, vi, rfl, hM53.keep (by simp), hx2, by omega, by omega, by rw [List.length_append]; simp only [List.length_cons, List.length_nil]; omega, by rw [List.append_assoc, List.singleton_append, ← merge_F (.inl (by omega))]; exact hL2, by first | exact hs53 | simpa using hs53⟩ (by (try dsimp only); omega)
 refine h4 _ _ <| seq fun _ h54 => mv <| mv <| m_appS' (enc := thC) hM6 (i := 0) rfl hy5_ rfl rfl (hx1.upd hM6.upd) (zcTh_len) (by first | omega | (simp; omega)) (by omega) fun v55 w55 r55 (hs55 : SlS thC 257 133 v55 (lo ++ f1) r55) (hM55 : Mem w [] w55 [r55]) => mv <| h54 _ _ <| ⟨v55, rfl, ?_⟩
 rw [pairs_end (by omega), mergeL_nilR] at hL
 exact ⟨_, by rw [← hL]; exact hs55, hM55.keep (by simp)⟩
end Go.Proofs.Ytifnmbmijljhfaa.E.Hf
namespace Go.Proofs.Ytifnmbmijljhfaa.E.Hf
open Go
theorem thsA_tot (cs : List Int) (k : Nat) : ∀ j, j ≤ cs.length → tot k (thsA cs j) = if cs.length - j ≤ k ∧ k < cs.length ∧ 0 < cs.getD k 0 then 1 else 0
 | 0, _ => by rw [if_neg (by omega)]; rfl
 | j + 1, hj => by
  have ih := thsA_tot cs k j (by omega)
  by_cases c : 0 < cs.getD (cs.length - 1 - j) 0
  ·rw [thsA_yes c, tot_append, ih]
   have ho : tot k [one (cs.getD (cs.length - 1 - j) 0) (cs.length - 1 - j)] = if k = cs.length - 1 - j then 1 else 0 := by simp [tot, one]
   rw [ho]
   by_cases e : k = cs.length - 1 - j
   ·rw [if_neg (by omega), if_pos e, if_pos (by rw [← e] at c; omega)]
   rw [if_neg (c := k = _) e]
   by_cases d : cs.length - j ≤ k ∧ k < cs.length ∧ 0 < cs.getD k 0
   ·rw [if_pos d, if_pos (by omega)]
   rw [if_neg d, if_neg (by omega)]
  rw [thsA_no c, ih]
  by_cases e : k = cs.length - 1 - j
  ·rw [← e] at c
   rw [if_neg (by omega), if_neg (by omega)]
  by_cases d : cs.length - j ≤ k ∧ k < cs.length ∧ 0 < cs.getD k 0
  ·rw [if_pos d, if_pos (by omega)]
  rw [if_neg d, if_neg (by omega)]
theorem thF_tot (cs : List Int) (k : Nat) : tot k (thF cs) = if k < cs.length ∧ 0 < cs.getD k 0 then 1 else 0 := by
 rw [tot_perm (thF_perm cs), thsA_tot cs k _ (Nat.le_refl _)]
 by_cases d : k < cs.length ∧ 0 < cs.getD k 0
 ·rw [if_pos d, if_pos (by omega)]
 rw [if_neg d, if_neg (by omega)]
theorem thF_len (cs : List Int) : (thF cs).length ≤ cs.length := by rw [(thF_perm cs).length_eq]; exact thsA_len cs _
theorem thF_w {cs : List Int} {W : Int} (h : ∀ i, i < cs.length → cs.getD i 0 ≤ W) : wB W (thF cs) := fun t ht => by
 obtain ⟨i, rfl, h2, h3, h4⟩ := thsA_mem cs _ (Nat.le_refl _) t ((thF_perm cs).subset ht)
 exact ⟨Int.le_of_lt h4, h i h3⟩
theorem row_ok {cs : List Int} (hl : cs.length ≤ 256) (hB : inB 0 1099511627776 cs = true) {j : Nat} (hj : j ≤ 14) : (rowF (thF cs) j).length ≤ 512 ∧ wB 18014398509481984 (rowF (thF cs) j) ∧ ∀ k, tot k (rowF (thF cs) j) ≤ 15 := by
 have h1 := row_le (thF cs) j
 have h2 := thF_len cs
 refine ⟨by omega, fun t ht => ?_, fun k => ?_⟩
 ·have h3 := row_w (thF_w fun i hi => (inB_iff.1 hB i hi).2) (by omega) j t ht
  have h4 : 2 ^ j ≤ 16384 := Nat.le_trans (Nat.pow_le_pow_right (n := 2) (by omega) hj) (by decide)
  have e : (2 : Int) ^ j = ((2 ^ j : Nat) : Int) := by simp
  rw [e] at h3
  omega
 have h3 := row_tot (thF cs) k j
 have h4 := thF_tot cs k
 have h5 : tot k (thF cs) ≤ 1 := by rw [h4]; split <;> omega
 have h6 := Nat.mul_le_mul_left (j + 1) h5
 omega
theorem row_def (fs : List Th) : ∀ j, 2 ^ j * (2 * fs.length - (rowF fs j).length) + 1 ≤ fs.length + 2 ^ j
 | 0 => by rw [rowF]; omega
 | j + 1 => by
  have ih := row_def fs j
  have h1 := row_le fs j
  rw [row_len, Nat.pow_succ]
  obtain ⟨d, hd⟩ : ∃ d, d = 2 * fs.length - (rowF fs j).length := ⟨_, rfl⟩
  have h2 : 2 * (2 * fs.length - (fs.length + (rowF fs j).length / 2)) ≤ d + 1 := by omega
  rw [← hd] at ih
  have h3 := Nat.mul_le_mul_left (2 ^ j) h2
  rw [← Nat.mul_assoc, Nat.mul_add] at h3
  omega
theorem row_big (fs : List Th) {lim : Nat} (h1 : 1 ≤ lim) (h : fs.length ≤ 2 ^ lim) : 2 * fs.length - 2 ≤ (rowF fs (lim - 1)).length := by
 have hd := row_def fs (lim - 1)
 have hp : 2 ^ lim = 2 ^ (lim - 1) * 2 := by rw [← Nat.pow_succ]; congr 1; omega
 have h0 : 0 < 2 ^ (lim - 1) := Nat.pow_pos (by omega)
 rcases Nat.lt_or_ge 2 (2 * fs.length - (rowF fs (lim - 1)).length) with c | c
 ·have := Nat.mul_le_mul_left (2 ^ (lim - 1)) c
  omega
 omega
def mapR (n : Nat) (g : Nat → Int) : List Int := (List.range n).map g
@[simp] theorem mapR_len (n : Nat) (g : Nat → Int) : (mapR n g).length = n := by simp [mapR]
theorem mapR_get {n i : Nat} {g : Nat → Int} (h : i < n) : (mapR n g).getD i 0 = g i := by
 unfold mapR
 rw [List.getD_eq_getElem?_getD, List.getElem?_map, List.getElem?_range h]; rfl
theorem mapR_ext {n : Nat} {g g' : Nat → Int} (h : ∀ s, s < n → g s = g' s) : mapR n g = mapR n g' := List.map_congr_left fun s hs => h s (List.mem_range.1 hs)
theorem mapR_set {n i : Nat} {v : Int} {g : Nat → Int} : (mapR n g).set i v = mapR n fun s => if s = i then v else g s := by
 apply List.ext_getElem (by simp)
 intro k h1 h2
 simp only [mapR, List.getElem_set, List.getElem_map, List.getElem_range]
 by_cases c : i = k
 ·rw [if_pos c, if_pos c.symm]
 rw [if_neg c, if_neg (fun e => c e.symm)]
theorem mapR_rep (n : Nat) : List.replicate n (0 : Int) = mapR n fun _ => 0 := by
 apply List.ext_getElem (by simp)
 intro k h1 h2
 simp [mapR]
def takeF (cs : List Int) (lim : Nat) : List Th := (rowF (thF cs) (lim - 1)).take (max (2 * (thF cs).length - 2) 1)
def lensF (cs : List Int) (lim : Nat) : List Int := mapR cs.length fun s => ((tot s (takeF cs lim) : Nat) : Int)
def lenF (cs : List Int) (lim : Int) : List Int × Int :=
 if 256 < cs.length then ([], 2) else if ¬ (inB 0 1099511627776 cs = true ∧ 1 ≤ lim ∧ lim ≤ 15) then ([], 3) else if 2 ^ lim.toNat < (thF cs).length then ([], 41) else (lensF cs lim.toNat, 0)
theorem lenF_long {cs : List Int} {lim : Int} (h : 256 < cs.length) : lenF cs lim = ([], 2) := by unfold lenF; rw [if_pos h]
theorem lenF_arg {cs : List Int} {lim : Int} (h : ¬ 256 < cs.length) (h2 : ¬ (inB 0 1099511627776 cs = true ∧ 1 ≤ lim ∧ lim ≤ 15)) : lenF cs lim = ([], 3) := by unfold lenF; rw [if_neg h, if_pos h2]
theorem lenF_lim {cs : List Int} {lim : Int} (h : ¬ 256 < cs.length) (h2 : inB 0 1099511627776 cs = true ∧ 1 ≤ lim ∧ lim ≤ 15) (h3 : 2 ^ lim.toNat < (thF cs).length) : lenF cs lim = ([], 41) := by unfold lenF; rw [if_neg h, if_neg (fun k => k h2), if_pos h3]
theorem lenF_ok {cs : List Int} {lim : Int} (h : ¬ 256 < cs.length) (h2 : inB 0 1099511627776 cs = true ∧ 1 ≤ lim ∧ lim ≤ 15) (h3 : ¬ 2 ^ lim.toNat < (thF cs).length) : lenF cs lim = (lensF cs lim.toNat, 0) := by unfold lenF; rw [if_neg h, if_neg (fun k => k h2), if_neg h3]
theorem row_one {fs : List Th} (h : fs.length = 1) : ∀ j, rowF fs j = fs
 | 0 => rfl
 | j + 1 => by
  match fs, h with
  | [x], _ => rw [rowF, row_one (fs := [x]) rfl j, pairsL, mergeL_nilR]; intro a b r h; cases h
theorem lens_one {cs : List Int} {lim : Nat} (h : (thF cs).length = 1) : lensF cs lim = mapR cs.length fun s => if 0 < cs.getD s 0 then 1 else 0 := by
 unfold lensF takeF
 refine mapR_ext fun s hs => ?_
 rw [row_one h, List.take_of_length_le (by omega), thF_tot]
 by_cases c : 0 < cs.getD s 0
 ·rw [if_pos ⟨hs, c⟩, if_pos c]; rfl
 rw [if_neg (fun k => c k.2), if_neg c]; rfl
theorem row_none {fs : List Th} (h : fs.length = 0) : ∀ j, rowF fs j = []
 | 0 => List.length_eq_zero_iff.1 h
 | j + 1 => by rw [rowF, row_none h j, List.length_eq_zero_iff.1 h, show pairsL [] = [] from rfl, mergeL_nilR]
theorem lens_none {cs : List Int} {lim : Nat} (h : (thF cs).length = 0) : lensF cs lim = mapR cs.length fun _ => 0 := by
 unfold lensF takeF
 refine mapR_ext fun s hs => ?_
 rw [row_none h]; simp [tot]
def gatR (n : Nat) (R : List Th) (q i : Nat) : List Int := mapR n fun s => ((tot s (R.take q) + (if s < i then (R.getD q th0).f s else 0) : Nat) : Int)
@[simp] theorem gat_len (n : Nat) (R : List Th) (q i : Nat) : (gatR n R q i).length = n := mapR_len _ _
theorem gat_zero (n : Nat) (R : List Th) : List.replicate n (0 : Int) = gatR n R 0 0 := by
 rw [mapR_rep]; exact mapR_ext fun s _ => by simp [tot]
theorem gat_get {n i : Nat} {R : List Th} {q : Nat} (h : i < n) : (gatR n R q i).getD i 0 = ((tot i (R.take q) : Nat) : Int) := by
 unfold gatR; rw [mapR_get h, if_neg (by omega), Nat.add_zero]
theorem gat_set {n i : Nat} {R : List Th} {q : Nat} : (gatR n R q i).set i ((tot i (R.take q) + (R.getD q th0).f i : Nat) : Int) = gatR n R q (i + 1) := by
 unfold gatR
 rw [mapR_set]
 refine mapR_ext fun s _ => ?_
 by_cases c : s = i
 ·subst c; rw [if_pos rfl, if_pos (by omega)]
 rw [if_neg c]
 by_cases d : s < i
 ·rw [if_pos d, if_pos (by omega)]
 rw [if_neg d, if_neg (by omega)]
theorem gat_next {n : Nat} {R : List Th} {q : Nat} (h : q < R.length) : gatR n R q n = gatR n R (q + 1) 0 := by
 refine mapR_ext fun s hs => ?_
 have : R.take (q + 1) = R.take q ++ [R.getD q th0] := by
  rw [List.take_add_one, List.getElem?_eq_getElem h, List.getD_eq_getElem?_getD, List.getElem?_eq_getElem h]; rfl
 rw [if_pos hs, if_neg (by omega), this, tot_append]
 simp [tot]
theorem gat_end {cs : List Int} {lim : Nat} {R : List Th} {q : Nat} (hR : R = takeF cs lim) (hq : R.length ≤ q) : gatR cs.length R q 0 = lensF cs lim := by
 subst hR
 refine mapR_ext fun s _ => ?_
 rw [List.take_of_length_le hq]; simp
theorem gat_room {cs : List Int} {lim : Nat} (hl : cs.length ≤ 256) (hB : inB 0 1099511627776 cs = true) (hlim : lim ≤ 15) {q i : Nat} (h : q < (takeF cs lim).length) : tot i ((takeF cs lim).take q) + ((takeF cs lim).getD q th0).f i ≤ 15 := by
 have h1 := (row_ok hl hB (j := lim - 1) (by omega)).2.2 i
 have h2 := tot_take i (max (2 * (thF cs).length - 2) 1) (rowF (thF cs) (lim - 1))
 have h3 := tot_append i ((takeF cs lim).take q) ((takeF cs lim).drop q)
 rw [List.take_append_drop] at h3
 have h4 := tot_mem (k := i) (l := (takeF cs lim).drop q) (t := (takeF cs lim).getD q th0) (by rw [dropG th0 h]; exact List.mem_cons_self)
 unfold takeF at *
 omega
end Go.Proofs.Ytifnmbmijljhfaa.E.Hf
namespace Go.Proofs.Ytifnmbmijljhfaa.E.Hf
open Go
def sumU : Nat → (Nat → Nat) → Nat
 | 0, _ => 0
 | n + 1, g => sumU n g + g n
def sumN : Nat → (Nat → Int) → Int
 | 0, _ => 0
 | n + 1, g => sumN n g + g n
theorem sumU_congr {g h : Nat → Nat} : ∀ {n}, (∀ i, i < n → g i = h i) → sumU n g = sumU n h
 | 0, _ => rfl
 | n + 1, e => by rw [sumU, sumU, sumU_congr (n := n) fun i hi => e i (by omega), e n (by omega)]
theorem sumN_congr {g h : Nat → Int} : ∀ {n}, (∀ i, i < n → g i = h i) → sumN n g = sumN n h
 | 0, _ => rfl
 | n + 1, e => by rw [sumN, sumN, sumN_congr (n := n) fun i hi => e i (by omega), e n (by omega)]
theorem sumU_add (g h : Nat → Nat) : ∀ n, sumU n (fun i => g i + h i) = sumU n g + sumU n h
 | 0 => rfl
 | n + 1 => by rw [sumU, sumU, sumU, sumU_add g h n]; omega
theorem sumN_add (g h : Nat → Int) : ∀ n, sumN n (fun i => g i + h i) = sumN n g + sumN n h
 | 0 => rfl
 | n + 1 => by rw [sumN, sumN, sumN, sumN_add g h n]; omega
theorem sumU_mul (g : Nat → Nat) (c : Nat) : ∀ n, sumU n (fun i => g i * c) = sumU n g * c
 | 0 => by simp [sumU]
 | n + 1 => by rw [sumU, sumU, sumU_mul g c n, Nat.add_mul]
theorem sumU_le {g h : Nat → Nat} : ∀ {n}, (∀ i, i < n → g i ≤ h i) → sumU n g ≤ sumU n h
 | 0, _ => Nat.le_refl _
 | n + 1, e => by
  have h1 := sumU_le (n := n) fun i hi => e i (by omega)
  have h2 := e n (by omega)
  rw [sumU, sumU]; omega
theorem sumN_le {g h : Nat → Int} : ∀ {n}, (∀ i, i < n → g i ≤ h i) → sumN n g ≤ sumN n h
 | 0, _ => Int.le_refl _
 | n + 1, e => by
  have h1 := sumN_le (n := n) fun i hi => e i (by omega)
  have h2 := e n (by omega)
  rw [sumN, sumN]; omega
theorem sumU_zero : ∀ n, sumU n (fun _ => 0) = 0
 | 0 => rfl
 | n + 1 => by rw [sumU, sumU_zero n]
theorem sumN_zero : ∀ n, sumN n (fun _ => 0) = 0
 | 0 => rfl
 | n + 1 => by rw [sumN, sumN_zero n]; rfl
theorem sumU_one {k : Nat} : ∀ {n}, k < n → sumU n (fun i => if i = k then 1 else 0) = 1
 | n + 1, h => by
  rw [sumU]
  by_cases c : n = k
  ·rw [if_pos c, sumU_congr (h := fun _ => 0) fun i hi => if_neg (by omega), sumU_zero]
  rw [if_neg c, sumU_one (by omega)]
theorem sumN_one {k : Nat} {c : Nat → Int} : ∀ {n}, k < n → sumN n (fun i => c i * ((if i = k then 1 else 0 : Nat) : Int)) = c k
 | n + 1, h => by
  rw [sumN]
  by_cases e : n = k
  ·rw [if_pos e, sumN_congr (h := fun _ => 0) fun i hi => by rw [if_neg (by omega)]; simp, sumN_zero, e]; simp
  rw [if_neg e, sumN_one (by omega)]; simp
theorem sumN_ge {g : Nat → Int} {k : Nat} : ∀ {n}, k < n → (∀ i, i < n → 0 ≤ g i) → g k ≤ sumN n g
 | n + 1, h, h0 => by
  rw [sumN]
  have hs : 0 ≤ sumN n g := by
   have := sumN_le (n := n) (g := fun _ => 0) (h := g) fun i hi => h0 i (by omega)
   rw [sumN_zero] at this; exact this
  by_cases c : n = k
  ·subst c; omega
  have := sumN_ge (g := g) (k := k) (n := n) (by omega) fun i hi => h0 i (by omega)
  have := h0 n (by omega)
  omega
def Ones (cs : List Int) (l : List Th) : Prop := ∀ t ∈ l, ∃ i, t = one (cs.getD i 0) i ∧ i < cs.length ∧ 0 < cs.getD i 0
theorem thF_ones (cs : List Int) : Ones cs (thF cs) := fun t ht => by
 obtain ⟨i, h1, _, h3, h4⟩ := thsA_mem cs _ (Nat.le_refl _) t ((thF_perm cs).subset ht)
 exact ⟨i, h1, h3, h4⟩
theorem ones_sum {cs : List Int} : ∀ {l : List Th}, Ones cs l → sumU cs.length (fun i => tot i l) = l.length
 | [], _ => (sumU_congr (h := fun _ => 0) fun _ _ => rfl).trans (sumU_zero _)
 | t :: l, h => by
  obtain ⟨i, rfl, h2, h3⟩ := h t List.mem_cons_self
  have ih := ones_sum (l := l) fun x hx => h x (List.mem_cons_of_mem _ hx)
  rw [sumU_congr (h := fun k => (if k = i then 1 else 0) + tot k l) fun k _ => by rw [tot_cons]; rfl, sumU_add, sumU_one h2, ih, List.length_cons]; omega
theorem Ones.take {cs : List Int} {l : List Th} (h : Ones cs l) (s : Nat) : Ones cs (l.take s) := fun t ht => h t (List.mem_of_mem_take ht)
def TW (cs : List Int) (t : Th) : Prop := t.w = sumN cs.length fun i => cs.getD i 0 * (t.f i : Nat)
theorem TW_one {cs : List Int} {i : Nat} (h : i < cs.length) : TW cs (one (cs.getD i 0) i) := (sumN_one (c := fun i => cs.getD i 0) h).symm
theorem TW_both {cs : List Int} {a b : Th} (ha : TW cs a) (hb : TW cs b) : TW cs (bothT a b) := by
 unfold TW at *
 show a.w + b.w = _
 rw [ha, hb, ← sumN_add]
 exact sumN_congr fun i _ => by
  show _ = cs.getD i 0 * ((a.f i + b.f i : Nat) : Int)
  rw [Int.natCast_add, Int.mul_add]
theorem TW_pairs {cs : List Int} : ∀ {l : List Th}, (∀ t ∈ l, TW cs t) → ∀ t ∈ pairsL l, TW cs t
 | [], _ => fun _ h => by cases h
 | [a], _ => fun _ h => by cases h
 | a :: b :: r, h => fun t ht => by
  rcases List.mem_cons.1 ht with rfl | ht
  ·exact TW_both (h a List.mem_cons_self) (h b (List.mem_cons_of_mem _ List.mem_cons_self))
  exact TW_pairs (l := r) (fun x hx => h x (List.mem_cons_of_mem _ (List.mem_cons_of_mem _ hx))) t ht
theorem TW_row (cs : List Int) : ∀ j, ∀ t ∈ rowF (thF cs) j, TW cs t
 | 0 => fun t ht => by
  obtain ⟨i, rfl, h2, _⟩ := thF_ones cs t ht
  exact TW_one h2
 | j + 1 => fun t ht => by
  rcases List.mem_append.1 ((merge_perm _ _).subset ht) with h | h
  ·exact TW_row cs 0 t h
  exact TW_pairs (TW_row cs j) t h
theorem TW_ge {cs : List Int} (h0 : ∀ i, 0 ≤ cs.getD i 0) {t : Th} (ht : TW cs t) {i : Nat} (hi : i < cs.length) (h : 0 < t.f i) : cs.getD i 0 ≤ t.w := by
 rw [ht]
 have h1 := sumN_ge (g := fun i => cs.getD i 0 * (t.f i : Nat)) (k := i) hi fun k _ => Int.mul_nonneg (h0 k) (by omega)
 have h2 : cs.getD i 0 * 1 ≤ cs.getD i 0 * (t.f i : Nat) := Int.mul_le_mul_of_nonneg_left (by omega) (h0 i)
 omega
abbrev SrtW (l : List Th) : Prop := l.Pairwise (fun a b => a.w ≤ b.w)
theorem thF_srtW {cs : List Int} (hl : cs.length ≤ 256) : SrtW (thF cs) := by
 have h1 := thF_srt hl
 have h2 := thF_ones cs
 refine List.Pairwise.imp_of_mem (fun {a b} ha hb hab => ?_) h1
 obtain ⟨i, rfl, hi, _⟩ := h2 a ha
 obtain ⟨k, rfl, hk, _⟩ := h2 b hb
 unfold one at hab ⊢
 dsimp only at hab ⊢
 omega
theorem merge_take : ∀ (n : Nat) (fs ps : List Th) (m : Nat), fs.length + ps.length ≤ n → SrtW fs → m ≤ fs.length + ps.length →
 ∃ s p, s + p = m ∧ s ≤ fs.length ∧ p ≤ ps.length ∧ ((mergeL fs ps).take m).Perm (fs.take s ++ ps.take p) ∧ ∀ x ∈ fs, ∀ P ∈ ps.take p, x.w ≤ P.w → x ∈ fs.take s
 | _, fs, [], m, _, _, hm => ⟨m, 0, by omega, by simpa using hm, Nat.le_refl _, by rw [mergeL_nilR]; simp, fun x _ P hP => by simp at hP⟩
 | _, [], q :: ps, m, _, _, hm => ⟨0, m, by omega, Nat.le_refl _, by simpa using hm, by rw [mergeL_nilL]; simp, fun x hx => by cases hx⟩
 | 0, f :: fs, q :: ps, _, h, _, _ => by simp at h
 | n + 1, f :: fs, q :: ps, 0, h, _, _ => ⟨0, 0, rfl, Nat.zero_le _, Nat.zero_le _, by simp, fun x _ P hP => by simp at hP⟩
 | n + 1, f :: fs, q :: ps, m + 1, h, hs, hm => by
  have hs1 := List.pairwise_cons.1 hs
  simp only [List.length_cons] at h hm
  by_cases c : f.w ≤ q.w
  ·obtain ⟨s, p, h1, h2, h3, h4, h5⟩ := merge_take n fs (q :: ps) m (by simp only [List.length_cons]; omega) hs1.2 (by simp only [List.length_cons]; omega)
   refine ⟨s + 1, p, by omega, by simp only [List.length_cons]; omega, h3, ?_, fun x hx P hP hw => ?_⟩
   ·rw [mergeL_le c, List.take_succ_cons, List.take_succ_cons]; exact h4.cons f
   rw [List.take_succ_cons]
   rcases List.mem_cons.1 hx with rfl | hx
   ·exact List.mem_cons_self
   exact List.mem_cons_of_mem _ (h5 x hx P hP hw)
  obtain ⟨s, p, h1, h2, h3, h4, h5⟩ := merge_take n (f :: fs) ps m (by simp only [List.length_cons]; omega) hs (by simp only [List.length_cons]; omega)
  refine ⟨s, p + 1, by omega, h2, by simp only [List.length_cons]; omega, ?_, fun x hx P hP hw => ?_⟩
  ·rw [mergeL_gt c, List.take_succ_cons, List.take_succ_cons]; exact (h4.cons q).trans List.perm_middle.symm
  rw [List.take_succ_cons] at hP
  rcases List.mem_cons.1 hP with rfl | hP
  ·exfalso
   rcases List.mem_cons.1 hx with rfl | hx
   ·exact c hw
   have := hs1.1 x hx; omega
  exact h5 x hx P hP hw
theorem pairs_tot (k : Nat) : ∀ (p : Nat) (l : List Th), 2 * p ≤ l.length → tot k ((pairsL l).take p) = tot k (l.take (2 * p))
 | 0, _, _ => by simp [tot]
 | p + 1, a :: b :: r, h => by
  simp only [List.length_cons] at h
  have ih := pairs_tot k p r (by omega)
  rw [pairsL, show 2 * (p + 1) = 2 * p + 1 + 1 by omega, List.take_succ_cons, List.take_succ_cons, List.take_succ_cons, tot_cons, tot_cons, tot_cons, ih]
  show a.f k + b.f k + _ = _
  omega
 | p + 1, [], h => by simp at h
 | p + 1, [a], h => by simp at h; omega
def wid (j d : Nat) : Nat := 2 ^ (j + 1) - 2 ^ (j + 1 - d)
theorem wid_zero (j : Nat) : wid j 0 = 0 := by simp [wid]
theorem wid_succ {j d : Nat} (h : d ≤ j + 1) : wid (j + 1) (d + 1) = 2 ^ (j + 1) + wid j d := by
 unfold wid
 have h1 : 2 ^ (j + 1 + 1) = 2 ^ (j + 1) + 2 ^ (j + 1) := by rw [Nat.pow_succ]; omega
 have h2 : 2 ^ (j + 1 - d) ≤ 2 ^ (j + 1) := Nat.pow_le_pow_right (by omega) (by omega)
 rw [show j + 1 + 1 - (d + 1) = j + 1 - d by omega, h1]
 generalize 2 ^ (j + 1) = P at *
 generalize 2 ^ (j + 1 - d) = Q at *
 omega
theorem wid_base {d : Nat} (h : d ≤ 1) : wid 0 d = d := by
 unfold wid
 rcases Nat.lt_or_ge d 1 with c | c
 ·rw [show d = 0 by omega]
 rw [show d = 1 by omega]
theorem fs_tot_le {cs : List Int} (i s : Nat) : tot i ((thF cs).take s) ≤ 1 := by
 have h1 := tot_take i s (thF cs)
 have h2 := thF_tot cs i
 have h5 : tot i (thF cs) ≤ 1 := by rw [h2]; split <;> omega
 omega
theorem row_tot_le {cs : List Int} (j m i : Nat) : tot i ((rowF (thF cs) j).take m) ≤ j + 1 := by
 have h1 := tot_take i m (rowF (thF cs) j)
 have h2 := row_tot (thF cs) i j
 have h3 := fs_tot_le (cs := cs) i (thF cs).length
 rw [List.take_length] at h3
 have h4 := Nat.mul_le_mul_left (j + 1) h3
 omega
theorem row_split {cs : List Int} (hl : cs.length ≤ 256) (h0 : ∀ i, 0 ≤ cs.getD i 0) {j m : Nat} (hm : m ≤ (rowF (thF cs) (j + 1)).length) : ∃ s p, s + p = m ∧ s ≤ (thF cs).length ∧ 2 * p ≤ (rowF (thF cs) j).length ∧
 (∀ i, tot i ((rowF (thF cs) (j + 1)).take m) = tot i ((thF cs).take s) + tot i ((rowF (thF cs) j).take (2 * p))) ∧ ∀ i, i < cs.length → 0 < cs.getD i 0 → 0 < tot i ((rowF (thF cs) j).take (2 * p)) → tot i ((thF cs).take s) = 1 := by
 have hm2 := hm
 rw [row_len] at hm
 obtain ⟨s, p, h1, h2, h3, h4, h5⟩ := merge_take _ (thF cs) (pairsL (rowF (thF cs) j)) m (Nat.le_refl _) (thF_srtW hl) (by rw [pairs_len]; exact hm)
 rw [pairs_len] at h3
 refine ⟨s, p, h1, h2, by omega, fun i => ?_, fun i hi hc ht => ?_⟩
 ·rw [rowF, tot_perm h4, tot_append, pairs_tot i p _ (by omega)]
 rw [← pairs_tot i p _ (by omega)] at ht
 -- some package holds the symbol
 have hex : ∃ P ∈ (pairsL (rowF (thF cs) j)).take p, 0 < P.f i := by
  apply Classical.byContradiction
  intro hno
  have : ∀ l : List Th, (∀ P ∈ l, ¬ 0 < P.f i) → tot i l = 0 := by
   intro l
   induction l with
   | nil => intro _; rfl
   | cons x l ih =>
    intro h
    have h1 := h x List.mem_cons_self
    rw [tot_cons, ih fun P hP => h P (List.mem_cons_of_mem _ hP)]; omega
  rw [this _ fun P hP hp => hno ⟨P, hP, hp⟩] at ht
  omega
 obtain ⟨P, hP, hp⟩ := hex
 have hw := TW_ge h0 (TW_pairs (TW_row cs j) P (List.mem_of_mem_take hP)) hi hp
 have hfs := thF_tot cs i
 rw [if_pos ⟨hi, hc⟩] at hfs
 -- the single
 have hx : one (cs.getD i 0) i ∈ thF cs := by
  apply Classical.byContradiction
  intro hno
  have : ∀ l : List Th, Ones cs l → one (cs.getD i 0) i ∉ l → tot i l = 0 := by
   intro l
   induction l with
   | nil => intro _ _; rfl
   | cons x l ih =>
    intro h hn
    obtain ⟨k, hk, _, _⟩ := h x List.mem_cons_self
    have hki : k ≠ i := fun e => hn (by rw [hk, e]; exact List.mem_cons_self)
    rw [tot_cons, ih (fun t ht => h t (List.mem_cons_of_mem _ ht)) (fun hm => hn (List.mem_cons_of_mem _ hm)), hk]
    show (if i = k then 1 else 0) + 0 = 0
    rw [if_neg (fun e => hki e.symm)]
  rw [this _ (thF_ones cs) hno] at hfs
  omega
 have hin := h5 _ hx P hP hw
 have h6 := tot_mem (k := i) hin
 have h7 := fs_tot_le (cs := cs) i s
 have h8 : (one (cs.getD i 0) i).f i = 1 := by simp [one]
 omega
theorem tot_absent {cs : List Int} {i : Nat} (h : ¬ (i < cs.length ∧ 0 < cs.getD i 0)) (j m : Nat) : tot i ((rowF (thF cs) j).take m) = 0 := by
 have h1 := tot_take i m (rowF (thF cs) j)
 have h2 := row_tot (thF cs) i j
 rw [thF_tot, if_neg h] at h2
 omega
theorem kraft_row {cs : List Int} (hl : cs.length ≤ 256) (h0 : ∀ i, 0 ≤ cs.getD i 0) : ∀ j m, m ≤ (rowF (thF cs) j).length → sumU cs.length (fun i => wid j (tot i ((rowF (thF cs) j).take m))) = m * 2 ^ j
 | 0, m, hm => by
  rw [rowF] at hm ⊢
  rw [sumU_congr fun i _ => wid_base (fs_tot_le i m), ones_sum ((thF_ones cs).take m), List.length_take]; omega
 | j + 1, m, hm => by
  obtain ⟨s, p, h1, h2, h3, h4, h5⟩ := row_split hl h0 hm
  have ih := kraft_row hl h0 j (2 * p) h3
  rw [sumU_congr (h := fun i => tot i ((thF cs).take s) * 2 ^ (j + 1) + wid j (tot i ((rowF (thF cs) j).take (2 * p)))) fun i hi => ?_, sumU_add, sumU_mul, ih, ones_sum ((thF_ones cs).take s), List.length_take, Nat.min_eq_left h2, ← h1, Nat.add_mul, Nat.pow_succ, Nat.mul_comm 2 p, Nat.mul_assoc, Nat.mul_comm 2 (2 ^ j)]
  rw [h4]
  have hb := row_tot_le (cs := cs) j (2 * p) i
  by_cases c : 0 < tot i ((rowF (thF cs) j).take (2 * p))
  ·have hc : 0 < cs.getD i 0 := by
    apply Classical.byContradiction
    intro hn
    have := tot_absent (cs := cs) (i := i) (fun k => hn k.2) j (2 * p)
    omega
   rw [h5 i hi hc c, Nat.add_comm 1, wid_succ hb, Nat.one_mul]
  have hz : tot i ((rowF (thF cs) j).take (2 * p)) = 0 := by omega
  rw [hz, wid_zero, Nat.add_zero, Nat.add_zero]
  rcases Nat.lt_or_ge (tot i ((thF cs).take s)) 1 with k | k
  ·rw [show tot i ((thF cs).take s) = 0 by omega, wid_zero, Nat.zero_mul]
  have := fs_tot_le (cs := cs) i s
  rw [show tot i ((thF cs).take s) = 0 + 1 by omega, wid_succ (by omega), wid_zero]; omega
end Go.Proofs.Ytifnmbmijljhfaa.E.Hf
namespace Go.Proofs.Ytifnmbmijljhfaa.E.Hf
open Go
def symN (l : List Int) (n s : Nat) : List Nat := (List.range s).filter fun i => decide (l.getD i 0 = (n : Int))
theorem symN_succ (l : List Int) (n s : Nat) : symN l n (s + 1) = symN l n s ++ if l.getD s 0 = (n : Int) then [s] else [] := by
 unfold symN
 rw [List.range_succ, List.filter_append]
 congr 1
 by_cases h : l.getD s 0 = (n : Int)
 ·rw [if_pos h, List.filter_cons_of_pos (by simpa using h)]; rfl
 rw [if_neg h, List.filter_cons_of_neg (by simpa using h)]; rfl
theorem symN_yes {l : List Int} {n s : Nat} (h : l.getD s 0 = (n : Int)) : symN l n (s + 1) = symN l n s ++ [s] := by rw [symN_succ, if_pos h]
theorem symN_no {l : List Int} {n s : Nat} (h : ¬ l.getD s 0 = (n : Int)) : symN l n (s + 1) = symN l n s := by rw [symN_succ, if_neg h, List.append_nil]
theorem symN_le (l : List Int) (n s : Nat) : (symN l n s).length ≤ s := by
 unfold symN
 exact Nat.le_trans (List.length_filter_le _ _) (by simp)
def ordB (l : List Int) : Nat → List Nat
 | 0 => []
 | k + 1 => ordB l k ++ symN l (k + 1) l.length
theorem ordB_le (l : List Int) (k : Nat) (h : l.length ≤ 256) : (ordB l k).length ≤ k * 256 := by
 induction k with
 | zero => simp [ordB]
 | succ k ih =>
  have := symN_le l (k + 1) l.length
  simp only [ordB, List.length_append, Nat.succ_mul]; omega
def manyL (l : List Int) (n s : Nat) : List Int := (List.range 16).map fun k => if 1 ≤ k ∧ k < n then (((symN l k l.length).length : Nat) : Int) else if k = n then (((symN l n s).length : Nat) : Int) else 0
theorem manyL_length (l : List Int) (n s : Nat) : (manyL l n s).length = 16 := by simp [manyL]
theorem many_get (l : List Int) {n s : Nat} (h : n ≤ 15) : ((manyL l n s).map i64V)[n]? = some (i64V ((symN l n s).length : Nat)) := by
 rw [List.getElem?_map, manyL, List.getElem?_map, List.getElem?_range (by omega)]
 simp
theorem many_set {l : List Int} {n s : Nat} (h : n ≤ 15) (hs : l.getD s 0 = (n : Int)) : ((manyL l n s).map i64V).set n (.int .i64 (((symN l n s).length : Nat) + 1)) = (manyL l n (s + 1)).map i64V := by
 apply List.ext_getElem?
 intro k
 rw [List.getElem?_set]
 split
 ·rename_i e; subst e
  rw [many_get l h, if_pos (by simp [manyL_length]; omega), symN_yes hs, List.length_append]; rfl
 rename_i e
 rw [List.getElem?_map, List.getElem?_map, manyL, manyL, List.getElem?_map, List.getElem?_map]
 by_cases hk : k < 16
 ·rw [List.getElem?_range hk]
  simp only [Option.map_some]
  by_cases h1 : 1 ≤ k ∧ k < n
  ·rw [if_pos h1, if_pos h1]
  rw [if_neg h1, if_neg h1, if_neg (fun h => e h.symm), if_neg (fun h => e h.symm)]
 rw [List.getElem?_eq_none (by simpa using hk)]; rfl
theorem many_skip {l : List Int} {n s : Nat} (hs : ¬ l.getD s 0 = (n : Int)) : manyL l n (s + 1) = manyL l n s := by unfold manyL; rw [symN_no hs]
theorem many_next {l : List Int} {n : Nat} (h : 1 ≤ n) : manyL l (n + 1) 0 = manyL l n l.length := by
 unfold manyL
 apply List.map_congr_left
 intro k _
 have e : (symN l (n + 1) 0).length = 0 := rfl
 by_cases h1 : 1 ≤ k ∧ k < n
 ·rw [if_pos h1, if_pos (by omega)]
 rw [if_neg h1]
 by_cases h2 : k = n
 ·subst h2; rw [if_pos (by omega), if_pos rfl]
 rw [if_neg (by omega), if_neg h2, e]; simp
def usedB (l : List Int) : Nat → Nat
 | 0 => 0
 | k + 1 => usedB l k + (symN l (k + 1) l.length).length * 2 ^ (15 - (k + 1))
theorem usedB_le (l : List Int) (k : Nat) (h : l.length ≤ 256) : usedB l k ≤ k * 4194304 := by
 induction k with
 | zero => simp [usedB]
 | succ k ih =>
  have h1 := symN_le l (k + 1) l.length
  have h2 : 2 ^ (15 - (k + 1)) ≤ 16384 := by
   calc 2 ^ (15 - (k + 1)) ≤ 2 ^ 14 := Nat.pow_le_pow_right (by omega) (by omega)
    _ = 16384 := by decide
  have h3 : (symN l (k + 1) l.length).length * 2 ^ (15 - (k + 1)) ≤ 256 * 16384 := Nat.mul_le_mul (by omega) h2
  simp only [usedB]; omega
def usedP (l : List Int) (n s : Nat) : Nat := usedB l (n - 1) + (symN l n s).length * 2 ^ (15 - n)
def pw (n : Nat) : Nat := 2 ^ (15 - n)
theorem usedP_zero (l : List Int) (n : Nat) : usedP l n 0 = usedB l (n - 1) := by simp [usedP, symN]
theorem usedP_end (l : List Int) {n : Nat} (h : 1 ≤ n) : usedP l n l.length = usedB l n := by
 obtain ⟨k, rfl⟩ : ∃ k, n = k + 1 := ⟨n - 1, by omega⟩
 rfl
theorem usedP_yes {l : List Int} {n s : Nat} (h : l.getD s 0 = (n : Int)) : usedP l n (s + 1) = usedP l n s + pw n := by
 unfold usedP pw; rw [symN_yes h, List.length_append, List.length_singleton, Nat.add_mul, Nat.one_mul, Nat.add_assoc]
theorem usedP_no {l : List Int} {n s : Nat} (h : ¬ l.getD s 0 = (n : Int)) : usedP l n (s + 1) = usedP l n s := by unfold usedP; rw [symN_no h]
theorem pow15 (n : Nat) : pw n ≤ 32768 := by
 show 2 ^ (15 - n) ≤ 32768
 calc 2 ^ (15 - n) ≤ 2 ^ 15 := Nat.pow_le_pow_right (by omega) (by omega)
  _ = 32768 := by decide
theorem usedP_le (l : List Int) (n s : Nat) (h : l.length ≤ 256) (hs : s ≤ 256) (hn : n ≤ 16) : usedP l n s ≤ 150000000 := by
 have h1 := usedB_le l (n - 1) h
 have h2 : (symN l n s).length * 2 ^ (15 - n) ≤ 256 * 32768 := Nat.mul_le_mul (Nat.le_trans (symN_le l n s) hs) (pow15 n)
 unfold usedP; omega
theorem shl15 {n : Nat} (h1 : 1 ≤ n) (h2 : n ≤ 15) : Value.int .i64 (IntKind.i64.wrap (1 * 2 ^ min (15 - (n : Int)).toNat IntKind.i64.bits)) = .int .i64 ((pw n : Nat) : Int) := by
 have e : (15 - (n : Int)).toNat = 15 - n := by omega
 have hp : 2 ^ (15 - n) ≤ 32768 := pow15 n
 have h := shlI_nat (k := .i64) (a := 1) (n := 15 - n) (by simp only [IntKind.bits]; omega) (by rw [Nat.one_mul]; simp only [inK]; generalize 2 ^ (15 - n) = q at hp ⊢; omega)
 unfold shlI at h
 rw [Int.toNat_natCast, Nat.one_mul] at h
 rw [e]; exact v_int h
theorem ord_next {l : List Int} {n : Nat} (h : 1 ≤ n) : ordB l (n + 1 - 1) = ordB l (n - 1) ++ symN l n l.length := by
 obtain ⟨k, rfl⟩ : ∃ k, n = k + 1 := ⟨n - 1, by omega⟩
 rfl
set_option maxRecDepth 100000 in
theorem order_ok (x : Value) (l : List Int) (w : World) (hx : RdE i64V w x l) (hl : l.length ≤ 256) : Calls Try.prog 59 [x].toArray w (Rt fun r w' => ∃ v rs, r = .tuple [v, .agg ((manyL l 16 0).map i64V).toArray, .bool (decide (0 ≤ 32768 - ((usedB l 15 : Nat) : Int)))].toArray ∧ SlE natV 3 v (ordB l 15) rs ∧ Mem w [] w' [rs]) := by
 have hM0 : Mem w [] w [] := Mem.nil w []
 refine calls_vc mixed Try.func59 rfl C59 (by simp [Try.ntmps59]) <| seq fun _ h1 => mv <| m_al hM0 fun b2 w3 (hM3 : Mem w [] w3 [[⟨b2, 120, (List.replicate 16 (.int .i64 0))⟩]]) => mv <| h1 _ _ <| seq fun _ h4 => mv <| h4 _ _ <| seq fun _ h5 => m_al hM3 fun b6 w7 (hM7 : Mem w [] w7 [[⟨b2, 120, (List.replicate 16 (.int .i64 0))⟩], [⟨b6, 120, (List.replicate 16 (.int .i64 0))⟩]]) => h5 _ _ <| seq fun _ h8 => mv ?_
 refine h8 _ _ <| seq fun _ h9 => seq fun _ h10 => mv <| h10 _ _ <| lp (n := fun _ _ => False) (ι := (Nat) × (Value) × (List Ent)) (fun ⟨n, y, r⟩ f w' => f 0 = x ∧ f 3 = .pointer (some ⟨b2, 0, none⟩) ∧ f 6 = .pointer (some ⟨b6, 0, none⟩) ∧ f 5 = y ∧ f 7 = .int .i64 (32768 - (usedB l (n - 1) : Nat)) ∧ f 8 = .int .i64 (n : Nat) ∧ Mem w [] w' [[⟨b2, 120, (List.replicate 16 (.int .i64 0))⟩], [⟨b6, 120, (manyL l n 0).map i64V⟩], r] ∧ (SlE natV 3 y (ordB l (n - 1)) r) ∧ (1 ≤ n ∧ n ≤ 16)) (fun ⟨n, y, r⟩ => 16 - n) (1, .slice none 0 0, []) ?_ ?_
 ·exact ⟨rfl, rfl, rfl, rfl, vi, vi, hM7.addNil, Sl.nil 1 3, by omega⟩
 rintro ⟨n, y, r⟩ f w11 ⟨e11_0, e11_3, e11_6, e11_5, e11_7, e11_8, hM11, hs, hn⟩ K12 h12
 obtain ⟨frm, rfl⟩ := re6 e11_0 e11_3 e11_6 e11_5 e11_7 e11_8
 refine seq fun _ h13 => seq fun _ h14 => ?_
 have ho := ordB_le l (n - 1) hl
 refine mv <| bn rfl rfl <| h14 _ _ <| cndP rfl (fun c15 => ?_) (fun c15 => ?_)
 ·refine h13 _ _ <| seq fun _ h16 => seq fun _ h17 => mv <| stp (v := .int .i64 (l.length : Nat)) (o_lenR (hx.upd hM11.upd) rfl rfl) <| mv <| h17 _ _ <| lp (n := fun _ _ => False) (ι := (Nat) × (Value) × (List Ent)) (fun ⟨s, y, r⟩ f w' => f 0 = x ∧ f 3 = .pointer (some ⟨b2, 0, none⟩) ∧ f 6 = .pointer (some ⟨b6, 0, none⟩) ∧ f 5 = y ∧ f 7 = .int .i64 (32768 - (usedP l n s : Nat)) ∧ f 8 = .int .i64 (n : Nat) ∧ f 15 = x ∧ f 16 = .int .i64 (l.length : Nat) ∧ f 17 = .int .i64 (s : Nat) ∧ Mem w [] w' [[⟨b2, 120, (List.replicate 16 (.int .i64 0))⟩], [⟨b6, 120, (manyL l n s).map i64V⟩], r] ∧ (SlE natV 3 y (ordB l (n - 1) ++ symN l n s) r) ∧ (s ≤ l.length)) (fun ⟨s, y, r⟩ => l.length - s) (0, y, r) ?_ ?_
  ·exact ⟨rfl, rfl, rfl, rfl, v_int (by rw [usedP_zero]), vi, rfl, vi, vi, hM11, by simpa [symN] using hs, by omega⟩
  rintro ⟨s, y, r⟩ f w18 ⟨e18_0, e18_3, e18_6, e18_5, e18_7, e18_8, e18_15, e18_16, e18_17, hM18, hs2, hi⟩ K19 h19
  obtain ⟨frm, rfl⟩ := re9 e18_0 e18_3 e18_6 e18_5 e18_7 e18_8 e18_15 e18_16 e18_17
  refine seq fun _ h20 => bn rfl rfl <| h20 _ _ <| seq fun _ h21 => cndP rfl (fun c22 => ?_) (fun c22 => ?_)
  ·refine h21 _ _ <| seq fun _ h23 => seq fun _ h24 => mv <| m_idxE 0 (j := s) (hx.upd hM18.upd) rfl rfl (by omega) fun b25 o25 hp25 => ld (v := .int .i64 (l.getD s 0)) rfl (hp25) <| mv <| mv <| h24 _ _ <| seq fun _ h26 => mv <| mv <| bn rfl rfl <| h26 _ _ ?_
   refine cndP rfl (fun c27 => ?_) (fun c27 => ?_)
   ·refine seq fun _ h28 => mv <| mv <| m_app1 (E := natV) (q := s) hM18 (i := 2) rfl hs2 rfl (by simp) (rfl) (by have h1 := symN_le l n s; simp only [List.length_append]; omega) (by omega) fun v29 w29 r29 u29 (hs29 : SlE natV 3 v29 ((ordB l (n - 1) ++ symN l n s) ++ [s]) r29) (hM29 : Mem w [] w29 [[⟨b2, 120, (List.replicate 16 (.int .i64 0))⟩], [⟨b6, 120, (manyL l n s).map i64V⟩], r29]) => mv <| h28 _ _ <| seq fun _ h30 => mv <| stp (v := .pointer (some ⟨b6, n, none⟩)) (o_idxa rfl rfl (by omega) (v_ptr (by first | (rw [Int.toNat_natCast, Nat.mul_one]; done) | (simp; done) | omega))) <| ld (v := .int .i64 ((symN l n s).length : Nat)) rfl (((hM29.at (i := 1) (j := 0) rfl rfl).cell n).trans (many_get l (by omega))) <| stp (v := .int .i64 (((symN l n s).length : Nat) + 1)) (o_bin rfl rfl (v_add64 (by have := symN_le l n s; omega))) <| stp (v := .pointer (some ⟨b6, n, none⟩)) (o_idxa rfl rfl (by omega) (v_ptr (by first | (rw [Int.toNat_natCast, Nat.mul_one]; done) | (simp; done) | omega))) <| m_st (v := .int .i64 (((symN l n s).length : Nat) + 1)) hM29 (i := 1) rfl rfl rfl rfl (by simp [manyL_length]; omega) fun w31 hm31 => ?_
    have hM31 : Mem w [] w31 [[⟨b2, 120, (List.replicate 16 (.int .i64 0))⟩], [⟨b6, 120, (manyL l n (s + 1)).map i64V⟩], r29] := by
     have e : ((manyL l n s).map i64V).set n (.int .i64 (((symN l n s).length : Nat) + 1)) = ((manyL l n (s + 1)).map i64V) := many_set (by omega) (by assumption)
     rw [← e]; exact hm31
    refine h30 _ _ <| mv <| mv <| stp (v := .int .i64 (15 - (n : Nat))) (o_bin rfl rfl (v_sub64 (by omega))) <| stp (v := .int .i64 (pw n : Nat)) (o_shl rfl rfl (by omega) (shl15 (by omega) (by omega))) <| stp (v := .int .i64 (32768 - (usedP l n (s + 1) : Nat))) (o_bin rfl rfl (by rw [usedP_yes (by assumption)]; have := usedP_le l n s hl (by omega) (by omega); have := pow15 n; exact (v_sub64 (by omega)).trans (v_int (by omega)))) <| mv <| h23 _ _ <| stp (v := .int .i64 ((s : Nat) + 1)) (o_bin rfl rfl (v_add64 (by omega))) <| mv <| h19 (s + 1, v29, r29) _ _ ⟨rfl, rfl, rfl, rfl, by first | rfl | exact v_int (by rw [usedP_no (by assumption)]), vi, rfl, vi, vi, hM31, by rw [symN_yes (by assumption), ← List.append_assoc]; exact hs29, by omega⟩ (by dsimp only; omega)
   refine h23 _ _ <| stp (v := .int .i64 ((s : Nat) + 1)) (o_bin rfl rfl (v_add64 (by omega))) <| mv <| h19 (s + 1, y, r) _ _ ⟨rfl, rfl, rfl, rfl, by first | rfl | exact v_int (by rw [usedP_no (by assumption)]), vi, rfl, vi, vi, by rw [many_skip (by assumption)]; exact hM18, by rw [symN_no (by assumption)]; exact hs2, by omega⟩ (by dsimp only; omega)
  refine h16 _ _ <| mv <| stp (v := .int .i64 ((n : Nat) + 1)) (o_bin rfl rfl (v_add64 (by omega))) <| mv <| h12 (n + 1, y, r) _ _ ⟨rfl, rfl, rfl, rfl, v_int (by (obtain rfl : s = l.length := by omega); rw [usedP_end l (n := n) (by omega)]; rfl), vi, by rw [many_next (l := l) (n := n) (by omega)]; (obtain rfl : s = l.length := by omega); exact hM18, by (obtain rfl : s = l.length := by omega); rw [ord_next (l := l) (n := n) (by omega)]; exact hs2, by omega⟩ (by dsimp only; omega)
 refine h9 _ _ <| seq fun _ h32 => ?_
 intro wd e1 e2 e3 e4
 have hd := Upd.same e1 e2 e3 e4 []
 have hM33 := hM11.pure hd
 clear e1 e2 e3 e4
 refine ⟨(some []), ?_⟩
 show vd _ _ _ _ _ _ _
 refine dmv <| dmv <| dbn rfl rfl <| dmv <| dl (ldA (cs := ((manyL l n 0).map i64V)) rfl (by first | rfl | simp [manyL_length]) ((hM33.at (i := 1) (j := 0) rfl rfl).all) <| ⟨(fun b hb => by cases hb), dl (m_stA (l := ((manyL l n 0).map i64V)) hM33 (i := 0) rfl rfl rfl (by simp [manyL_length]) (one_elems _) (by simp) fun w34 hm34 => ⟨(fun b hb => by cases hb), ?_⟩)⟩)
 have hM34 : Mem w [] w34 [[⟨b2, 120, ((manyL l n 0).map i64V)⟩], [⟨b6, 120, (manyL l n 0).map i64V⟩], r] := by
  have e : splice (List.replicate 16 (.int .i64 0)) 0 ((manyL l n 0).map i64V) = ((manyL l n 0).map i64V) := splice_full (by simp; first | done | (simp [manyL_length]) | omega)
  rw [e] at hm34
  exact hm34
 refine dmv <| h32 _ _ ?_
 show resV _ _ _ _ _
 refine res_tmp <| res_cell (s := some 16) (by kernel_rfl) <| vl_ldA (cs := ((manyL l n 0).map i64V)) rfl (by simp [manyL_length]) (hM34.at (i := 0) (j := 0) rfl rfl).all <| res_tmp <| ⟨(.tuple [y, .agg ((((manyL l n 0).map i64V)).toArray), .bool (decide ((0 : Int) ≤ (32768 - (usedB l (n - 1) : Nat) : Int)))].toArray), rfl, ?_⟩
 have e : n = 16 := by omega
 subst e
 exact ⟨_, _, rfl, hs, hM34.keep (by simp)⟩
def kr (l : List Int) : Nat → Nat
 | 0 => 0
 | s + 1 => kr l s + if 0 < l.getD s 0 then pw (l.getD s 0).toNat else 0
def krK (l : List Int) (k : Nat) : Nat → Nat
 | 0 => 0
 | s + 1 => krK l k s + if 0 < l.getD s 0 ∧ l.getD s 0 ≤ k then pw (l.getD s 0).toNat else 0
theorem krK_zero (l : List Int) (s : Nat) : krK l 0 s = 0 := by
 induction s with
 | zero => rfl
 | succ s ih => simp only [krK, ih]; rw [if_neg (by omega)]
theorem krK_succ (l : List Int) (k s : Nat) : krK l (k + 1) s = krK l k s + (symN l (k + 1) s).length * 2 ^ (15 - (k + 1)) := by
 induction s with
 | zero => simp [krK, symN]
 | succ s ih =>
  simp only [krK, ih]
  by_cases h : l.getD s 0 = ((k + 1 : Nat) : Int)
  ·rw [symN_yes h, List.length_append, List.length_singleton, Nat.add_mul, Nat.one_mul, if_pos (by omega), if_neg (by omega), h]
   have : pw ((k + 1 : Nat) : Int).toNat = 2 ^ (15 - (k + 1)) := by rw [Int.toNat_natCast]; rfl
   rw [this]; omega
  rw [symN_no h]
  by_cases h2 : 0 < l.getD s 0 ∧ l.getD s 0 ≤ k
  ·rw [if_pos (by omega), if_pos h2]; omega
  rw [if_neg (by omega), if_neg h2, Nat.add_zero]; rfl
theorem krK_used (l : List Int) (k : Nat) : krK l k l.length = usedB l k := by
 induction k with
 | zero => rw [krK_zero]; rfl
 | succ k ih => rw [krK_succ, ih]; rfl
theorem kr_used {l : List Int} (h : inB 0 15 l = true) : kr l l.length = usedB l 15 := by
 rw [← krK_used]
 have key : ∀ s, s ≤ l.length → kr l s = krK l 15 s := by
  intro s
  induction s with
  | zero => intro _; rfl
  | succ s ih =>
   intro hs
   have hb := inB_iff.1 h s (by omega)
   simp only [kr, krK, ih (by omega)]
   by_cases h0 : 0 < l.getD s 0
   ·rw [if_pos h0, if_pos ⟨h0, by omega⟩]
   rw [if_neg h0, if_neg (by omega)]
 exact key _ (Nat.le_refl _)
end Go.Proofs.Ytifnmbmijljhfaa.E.Hf
namespace Go.Proofs.Ytifnmbmijljhfaa.E.Hf
open Go
def cntW (l : List Int) (n : Nat) : Nat := if n = 0 then 0 else (symN l n l.length).length
def firstW (l : List Int) : Nat → Nat
 | 0 => 0
 | n + 1 => 2 * (firstW l n + cntW l n)
theorem word_used (l : List Int) : ∀ n, n ≤ 15 → (firstW l n + cntW l n) * 2 ^ (15 - n) = usedB l n := by
 intro n
 induction n with
 | zero => intro _; simp [firstW, cntW, usedB]
 | succ n ih =>
  intro hn
  have h1 := ih (by omega)
  have h2 : 2 ^ (15 - n) = 2 * 2 ^ (15 - (n + 1)) := by
   rw [← Nat.pow_succ']; congr 1; omega
  have h3 : cntW l (n + 1) = (symN l (n + 1) l.length).length := by unfold cntW; rw [if_neg (by omega)]
  show (2 * (firstW l n + cntW l n) + cntW l (n + 1)) * 2 ^ (15 - (n + 1)) = usedB l n + (symN l (n + 1) l.length).length * 2 ^ (15 - (n + 1))
  rw [Nat.add_mul, h3, ← h1, h2, Nat.mul_comm 2, Nat.mul_assoc]
theorem word_le {l : List Int} (h : usedB l 15 ≤ 32768) {n : Nat} (hn : n ≤ 15) : firstW l n + cntW l n ≤ 32768 := by
 have h1 := word_used l n hn
 have h2 : usedB l n ≤ usedB l 15 := by
  have mono : ∀ a b, usedB l a ≤ usedB l (a + b) := by
   intro a b
   induction b with
   | zero => exact Nat.le_refl _
   | succ b ih => exact Nat.le_trans ih (Nat.le_add_right _ _)
  have := mono n (15 - n)
  rwa [show n + (15 - n) = 15 by omega] at this
 have h3 : 1 ≤ 2 ^ (15 - n) := Nat.one_le_two_pow
 have h4 : (firstW l n + cntW l n) * 1 ≤ (firstW l n + cntW l n) * 2 ^ (15 - n) := Nat.mul_le_mul_left _ h3
 omega
def codeAt (l : List Int) (i : Nat) : Int × Int := if l.getD i 0 ≤ 0 then (0, 0) else (l.getD i 0, ((firstW l (l.getD i 0).toNat + (symN l (l.getD i 0).toNat i).length : Nat) : Int))
def codesL (l : List Int) : List (Int × Int) := (List.range l.length).map (codeAt l)
def codeC (c : Int × Int) : List Value := [.int .i64 c.1, .int .u32 c.2]
instance : Enc codeC 2 := ⟨fun _ => rfl, by omega, fun c => by intro v hv; simp only [codeC, List.mem_cons, List.not_mem_nil, or_false] at hv; rcases hv with rfl | rfl <;> rfl⟩
def codes (l : List Int) : List (Int × Int) × Int := if 256 < l.length then ([], 2) else if inB 0 15 l then (if 32768 < usedB l 15 then ([], 41) else (codesL l, 0)) else ([], 3)
theorem codes_long {l : List Int} (h : 256 < l.length) : codes l = ([], 2) := by unfold codes; rw [if_pos h]
theorem codes_bad {l : List Int} (h : ¬ 256 < l.length) (hb : inB 0 15 l = false) : codes l = ([], 3) := by unfold codes; rw [if_neg h, hb]; rfl
theorem codes_much {l : List Int} (h : ¬ 256 < l.length) (hb : inB 0 15 l = true) (hk : 32768 < usedB l 15) : codes l = ([], 41) := by unfold codes; rw [if_neg h, hb, if_pos rfl, if_pos hk]
theorem codes_ok {l : List Int} (h : ¬ 256 < l.length) (hb : inB 0 15 l = true) (hk : ¬ 32768 < usedB l 15) : codes l = (codesL l, 0) := by unfold codes; rw [if_neg h, hb, if_pos rfl, if_neg hk]
end Go.Proofs.Ytifnmbmijljhfaa.E.Hf
namespace Go.Proofs.Ytifnmbmijljhfaa.E.Hf
open Go
def partO (l : List Int) (m : Nat) : List (Int × Int) := (List.range l.length).map fun j => if j ∈ (ordB l 15).take m then codeAt l j else (0, 0)
theorem partO_zero (l : List Int) : partO l 0 = List.replicate l.length (0, 0) := by
 apply List.ext_getElem (by simp [partO])
 intro j h1 h2
 simp [partO]
theorem partO_length (l : List Int) (m : Nat) : (partO l m).length = l.length := by simp [partO]
theorem partO_set {l : List Int} {m : Nat} (hm : m < (ordB l 15).length) : (partO l m).set ((ordB l 15).getD m 0) (codeAt l ((ordB l 15).getD m 0)) = partO l (m + 1) := by
 apply List.ext_getElem (by simp [partO])
 intro j h1 h2
 rw [List.getElem_set]
 simp only [partO, List.getElem_map, List.getElem_range]
 rw [takeG 0 hm]
 simp only [List.mem_append, List.mem_singleton]
 by_cases e : (ordB l 15).getD m 0 = j
 ·rw [if_pos e, if_pos (.inr e.symm), e]
 rw [if_neg e]
 by_cases c : j ∈ (ordB l 15).take m
 ·rw [if_pos c, if_pos (.inl c)]
 rw [if_neg c, if_neg (by rintro (h | h); exact c h; exact e h.symm)]
theorem mem_symN {l : List Int} {n s j : Nat} : j ∈ symN l n s ↔ j < s ∧ l.getD j 0 = (n : Int) := by
 unfold symN; rw [List.mem_filter]; simp
theorem mem_ordB {l : List Int} {k j : Nat} : j ∈ ordB l k ↔ j < l.length ∧ 1 ≤ l.getD j 0 ∧ l.getD j 0 ≤ k := by
 induction k with
 | zero => simp only [ordB, List.not_mem_nil, false_iff]; omega
 | succ k ih => simp only [ordB, List.mem_append, ih, mem_symN]; omega
theorem partO_end {l : List Int} (h : inB 0 15 l = true) : partO l (ordB l 15).length = codesL l := by
 unfold partO codesL
 apply List.map_congr_left
 intro j hj
 have hj' := List.mem_range.1 hj
 have hb := inB_iff.1 h j hj'
 rw [List.take_length]
 by_cases c : j ∈ ordB l 15
 ·rw [if_pos c]
 rw [if_neg c]
 have : l.getD j 0 ≤ 0 := by
  rcases Int.lt_or_le 0 (l.getD j 0) with h1 | h1
  ·exact absurd (mem_ordB.2 ⟨hj', by omega, by omega⟩) c
  exact h1
 unfold codeAt; rw [if_pos this]
theorem rankN {l : List Int} {n r : Nat} : ∀ {s L : Nat}, r < (symN l n L).length → (symN l n L).getD r 0 = s → (symN l n s).length = r := by
 intro s L
 induction L with
 | zero => intro h; simp [symN] at h
 | succ L ih =>
  intro h e
  by_cases c : l.getD L 0 = (n : Int)
  ·rw [symN_yes c] at h e
   rw [List.length_append, List.length_singleton] at h
   by_cases h1 : r < (symN l n L).length
   ·rw [appG1 0 h1] at e; exact ih h1 e
   have hr : r = (symN l n L).length := by omega
   rw [appG2 0 (by omega), hr, Nat.sub_self] at e
   simp at e; subst e; exact hr.symm
  rw [symN_no c] at h e; exact ih h e
theorem ord_pos {l : List Int} : ∀ {k m : Nat}, m < (ordB l k).length → ∃ n r, 1 ≤ n ∧ n ≤ k ∧ m = (ordB l (n - 1)).length + r ∧ r < (symN l n l.length).length ∧ (ordB l k).getD m 0 = (symN l n l.length).getD r 0 := by
 intro k
 induction k with
 | zero => intro m h; simp [ordB] at h
 | succ k ih =>
  intro m h
  by_cases h1 : m < (ordB l k).length
  ·obtain ⟨n, r, a, b, c, d, e⟩ := ih h1
   exact ⟨n, r, a, by omega, c, d, by rw [ordB, appG1 0 h1]; exact e⟩
  simp only [ordB, List.length_append] at h
  exact ⟨k + 1, m - (ordB l k).length, by omega, Nat.le_refl _, by simp only [Nat.add_sub_cancel]; omega, by omega, by rw [ordB, appG2 0 (by omega)]⟩
theorem ord_mono (l : List Int) (a b : Nat) : (ordB l a).length ≤ (ordB l (a + b)).length := by
 induction b with
 | zero => exact Nat.le_refl _
 | succ b ih => exact Nat.le_trans ih (by show _ ≤ (ordB l (a + b) ++ _).length; simp)
theorem getD_mem {l : List Nat} {r : Nat} (h : r < l.length) : l.getD r 0 ∈ l := by
 rw [List.getD_eq_getElem?_getD, List.getElem?_eq_getElem h]; exact List.getElem_mem h
theorem firstW_skip {l : List Int} {n : Nat} : ∀ d, (∀ k, n < k → k ≤ n + d → (symN l k l.length).length = 0) → firstW l (n + d + 1) = 2 ^ (d + 1) * (firstW l n + cntW l n) := by
 intro d
 induction d with
 | zero => intro _; rfl
 | succ d ih =>
  intro h
  have h1 := ih fun k a b => h k a (by omega)
  have h2 : cntW l (n + d + 1) = 0 := by
   unfold cntW; rw [if_neg (by omega)]; exact h _ (by omega) (by omega)
  show 2 * (firstW l (n + d + 1) + cntW l (n + d + 1)) = _
  rw [h1, h2, Nat.add_zero, ← Nat.mul_assoc, ← Nat.pow_succ']
theorem code_pos {l : List Int} {n r : Nat} (hn : 1 ≤ n) (hr : r < (symN l n l.length).length) : l.getD ((symN l n l.length).getD r 0) 0 = (n : Int) ∧ codeAt l ((symN l n l.length).getD r 0) = ((n : Int), ((firstW l n + r : Nat) : Int)) := by
 have h1 := (mem_symN.1 (getD_mem hr)).2
 refine ⟨h1, ?_⟩
 unfold codeAt
 rw [if_neg (by omega), h1, Int.toNat_natCast, rankN hr rfl]
theorem word_next {l : List Int} {m : Nat} (hm : m + 1 < (ordB l 15).length) : ∃ n n' W : Nat, 1 ≤ n ∧ n ≤ n' ∧ n' ≤ 15 ∧ codeAt l ((ordB l 15).getD m 0) = ((n : Int), (W : Int)) ∧ l.getD ((ordB l 15).getD (m + 1) 0) 0 = (n' : Int) ∧ codeAt l ((ordB l 15).getD (m + 1) 0) = ((n' : Int), (((W + 1) * 2 ^ (n' - n) : Nat) : Int)) := by
 obtain ⟨n, r, a, b, c, d, e⟩ := ord_pos (show m < (ordB l 15).length by omega)
 obtain ⟨n', r', a', b', c', d', e'⟩ := ord_pos hm
 have p := code_pos a d
 have p' := code_pos a' d'
 rw [e, e']
 have hn : (ordB l n).length = (ordB l (n - 1)).length + (symN l n l.length).length := by
  obtain ⟨k, rfl⟩ : ∃ k, n = k + 1 := ⟨n - 1, by omega⟩
  simp [ordB]
 have hn' : (ordB l n').length = (ordB l (n' - 1)).length + (symN l n' l.length).length := by
  obtain ⟨k, rfl⟩ : ∃ k, n' = k + 1 := ⟨n' - 1, by omega⟩
  simp [ordB]
 have mono : ∀ a b, a ≤ b → (ordB l a).length ≤ (ordB l b).length := fun a b h => by
  have := ord_mono l a (b - a); rwa [show a + (b - a) = b by omega] at this
 have hle : n ≤ n' := by
  rcases Nat.lt_or_ge n' n with h | h
  ·have := mono n' (n - 1) (by omega); omega
  exact h
 refine ⟨n, n', firstW l n + r, a, hle, b', p.2, p'.1, ?_⟩
 rw [p'.2]
 by_cases h : n = n'
 ·subst h
  rw [Nat.sub_self, Nat.pow_zero, Nat.mul_one, show r' = r + 1 by omega, Nat.add_assoc]
 have h1 := mono n (n' - 1) (by omega)
 have hr : r' = 0 ∧ r + 1 = (symN l n l.length).length ∧ (ordB l (n' - 1)).length = (ordB l n).length := by omega
 have hz : ∀ k, n < k → k ≤ n + (n' - n - 1) → (symN l k l.length).length = 0 := by
  intro k k1 k2
  have q1 := mono n (k - 1) (by omega)
  have q2 := mono k (n' - 1) (by omega)
  have q3 : (ordB l k).length = (ordB l (k - 1)).length + (symN l k l.length).length := by
   obtain ⟨j, rfl⟩ : ∃ j, k = j + 1 := ⟨k - 1, by omega⟩
   simp [ordB]
  omega
 have hs := firstW_skip (n' - n - 1) hz
 rw [show n + (n' - n - 1) + 1 = n' by omega, show n' - n - 1 + 1 = n' - n by omega] at hs
 have hc : cntW l n = r + 1 := by unfold cntW; rw [if_neg (by omega)]; omega
 rw [hr.1, Nat.add_zero, hs, hc, Nat.mul_comm, Nat.add_assoc]
theorem word_first {l : List Int} (h : 0 < (ordB l 15).length) : ∃ n : Nat, 1 ≤ n ∧ n ≤ 15 ∧ l.getD ((ordB l 15).getD 0 0) 0 = (n : Int) ∧ codeAt l ((ordB l 15).getD 0 0) = ((n : Int), 0) := by
 obtain ⟨n, r, a, b, c, d, e⟩ := ord_pos h
 have p := code_pos a d
 rw [e]
 refine ⟨n, a, b, p.1, ?_⟩
 rw [p.2]
 have mono : ∀ a b, a ≤ b → (ordB l a).length ≤ (ordB l b).length := fun a b h => by
  have := ord_mono l a (b - a); rwa [show a + (b - a) = b by omega] at this
 have hz : ∀ k, 0 < k → k ≤ 0 + (n - 1) → (symN l k l.length).length = 0 := by
  intro k k1 k2
  have q2 := mono k (n - 1) (by omega)
  have q3 : (ordB l k).length = (ordB l (k - 1)).length + (symN l k l.length).length := by
   obtain ⟨j, rfl⟩ : ∃ j, k = j + 1 := ⟨k - 1, by omega⟩
   simp [ordB]
  omega
 have hs := firstW_skip (n := 0) (n - 1) hz
 rw [show 0 + (n - 1) + 1 = n by omega] at hs
 have : firstW l 0 + cntW l 0 = 0 := rfl
 rw [this, Nat.mul_zero] at hs
 rw [hs, show r = 0 by omega]; rfl
theorem code_bd {l : List Int} (hu : usedB l 15 ≤ 32768) {m : Nat} (hm : m < (ordB l 15).length) : (ordB l 15).getD m 0 < l.length ∧ 1 ≤ l.getD ((ordB l 15).getD m 0) 0 ∧ l.getD ((ordB l 15).getD m 0) 0 ≤ 15 ∧ ∃ W : Nat, codeAt l ((ordB l 15).getD m 0) = (l.getD ((ordB l 15).getD m 0) 0, (W : Int)) ∧ W ≤ 33024 := by
 have h := mem_ordB.1 (getD_mem hm)
 refine ⟨h.1, by omega, by omega, ?_⟩
 obtain ⟨n, r, a, b, c, d, e⟩ := ord_pos hm
 have p := code_pos a d
 have hw := word_le hu b
 have hc : cntW l n = (symN l n l.length).length := by unfold cntW; rw [if_neg (by omega)]
 rw [e]
 exact ⟨firstW l n + r, by rw [p.2, p.1], by omega⟩
def wsz (l : List Int) : Nat → Int × Int
 | 0 => (0, 0)
 | m + 1 => codeAt l ((ordB l 15).getD m 0)
theorem shl_ok {a : Int} {b n : Nat} (hn : n ≤ 15) (h : a * 2 ^ n = (b : Int)) (hb : b ≤ 33024) : Value.int .u32 (IntKind.u32.wrap (a * 2 ^ min ((n : Int)).toNat IntKind.u32.bits)) = .int .u32 (b : Int) := by
 have e : min ((n : Int)).toNat IntKind.u32.bits = n := by rw [Int.toNat_natCast]; exact Nat.min_eq_left (by simp only [IntKind.bits]; omega)
 rw [e, h]
 exact v_same (by simp only [inK]; omega)
theorem cod_bd {l : List Int} (hu : usedB l 15 ≤ 32768) {m : Nat} (hm : m < (ordB l 15).length) : 0 ≤ (wsz l m).2 ∧ (wsz l m).2 ≤ 33024 ∧ 0 ≤ l.getD ((ordB l 15).getD m 0) 0 - (wsz l m).1 ∧ -16 ≤ (wsz l m).1 ∧ (wsz l m).1 ≤ 16 := by
 obtain ⟨_, b1, b2, _⟩ := code_bd hu hm
 cases m with
 | zero => simp only [wsz]; omega
 | succ m =>
  obtain ⟨n, n', W, h1, h2, h3, h4, h5, h6⟩ := word_next hm
  obtain ⟨_, _, _, W', h7, h8⟩ := code_bd hu (m := m) (by omega)
  simp only [wsz]
  rw [h4] at h7 ⊢
  have := (Prod.mk.inj h7).2
  rw [h5]
  simp only
  omega
theorem cod_T {l : List Int} (hu : usedB l 15 ≤ 32768) {m : Nat} (hm : m < (ordB l 15).length) (h0 : 0 < m) : Value.int .u32 (IntKind.u32.wrap (((wsz l m).2 + 1) * 2 ^ min (l.getD ((ordB l 15).getD m 0) 0 - (wsz l m).1).toNat IntKind.u32.bits)) = .int .u32 (codeAt l ((ordB l 15).getD m 0)).2 := by
 obtain ⟨m, rfl⟩ : ∃ k, m = k + 1 := ⟨m - 1, by omega⟩
 obtain ⟨n, n', W, h1, h2, h3, h4, h5, h6⟩ := word_next hm
 obtain ⟨_, _, _, W', h7, h8⟩ := code_bd hu hm
 rw [h6] at h7
 have h9 := (Prod.mk.inj h7).2
 simp only [wsz]
 rw [h4, h5, h6]
 have e : ((n' : Int) - (n : Int)) = ((n' - n : Nat) : Int) := by omega
 simp only [e]
 exact shl_ok (by omega) (by rw [Int.natCast_mul, Int.natCast_pow]; simp) (by omega)
theorem cod_F {l : List Int} {m : Nat} (hm : m < (ordB l 15).length) (h0 : m = 0) : Value.int .u32 (IntKind.u32.wrap ((wsz l m).2 * 2 ^ min (l.getD ((ordB l 15).getD m 0) 0 - (wsz l m).1).toNat IntKind.u32.bits)) = .int .u32 (codeAt l ((ordB l 15).getD m 0)).2 := by
 subst h0
 obtain ⟨n, h1, h2, h3, h4⟩ := word_first hm
 simp only [wsz]
 rw [h4, h3]
 have := shl_ok (a := 0) (b := 0) (n := n) h2 (by simp) (by omega)
 rw [Int.sub_zero]
 exact this
theorem cod_1 {l : List Int} (hu : usedB l 15 ≤ 32768) {m : Nat} (hm : m < (ordB l 15).length) : (codeAt l ((ordB l 15).getD m 0)).1 = l.getD ((ordB l 15).getD m 0) 0 := by
 obtain ⟨_, _, _, W, h, _⟩ := code_bd hu hm
 rw [h]
theorem Codes_ok (x : Value) (l : List Int) (w : World) (hx : RdE i64V w x l) (hl : l.length ≤ 1152921504606846976) : Calls Try.prog 43 [x].toArray w (Rt fun r w' => ∃ v rs, r = .tuple [v, .int .i64 (codes l).2].toArray ∧ SlS codeC 2 93 v (codes l).1 rs ∧ Mem w [] w' [rs]) := by
 have hM0 : Mem w [] w [] := Mem.nil w []
 refine calls_vc mixed Try.func43 rfl C43 (by simp [Try.ntmps43]) <| seq fun _ h1 => stp (v := .slice none 0 0) (o_mv rfl) <| stp (v := .int .i64 0) (o_mv rfl) <| h1 _ _ <| seq fun _ h2 => seq fun _ h3 => stp (v := x) (o_mv rfl) <| stp (v := .int .i64 (l.length : Nat)) (o_lenR (hx.upd hM0.upd) rfl rfl) <| stp (v := .bool (decide ((256 : Int) < ((l.length : Nat) : Int)))) (o_bin rfl rfl rfl) <| h3 _ _ <| cndP rfl (fun c4 => ?_) (fun c4 => ?_)
 ·refine seq fun _ h5 => stp (v := .slice none 0 0) (o_mv rfl) <| stp (v := .int .i64 2) (o_mv rfl) <| h5 _ _ <| ⟨(.tuple [.slice none 0 0, .int .i64 2].toArray), rfl, ⟨.slice none 0 0, [], by rw [codes_long (by omega)], by rw [codes_long (by omega)]; exact Sl.nil 2 93, hM0.addNil.keep (by simp)⟩⟩
 refine h2 _ _ <| seq fun _ h6 => seq fun _ h7 => stp (v := x) (o_mv rfl) <| m_call (inside_ok _ l w (hx.upd hM0.upd) (by first | omega | (simp; done) | (simp; omega))) rfl fun v8 w8 ⟨hr8, hu8⟩ => ?_
 have hM8 : Mem w [] w8 [] := hM0.pure hu8
 subst hr8
 refine stp (v := .bool (!(inB 0 15 l))) (o_not rfl rfl) <| h7 _ _ <| cnd rfl (fun c9 => ?_) (fun c9 => ?_)
 ·refine seq fun _ h10 => stp (v := .slice none 0 0) (o_mv rfl) <| stp (v := .int .i64 3) (o_mv rfl) <| h10 _ _ <| ⟨(.tuple [.slice none 0 0, .int .i64 3].toArray), rfl, ⟨.slice none 0 0, [], by rw [codes_bad (by omega) (by simpa using ‹(!inB 0 15 l) = true›)], by rw [codes_bad (by omega) (by simpa using ‹(!inB 0 15 l) = true›)]; exact Sl.nil 2 93, hM8.addNil.keep (by simp)⟩⟩
 refine h6 _ _ <| seq fun _ h11 => ?_
 have k2 : inB 0 15 l = true := by simpa using ‹(!inB 0 15 l) = false›
 refine stp (v := x) (o_mv rfl) <| m_call (order_ok _ l w8 (hx.upd hM8.upd) (by omega)) rfl fun v12 w12 ⟨y12, rs12, hr12, hs12, hm12⟩ => ?_
 have hM12 : Mem w [] w12 [rs12] := hM8.add hm12
 subst hr12
 refine stp (v := .tuple [y12, .agg (((manyL l 16 0).map i64V).toArray), .bool (decide (0 ≤ 32768 - ((usedB l 15 : Nat) : Int)))].toArray) (o_mv rfl) <| stp (v := y12) (o_ext rfl rfl) <| stp (v := .agg (((manyL l 16 0).map i64V).toArray)) (o_ext rfl rfl) <| stp (v := .bool (decide (0 ≤ 32768 - ((usedB l 15 : Nat) : Int)))) (o_ext rfl rfl) <| m_al hM12 fun b13 w14 (hM14 : Mem w [] w14 [rs12, [⟨b13, 120, (List.replicate 16 (.int .i64 0))⟩]]) => stp (v := y12) (o_mv rfl) <| m_stA (l := ((manyL l 16 0).map i64V)) hM14 (i := 1) rfl rfl rfl (by simp [manyL_length]) (one_elems _) (by simp) fun w15 hm15 => ?_
 have hM15 : Mem w [] w15 [rs12, [⟨b13, 120, ((manyL l 16 0).map i64V)⟩]] := by
  have e : splice (List.replicate 16 (.int .i64 0)) 0 ((manyL l 16 0).map i64V) = ((manyL l 16 0).map i64V) := splice_full (by simp; first | done | (simp [manyL_length]) | omega)
  rw [e] at hm15
  exact hm15
 refine stp (v := .bool (decide (0 ≤ 32768 - ((usedB l 15 : Nat) : Int)))) (o_mv rfl) <| h11 _ _ <| seq fun _ h16 => seq fun _ h17 => stp (v := .bool (decide (0 ≤ 32768 - ((usedB l 15 : Nat) : Int)))) (o_mv rfl) <| stp (v := .bool (decide (¬ (0 ≤ 32768 - ((usedB l 15 : Nat) : Int))))) (o_not rfl v_not) <| h17 _ _ <| cndP rfl (fun c18 => ?_) (fun c18 => ?_)
 ·refine seq fun _ h19 => stp (v := .slice none 0 0) (o_mv rfl) <| stp (v := .int .i64 41) (o_mv rfl) <| h19 _ _ <| ⟨(.tuple [.slice none 0 0, .int .i64 41].toArray), rfl, ⟨.slice none 0 0, [], by rw [codes_much (by omega) k2 (by omega)], by rw [codes_much (by omega) k2 (by omega)]; exact Sl.nil 2 93, hM15.addNil.keep (by simp)⟩⟩
 refine h16 _ _ <| seq fun _ h20 => stp (v := x) (o_mv rfl) <| stp (v := .int .i64 (l.length : Nat)) (o_lenR (hx.upd hM15.upd) rfl rfl) <| m_mksS (enc := codeC) (z := ((0, 0) : Int × Int)) (n := l.length) (c := l.length) (rfl) hM15 rfl rfl (by omega) (by omega) (by omega) fun v21 w21 r21 hs21 (hM21 : Mem w [] w21 [rs12, [⟨b13, 120, ((manyL l 16 0).map i64V)⟩], r21]) => stp (v := v21) (o_mv rfl) <| h20 _ _ <| seq fun _ h22 => stp (v := .int .u32 0) (o_mv rfl) <| stp (v := .int .i64 0) (o_mv rfl) <| h22 _ _ <| seq fun _ h23 => seq fun _ h24 => stp (v := y12) (o_mv rfl) <| stp (v := .int .i64 ((ordB l 15).length : Nat)) (o_lenR (hs12.rd hM21 (i := 0) rfl) rfl rfl) <| stp (v := .int .i64 0) (o_mv rfl) <| h24 _ _ <| lp (n := fun _ _ => False) (ι := (Nat) × (Value) × (List Ent)) (fun ⟨m, y7_, r7_⟩ f w' => f 7 = y7_ ∧ f 8 = .int .u32 ((wsz l m).2) ∧ f 9 = .int .i64 ((wsz l m).1) ∧ f 31 = .int .i64 (m : Nat) ∧ f 0 = x ∧ f 29 = y12 ∧ f 30 = .int .i64 ((ordB l 15).length : Nat) ∧ Mem w [] w' [rs12, [⟨b13, 120, ((manyL l 16 0).map i64V)⟩], r7_] ∧ (m ≤ (ordB l 15).length) ∧ (SlS codeC 2 93 y7_ (partO l m) r7_)) (fun ⟨m, y7_, r7_⟩ => (ordB l 15).length - m) (0, v21, r21) ?_ ?_
 ·exact ⟨rfl, rfl, rfl, vi, rfl, rfl, vi, hM21, by omega, by rw [partO_zero]; exact hs21⟩
 rintro ⟨m, y7_, r7_⟩ f w25 ⟨e25_7, e25_8, e25_9, e25_31, e25_0, e25_29, e25_30, hM25, hm, hy7_⟩ K26 h26
 obtain ⟨frm, rfl⟩ := re7 e25_7 e25_8 e25_9 e25_31 e25_0 e25_29 e25_30
 refine seq fun _ h27 => stp (v := .bool (decide (((m : Nat) : Int) < ((ordB l 15).length : Nat)))) (o_bin rfl rfl rfl) <| h27 _ _ <| seq fun _ h28 => cndP rfl (fun c29 => ?_) (fun c29 => ?_)
 ·refine h28 _ _ <| seq fun _ h30 => seq fun _ h31 => ?_
  have kb := cod_bd (l := l) (m := m) (by omega) (by omega)
  have kc := code_bd (l := l) (m := m) (by omega) (by omega)
  have ho := ordB_le l 15 (by omega)
  refine stp (v := .int .i64 (m : Nat)) (o_mv rfl) <| m_idxE 0 (j := m) (hs12.rd hM25 (i := 0) rfl) rfl rfl (by omega) fun b32 o32 hp32 => ld (v := .int .i64 ((ordB l 15).getD m 0 : Nat)) rfl (hp32) <| stp (v := .int .i64 (m : Nat)) (o_mv rfl) <| stp (v := .int .i64 ((ordB l 15).getD m 0 : Nat)) (o_mv rfl) <| h31 _ _ <| seq fun _ h33 => seq fun _ h34 => stp (v := .int .i64 (m : Nat)) (o_mv rfl) <| stp (v := .bool (decide ((0 : Int) < ((m : Nat) : Int)))) (o_bin rfl rfl rfl) <| h34 _ _ <| cndP rfl (fun c35 => ?_) (fun c35 => ?_)
  ·refine stp (v := .int .u32 ((wsz l m).2)) (o_mv rfl) <| stp (v := .int .u32 (((wsz l m).2) + 1)) (o_bin rfl rfl (v_same (by simp only [inK]; omega))) <| stp (v := .int .u32 (((wsz l m).2) + 1)) (o_mv rfl) <| h33 _ _ <| seq fun _ h36 => stp (v := .int .u32 (((wsz l m).2) + 1)) (o_mv rfl) <| stp (v := x) (o_mv rfl) <| stp (v := .int .i64 ((ordB l 15).getD m 0 : Nat)) (o_mv rfl) <| m_idxE 0 (j := (ordB l 15).getD m 0) (hx.upd hM25.upd) rfl rfl (by omega) fun b37 o37 hp37 => ld (v := .int .i64 (l.getD ((ordB l 15).getD m 0) 0)) rfl (hp37) <| stp (v := .int .i64 ((wsz l m).1)) (o_mv rfl) <| stp (v := .int .i64 ((l.getD ((ordB l 15).getD m 0) 0) - ((wsz l m).1))) (o_bin rfl rfl (v_sub64 (by omega))) <| stp (v := .int .u32 ((codeAt l ((ordB l 15).getD m 0)).2)) (o_shl rfl rfl (by omega) (by first | exact cod_T (by omega) (by omega) (by omega) | exact cod_F (by omega) (by omega))) <| stp (v := .int .u32 ((codeAt l ((ordB l 15).getD m 0)).2)) (o_mv rfl) ?_
   refine h36 _ _ <| seq fun _ h38 => stp (v := x) (o_mv rfl) <| stp (v := .int .i64 ((ordB l 15).getD m 0 : Nat)) (o_mv rfl) <| m_idxE 0 (j := (ordB l 15).getD m 0) (hx.upd hM25.upd) rfl rfl (by omega) fun b39 o39 hp39 => ld (v := .int .i64 (l.getD ((ordB l 15).getD m 0) 0)) rfl (hp39) <| stp (v := .int .i64 (l.getD ((ordB l 15).getD m 0) 0)) (o_mv rfl) <| h38 _ _ <| stp (v := y7_) (o_mv rfl) <| stp (v := .int .i64 ((ordB l 15).getD m 0 : Nat)) (o_mv rfl) <| stp (v := .int .i64 (l.getD ((ordB l 15).getD m 0) 0)) (o_mv rfl) <| stp (v := .int .u32 ((codeAt l ((ordB l 15).getD m 0)).2)) (o_mv rfl) <| stp (v := .agg ([.int .i64 (l.getD ((ordB l 15).getD m 0) 0), .int .u32 ((codeAt l ((ordB l 15).getD m 0)).2)] : List Value).toArray) (o_bld rfl rfl) <| m_setS (enc := codeC) ((0, 0) : Int × Int) (q := codeAt l ((ordB l 15).getD m 0)) (j := (ordB l 15).getD m 0) hM25 (i := 2) rfl hy7_ rfl rfl (by rw [partO_length]; omega) (by simp) (by show _ = Value.agg #[.int .i64 (codeAt l _).1, .int .u32 (codeAt l _).2]; rw [cod_1 (by omega) (by omega)]; rfl) fun w40 r40 u40 he40 hs40 (hM40 : Mem w [] w40 [rs12, [⟨b13, 120, ((manyL l 16 0).map i64V)⟩], r40]) => ?_
   refine h30 _ _ <| stp (v := .int .i64 ((m : Nat) + 1)) (o_bin rfl rfl (v_add64 (by omega))) <| stp (v := .int .i64 ((m : Nat) + 1)) (o_mv rfl) <| h26 (m + 1, y7_, r40) _ _ ⟨rfl, rfl, v_int (cod_1 (by omega) (by omega)).symm, vi, rfl, rfl, vi, hM40, by omega, by rw [← partO_set (by omega)]; exact hs40⟩ (by (try dsimp only); omega)
  refine h33 _ _ <| seq fun _ h41 => stp (v := .int .u32 ((wsz l m).2)) (o_mv rfl) <| stp (v := x) (o_mv rfl) <| stp (v := .int .i64 ((ordB l 15).getD m 0 : Nat)) (o_mv rfl) <| m_idxE 0 (j := (ordB l 15).getD m 0) (hx.upd hM25.upd) rfl rfl (by omega) fun b42 o42 hp42 => ld (v := .int .i64 (l.getD ((ordB l 15).getD m 0) 0)) rfl (hp42) <| stp (v := .int .i64 ((wsz l m).1)) (o_mv rfl) <| stp (v := .int .i64 ((l.getD ((ordB l 15).getD m 0) 0) - ((wsz l m).1))) (o_bin rfl rfl (v_sub64 (by omega))) <| stp (v := .int .u32 ((codeAt l ((ordB l 15).getD m 0)).2)) (o_shl rfl rfl (by omega) (by first | exact cod_T (by omega) (by omega) (by omega) | exact cod_F (by omega) (by omega))) <| stp (v := .int .u32 ((codeAt l ((ordB l 15).getD m 0)).2)) (o_mv rfl) <| h41 _ _ <| seq fun _ h43 => stp (v := x) (o_mv rfl) <| stp (v := .int .i64 ((ordB l 15).getD m 0 : Nat)) (o_mv rfl) <| m_idxE 0 (j := (ordB l 15).getD m 0) (hx.upd hM25.upd) rfl rfl (by omega) fun b44 o44 hp44 => ld (v := .int .i64 (l.getD ((ordB l 15).getD m 0) 0)) rfl (hp44) <| stp (v := .int .i64 (l.getD ((ordB l 15).getD m 0) 0)) (o_mv rfl) <| h43 _ _ <| stp (v := y7_) (o_mv rfl) <| stp (v := .int .i64 ((ordB l 15).getD m 0 : Nat)) (o_mv rfl) <| stp (v := .int .i64 (l.getD ((ordB l 15).getD m 0) 0)) (o_mv rfl) <| stp (v := .int .u32 ((codeAt l ((ordB l 15).getD m 0)).2)) (o_mv rfl) <| stp (v := .agg ([.int .i64 (l.getD ((ordB l 15).getD m 0) 0), .int .u32 ((codeAt l ((ordB l 15).getD m 0)).2)] : List Value).toArray) (o_bld rfl rfl) <| m_setS (enc := codeC) ((0, 0) : Int × Int) (q := codeAt l ((ordB l 15).getD m 0)) (j := (ordB l 15).getD m 0) hM25 (i := 2) rfl hy7_ rfl rfl (by rw [partO_length]; omega) (by simp) (by show _ = Value.agg #[.int .i64 (codeAt l _).1, .int .u32 (codeAt l _).2]; rw [cod_1 (by omega) (by omega)]; rfl) fun w45 r45 u45 he45 hs45 (hM45 : Mem w [] w45 [rs12, [⟨b13, 120, ((manyL l 16 0).map i64V)⟩], r45]) => h30 _ _ <| stp (v := .int .i64 ((m : Nat) + 1)) (o_bin rfl rfl (v_add64 (by omega))) <| stp (v := .int .i64 ((m : Nat) + 1)) (o_mv rfl) <| h26 (m + 1, y7_, r45) _ _ ⟨rfl, rfl, v_int (cod_1 (by omega) (by omega)).symm, vi, rfl, rfl, vi, hM45, by omega, by rw [← partO_set (by omega)]; exact hs45⟩ (by (try dsimp only); omega)
 refine h23 _ _ <| seq fun _ h46 => stp (v := y7_) (o_mv rfl) <| stp (v := y7_) (o_mv rfl) <| stp (v := .int .i64 0) (o_mv rfl) <| h46 _ _ <| ⟨(.tuple [y7_, .int .i64 0].toArray), rfl, ?_⟩
 have e : m = (ordB l 15).length := by omega
 subst e
 exact ⟨_, _, by rw [codes_ok (by omega) k2 (by omega)], by rw [codes_ok (by omega) k2 (by omega), ← partO_end k2]; exact hy7_, hM25.keep (by simp)⟩
end Go.Proofs.Ytifnmbmijljhfaa.E.Hf
namespace Go.Proofs.Ytifnmbmijljhfaa.E.Hf
open Go
theorem sumU_more {g h : Nat → Nat} {k : Nat} : ∀ {n}, (∀ i, i < n → h i ≤ g i) → k < n → sumU n h + (g k - h k) ≤ sumU n g
 | n + 1, e, hk => by
  rw [sumU, sumU]
  by_cases c : n = k
  ·subst c
   have h1 := sumU_le (n := n) fun i hi => e i (by omega)
   have h2 := e n (by omega)
   omega
  have h1 := sumU_more (g := g) (h := h) (k := k) (n := n) (fun i hi => e i (by omega)) (by omega)
  have h2 := e n (by omega)
  omega
theorem thF_count (cs : List Int) : sumU cs.length (fun i => if 0 < cs.getD i 0 then 1 else 0) = (thF cs).length := by
 rw [← ones_sum (thF_ones cs)]
 exact sumU_congr fun i hi => by
  rw [thF_tot]
  by_cases c : 0 < cs.getD i 0
  ·rw [if_pos c, if_pos ⟨hi, c⟩]
  rw [if_neg c, if_neg (fun k => c k.2)]
def dF (cs : List Int) (lim i : Nat) : Nat := tot i (takeF cs lim)
theorem dF_le {cs : List Int} {lim : Nat} (h : 1 ≤ lim) (i : Nat) : dF cs lim i ≤ lim := by
 have := row_tot_le (cs := cs) (lim - 1) (max (2 * (thF cs).length - 2) 1) i
 unfold dF takeF; omega
theorem dF_absent {cs : List Int} {lim i : Nat} (h : ¬ (i < cs.length ∧ 0 < cs.getD i 0)) : dF cs lim i = 0 := tot_absent h _ _
theorem lens_get {cs : List Int} {lim i : Nat} (h : i < cs.length) : (lensF cs lim).getD i 0 = (dF cs lim i : Nat) := mapR_get h
theorem takeF_eq {cs : List Int} {lim : Nat} (h : 2 ≤ (thF cs).length) : takeF cs lim = (rowF (thF cs) (lim - 1)).take (2 * (thF cs).length - 2) := by
 unfold takeF; rw [show max (2 * (thF cs).length - 2) 1 = 2 * (thF cs).length - 2 by omega]
theorem wid_pow {j d : Nat} (h : d ≤ j + 1) : wid j d + 2 ^ (j + 1 - d) = 2 ^ (j + 1) := by
 unfold wid
 have : 2 ^ (j + 1 - d) ≤ 2 ^ (j + 1) := Nat.pow_le_pow_right (by omega) (by omega)
 omega
theorem lens_sum {cs : List Int} (hl : cs.length ≤ 256) (h0 : ∀ i, 0 ≤ cs.getD i 0) {lim : Nat} (h1 : 1 ≤ lim) (hk : (thF cs).length ≤ 2 ^ lim) (h2 : 2 ≤ (thF cs).length) : sumU cs.length (fun i => if 0 < cs.getD i 0 then 2 ^ (lim - dF cs lim i) else 0) = 2 ^ lim := by
 obtain ⟨j, rfl⟩ : ∃ j, lim = j + 1 := ⟨lim - 1, by omega⟩
 have hb := row_big (thF cs) h1 hk
 rw [Nat.add_sub_cancel] at hb
 have hw := kraft_row hl h0 j (2 * (thF cs).length - 2) hb
 have hd : ∀ i, tot i ((rowF (thF cs) j).take (2 * (thF cs).length - 2)) = dF cs (j + 1) i := fun i => by
  unfold dF; rw [takeF_eq h2, Nat.add_sub_cancel]
 have hs : sumU cs.length (fun i => wid j (dF cs (j + 1) i) + if 0 < cs.getD i 0 then 2 ^ (j + 1 - dF cs (j + 1) i) else 0) = sumU cs.length (fun i => (if 0 < cs.getD i 0 then 1 else 0) * 2 ^ (j + 1)) := sumU_congr fun i hi => by
  by_cases c : 0 < cs.getD i 0
  ·rw [if_pos c, if_pos c, Nat.one_mul, wid_pow (dF_le h1 i)]
  rw [if_neg c, if_neg c, dF_absent (fun k => c k.2), wid_zero, Nat.zero_mul]
 rw [sumU_add, sumU_mul, thF_count] at hs
 rw [sumU_congr (h := fun i => wid j (dF cs (j + 1) i)) fun i _ => by rw [hd i]] at hw
 rw [hw] at hs
 have e1 : 2 ^ (j + 1) = 2 * 2 ^ j := by rw [Nat.pow_succ]; omega
 have e2 : (thF cs).length * 2 ^ (j + 1) = (2 * (thF cs).length - 2) * 2 ^ j + 2 ^ (j + 1) := by
  rw [e1, ← Nat.mul_assoc, ← Nat.add_mul]
  congr 1; omega
 omega
theorem dF_pos {cs : List Int} (hl : cs.length ≤ 256) (h0 : ∀ i, 0 ≤ cs.getD i 0) {lim : Nat} (h1 : 1 ≤ lim) (hk : (thF cs).length ≤ 2 ^ lim) (h2 : 2 ≤ (thF cs).length) {i : Nat} (hi : i < cs.length) (hc : 0 < cs.getD i 0) : 1 ≤ dF cs lim i := by
 have hs := lens_sum hl h0 h1 hk h2
 rcases Nat.lt_or_ge (dF cs lim i) 1 with c | c
 ·exfalso
  have hm := sumU_more (g := fun i => if 0 < cs.getD i 0 then 2 ^ (lim - dF cs lim i) else 0) (h := fun i => if 0 < cs.getD i 0 then 1 else 0) (k := i) (n := cs.length) (fun k _ => by
   by_cases c : 0 < cs.getD k 0
   ·rw [if_pos c, if_pos c]; exact Nat.one_le_two_pow
   rw [if_neg c, if_neg c]; exact Nat.le_refl _) hi
  rw [thF_count, hs] at hm
  rw [if_pos hc, if_pos hc, show lim - dF cs lim i = lim by omega] at hm
  have : 1 ≤ 2 ^ lim := Nat.one_le_two_pow
  omega
 exact c
theorem kr_sum (l : List Int) : ∀ s, kr l s = sumU s fun i => if 0 < l.getD i 0 then pw (l.getD i 0).toNat else 0
 | 0 => rfl
 | s + 1 => by rw [kr, sumU, kr_sum l s]
theorem lens_kr {cs : List Int} (hl : cs.length ≤ 256) (h0 : ∀ i, 0 ≤ cs.getD i 0) {lim : Nat} (h1 : 1 ≤ lim) (h15 : lim ≤ 15) (hk : (thF cs).length ≤ 2 ^ lim) (h2 : 2 ≤ (thF cs).length) : kr (lensF cs lim) cs.length = 32768 := by
 rw [kr_sum, sumU_congr (h := fun i => (if 0 < cs.getD i 0 then 2 ^ (lim - dF cs lim i) else 0) * 2 ^ (15 - lim)) fun i hi => ?_, sumU_mul, lens_sum hl h0 h1 hk h2, ← Nat.pow_add, show lim + (15 - lim) = 15 by omega]
 rw [lens_get hi]
 by_cases c : 0 < cs.getD i 0
 ·have hd := dF_pos hl h0 h1 hk h2 hi c
  have hd2 := dF_le (cs := cs) h1 i
  rw [if_pos (by omega), if_pos c, Int.toNat_natCast]
  unfold pw
  rw [← Nat.pow_add]; congr 1; omega
 rw [dF_absent (fun k => c k.2), if_neg (by omega), if_neg c, Nat.zero_mul]
theorem lens_kr1 {cs : List Int} {lim : Nat} (h : (thF cs).length = 1) : kr (lensF cs lim) cs.length = 16384 := by
 rw [lens_one h, kr_sum, sumU_congr (h := fun i => (if 0 < cs.getD i 0 then 1 else 0) * 16384) fun i hi => ?_, sumU_mul, thF_count, h]
 rw [mapR_get hi]
 by_cases c : 0 < cs.getD i 0
 ·rw [if_pos c, if_pos c]; rfl
 rw [if_neg c, if_neg c]; rfl
theorem lens_kr0 {cs : List Int} {lim : Nat} (h : (thF cs).length = 0) : kr (lensF cs lim) cs.length = 0 := by
 rw [lens_none h, kr_sum, sumU_congr (h := fun _ => 0) fun i hi => ?_, sumU_zero]
 rw [mapR_get hi]; rfl
theorem lens_len (cs : List Int) (lim : Nat) : (lensF cs lim).length = cs.length := mapR_len _ _
theorem lens_inB {cs : List Int} {lim : Nat} (h1 : 1 ≤ lim) (h15 : lim ≤ 15) : inB 0 15 (lensF cs lim) = true := inB_iff.2 fun i hi => by
 rw [lens_len] at hi
 rw [lens_get hi]
 have := dF_le (cs := cs) h1 i
 omega
theorem lens_codes {cs : List Int} (hl : cs.length ≤ 256) (h0 : ∀ i, 0 ≤ cs.getD i 0) {lim : Nat} (h1 : 1 ≤ lim) (h15 : lim ≤ 15) (hk : (thF cs).length ≤ 2 ^ lim) : usedB (lensF cs lim) 15 ≤ 32768 ∧ codes (lensF cs lim) = (codesL (lensF cs lim), 0) := by
 have hu : usedB (lensF cs lim) 15 ≤ 32768 := by
  have e := kr_used (lens_inB (cs := cs) h1 h15)
  rw [lens_len] at e
  rw [← e]
  rcases Nat.lt_or_ge (thF cs).length 2 with c | c
  ·rcases Nat.lt_or_ge (thF cs).length 1 with d | d
   ·rw [lens_kr0 (by omega)]; omega
   rw [lens_kr1 (by omega)]; omega
  rw [lens_kr hl h0 h1 h15 hk c]; exact Nat.le_refl _
 exact ⟨hu, codes_ok (by rw [lens_len]; omega) (lens_inB h1 h15) (by omega)⟩
end Go.Proofs.Ytifnmbmijljhfaa.E.Hf
namespace Go.Proofs.Ytifnmbmijljhfaa.E.Hf
open Go
def runG (l : List Int) (x : Int) : Nat → Nat → Nat
 | i, 0 => i
 | i, n + 1 => if l.getD i 0 = x then runG l x (i + 1) n else i
def runK (l : List Int) (i : Nat) : Nat := runG l (l.getD i 0) i (l.length - i)
def IsRun (l : List Int) (i k : Nat) : Prop := i < k ∧ k ≤ l.length ∧ (∀ q, i ≤ q → q < k → l.getD q 0 = l.getD i 0) ∧ (k = l.length ∨ ¬ l.getD k 0 = l.getD i 0)
theorem runG_spec (l : List Int) (x : Int) : ∀ n i, i + n = l.length → i ≤ runG l x i n ∧ runG l x i n ≤ l.length ∧ (∀ q, i ≤ q → q < runG l x i n → l.getD q 0 = x) ∧ (runG l x i n = l.length ∨ ¬ l.getD (runG l x i n) 0 = x)
 | 0, i, h => by
  unfold runG
  exact ⟨Nat.le_refl _, by omega, fun q h1 h2 => by omega, .inl (by omega)⟩
 | n + 1, i, h => by
  unfold runG
  by_cases c : l.getD i 0 = x
  ·rw [if_pos c]
   obtain ⟨h1, h2, h3, h4⟩ := runG_spec l x n (i + 1) (by omega)
   refine ⟨by omega, h2, fun q k1 k2 => ?_, h4⟩
   by_cases e : q = i
   ·rw [e]; exact c
   exact h3 q (by omega) k2
  rw [if_neg c]
  exact ⟨Nat.le_refl _, by omega, fun q h1 h2 => by omega, .inr c⟩
theorem runK_spec {l : List Int} {i : Nat} (h : i < l.length) : IsRun l i (runK l i) := by
 obtain ⟨h1, h2, h3, h4⟩ := runG_spec l (l.getD i 0) (l.length - i) i (by omega)
 refine ⟨?_, h2, h3, h4⟩
 rcases Nat.lt_or_ge i (runK l i) with c | c
 ·exact c
 exfalso
 have e : runG l (l.getD i 0) i (l.length - i) = i := by unfold runK at c; omega
 rw [e] at h4
 rcases h4 with h4 | h4
 ·omega
 exact h4 rfl
theorem run_uniq {l : List Int} {i k m : Nat} (h : IsRun l i k) (h2 : IsRun l i m) : k = m := by
 obtain ⟨a1, a2, a3, a4⟩ := h
 obtain ⟨b1, b2, b3, b4⟩ := h2
 rcases Nat.lt_or_ge k m with c | c
 ·rcases a4 with a4 | a4
  ·omega
  exact absurd (b3 k (by omega) c) a4
 rcases Nat.lt_or_ge m k with d | d
 ·rcases b4 with b4 | b4
  ·omega
  exact absurd (a3 m (by omega) d) b4
 omega
def hdrE (l : List Int) (i : Nat) : List UInt8 :=
 if h : i < l.length then (if runK l i = l.length ∧ l.getD i 0 = 0 then [] else putI ((runK l i : Nat) - (i : Nat)) ++ [(l.getD i 0).toNat.toUInt8] ++ hdrE l (runK l i)) else []
termination_by l.length - i
decreasing_by have := runK_spec h; have := this.1; omega
theorem hdrE_end {l : List Int} {i : Nat} (h : ¬ i < l.length) : hdrE l i = [] := by rw [hdrE, dif_neg h]
theorem hdrE_zero {l : List Int} {i k : Nat} (hr : IsRun l i k) (h : k = l.length) (h0 : l.getD i 0 = 0) : hdrE l i = [] := by
 have hi : i < l.length := by have := hr.1; have := hr.2.1; omega
 have e := run_uniq (runK_spec hi) hr
 rw [hdrE, dif_pos hi, if_pos ⟨by omega, h0⟩]
theorem hdrE_run {l : List Int} {i k : Nat} (hr : IsRun l i k) (h : ¬ k = l.length ∨ ¬ l.getD i 0 = 0) : hdrE l i = putI ((k : Nat) - (i : Nat)) ++ [(l.getD i 0).toNat.toUInt8] ++ hdrE l k := by
 have hi : i < l.length := by have := hr.1; have := hr.2.1; omega
 have e := run_uniq (runK_spec hi) hr
 rw [hdrE, dif_pos hi, e, if_neg (fun k => h.elim (fun h => h k.1) (fun h => h k.2))]
theorem header_ok (x : Value) (l : List Int) (w : World) (hx : RdE i64V w x l) (hl : l.length ≤ 256) (hB : inB 0 15 l = true) : Calls Try.prog 44 [x].toArray w (Rt fun r w' => ∃ rs, SlE byteV 5 r (hdrE l 0 ++ [0]) rs ∧ Mem w [] w' [rs]) := by
 have hM0 : Mem w [] w [] := Mem.nil w []
 refine calls_vc mixed Try.func44 rfl C44 (by simp [Try.ntmps44]) <| seq fun _ h1 => mv <| h1 _ _ <| seq fun _ h2 => mv <| h2 _ _ <| seq fun _ h3 => seq fun _ h4 => mv <| h4 _ _ ?_
 have hM5 : Mem w [] w [[]] := hM0.addNil
 have hs5 : SlE byteV 5 (.slice none 0 0) [] [] := Sl.nil 1 5
 refine lp (n := fun _ _ => False) (ι := (Nat) × (List UInt8) × (Value) × (List Ent)) (fun ⟨i, lo, y3_, r3_⟩ f w' => f 3 = y3_ ∧ f 4 = .int .i64 (i : Nat) ∧ f 0 = x ∧ Mem w [] w' [r3_] ∧ (i ≤ l.length) ∧ (lo.length ≤ 10 * i) ∧ (lo ++ hdrE l i = hdrE l 0) ∧ (SlE byteV 5 y3_ (lo) r3_)) (fun ⟨i, lo, y3_, r3_⟩ => l.length - i) (0, [], ((.slice none 0 0)), ([])) ?_ ?_
 ·exact ⟨rfl, vi, rfl, hM5, by omega, by simp, by simp, by first | exact hs5 | simpa using hs5⟩
 rintro ⟨i, lo, y3_, r3_⟩ f w6 ⟨e6_3, e6_4, e6_0, hM6, hi, hlo, hE, hy3_⟩ K7 h7
 obtain ⟨frm, rfl⟩ := re3 e6_3 e6_4 e6_0
 refine seq fun _ h8 => seq fun _ h9 => mv <| mv <| stp (v := .int .i64 (l.length : Nat)) (o_lenR (hx.upd hM6.upd) rfl rfl) <| bn rfl rfl <| h9 _ _ <| cndP rfl (fun c10 => ?_) (fun c10 => ?_)
 ·refine h8 _ _ <| seq fun _ h11 => mv <| mv <| h11 _ _ <| seq fun _ h12 => lp (n := fun _ _ => False) (ι := (Nat)) (fun k f w' => f 5 = .int .i64 (k : Nat) ∧ f 0 = x ∧ f 3 = y3_ ∧ f 4 = .int .i64 (i : Nat) ∧ Mem w [] w' [r3_] ∧ (i ≤ k ∧ k ≤ l.length ∧ (k = i → i < l.length)) ∧ (∀ q, i ≤ q → q < k → l.getD q 0 = l.getD i 0)) (fun k => l.length - k) (i) ?_ ?_
  ·exact ⟨vi, rfl, rfl, vi, hM6, by omega, fun q h1 h2 => by omega⟩
  rintro k f w13 ⟨e13_5, e13_0, e13_3, e13_4, hM13, hk, hq⟩ K14 h14
  obtain ⟨frm, rfl⟩ := re4 e13_5 e13_0 e13_3 e13_4
  refine seq fun _ h15 => seq fun _ h16 => ?_
  intro wd e1 e2 e3 e4
  have hd := Upd.same e1 e2 e3 e4 []
  have hM17 := hM13.pure hd
  clear e1 e2 e3 e4
  refine ⟨none, ?_⟩
  show vd _ _ _ _ _ _ _
  refine dmv <| dmv <| dq (v := .int .i64 (l.length : Nat)) (o_lenR (hx.upd hM17.upd) rfl rfl) <| dbn rfl rfl <| dmv <| dsplitP rfl (fun c18 => ?_) (fun c18 => ?_)
  ·refine dgmv rfl <| dgmv rfl <| dgyes rfl rfl (dqp (m_idxE 0 (j := k) (hx.upd hM17.upd) rfl rfl (by omega) fun b19 o19 hp19 => ?_))
   show vd _ _ _ _ _ _ _
   refine dgmv rfl <| dgmv rfl <| dgyes rfl rfl (dqp (m_idxE 0 (j := i) (hx.upd hM17.upd) rfl rfl (by omega) fun b20 o20 hp20 => ?_))
   show vd _ _ _ _ _ _ _
   refine dqgyes rfl rfl <| dqld rfl (trivial) (v := .int .i64 (l.getD i 0)) (hp20) <| dgyesl rfl <| dl (ld (v := .int .i64 (l.getD k 0)) rfl (hp19) <| ⟨rfl, dgbn rfl rfl rfl <| dpkT rfl <| h16 _ _ <| cndP rfl (fun c21 => ?_) (fun c21 => ?_)⟩)
   ·refine h15 _ _ <| mv <| stp (v := .int .i64 ((k : Nat) + 1)) (o_bin rfl rfl (v_add64 (by omega))) <| mv ?_
    refine h14 (k + 1) _ _ ⟨vi, rfl, rfl, vi, hM17, by omega, fun q h1 h2 => by
     by_cases e : q = k
     ·subst e; assumption
     exact hq q h1 (by omega)⟩ (by (try dsimp only); omega)
   refine h12 _ _ <| seq fun _ h22 => seq fun _ h23 => mv <| mv <| stp (v := .int .i64 (l.length : Nat)) (o_lenR (hx.upd hM17.upd) rfl rfl) <| bn rfl rfl <| mv <| splitP rfl (fun c24 => ?_) (fun c24 => ?_)
   ·refine gx rfl <| gx rfl <| gx rfl <| gxl rfl <| gx rfl <| pkT rfl <| h23 _ _ <| cndT rfl <| seq fun _ h25 => mv <| mv <| mv <| stp (v := .int .i64 ((k : Nat) - (i : Nat))) (o_bin rfl rfl (v_sub64 (by omega))) <| m_call (Put_ok ((k : Nat) - (i : Nat)) (by simp only [inK]; omega) wd) rfl fun v26 w26 ⟨rs26, hs26, hm26⟩ => ?_
    have hM26 : Mem w [] w26 [r3_, rs26] := hM17.add hm26
    have hn26 := putI_len (v := (k : Nat) - (i : Nat)) (by omega)
    refine m_appE hM26 (i := 0) rfl hy3_ rfl rfl (hs26.rd hM26 (i := 1) rfl) (by first | omega | (simp; omega)) (by omega) fun v27 w27 r27 (hs27 : SlE byteV 5 v27 (lo ++ (putI ((k : Nat) - (i : Nat)))) r27) (hM27 : Mem w [] w27 [r27, rs26]) => mv <| h25 _ _ <| mv <| mv <| mv <| m_idxE 0 (j := i) (hx.upd hM27.upd) rfl rfl (by omega) fun b28 o28 hp28 => ld (v := .int .i64 (l.getD i 0)) rfl (hp28) ?_
    have hbi := inB_iff.1 hB i (by omega)
    refine stp (v := .int .u8 (l.getD i 0)) (o_conv rfl (v_same (by simp only [inK]; omega))) <| m_app1 (E := byteV) (q := (l.getD i 0).toNat.toUInt8) hM27 (i := 0) rfl hs27 rfl (by simp) (byteV_of (by omega) (by omega)) (by rw [List.length_append]; omega) (by omega) fun v29 w29 r29 u29 (hs29 : SlE byteV 5 v29 ((lo ++ (putI ((k : Nat) - (i : Nat)))) ++ [(l.getD i 0).toNat.toUInt8]) r29) (hM29 : Mem w [] w29 [r29, rs26]) => mv <| h22 _ _ <| mv <| mv ?_
    refine h7 (k, (lo ++ (putI ((k : Nat) - (i : Nat)))) ++ [(l.getD i 0).toNat.toUInt8], v29, r29) _ _ ⟨rfl, vi, rfl, hM29.keep (by simp), by omega, (by have hki : ¬ k = i := (fun e => (by first | omega | (subst e; exact absurd rfl (by assumption)))); rw [List.length_append, List.length_append, List.length_singleton]; omega), by
     have hki : ¬ k = i := (fun e => (by first | omega | (subst e; exact absurd rfl (by assumption))))
     have hr : IsRun l i k := ⟨by omega, by omega, hq, .inr (by assumption)⟩
     rw [hdrE_run hr (by omega), ← List.append_assoc, ← List.append_assoc] at hE
     exact hE, by first | exact hs29 | simpa using hs29⟩ (by (try dsimp only); have hki : ¬ k = i := (fun e => (by first | omega | (subst e; exact absurd rfl (by assumption)))); omega)
   refine gmv rfl <| gmv rfl <| gyes rfl rfl (m_idxE 0 (j := i) (hx.upd hM17.upd) rfl rfl (by omega) fun b30 o30 hp30 => gyesl rfl <| ld (v := .int .i64 (l.getD i 0)) rfl (hp30) <| gbneq rfl rfl rfl <| pkF rfl <| h23 _ _ <| cndP rfl (fun c31 => ?_) (fun c31 => ?_))
   ·refine seq fun _ h32 => mv <| mv <| mv <| stp (v := .int .i64 ((k : Nat) - (i : Nat))) (o_bin rfl rfl (v_sub64 (by omega))) <| m_call (Put_ok ((k : Nat) - (i : Nat)) (by simp only [inK]; omega) wd) rfl fun v33 w33 ⟨rs33, hs33, hm33⟩ => ?_
    have hM33 : Mem w [] w33 [r3_, rs33] := hM17.add hm33
    have hn33 := putI_len (v := (k : Nat) - (i : Nat)) (by omega)
    refine m_appE hM33 (i := 0) rfl hy3_ rfl rfl (hs33.rd hM33 (i := 1) rfl) (by first | omega | (simp; omega)) (by omega) fun v34 w34 r34 (hs34 : SlE byteV 5 v34 (lo ++ (putI ((k : Nat) - (i : Nat)))) r34) (hM34 : Mem w [] w34 [r34, rs33]) => mv <| h32 _ _ <| mv <| mv <| mv <| m_idxE 0 (j := i) (hx.upd hM34.upd) rfl rfl (by omega) fun b35 o35 hp35 => ld (v := .int .i64 (l.getD i 0)) rfl (hp35) ?_
    have hbi := inB_iff.1 hB i (by omega)
    refine stp (v := .int .u8 (l.getD i 0)) (o_conv rfl (v_same (by simp only [inK]; omega))) <| m_app1 (E := byteV) (q := (l.getD i 0).toNat.toUInt8) hM34 (i := 0) rfl hs34 rfl (by simp) (byteV_of (by omega) (by omega)) (by rw [List.length_append]; omega) (by omega) fun v36 w36 r36 u36 (hs36 : SlE byteV 5 v36 ((lo ++ (putI ((k : Nat) - (i : Nat)))) ++ [(l.getD i 0).toNat.toUInt8]) r36) (hM36 : Mem w [] w36 [r36, rs33]) => mv <| h22 _ _ <| mv <| mv ?_
    refine h7 (k, (lo ++ (putI ((k : Nat) - (i : Nat)))) ++ [(l.getD i 0).toNat.toUInt8], v36, r36) _ _ ⟨rfl, vi, rfl, hM36.keep (by simp), by omega, (by have hki : ¬ k = i := (fun e => (by first | omega | (subst e; exact absurd rfl (by assumption)))); rw [List.length_append, List.length_append, List.length_singleton]; omega), by
     have hki : ¬ k = i := (fun e => (by first | omega | (subst e; exact absurd rfl (by assumption))))
     have hr : IsRun l i k := ⟨by omega, by omega, hq, .inr (by assumption)⟩
     rw [hdrE_run hr (by omega), ← List.append_assoc, ← List.append_assoc] at hE
     exact hE, by first | exact hs36 | simpa using hs36⟩ (by (try dsimp only); have hki : ¬ k = i := (fun e => (by first | omega | (subst e; exact absurd rfl (by assumption)))); omega)
   refine h22 _ _ <| mv <| mv ?_
   refine h7 (k, lo, y3_, r3_) _ _ ⟨rfl, vi, rfl, hM17.keep (by simp), by omega, by omega, by
    have hr : IsRun l i k := ⟨by omega, by omega, hq, .inl (by omega)⟩
    rw [hdrE_zero hr (by omega) (by omega)] at hE
    rw [hdrE_end (by omega)]; exact hE, by first | exact hy3_ | simpa using hy3_⟩ (by (try dsimp only); omega)
  refine dx rfl <| dx rfl <| dx rfl <| dx rfl <| dx rfl <| dx rfl <| dxq rfl <| dxl rfl <| dx rfl <| dpkF rfl <| h16 _ _ <| cndF rfl <| h12 _ _ <| seq fun _ h37 => seq fun _ h38 => mv <| mv <| stp (v := .int .i64 (l.length : Nat)) (o_lenR (hx.upd hM17.upd) rfl rfl) <| bn rfl rfl <| mv <| splitP rfl (fun c39 => ?_) (fun c39 => ?_)
  ·refine gx rfl <| gx rfl <| gx rfl <| gxl rfl <| gx rfl <| pkT rfl <| h38 _ _ <| cndT rfl <| seq fun _ h40 => mv <| mv <| mv <| stp (v := .int .i64 ((k : Nat) - (i : Nat))) (o_bin rfl rfl (v_sub64 (by omega))) <| m_call (Put_ok ((k : Nat) - (i : Nat)) (by simp only [inK]; omega) wd) rfl fun v41 w41 ⟨rs41, hs41, hm41⟩ => ?_
   have hM41 : Mem w [] w41 [r3_, rs41] := hM17.add hm41
   have hn41 := putI_len (v := (k : Nat) - (i : Nat)) (by omega)
   refine m_appE hM41 (i := 0) rfl hy3_ rfl rfl (hs41.rd hM41 (i := 1) rfl) (by first | omega | (simp; omega)) (by omega) fun v42 w42 r42 (hs42 : SlE byteV 5 v42 (lo ++ (putI ((k : Nat) - (i : Nat)))) r42) (hM42 : Mem w [] w42 [r42, rs41]) => mv <| h40 _ _ <| mv <| mv <| mv <| m_idxE 0 (j := i) (hx.upd hM42.upd) rfl rfl (by omega) fun b43 o43 hp43 => ld (v := .int .i64 (l.getD i 0)) rfl (hp43) ?_
   have hbi := inB_iff.1 hB i (by omega)
   refine stp (v := .int .u8 (l.getD i 0)) (o_conv rfl (v_same (by simp only [inK]; omega))) <| m_app1 (E := byteV) (q := (l.getD i 0).toNat.toUInt8) hM42 (i := 0) rfl hs42 rfl (by simp) (byteV_of (by omega) (by omega)) (by rw [List.length_append]; omega) (by omega) fun v44 w44 r44 u44 (hs44 : SlE byteV 5 v44 ((lo ++ (putI ((k : Nat) - (i : Nat)))) ++ [(l.getD i 0).toNat.toUInt8]) r44) (hM44 : Mem w [] w44 [r44, rs41]) => mv <| h37 _ _ <| mv <| mv ?_
   refine h7 (k, (lo ++ (putI ((k : Nat) - (i : Nat)))) ++ [(l.getD i 0).toNat.toUInt8], v44, r44) _ _ ⟨rfl, vi, rfl, hM44.keep (by simp), by omega, (by have hki : ¬ k = i := (fun e => (by first | omega | (subst e; exact absurd rfl (by assumption)))); rw [List.length_append, List.length_append, List.length_singleton]; omega), by
    have hki : ¬ k = i := (fun e => (by first | omega | (subst e; exact absurd rfl (by assumption))))
    have hr : IsRun l i k := ⟨by omega, by omega, hq, .inl (by omega)⟩
    rw [hdrE_run hr (by omega), ← List.append_assoc, ← List.append_assoc] at hE
    exact hE, by first | exact hs44 | simpa using hs44⟩ (by (try dsimp only); have hki : ¬ k = i := (fun e => (by first | omega | (subst e; exact absurd rfl (by assumption)))); omega)
  refine gmv rfl <| gmv rfl <| gyes rfl rfl (m_idxE 0 (j := i) (hx.upd hM17.upd) rfl rfl (by omega) fun b45 o45 hp45 => gyesl rfl <| ld (v := .int .i64 (l.getD i 0)) rfl (hp45) <| gbneq rfl rfl rfl <| pkF rfl <| h38 _ _ <| cndP rfl (fun c46 => ?_) (fun c46 => ?_))
  ·refine seq fun _ h47 => mv <| mv <| mv <| stp (v := .int .i64 ((k : Nat) - (i : Nat))) (o_bin rfl rfl (v_sub64 (by omega))) <| m_call (Put_ok ((k : Nat) - (i : Nat)) (by simp only [inK]; omega) wd) rfl fun v48 w48 ⟨rs48, hs48, hm48⟩ => ?_
   have hM48 : Mem w [] w48 [r3_, rs48] := hM17.add hm48
   have hn48 := putI_len (v := (k : Nat) - (i : Nat)) (by omega)
   refine m_appE hM48 (i := 0) rfl hy3_ rfl rfl (hs48.rd hM48 (i := 1) rfl) (by first | omega | (simp; omega)) (by omega) fun v49 w49 r49 (hs49 : SlE byteV 5 v49 (lo ++ (putI ((k : Nat) - (i : Nat)))) r49) (hM49 : Mem w [] w49 [r49, rs48]) => mv <| h47 _ _ <| mv <| mv <| mv <| m_idxE 0 (j := i) (hx.upd hM49.upd) rfl rfl (by omega) fun b50 o50 hp50 => ld (v := .int .i64 (l.getD i 0)) rfl (hp50) ?_
   have hbi := inB_iff.1 hB i (by omega)
   refine stp (v := .int .u8 (l.getD i 0)) (o_conv rfl (v_same (by simp only [inK]; omega))) <| m_app1 (E := byteV) (q := (l.getD i 0).toNat.toUInt8) hM49 (i := 0) rfl hs49 rfl (by simp) (byteV_of (by omega) (by omega)) (by rw [List.length_append]; omega) (by omega) fun v51 w51 r51 u51 (hs51 : SlE byteV 5 v51 ((lo ++ (putI ((k : Nat) - (i : Nat)))) ++ [(l.getD i 0).toNat.toUInt8]) r51) (hM51 : Mem w [] w51 [r51, rs48]) => mv <| h37 _ _ <| mv <| mv ?_
   refine h7 (k, (lo ++ (putI ((k : Nat) - (i : Nat)))) ++ [(l.getD i 0).toNat.toUInt8], v51, r51) _ _ ⟨rfl, vi, rfl, hM51.keep (by simp), by omega, (by have hki : ¬ k = i := (fun e => (by first | omega | (subst e; exact absurd rfl (by assumption)))); rw [List.length_append, List.length_append, List.length_singleton]; omega), by
    have hki : ¬ k = i := (fun e => (by first | omega | (subst e; exact absurd rfl (by assumption))))
    have hr : IsRun l i k := ⟨by omega, by omega, hq, .inl (by omega)⟩
    rw [hdrE_run hr (by omega), ← List.append_assoc, ← List.append_assoc] at hE
    exact hE, by first | exact hs51 | simpa using hs51⟩ (by (try dsimp only); have hki : ¬ k = i := (fun e => (by first | omega | (subst e; exact absurd rfl (by assumption)))); omega)
  refine h37 _ _ <| mv <| mv ?_
  refine h7 (k, lo, y3_, r3_) _ _ ⟨rfl, vi, rfl, hM17.keep (by simp), by omega, by omega, by
   have hr : IsRun l i k := ⟨by omega, by omega, hq, .inl (by omega)⟩
   rw [hdrE_zero hr (by omega) (by omega)] at hE
   rw [hdrE_end (by omega)]; exact hE, by first | exact hy3_ | simpa using hy3_⟩ (by (try dsimp only); omega)
 refine h3 _ _ <| seq fun _ h52 => mv <| m_app1 (E := byteV) (q := 0) hM6 (i := 0) rfl hy3_ rfl (by simp) (rfl) (by omega) (by omega) fun v53 w53 r53 u53 (hs53 : SlE byteV 5 v53 (lo ++ [0]) r53) (hM53 : Mem w [] w53 [r53]) => mv <| h52 _ _ <| ⟨v53, rfl, ?_⟩
 rw [hdrE_end (by omega), List.append_nil] at hE
 exact ⟨_, by rw [← hE]; exact hs53, hM53.keep (by simp)⟩
end Go.Proofs.Ytifnmbmijljhfaa.E.Hf
namespace Go.Proofs.Ytifnmbmijljhfaa.E.Hf
open Go
def pk1 (l : List UInt8) (n b : Nat) : List UInt8 := if n % 8 = 0 then l ++ [b.toUInt8] else l.set (n / 8) ((l.getD (n / 8) 0).toNat + b * 2 ^ (n % 8)).toUInt8
def pkA (bs : List Nat) : Nat → List UInt8
 | 0 => []
 | n + 1 => pk1 (pkA bs n) n (bs.getD n 0)
structure PkI (l : List UInt8) (n : Nat) : Prop where
 len : l.length = (n + 7) / 8
 low : ¬ n % 8 = 0 → (l.getD (n / 8) 0).toNat < 2 ^ (n % 8)
theorem pow_lt8 {k : Nat} (h : k ≤ 7) : 2 ^ k ≤ 128 := Nat.le_trans (Nat.pow_le_pow_right (n := 2) (by omega) h) (by decide)
theorem b_pow {b k : Nat} (hb : b ≤ 1) (h : k ≤ 7) : b * 2 ^ k ≤ 128 := by
 have h1 := pow_lt8 h
 have h2 := Nat.mul_le_mul_right (2 ^ k) hb
 omega
theorem toU8 {x : Nat} (h : x < 256) : x.toUInt8.toNat = x := by
 show x % 256 = x
 omega
theorem PkI.step {l : List UInt8} {n b : Nat} (h : PkI l n) (hb : b ≤ 1) : PkI (pk1 l n b) (n + 1) := by
 obtain ⟨h1, h2⟩ := h
 unfold pk1
 by_cases c : n % 8 = 0
 ·rw [if_pos c]
  refine ⟨by rw [List.length_append, List.length_singleton]; omega, fun _ => ?_⟩
  rw [show (n + 1) / 8 = l.length by omega, List.getD_eq_getElem?_getD, List.getElem?_append_right (Nat.le_refl _), Nat.sub_self, show (n + 1) % 8 = 1 by omega]
  show b.toUInt8.toNat < 2 ^ 1
  rw [toU8 (by omega)]; omega
 rw [if_neg c]
 refine ⟨by rw [List.length_set]; omega, fun d => ?_⟩
 have h3 := h2 c
 have hp : 2 ^ (n % 8) ≤ 64 := Nat.le_trans (Nat.pow_le_pow_right (show 0 < 2 by omega) (show n % 8 ≤ 6 by omega)) (by decide)
 have h4 := Nat.mul_le_mul_right (2 ^ (n % 8)) hb
 rw [show (n + 1) / 8 = n / 8 by omega, List.getD_eq_getElem?_getD, List.getElem?_set, if_pos rfl, if_pos (by omega), show (n + 1) % 8 = n % 8 + 1 by omega, Nat.pow_succ]
 show ((l.getD (n / 8) 0).toNat + b * 2 ^ (n % 8)).toUInt8.toNat < _
 rw [toU8 (by omega)]; omega
theorem pkA_ok {bs : List Nat} (hb : ∀ i, bs.getD i 0 ≤ 1) : ∀ n, PkI (pkA bs n) n
 | 0 => ⟨rfl, fun h => absurd rfl h⟩
 | n + 1 => (pkA_ok hb n).step (hb n)
theorem shl32b {b n : Nat} (hb : b ≤ 1) : Value.int .u32 (IntKind.u32.wrap ((b : Int) * 2 ^ min ((n % 8 : Nat) : Int).toNat IntKind.u32.bits)) = .int .u32 ((b * 2 ^ (n % 8) : Nat) : Int) := by
 have h := b_pow hb (k := n % 8) (by omega)
 exact v_int (shlI_nat (k := .u32) (a := b) (n := n % 8) (by simp only [IntKind.bits]; omega) (by simp only [inK]; omega))
theorem or_T {b n : Nat} (hb : b ≤ 1) (hn : n % 8 = 0) {x : UInt8} (hx : x = 0) : binI .or .u8 (x.toNat : Int) ((b * 2 ^ (n % 8) : Nat) : Int) = .int .u8 ((b.toUInt8.toNat : Nat) : Int) := by
 subst hx
 rw [hn, Nat.pow_zero, Nat.mul_one]
 have := orI_nat (k := .u8) (a := 0) (b := b) (by decide) (Nat.lt_of_le_of_lt hb (by decide)) (by rw [Nat.zero_or]; simp only [inK]; omega)
 rw [Nat.zero_or] at this
 refine (v_int this).trans (v_int ?_)
 rw [toU8 (by omega)]
theorem or_F {b n : Nat} (hb : b ≤ 1) {x y : UInt8} (hx : x = y) (hl : y.toNat < 2 ^ (n % 8)) : binI .or .u8 (x.toNat : Int) ((b * 2 ^ (n % 8) : Nat) : Int) = .int .u8 (((y.toNat + b * 2 ^ (n % 8)).toUInt8.toNat : Nat) : Int) := by
 subst hx
 have h1 := b_pow hb (k := n % 8) (by omega)
 have h2 := pow_lt8 (k := n % 8) (by omega)
 have := orI_nat (k := .u8) (a := x.toNat) (b := b * 2 ^ (n % 8)) (Nat.lt_of_lt_of_le hl (Nat.le_trans h2 (by decide))) (Nat.lt_of_le_of_lt h1 (by decide)) (by rw [or_add hl]; simp only [inK]; omega)
 rw [or_add hl] at this
 refine (v_int this).trans (v_int ?_)
 rw [toU8 (by omega)]
theorem set_T {H l : List UInt8} {n b : Nat} (hn : n % 8 = 0) : (H ++ l ++ [0]).set (H.length + l.length) b.toUInt8 = H ++ pk1 l n b := by
 unfold pk1
 rw [if_pos hn, ← List.length_append, List.set_append_right _ _ (Nat.le_refl _), Nat.sub_self, List.append_assoc]; rfl
theorem set_F {H l : List UInt8} {n b : Nat} (hn : ¬ n % 8 = 0) : (H ++ l).set (H.length + n / 8) ((l.getD (n / 8) 0).toNat + b * 2 ^ (n % 8)).toUInt8 = H ++ pk1 l n b := by
 unfold pk1
 rw [if_neg hn, List.set_append_right _ _ (by omega), Nat.add_sub_cancel_left]
theorem get_T {H l : List UInt8} : (H ++ l ++ [0]).getD (H.length + l.length) 0 = 0 := by
 rw [List.getD_eq_getElem?_getD, List.getElem?_append_right (by rw [List.length_append]; omega), List.length_append, Nat.sub_self]; rfl
theorem get_F {H l : List UInt8} {i : Nat} : (H ++ l).getD (H.length + i) 0 = l.getD i 0 := by
 rw [List.getD_eq_getElem?_getD, List.getElem?_append_right (by omega), Nat.add_sub_cancel_left, ← List.getD_eq_getElem?_getD]
def wordB (L : List Int) (s : Nat) : List Nat := (List.range (codeAt L s).1.toNat).map fun k => (codeAt L s).2.toNat / 2 ^ ((codeAt L s).1.toNat - 1 - k) % 2
def bitsF (L : List Int) (t : List UInt8) : List Nat := t.flatMap fun c => wordB L c.toNat
theorem wordB_len (L : List Int) (s : Nat) : (wordB L s).length = (codeAt L s).1.toNat := by simp [wordB]
theorem bits_next {L : List Int} {t : List UInt8} {q : Nat} (h : q < t.length) : (bitsF L (t.take (q + 1))).length = (bitsF L (t.take q)).length + (codeAt L (t.getD q 0).toNat).1.toNat := by
 have : t.take (q + 1) = t.take q ++ [t.getD q 0] := by
  rw [List.take_add_one, List.getElem?_eq_getElem h, List.getD_eq_getElem?_getD, List.getElem?_eq_getElem h]; rfl
 unfold bitsF
 rw [this, List.flatMap_append, List.length_append, List.flatMap_cons, List.flatMap_nil, List.append_nil, wordB_len]
theorem bits_at {L : List Int} {t : List UInt8} {q k : Nat} (h : q < t.length) (hk : k < (codeAt L (t.getD q 0).toNat).1.toNat) : (bitsF L t).getD ((bitsF L (t.take q)).length + k) 0 = (codeAt L (t.getD q 0).toNat).2.toNat / 2 ^ ((codeAt L (t.getD q 0).toNat).1.toNat - 1 - k) % 2 := by
 have e : bitsF L t = bitsF L (t.take q) ++ (wordB L (t.getD q 0).toNat ++ bitsF L (t.drop (q + 1))) := by
  unfold bitsF
  rw [← List.flatMap_cons (f := fun c : UInt8 => wordB L c.toNat), ← List.flatMap_append, ← dropG 0 h, List.take_append_drop]
 rw [e, List.getD_eq_getElem?_getD, List.getElem?_append_right (by omega), Nat.add_sub_cancel_left, List.getElem?_append_left (by rw [wordB_len]; exact hk)]
 unfold wordB
 rw [List.getElem?_map, List.getElem?_range hk]; rfl
theorem bits_mem {L : List Int} {t : List UInt8} : ∀ x ∈ bitsF L t, x ≤ 1 := fun x hm => by
 unfold bitsF at hm
 obtain ⟨c, _, hm⟩ := List.mem_flatMap.1 hm
 unfold wordB at hm
 obtain ⟨k, _, hk⟩ := List.mem_map.1 hm
 omega
theorem bits_le {L : List Int} {t : List UInt8} (i : Nat) : (bitsF L t).getD i 0 ≤ 1 := by
 rw [List.getD_eq_getElem?_getD]
 rcases Nat.lt_or_ge i (bitsF L t).length with h | h
 ·rw [List.getElem?_eq_getElem h]
  exact bits_mem _ (List.getElem_mem h)
 rw [List.getElem?_eq_none h]; exact Nat.zero_le _
theorem bits_len_le {L : List Int} (hB : inB 0 15 L = true) (t : List UInt8) (ht : ∀ c : UInt8, c.toNat < L.length) : ∀ q, q ≤ t.length → (bitsF L (t.take q)).length ≤ 15 * q
 | 0, _ => by simp [bitsF]
 | q + 1, h => by
  have ih := bits_len_le hB t ht q (by omega)
  rw [bits_next (by omega)]
  have hb := inB_iff.1 hB (t.getD q 0).toNat (ht _)
  have hc : (codeAt L (t.getD q 0).toNat).1.toNat ≤ 15 := by
   unfold codeAt
   split
   ·exact Nat.zero_le _
   show (L.getD (t.getD q 0).toNat 0).toNat ≤ 15
   omega
  omega
theorem put_ok (b n b1 b2 : Nat) (v : Value) (rb : List Ent) (H l : List UInt8) (w : World) (hs : SlE byteV 5 v (H ++ l) rb) (hr : Res w ([⟨b2, 24, [v]⟩, ⟨b1, 3, [.int .i64 (n : Nat)]⟩] ++ rb)) (hb : b ≤ 1) (hp : PkI l n) (hn : n ≤ 10000000) (hH : H.length ≤ 1000000) : Calls Try.prog 45 [.int .u32 (b : Nat), .pointer (some ⟨b1, 0, none⟩), .pointer (some ⟨b2, 0, none⟩)].toArray w (Rt fun _ w' => ∃ v' rb', SlE byteV 5 v' (H ++ pk1 l n b) rb' ∧ Mem w (ids ([⟨b2, 24, [v]⟩, ⟨b1, 3, [.int .i64 (n : Nat)]⟩] ++ rb)) w' [[⟨b2, 24, [v']⟩, ⟨b1, 3, [.int .i64 (n + 1 : Nat)]⟩], rb']) := by
 have hM0 : Mem w (ids ([⟨b2, 24, [v]⟩, ⟨b1, 3, [.int .i64 (n : Nat)]⟩] ++ rb)) w [[⟨b2, 24, [v]⟩], [⟨b1, 3, [.int .i64 (n : Nat)]⟩], rb] := (Mem.start hr).keep (by simp)
 have hpl := hp.len
 have hL1 : (H ++ l ++ [0]).length = H.length + l.length + 1 := by rw [List.length_append, List.length_append, List.length_singleton]
 have hL2 : (H ++ l).length = H.length + l.length := List.length_append
 have hpw := b_pow hb (k := n % 8) (by omega)
 refine calls_vc mixed Try.func45 rfl C45 (by simp [Try.ntmps45]) <| seq fun _ h1 => seq fun _ h2 => m_ld (v := .int .i64 (n : Nat)) hM0 (i := 1) (j := 0) rfl rfl rfl rfl <| stp (v := .int .i64 (n % 8 : Nat)) (o_rem rfl rfl (by omega) ((v_rem (by omega)).trans (v_int (by omega)))) <| bn rfl rfl <| h2 _ _ <| cndP rfl (fun c3 => ?_) (fun c3 => ?_)
 ·refine m_ld (v := v) hM0 (i := 0) (j := 0) rfl rfl rfl rfl <| m_app1 (E := byteV) (q := 0) hM0 (i := 2) rfl hs rfl (by simp) (rfl) (by omega) (by omega) fun v4 w4 r4 u4 (hs4 : SlE byteV 5 v4 ((H ++ l) ++ [0]) r4) (hM4 : Mem w (ids ([⟨b2, 24, [v]⟩, ⟨b1, 3, [.int .i64 (n : Nat)]⟩] ++ rb)) w4 [[⟨b2, 24, [v]⟩], [⟨b1, 3, [.int .i64 (n : Nat)]⟩], r4]) => m_st (v := v4) hM4 (i := 0) rfl rfl rfl (Sl.one hs4) (by simp) fun w5 (hM5 : Mem w (ids ([⟨b2, 24, [v]⟩, ⟨b1, 3, [.int .i64 (n : Nat)]⟩] ++ rb)) w5 [[⟨b2, 24, [v4]⟩], [⟨b1, 3, [.int .i64 (n : Nat)]⟩], r4]) => h1 _ _ <| seq fun _ h6 => ?_
  intro wd e1 e2 e3 e4
  have hd := Upd.same e1 e2 e3 e4 []
  have hM7 := hM5.pure hd
  clear e1 e2 e3 e4
  refine ⟨(some [b1, b2]), ?_⟩
  show vd _ _ _ _ _ _ _
  refine dmv <| dqld rfl (by simp [isHeld]) (v := .int .i64 (n : Nat)) ((hM7.at (i := 1) (j := 0) rfl rfl).cell 0) <| dq (v := .int .i64 (n % 8 : Nat)) (o_rem rfl rfl (by omega) ((v_rem (by omega)).trans (v_int (by omega)))) <| dq (v := .int .u32 (b * 2 ^ (n % 8) : Nat)) (o_shl rfl rfl (by omega) (shl32b hb)) <| dq (v := .int .u8 (b * 2 ^ (n % 8) : Nat)) (o_conv rfl ((v_same (by simp only [inK]; omega)))) <| dqld rfl (by simp [isHeld]) (v := v4) ((hM7.at (i := 0) (j := 0) rfl rfl).cell 0) <| dq (v := .int .i64 (((H ++ l) ++ [0]).length : Nat)) (o_lenR (hs4.rd hM7 (i := 2) rfl) rfl rfl) <| dq (v := .int .i64 ((((H ++ l) ++ [0]).length : Nat) - 1)) (o_bin rfl rfl (v_sub64 (by omega))) <| dl (m_ld (v := v4) hM7 (i := 0) (j := 0) rfl rfl rfl rfl <| ⟨(fun b hb => rfl), dqp (m_idxE 0 (j := (H.length + l.length)) (hs4.rd hM7 (i := 2) rfl) rfl (v_int (by omega)) (by omega) fun b8 o8 hp8 => ?_)⟩)
  show vd _ _ _ _ _ _ _
  refine dl (ld (v := byteV (((H ++ l) ++ [0]).getD (H.length + l.length) 0)) rfl (hp8) <| ⟨(fun b hb => rfl), dq (v := .int .u8 ((b.toUInt8.toNat : Nat) : Int)) (o_bin rfl rfl (or_T hb (by omega) get_T)) <| dset (m_setU (E := byteV) (q := b.toUInt8) (j := (H.length + l.length)) hM7 (i := 2) rfl hs4 rfl (v_int (by omega)) (by omega) (by simp) (rfl) fun w9 r9 u9 he9 hs9 (hM9 : Mem w (ids ([⟨b2, 24, [v]⟩, ⟨b1, 3, [.int .i64 (n : Nat)]⟩] ++ rb)) w9 [[⟨b2, 24, [v4]⟩], [⟨b1, 3, [.int .i64 (n : Nat)]⟩], r9]) hup9 => ?_)⟩)
  have hh9 := held_upd (wr := wd) (bs := [b1, b2]) hup9 (fun b hb => by
   simp only [List.mem_cons, List.not_mem_nil, or_false] at hb
   rcases hb with h | h
   ·rw [h]; exact ⟨(hM7.at (i := 1) (j := 0) rfl rfl).lt, hM7.apart (i := 1) (j := 0) (k := 2) rfl rfl rfl (by decide)⟩
   rw [h]; exact ⟨(hM7.at (i := 0) (j := 0) rfl rfl).lt, hM7.apart (i := 0) (j := 0) (k := 2) rfl rfl rfl (by decide)⟩) (fun b hb => rfl)
  refine ⟨hh9, ?_⟩
  show vd _ _ _ _ _ _ _
  refine h6 _ _ <| m_ld (v := .int .i64 (n : Nat)) hM9 (i := 1) (j := 0) rfl rfl rfl rfl <| stp (v := .int .i64 (n + 1 : Nat)) (o_bin rfl rfl ((v_add64 (by omega)).trans (v_int (by omega)))) <| m_st (v := .int .i64 (n + 1 : Nat)) hM9 (i := 1) rfl rfl rfl rfl (by simp) fun w10 (hM10 : Mem w (ids ([⟨b2, 24, [v]⟩, ⟨b1, 3, [.int .i64 (n : Nat)]⟩] ++ rb)) w10 [[⟨b2, 24, [v4]⟩], [⟨b1, 3, [.int .i64 (n + 1 : Nat)]⟩], r9]) => ⟨(.tuple [].toArray), rfl, ⟨_, _, SlE.eqL (hs9) (set_T (by omega)), hM10.keep (by simp)⟩⟩
 refine h1 _ _ <| seq fun _ h11 => ?_
 intro wd e1 e2 e3 e4
 have hd := Upd.same e1 e2 e3 e4 []
 have hM12 := hM0.pure hd
 clear e1 e2 e3 e4
 refine ⟨(some [b1, b2]), ?_⟩
 show vd _ _ _ _ _ _ _
 refine dmv <| dqld rfl (by simp [isHeld]) (v := .int .i64 (n : Nat)) ((hM12.at (i := 1) (j := 0) rfl rfl).cell 0) <| dq (v := .int .i64 (n % 8 : Nat)) (o_rem rfl rfl (by omega) ((v_rem (by omega)).trans (v_int (by omega)))) <| dq (v := .int .u32 (b * 2 ^ (n % 8) : Nat)) (o_shl rfl rfl (by omega) (shl32b hb)) <| dq (v := .int .u8 (b * 2 ^ (n % 8) : Nat)) (o_conv rfl ((v_same (by simp only [inK]; omega)))) <| dqld rfl (by simp [isHeld]) (v := v) ((hM12.at (i := 0) (j := 0) rfl rfl).cell 0) <| dq (v := .int .i64 ((H ++ l).length : Nat)) (o_lenR (hs.rd hM12 (i := 2) rfl) rfl rfl) <| dq (v := .int .i64 (((H ++ l).length : Nat) - 1)) (o_bin rfl rfl (v_sub64 (by omega))) <| dl (m_ld (v := v) hM12 (i := 0) (j := 0) rfl rfl rfl rfl <| ⟨(fun b hb => rfl), dqp (m_idxE 0 (j := (H.length + n / 8)) (hs.rd hM12 (i := 2) rfl) rfl (v_int (by omega)) (by omega) fun b13 o13 hp13 => ?_)⟩)
 show vd _ _ _ _ _ _ _
 refine dl (ld (v := byteV ((H ++ l).getD (H.length + n / 8) 0)) rfl (hp13) <| ⟨(fun b hb => rfl), dq (v := .int .u8 ((((l.getD (n / 8) 0).toNat + b * 2 ^ (n % 8)).toUInt8.toNat : Nat) : Int)) (o_bin rfl rfl (or_F hb get_F (hp.low (by omega)))) <| dset (m_setU (E := byteV) (q := ((l.getD (n / 8) 0).toNat + b * 2 ^ (n % 8)).toUInt8) (j := (H.length + n / 8)) hM12 (i := 2) rfl hs rfl (v_int (by omega)) (by omega) (by simp) (rfl) fun w14 r14 u14 he14 hs14 (hM14 : Mem w (ids ([⟨b2, 24, [v]⟩, ⟨b1, 3, [.int .i64 (n : Nat)]⟩] ++ rb)) w14 [[⟨b2, 24, [v]⟩], [⟨b1, 3, [.int .i64 (n : Nat)]⟩], r14]) hup14 => ?_)⟩)
 have hh14 := held_upd (wr := wd) (bs := [b1, b2]) hup14 (fun b hb => by
  simp only [List.mem_cons, List.not_mem_nil, or_false] at hb
  rcases hb with h | h
  ·rw [h]; exact ⟨(hM12.at (i := 1) (j := 0) rfl rfl).lt, hM12.apart (i := 1) (j := 0) (k := 2) rfl rfl rfl (by decide)⟩
  rw [h]; exact ⟨(hM12.at (i := 0) (j := 0) rfl rfl).lt, hM12.apart (i := 0) (j := 0) (k := 2) rfl rfl rfl (by decide)⟩) (fun b hb => rfl)
 refine ⟨hh14, ?_⟩
 show vd _ _ _ _ _ _ _
 refine h11 _ _ <| m_ld (v := .int .i64 (n : Nat)) hM14 (i := 1) (j := 0) rfl rfl rfl rfl <| stp (v := .int .i64 (n + 1 : Nat)) (o_bin rfl rfl ((v_add64 (by omega)).trans (v_int (by omega)))) <| m_st (v := .int .i64 (n + 1 : Nat)) hM14 (i := 1) rfl rfl rfl rfl (by simp) fun w15 (hM15 : Mem w (ids ([⟨b2, 24, [v]⟩, ⟨b1, 3, [.int .i64 (n : Nat)]⟩] ++ rb)) w15 [[⟨b2, 24, [v]⟩], [⟨b1, 3, [.int .i64 (n + 1 : Nat)]⟩], r14]) => ⟨(.tuple [].toArray), rfl, ⟨_, _, SlE.eqL (hs14) (set_F (by omega)), hM15.keep (by simp)⟩⟩
end Go.Proofs.Ytifnmbmijljhfaa.E.Hf
namespace Go.Proofs.Ytifnmbmijljhfaa.E.Hf
open Go
theorem shl_one {n : Nat} (h : n ≤ 15) : Value.int .i64 (IntKind.i64.wrap ((1 : Int) * 2 ^ min ((n : Int)).toNat IntKind.i64.bits)) = .int .i64 ((2 ^ n : Nat) : Int) := by
 have hp : 2 ^ n ≤ 32768 := Nat.le_trans (Nat.pow_le_pow_right (n := 2) (by omega) h) (by decide)
 have := shlI_nat (k := .i64) (a := 1) (n := n) (by simp only [IntKind.bits]; omega) (by rw [Nat.one_mul]; generalize 2 ^ n = p at hp ⊢; simp only [inK]; omega)
 rw [Nat.one_mul] at this
 exact v_int this
theorem oneR_set {n i : Nat} {cs : List Int} (hc : 0 < cs.getD i 0) : (mapR n fun s => if s < i then (if 0 < cs.getD s 0 then 1 else 0) else 0).set i 1 = mapR n fun s => if s < i + 1 then (if 0 < cs.getD s 0 then 1 else 0) else 0 := by
 rw [mapR_set]
 refine mapR_ext fun s _ => ?_
 by_cases c : s = i
 ·subst c; rw [if_pos rfl, if_pos (by omega), if_pos hc]
 rw [if_neg c]
 by_cases d : s < i
 ·rw [if_pos d, if_pos (c := s < i + 1) (by omega)]
 rw [if_neg d, if_neg (c := s < i + 1) (by omega)]
theorem oneR_no {n i : Nat} {cs : List Int} (hc : ¬ 0 < cs.getD i 0) : (mapR n fun s => if s < i then (if 0 < cs.getD s 0 then (1 : Int) else 0) else 0) = mapR n fun s => if s < i + 1 then (if 0 < cs.getD s 0 then 1 else 0) else 0 := by
 refine mapR_ext fun s _ => ?_
 by_cases d : s < i
 ·rw [if_pos d, if_pos (c := s < i + 1) (by omega)]
 rw [if_neg d]
 by_cases c : s = i
 ·subst c; rw [if_pos (c := s < s + 1) (by omega), if_neg hc]
 rw [if_neg (c := s < i + 1) (by omega)]
theorem oneR_end {cs : List Int} {lim i : Nat} (h : (thF cs).length = 1) (hi : cs.length ≤ i) : (mapR cs.length fun s => if s < i then (if 0 < cs.getD s 0 then (1 : Int) else 0) else 0) = lensF cs lim := by
 rw [lens_one h]
 exact mapR_ext fun s hs => by rw [if_pos (by omega)]
set_option maxHeartbeats 1000000 in
set_option maxRecDepth 100000 in
theorem Lengths_ok (x : Value) (cs : List Int) (lim : Int) (w : World) (hx : RdE i64V w x cs) (hl0 : cs.length ≤ 1152921504606846976) (hk0 : inK .i64 lim) : Calls Try.prog 42 [x, .int .i64 lim].toArray w (Rt fun r w' => ∃ v rs, r = .tuple [v, .int .i64 (lenF cs lim).2].toArray ∧ SlE i64V 3 v (lenF cs lim).1 rs ∧ Mem w [] w' [rs]) := by
 have hM0 : Mem w [] w [] := Mem.nil w []
 simp only [inK] at hk0
 refine calls_vc mixed Try.func42 rfl C42 (by simp [Try.ntmps42]) <| seq fun _ h1 => mv <| mv <| h1 _ _ <| seq fun _ h2 => seq fun _ h3 => mv <| stp (v := .int .i64 (cs.length : Nat)) (o_lenR (hx.upd hM0.upd) rfl rfl) <| bn rfl rfl <| h3 _ _ <| cndP rfl (fun c4 => ?_) (fun c4 => ?_)
 ·refine seq fun _ h5 => mv <| mv <| h5 _ _ <| ⟨(.tuple [.slice none 0 0, .int .i64 2].toArray), rfl, ?_⟩
  rw [lenF_long (by omega)]; exact ⟨_, [], rfl, Sl.nil 1 3, hM0.keep (by simp)⟩
 refine h2 _ _ <| seq fun _ h6 => seq fun _ h7 => mv <| m_call (wrong_ok _ cs w (hx.upd hM0.upd) (by first | omega | (simp; done) | (simp; omega))) rfl fun v8 w8 ⟨hr8, hu8⟩ => ?_
 have hM8 : Mem w [] w8 [] := hM0.pure hu8
 subst hr8
 refine mv <| h7 _ _ <| seq fun _ h9 => ?_
 have hE : (inB 0 1099511627776 cs = true ∧ errIf (inB 0 1099511627776 cs) 3 = 0) ∨ (inB 0 1099511627776 cs = false ∧ errIf (inB 0 1099511627776 cs) 3 = 3) := by
  cases inB 0 1099511627776 cs with
  | true => exact .inl ⟨rfl, rfl⟩
  | false => exact .inr ⟨rfl, rfl⟩
 refine mv <| bneq rfl rfl <| mv <| splitP rfl (fun c10 => ?_) (fun c10 => ?_)
 ·refine gx rfl <| gx rfl <| pkT rfl <| mv <| splitT rfl <| gx rfl <| gx rfl <| pkT rfl <| h9 _ _ <| cndT rfl <| seq fun _ h11 => mv <| mv <| h11 _ _ ?_
  refine ⟨(.tuple [.slice none 0 0, .int .i64 3].toArray), rfl, ?_⟩
  rw [lenF_arg (by omega) (by intro k; rcases hE with ⟨h1, h2⟩ | ⟨h1, h2⟩ <;> first | omega | (rw [h1] at k; exact absurd k.1 (by decide)))]; exact ⟨_, [], rfl, Sl.nil 1 3, hM8.keep (by simp)⟩
 refine gmv rfl <| gbn rfl rfl rfl <| pkF rfl <| mv <| splitP rfl (fun c12 => ?_) (fun c12 => ?_)
 ·refine gx rfl <| gx rfl <| pkT rfl <| h9 _ _ <| cndT rfl <| seq fun _ h13 => mv <| mv <| h13 _ _ <| ⟨(.tuple [.slice none 0 0, .int .i64 3].toArray), rfl, ?_⟩
  rw [lenF_arg (by omega) (by intro k; rcases hE with ⟨h1, h2⟩ | ⟨h1, h2⟩ <;> first | omega | (rw [h1] at k; exact absurd k.1 (by decide)))]; exact ⟨_, [], rfl, Sl.nil 1 3, hM8.keep (by simp)⟩
 refine gmv rfl <| gbn rfl rfl rfl <| pkF rfl <| h9 _ _ <| cndP rfl (fun c14 => ?_) (fun c14 => ?_)
 ·refine seq fun _ h15 => mv <| mv <| h15 _ _ <| ⟨(.tuple [.slice none 0 0, .int .i64 3].toArray), rfl, ?_⟩
  rw [lenF_arg (by omega) (by intro k; rcases hE with ⟨h1, h2⟩ | ⟨h1, h2⟩ <;> first | omega | (rw [h1] at k; exact absurd k.1 (by decide)))]; exact ⟨_, [], rfl, Sl.nil 1 3, hM8.keep (by simp)⟩
 refine h6 _ _ <| seq fun _ h16 => ?_
 have hpre : inB 0 1099511627776 cs = true ∧ 1 ≤ lim ∧ lim ≤ 15 := by
  rcases hE with ⟨h1, h2⟩ | ⟨h1, h2⟩
  ·exact ⟨h1, by omega, by omega⟩
  omega
 refine mv <| m_call (things_ok _ cs w8 (hx.upd hM8.upd) (by omega)) rfl fun v17 w17 ⟨rf, hs17, hm17⟩ => ?_
 have hM17 : Mem w [] w17 [rf] := hM8.add hm17
 have htl := thF_len cs
 refine mv <| h16 _ _ <| seq fun _ h18 => mv <| stp (v := .int .i64 ((thF cs).length : Nat)) (o_lenR (hs17.rd hM17 (i := 0) rfl) rfl rfl) <| mv <| h18 _ _ <| seq fun _ h19 => seq fun _ h20 => mv <| mv <| stp (v := .int .i64 (2 ^ lim.toNat : Nat)) (o_shl rfl rfl (by omega) ((by
  have e : lim = ((lim.toNat : Nat) : Int) := by omega
  rw [e]; exact shl_one (by omega)))) ?_
 refine bn rfl rfl <| h20 _ _ <| cndP rfl (fun c21 => ?_) (fun c21 => ?_)
 ·refine seq fun _ h22 => mv <| mv <| h22 _ _ <| ⟨(.tuple [.slice none 0 0, .int .i64 41].toArray), rfl, ?_⟩
  rw [lenF_lim (by omega) hpre (by omega)]; exact ⟨_, [], rfl, Sl.nil 1 3, hM17.keep (by simp)⟩
 refine h19 _ _ <| seq fun _ h23 => mv <| stp (v := .int .i64 (cs.length : Nat)) (o_lenR (hx.upd hM17.upd) rfl rfl) <| m_mksE (E := i64V) (z := 0) (n := cs.length) (c := cs.length) rfl hM17 (v_int (by omega)) (v_int (by omega)) (by omega) (by omega) (by omega) fun v24 w24 r24 hs24 (hM24 : Mem w [] w24 [rf, r24]) => mv <| h23 _ _ <| seq fun _ h25 => seq fun _ h26 => mv <| bn rfl rfl <| h26 _ _ <| cndP rfl (fun c27 => ?_) (fun c27 => ?_)
 ·refine seq fun _ h28 => seq fun _ h29 => mv <| stp (v := .int .i64 (cs.length : Nat)) (o_lenR (hx.upd hM24.upd) rfl rfl) <| mv <| h29 _ _ <| lp (n := fun _ _ => False) (ι := (Nat) × (Value) × (List Ent)) (fun ⟨i, y9_, r9_⟩ f w' => f 46 = .int .i64 (i : Nat) ∧ f 9 = y9_ ∧ f 44 = x ∧ f 45 = .int .i64 (cs.length : Nat) ∧ Mem w [] w' [rf, r9_] ∧ (i ≤ cs.length) ∧ ((mapR cs.length fun s => if s < i then (if 0 < cs.getD s 0 then 1 else 0) else 0).length = cs.length) ∧ (SlE i64V 3 y9_ ((mapR cs.length fun s => if s < i then (if 0 < cs.getD s 0 then 1 else 0) else 0)) r9_)) (fun ⟨i, y9_, r9_⟩ => cs.length - i) (0, v24, r24) ?_ ?_
  ·exact ⟨vi, rfl, rfl, vi, hM24, by omega, mapR_len _ _, by
   have h9 := hs24
   rw [mapR_rep] at h9
   exact h9.eqL (mapR_ext fun s _ => by rw [if_neg (by omega)])⟩
  rintro ⟨i, y9_, r9_⟩ f w30 ⟨e30_46, e30_9, e30_44, e30_45, hM30, hi, hml, hy9_⟩ K31 h31
  obtain ⟨frm, rfl⟩ := re4 e30_46 e30_9 e30_44 e30_45
  refine seq fun _ h32 => bn rfl rfl <| h32 _ _ <| seq fun _ h33 => cndP rfl (fun c34 => ?_) (fun c34 => ?_)
  ·refine h33 _ _ <| seq fun _ h35 => seq fun _ h36 => mv <| m_idxE 0 (j := i) (hx.upd hM30.upd) rfl rfl (by omega) fun b37 o37 hp37 => ld (v := .int .i64 (cs.getD i 0)) rfl (hp37) <| mv <| mv <| h36 _ _ <| seq fun _ h38 => mv <| bn rfl rfl <| h38 _ _ <| cndP rfl (fun c39 => ?_) (fun c39 => ?_)
   ·refine mv <| mv <| m_set (E := i64V) (q := 1) (j := i) hM30 (i := 1) rfl hy9_ rfl rfl (by omega) (by simp) (rfl) fun w40 r40 u40 he40 hs40 (hM40 : Mem w [] w40 [rf, r40]) => h35 _ _ <| stp (v := .int .i64 ((i : Nat) + 1)) (o_bin rfl rfl (v_add64 (by omega))) <| mv <| h31 (i + 1, y9_, r40) _ _ ⟨vi, rfl, rfl, vi, hM40, by omega, mapR_len _ _, by rw [← oneR_set (by assumption)]; exact hs40⟩ (by (try dsimp only); omega)
   refine h35 _ _ <| stp (v := .int .i64 ((i : Nat) + 1)) (o_bin rfl rfl (v_add64 (by omega))) <| mv <| h31 (i + 1, y9_, r9_) _ _ ⟨vi, rfl, rfl, vi, hM30, by omega, mapR_len _ _, by rw [← oneR_no (by assumption)]; exact hy9_⟩ (by (try dsimp only); omega)
  refine h28 _ _ <| seq fun _ h41 => mv <| mv <| mv <| h41 _ _ <| ⟨(.tuple [y9_, .int .i64 0].toArray), rfl, ?_⟩
  rw [lenF_ok (by omega) hpre (by omega)]
  exact ⟨_, _, rfl, SlE.eqL (hy9_) (oneR_end (by omega) (by omega)), hM30.keep (by simp)⟩
 refine h25 _ _ <| seq fun _ h42 => mv <| mv <| h42 _ _ <| seq fun _ h43 => seq fun _ h44 => mv <| stp (v := .int .i64 (lim - 1)) (o_bin rfl rfl (v_sub64 (by omega))) <| mv <| h44 _ _ <| lp (n := fun _ _ => False) (ι := (Nat) × (Value) × (List Ent)) (fun ⟨j, xr, rr⟩ f w' => f 61 = .int .i64 (j : Nat) ∧ f 12 = xr ∧ f 7 = v17 ∧ f 8 = .int .i64 ((thF cs).length : Nat) ∧ f 9 = v24 ∧ f 60 = .int .i64 (lim - 1) ∧ Mem w [] w' [rf, r24, rr] ∧ (SubS thC xr (rowF (thF cs) j) (rf ++ rr)) ∧ (j + 1 ≤ lim.toNat)) (fun ⟨j, xr, rr⟩ => lim.toNat - j) (0, v17, []) ?_ ?_
 ·exact ⟨vi, rfl, rfl, vi, rfl, vi, hM24.addNil, (SlS.sub (hs17)).mono (by simp), by omega⟩
 rintro ⟨j, xr, rr⟩ f w45 ⟨e45_61, e45_12, e45_7, e45_8, e45_9, e45_60, hM45, hrw, hj⟩ K46 h46
 obtain ⟨frm, rfl⟩ := re6 e45_61 e45_12 e45_7 e45_8 e45_9 e45_60
 refine seq fun _ h47 => bn rfl rfl <| h47 _ _ <| seq fun _ h48 => cndP rfl (fun c49 => ?_) (fun c49 => ?_)
 ·refine h48 _ _ <| seq fun _ h50 => ?_
  have hrk := row_ok (cs := cs) (j := j) (by omega) hpre.1 (by omega)
  refine mv <| mv <| m_call (next_ok _ _ (thF cs) (rowF (thF cs) j) _ w45 (hs17.rd hM45 (i := 0) rfl) (hrw.rd _ (own2 (hM45.owned (i := 0) rfl) (hM45.owned (i := 2) rfl))) (by omega) hrk.1 (by omega) hrk.2.1 (fun k _ => Nat.le_trans (hrk.2.2 k) (by omega))) rfl fun v51 w51 ⟨rn51, hs51, hm51⟩ => ?_
  have hM51 : Mem w [] w51 [rf, r24, rr, rn51] := hM45.add hm51
  refine mv <| h50 _ _ <| stp (v := .int .i64 ((j : Nat) + 1)) (o_bin rfl rfl (v_add64 (by omega))) <| mv <| h46 (j + 1, v51, rn51) _ _ ⟨vi, rfl, rfl, vi, rfl, vi, hM51.keep (by simp), (SlS.sub (hs51)).mono (fun e he => List.mem_append_right _ he), by omega⟩ (by (try dsimp only); omega)
 refine h43 _ _ <| seq fun _ h52 => seq fun _ h53 => mv <| mv <| stp (v := .int .i64 (2 * ((thF cs).length : Nat))) (o_bin rfl rfl (v_mul64 (by omega))) <| stp (v := .int .i64 ((2 * ((thF cs).length : Nat)) - 2)) (o_bin rfl rfl (v_sub64 (by omega))) <| stp (v := .int .i64 ((2 * (thF cs).length - 2) : Nat)) (o_mm rfl rfl (v_int (by simp only [if_true]; omega))) ?_
 have hje : j = lim.toNat - 1 := by omega
 have hbig := row_big (thF cs) (lim := lim.toNat) (by omega) (by omega)
 rw [← hje] at hbig
 refine m_slcSubH (2 * (thF cs).length - 2) hrw ((own2 (hM45.owned (i := 0) rfl) (hM45.owned (i := 2) rfl))) rfl (by omega) rfl fun u54 hu54 => ?_
 have hu54' := hu54.eqL (m := (takeF cs lim.toNat)) (by
  unfold takeF
  rw [← hje]
  by_cases k0 : (thF cs).length = 0
  ·rw [row_none k0]; simp
  rw [show max (2 * (thF cs).length - 2) 1 = 2 * (thF cs).length - 2 by omega])
 have htfl : (takeF cs lim.toNat).length ≤ 512 := by
  unfold takeF
  rw [List.length_take]
  have := (row_ok (cs := cs) (j := lim.toNat - 1) (by omega) hpre.1 (by omega)).1
  omega
 refine stp (v := .int .i64 ((takeF cs lim.toNat).length : Nat)) (o_lenR (hu54'.rd _ (own2 (hM45.owned (i := 0) rfl) (hM45.owned (i := 2) rfl))) rfl rfl) <| mv <| h53 _ _ <| lp (n := fun _ _ => False) (ι := (Nat) × (Value) × (List Ent)) (fun ⟨q, y9_, r9_⟩ f w' => f 74 = .int .i64 (q : Nat) ∧ f 9 = y9_ ∧ f 72 = u54 ∧ f 73 = .int .i64 ((takeF cs lim.toNat).length : Nat) ∧ Mem w [] w' [rf, r9_, rr] ∧ (q ≤ (takeF cs lim.toNat).length) ∧ ((gatR cs.length (takeF cs lim.toNat) q 0).length = cs.length) ∧ (SlE i64V 3 y9_ (gatR cs.length (takeF cs lim.toNat) q 0) r9_)) (fun ⟨q, y9_, r9_⟩ => (takeF cs lim.toNat).length - q) (0, v24, r24) ?_ ?_
 ·exact ⟨vi, rfl, rfl, vi, hM45, by omega, gat_len _ _ _ _, by rw [← gat_zero]; exact hs24⟩
 rintro ⟨q, y9_, r9_⟩ f w55 ⟨e55_74, e55_9, e55_72, e55_73, hM55, hq, hgl, hy9_⟩ K56 h56
 obtain ⟨frm, rfl⟩ := re4 e55_74 e55_9 e55_72 e55_73
 refine seq fun _ h57 => bn rfl rfl <| h57 _ _ <| seq fun _ h58 => cndP rfl (fun c59 => ?_) (fun c59 => ?_)
 ·refine h58 _ _ <| seq fun _ h60 => seq fun _ h61 => m_idxS th0 (j := q) (hu54'.rd _ (own2 (hM55.owned (i := 0) rfl) (hM55.owned (i := 2) rfl))) rfl rfl (by omega) fun b62 o62 hp62 => ldA (cs := thC ((takeF cs lim.toNat).getD q th0)) rfl (thC_len _) (hp62.all) <| m_al hM55 fun b63 w64 (hM64 : Mem w [] w64 [rf, r9_, rr, [⟨b63, 133, (zcOf Try.t133)⟩]]) => m_stA (l := (thC ((takeF cs lim.toNat).getD q th0))) hM64 (i := 3) rfl rfl rfl (by simp) (thC_one _) (by simp) fun w65 hm65 => ?_
  have hM65 : Mem w [] w65 [rf, r9_, rr, [⟨b63, 133, (thC ((takeF cs lim.toNat).getD q th0))⟩]] := by
   have e : splice (zcOf Try.t133) 0 (thC ((takeF cs lim.toNat).getD q th0)) = (thC ((takeF cs lim.toNat).getD q th0)) := splice_full (by simp; first | done | (simp) | omega)
   rw [e] at hm65
   exact hm65
  refine h61 _ _ <| seq fun _ h66 => mv <| stp (v := .int .i64 ((gatR cs.length (takeF cs lim.toNat) q 0).length : Nat)) (o_lenR (hy9_.rd hM65 (i := 1) rfl) rfl rfl) <| mv <| h66 _ _ <| lp (n := fun _ _ => False) (ι := (Nat) × (Value) × (List Ent)) (fun ⟨i, y9_, r9_⟩ f w' => f 80 = .int .i64 (i : Nat) ∧ f 9 = y9_ ∧ f 14 = .pointer (some ⟨b63, 0, none⟩) ∧ f 72 = u54 ∧ f 73 = .int .i64 ((takeF cs lim.toNat).length : Nat) ∧ f 74 = .int .i64 (q : Nat) ∧ f 79 = .int .i64 ((gatR cs.length (takeF cs lim.toNat) q 0).length : Nat) ∧ Mem w [] w' [rf, r9_, rr, [⟨b63, 133, (thC ((takeF cs lim.toNat).getD q th0))⟩]] ∧ (i ≤ cs.length) ∧ ((gatR cs.length (takeF cs lim.toNat) q i).length = cs.length) ∧ (SlE i64V 3 y9_ (gatR cs.length (takeF cs lim.toNat) q i) r9_)) (fun ⟨i, y9_, r9_⟩ => cs.length - i) (0, y9_, r9_) ?_ ?_
  ·exact ⟨vi, rfl, rfl, rfl, vi, vi, vi, hM65, by omega, gat_len _ _ _ _, by first | exact hy9_ | simpa using hy9_⟩
  rintro ⟨i, y9_, r9_⟩ f w67 ⟨e67_80, e67_9, e67_14, e67_72, e67_73, e67_74, e67_79, hM67, hi, hgi, hy9_⟩ K68 h68
  obtain ⟨frm, rfl⟩ := re7 e67_80 e67_9 e67_14 e67_72 e67_73 e67_74 e67_79
  refine seq fun _ h69 => bn rfl rfl <| h69 _ _ <| seq fun _ h70 => cndP rfl (fun c71 => ?_) (fun c71 => ?_)
  ·refine h70 _ _ <| seq fun _ h72 => seq fun _ h73 => mv <| mv <| h73 _ _ ?_
   intro wd e1 e2 e3 e4
   have hd := Upd.same e1 e2 e3 e4 []
   have hM74 := hM67.pure hd
   clear e1 e2 e3 e4
   refine ⟨(some [b63]), ?_⟩
   show vd _ _ _ _ _ _ _
   refine dmv <| dmv <| dqp (m_idxE 0 (j := i) (hy9_.rd hM74 (i := 1) rfl) rfl rfl (by omega) fun b75 o75 hp75 => ?_)
   show vd _ _ _ _ _ _ _
   refine dmv <| dfa rfl <| dq (v := .pointer (some ⟨b63, 1 + i, none⟩)) (o_idxa rfl rfl (by omega) (v_ptr (by first | (rw [Int.toNat_natCast, Nat.mul_one]; done) | (simp; done) | omega))) <| dqld rfl (by simp [isHeld]) (v := .int .u8 (((takeF cs lim.toNat).getD q th0).f i : Nat)) (((hM74.at (i := 3) (j := 0) rfl rfl).cell _).trans (thC_cell (by omega))) ?_
   have hroom := gat_room (cs := cs) (lim := lim.toNat) (by omega) hpre.1 (by omega) (q := q) (i := i) (by omega)
   refine dq (v := .int .i64 (((takeF cs lim.toNat).getD q th0).f i : Nat)) (o_conv rfl (v_same (by simp only [inK]; omega))) <| dl (ld (v := .int .i64 ((gatR cs.length (takeF cs lim.toNat) q i).getD i 0)) rfl (hp75) <| ⟨(fun b hb => rfl), dq (v := .int .i64 (tot i ((takeF cs lim.toNat).take q) + ((takeF cs lim.toNat).getD q th0).f i : Nat)) (o_bin rfl rfl ((v_add64 (by rw [gat_get (by omega)]; omega)).trans (v_int (by rw [gat_get (by omega)]; omega)))) <| dset (m_setU (E := i64V) (q := (tot i ((takeF cs lim.toNat).take q) + ((takeF cs lim.toNat).getD q th0).f i : Nat)) (j := i) hM74 (i := 1) rfl hy9_ rfl rfl (by omega) (by simp) (rfl) fun w76 r76 u76 he76 hs76 (hM76 : Mem w [] w76 [rf, r76, rr, [⟨b63, 133, (thC ((takeF cs lim.toNat).getD q th0))⟩]]) hup76 => ?_)⟩)
   have hh76 := held_upd (wr := wd) (bs := [b63]) hup76 (fun b hb => by
    simp only [List.mem_cons, List.not_mem_nil, or_false] at hb
    rw [hb]; exact ⟨(hM74.at (i := 3) (j := 0) rfl rfl).lt, hM74.apart (i := 3) (j := 0) (k := 1) rfl rfl rfl (by decide)⟩) (fun b hb => rfl)
   refine ⟨hh76, ?_⟩
   show vd _ _ _ _ _ _ _
   refine h72 _ _ <| stp (v := .int .i64 ((i : Nat) + 1)) (o_bin rfl rfl (v_add64 (by omega))) <| mv <| h68 (i + 1, y9_, r76) _ _ ⟨vi, rfl, rfl, rfl, vi, vi, vi, hM76, by omega, gat_len _ _ _ _, by rw [← gat_set]; exact hs76⟩ (by (try dsimp only); omega)
  refine h60 _ _ <| stp (v := .int .i64 ((q : Nat) + 1)) (o_bin rfl rfl (v_add64 (by omega))) <| mv <| h56 (q + 1, y9_, r9_) _ _ ⟨vi, rfl, rfl, vi, hM67.keep (by simp), by omega, gat_len _ _ _ _, (SlE.eqL (hy9_) (by rw [show i = cs.length by omega]; exact gat_next (by omega)))⟩ (by (try dsimp only); omega)
 refine h52 _ _ <| seq fun _ h77 => mv <| mv <| mv <| h77 _ _ <| ⟨(.tuple [y9_, .int .i64 0].toArray), rfl, ?_⟩
 rw [lenF_ok (by omega) hpre (by omega)]
 exact ⟨_, _, rfl, SlE.eqL (hy9_) (gat_end rfl (by omega)), hM55.keep (by simp)⟩
end Go.Proofs.Ytifnmbmijljhfaa.E.Hf
namespace Go.Proofs.Ytifnmbmijljhfaa.E.Hf
open Go
def cntP (t : List UInt8) : List Int := mapR 256 fun s => (((t.filter fun c => decide (c.toNat = s)).length : Nat) : Int)
@[simp] theorem cntP_len (t : List UInt8) : (cntP t).length = 256 := mapR_len _ _
theorem cntP_zero : List.replicate 256 (0 : Int) = cntP [] := by rw [mapR_rep]; rfl
theorem cntP_step {t : List UInt8} {q : Nat} (h : q < t.length) : (cntP (t.take q)).set (t.getD q 0).toNat ((cntP (t.take q)).getD (t.getD q 0).toNat 0 + 1) = cntP (t.take (q + 1)) := by
 have e : t.take (q + 1) = t.take q ++ [t.getD q 0] := by
  rw [List.take_add_one, List.getElem?_eq_getElem h, List.getD_eq_getElem?_getD, List.getElem?_eq_getElem h]; rfl
 rw [e]
 unfold cntP
 rw [mapR_set, mapR_get (t.getD q 0).toNat_lt]
 refine mapR_ext fun s hs => ?_
 rw [List.filter_append, List.length_append]
 by_cases c : s = (t.getD q 0).toNat
 ·rw [if_pos c, c, List.filter_cons, if_pos (by simp)]; rfl
 rw [if_neg c, List.filter_cons, if_neg (by simpa using fun e => c e.symm)]; rfl
theorem cntP_bd (t : List UInt8) (i : Nat) : 0 ≤ (cntP t).getD i 0 ∧ (cntP t).getD i 0 ≤ t.length := by
 rcases Nat.lt_or_ge i 256 with h | h
 ·unfold cntP
  rw [mapR_get h]
  have := List.length_filter_le (fun c : UInt8 => decide (c.toNat = i)) t
  omega
 rw [List.getD_eq_getElem?_getD, List.getElem?_eq_none (by rw [cntP_len]; omega)]
 show (0 : Int) ≤ 0 ∧ (0 : Int) ≤ _
 omega
def lnF (t : List UInt8) : List Int := lensF (cntP t) 15
theorem lnF_len (t : List UInt8) : (lnF t).length = 256 := by unfold lnF; rw [lens_len, cntP_len]
theorem cntP_room (t : List UInt8) : (thF (cntP t)).length ≤ 2 ^ 15 := by
 have := thF_len (cntP t)
 rw [cntP_len] at this
 exact Nat.le_trans this (by decide)
theorem lenF_cnt {t : List UInt8} (h : t.length ≤ 65536) : lenF (cntP t) 15 = (lnF t, 0) := by
 have hr := cntP_room t
 refine lenF_ok (by rw [cntP_len]; omega) ⟨inB_iff.2 fun i _ => ?_, by omega, by omega⟩ (by simpa using hr)
 have := cntP_bd t i
 omega
theorem lnF_codes (t : List UInt8) : usedB (lnF t) 15 ≤ 32768 ∧ codes (lnF t) = (codesL (lnF t), 0) := lens_codes (by rw [cntP_len]; omega) (fun i => (cntP_bd t i).1) (by omega) (by omega) (cntP_room t)
theorem lnF_inB (t : List UInt8) : inB 0 15 (lnF t) = true := lens_inB (by omega) (by omega)
theorem code_bdE {L : List Int} (hB : inB 0 15 L = true) (hu : usedB L 15 ≤ 32768) {s : Nat} (hs : s < L.length) : ∃ dg W : Nat, codeAt L s = ((dg : Int), (W : Int)) ∧ dg ≤ 15 ∧ W ≤ 32768 := by
 have hb := inB_iff.1 hB s hs
 unfold codeAt
 by_cases c : L.getD s 0 ≤ 0
 ·rw [if_pos c]; exact ⟨0, 0, rfl, by omega, by omega⟩
 rw [if_neg c]
 refine ⟨(L.getD s 0).toNat, firstW L (L.getD s 0).toNat + (symN L (L.getD s 0).toNat s).length, by rw [Int.toNat_of_nonneg hb.1], by omega, ?_⟩
 have h1 := word_le hu (n := (L.getD s 0).toNat) (by omega)
 have h2 : (symN L (L.getD s 0).toNat s).length ≤ cntW L (L.getD s 0).toNat := by
  unfold cntW
  rw [if_neg (by omega)]
  have : (symN L (L.getD s 0).toNat s).Sublist (symN L (L.getD s 0).toNat L.length) := by
   unfold symN
   exact List.Sublist.filter _ (List.range_sublist.2 (by omega))
  exact this.length_le
 omega
theorem codesL_get' {l : List Int} {i : Nat} (h : i < l.length) : (codesL l).getD i ((0, 0) : Int × Int) = codeAt l i := by
 unfold codesL; rw [List.getD_eq_getElem?_getD, List.getElem?_map, List.getElem?_range h]; rfl
theorem codesL_len (l : List Int) : (codesL l).length = l.length := by simp [codesL]
theorem hdrE_len (l : List Int) (hl : l.length ≤ 1000000) : ∀ n i, l.length - i ≤ n → (hdrE l i).length ≤ 10 * (l.length - i)
 | 0, i, h => by rw [hdrE_end (by omega)]; exact Nat.zero_le _
 | n + 1, i, h => by
  by_cases c : i < l.length
  ·obtain ⟨h1, h2, -, -⟩ := runK_spec c
   have ih := hdrE_len l hl n (runK l i) (by omega)
   rw [hdrE, dif_pos c]
   split
   ·exact Nat.zero_le _
   have hp := putI_len (v := ((runK l i : Nat) : Int) - (i : Nat)) (by omega)
   rw [List.length_append, List.length_append, List.length_singleton]; omega
  rw [hdrE_end c]; exact Nat.zero_le _
def encF (t : List UInt8) : List UInt8 := hdrE (lnF t) 0 ++ [0] ++ pkA (bitsF (lnF t) t) (bitsF (lnF t) t).length
def encR (t : List UInt8) : List UInt8 × Int := if 65536 < t.length then ([], 2) else (encF t, 0)
theorem encR_long {t : List UInt8} (h : 65536 < t.length) : encR t = ([], 2) := by unfold encR; rw [if_pos h]
theorem encR_ok {t : List UInt8} (h : ¬ 65536 < t.length) : encR t = (encF t, 0) := by unfold encR; rw [if_neg h]
theorem bitsF_zero (L : List Int) (t : List UInt8) : bitsF L (t.take 0) = [] := by rw [List.take_zero]; rfl
theorem bits_all {t : List UInt8} {q : Nat} (h : t.length ≤ q) (L : List Int) : (bitsF L (t.take q)).length = (bitsF L t).length := by rw [List.take_of_length_le h]
theorem lnF_bits (t : List UInt8) (q : Nat) (h : q ≤ t.length) : (bitsF (lnF t) (t.take q)).length ≤ 15 * q := bits_len_le (lnF_inB t) t (fun c => by rw [lnF_len]; exact c.toNat_lt) q h
theorem shr_at {W i : Nat} {x y : Int} (hx : x = (W : Nat)) (hy : y = (i : Nat)) (hi : i ≤ 31) : Value.int .u32 (x.fdiv (2 ^ min y.toNat IntKind.u32.bits)) = .int .u32 ((W / 2 ^ i : Nat) : Int) := by
 subst hx hy
 exact v_int (shrI_nat (k := .u32) (by simp only [IntKind.bits]; omega))
theorem and1' {a : Nat} (ha : a < 4294967296) : binI .and .u32 (a : Int) 1 = .int .u32 ((a % 2 : Nat) : Int) := by
 have := andI_nat (k := .u32) (a := a) (b := 1) ha (by decide) (by rw [show a &&& 1 = a % 2 from Nat.and_two_pow_sub_one_eq_mod a 1]; simp only [inK]; omega)
 rw [show a &&& 1 = a % 2 from Nat.and_two_pow_sub_one_eq_mod a 1] at this
 exact v_int this
set_option maxHeartbeats 1000000 in
set_option maxRecDepth 100000 in
theorem Encode_ok (x : Value) (t : List UInt8) (w : World) (hx : RdE byteV w x t) (hl : t.length ≤ 1152921504606846976) : Calls Try.prog 14 [x].toArray w (Rt fun r w' => ∃ v rs, r = .tuple [v, .int .i64 (encR t).2].toArray ∧ SlE byteV 5 v (encR t).1 rs ∧ Mem w [] w' [rs]) := by
 have hM0 : Mem w [] w [] := Mem.nil w []
 refine calls_vc mixed Try.func14 rfl C14 (by simp [Try.ntmps14]) <| seq fun _ h1 => mv <| mv <| h1 _ _ <| seq fun _ h2 => seq fun _ h3 => mv <| stp (v := .int .i64 (t.length : Nat)) (o_lenR (hx.upd hM0.upd) rfl rfl) <| bn rfl rfl <| h3 _ _ <| cndP rfl (fun c4 => ?_) (fun c4 => ?_)
 ·refine seq fun _ h5 => mv <| mv <| h5 _ _ <| ⟨(.tuple [.slice none 0 0, .int .i64 2].toArray), rfl, ?_⟩
  rw [encR_long (by omega)]
  exact ⟨_, [], rfl, Sl.nil 1 5, hM0.keep (by simp)⟩
 refine h2 _ _ <| seq fun _ h6 => m_mksE (E := i64V) (z := 0) (n := 256) (c := 256) rfl hM0 (v_int (by omega)) (v_int (by omega)) (by omega) (by omega) (by omega) fun v7 w7 r7 hs7 (hM7 : Mem w [] w7 [r7]) => mv <| h6 _ _ <| seq fun _ h8 => seq fun _ h9 => mv <| stp (v := .int .i64 (t.length : Nat)) (o_lenR (hx.upd hM7.upd) rfl rfl) <| mv <| h9 _ _ <| lp (n := fun _ _ => False) (ι := (Nat) × (Value) × (List Ent)) (fun ⟨q, y4_, r4_⟩ f w' => f 24 = .int .i64 (q : Nat) ∧ f 4 = y4_ ∧ f 0 = x ∧ f 22 = x ∧ f 23 = .int .i64 (t.length : Nat) ∧ Mem w [] w' [r4_] ∧ (q ≤ t.length) ∧ (SlE i64V 2 y4_ (cntP (t.take q)) r4_)) (fun ⟨q, y4_, r4_⟩ => t.length - q) (0, v7, r7) ?_ ?_
 ·exact ⟨vi, rfl, rfl, rfl, vi, hM7, by omega, by rw [List.take_zero, ← cntP_zero]; exact hs7⟩
 rintro ⟨q, y4_, r4_⟩ f w10 ⟨e10_24, e10_4, e10_0, e10_22, e10_23, hM10, hq, hy4_⟩ K11 h11
 obtain ⟨frm, rfl⟩ := re5 e10_24 e10_4 e10_0 e10_22 e10_23
 refine seq fun _ h12 => bn rfl rfl <| h12 _ _ <| seq fun _ h13 => cndP rfl (fun c14 => ?_) (fun c14 => ?_)
 ·refine h13 _ _ <| seq fun _ h15 => seq fun _ h16 => m_idxE 0 (j := q) (hx.upd hM10.upd) rfl rfl (by omega) fun b17 o17 hp17 => ld (v := byteV (t.getD q 0)) rfl (hp17) <| mv <| h16 _ _ <| mv <| mv <| m_idxE 0 (j := (t.getD q 0).toNat) (hy4_.rd hM10 (i := 0) rfl) rfl rfl (by rw [cntP_len]; exact (t.getD q 0).toNat_lt) fun b18 o18 hp18 => ?_
  have hcb := cntP_bd (t.take q) (t.getD q 0).toNat
  have htl : (t.take q).length ≤ 65536 := by rw [List.length_take]; omega
  refine ld (v := .int .i64 ((cntP (t.take q)).getD ((t.getD q 0).toNat) 0)) rfl (hp18) <| stp (v := .int .i64 (((cntP (t.take q)).getD ((t.getD q 0).toNat) 0) + 1)) (o_bin rfl rfl (v_add64 (by omega))) <| m_set (E := i64V) (q := ((cntP (t.take q)).getD ((t.getD q 0).toNat) 0) + 1) (j := (t.getD q 0).toNat) hM10 (i := 0) rfl hy4_ rfl rfl (by rw [cntP_len]; exact (t.getD q 0).toNat_lt) (by simp) (rfl) fun w19 r19 u19 he19 hs19 (hM19 : Mem w [] w19 [r19]) => h15 _ _ <| stp (v := .int .i64 ((q : Nat) + 1)) (o_bin rfl rfl (v_add64 (by omega))) <| mv <| h11 (q + 1, y4_, r19) _ _ ⟨vi, rfl, rfl, rfl, vi, hM19, by omega, by rw [← cntP_step (by omega)]; exact hs19⟩ (by (try dsimp only); omega)
 refine h8 _ _ <| seq fun _ h20 => mv <| m_call (Lengths_ok _ (cntP (t.take q)) 15 w10 (hy4_.rd hM10 (i := 0) rfl) (by rw [cntP_len]; omega) (by simp only [inK]; omega)) rfl fun v21 w21 ⟨y21, rs21, hr21, hs21, hm21⟩ => ?_
 have hM21 : Mem w [] w21 [r4_, rs21] := hM10.add hm21
 rw [List.take_of_length_le (by omega), lenF_cnt (by omega)] at hr21 hs21
 dsimp only at hr21 hs21
 subst hr21
 refine mv <| ext rfl rfl <| ext rfl rfl <| mv <| mv <| h20 _ _ <| seq fun _ h22 => mv <| m_call (Codes_ok _ (lnF t) w21 (hs21.rd hM21 (i := 1) rfl) (by rw [lnF_len]; omega)) rfl fun v23 w23 ⟨y23, rs23, hr23, hs23, hm23⟩ => ?_
 have hM23 : Mem w [] w23 [r4_, rs21, rs23] := hM21.add hm23
 rw [(lnF_codes t).2] at hr23 hs23
 dsimp only at hr23 hs23
 subst hr23
 refine mv <| ext rfl rfl <| ext rfl rfl <| mv <| mv <| h22 _ _ <| seq fun _ h24 => mv <| m_call (header_ok _ (lnF t) w23 (hs21.rd hM23 (i := 1) rfl) (by rw [lnF_len]; omega) (lnF_inB t)) rfl fun v25 w25 ⟨rs25, hs25, hm25⟩ => ?_
 have hM25 : Mem w [] w25 [r4_, rs21, rs23, rs25] := hM23.add hm25
 have hHD : (hdrE (lnF t) 0 ++ [0]).length ≤ 1000000 := by
  have h9 := hdrE_len (lnF t) (by rw [lnF_len]; omega) 256 0 (by rw [lnF_len]; omega)
  rw [lnF_len] at h9
  rw [List.length_append, List.length_singleton]; omega
 refine m_al hM25 fun b26 w27 (hM27 : Mem w [] w27 [r4_, rs21, rs23, rs25, [⟨b26, 24, [.slice none 0 0]⟩]]) => m_st (v := v25) hM27 (i := 4) rfl rfl rfl (Sl.one hs25) (by simp) fun w28 (hM28 : Mem w [] w28 [r4_, rs21, rs23, rs25, [⟨b26, 24, [v25]⟩]]) => h24 _ _ <| seq fun _ h29 => m_al hM28 fun b30 w31 (hM31 : Mem w [] w31 [r4_, rs21, rs23, rs25, [⟨b26, 24, [v25]⟩], [⟨b30, 3, [.int .i64 0]⟩]]) => m_st (v := .int .i64 0) hM31 (i := 5) rfl rfl rfl rfl (by simp) fun w32 (hM32 : Mem w [] w32 [r4_, rs21, rs23, rs25, [⟨b26, 24, [v25]⟩], [⟨b30, 3, [.int .i64 0]⟩]]) => h29 _ _ <| seq fun _ h33 => stp (v := .func (.func 45) [].toArray [.pointer (some ⟨b30, 0, none⟩), .pointer (some ⟨b26, 0, none⟩)].toArray) (o_mkf rfl) <| mv <| h33 _ _ <| seq fun _ h34 => seq fun _ h35 => mv <| stp (v := .int .i64 (t.length : Nat)) (o_lenR (hx.upd hM32.upd) rfl rfl) <| mv <| h35 _ _ <| lp (n := fun _ _ => False) (ι := (Nat) × (Value) × (List Ent)) (fun ⟨q, vo, ro⟩ f w' => f 50 = .int .i64 (q : Nat) ∧ f 9 = y23 ∧ f 11 = .pointer (some ⟨b26, 0, none⟩) ∧ f 13 = .func (.func 45) [].toArray [.pointer (some ⟨b30, 0, none⟩), .pointer (some ⟨b26, 0, none⟩)].toArray ∧ f 48 = x ∧ f 49 = .int .i64 (t.length : Nat) ∧ Mem w [] w' [r4_, rs21, rs23, ro, [⟨b26, 24, [vo]⟩, ⟨b30, 3, [.int .i64 ((bitsF (lnF t) (t.take q)).length : Nat)]⟩]] ∧ (SlE byteV 5 vo ((hdrE (lnF t) 0 ++ [0]) ++ pkA (bitsF (lnF t) t) (bitsF (lnF t) (t.take q)).length) ro) ∧ (q ≤ t.length)) (fun ⟨q, vo, ro⟩ => t.length - q) (0, v25, rs25) ?_ ?_
 ·exact ⟨vi, rfl, rfl, rfl, rfl, vi, (by rw [bitsF_zero]; exact hM32.keep (by simp)), SlE.eqL hs25 (by rw [bitsF_zero]; simp [pkA]), by omega⟩
 rintro ⟨q, vo, ro⟩ f w36 ⟨e36_50, e36_9, e36_11, e36_13, e36_48, e36_49, hM36, hso, hq⟩ K37 h37
 obtain ⟨frm, rfl⟩ := re6 e36_50 e36_9 e36_11 e36_13 e36_48 e36_49
 refine seq fun _ h38 => bn rfl rfl <| h38 _ _ <| seq fun _ h39 => cndP rfl (fun c40 => ?_) (fun c40 => ?_)
 ·refine h39 _ _ <| seq fun _ h41 => seq fun _ h42 => m_idxE 0 (j := q) (hx.upd hM36.upd) rfl rfl (by omega) fun b43 o43 hp43 => ld (v := byteV (t.getD q 0)) rfl (hp43) <| mv <| h42 _ _ <| seq fun _ h44 => ?_
  have hcl : (codesL (lnF t)).length = 256 := by rw [codesL_len, lnF_len]
  have hcx := (t.getD q 0).toNat_lt
  refine mv <| mv <| m_idxS ((0, 0) : Int × Int) (j := (t.getD q 0).toNat) (hs23.rd hM36 (i := 2) rfl) rfl rfl (by omega) fun b45 o45 hp45 => ldA (cs := [.int .i64 (((codesL (lnF t)).getD ((t.getD q 0).toNat) ((0, 0) : Int × Int)).1), .int .u32 (((codesL (lnF t)).getD ((t.getD q 0).toNat) ((0, 0) : Int × Int)).2)]) rfl rfl (hp45.row (k := 0) rfl rfl) <| m_al hM36 fun b46 w47 (hM47 : Mem w [] w47 [r4_, rs21, rs23, ro, [⟨b26, 24, [vo]⟩, ⟨b30, 3, [.int .i64 ((bitsF (lnF t) (t.take q)).length : Nat)]⟩], [⟨b46, 93, [.int .i64 0, .int .u32 0]⟩]]) => m_stA (l := [.int .i64 (((codesL (lnF t)).getD ((t.getD q 0).toNat) ((0, 0) : Int × Int)).1), .int .u32 (((codesL (lnF t)).getD ((t.getD q 0).toNat) ((0, 0) : Int × Int)).2)]) hM47 (i := 5) rfl rfl rfl rfl (by simp [oneCells, Value.oneCell', byteV]) (by simp) fun w48 (hM48 : Mem w [] w48 [r4_, rs21, rs23, ro, [⟨b26, 24, [vo]⟩, ⟨b30, 3, [.int .i64 ((bitsF (lnF t) (t.take q)).length : Nat)]⟩], [⟨b46, 93, [.int .i64 (((codesL (lnF t)).getD ((t.getD q 0).toNat) ((0, 0) : Int × Int)).1), .int .u32 (((codesL (lnF t)).getD ((t.getD q 0).toNat) ((0, 0) : Int × Int)).2)]⟩]]) => h44 _ _ <| seq fun _ h49 => ?_
  obtain ⟨dg, W, hcd, hdl, hW⟩ := code_bdE (lnF_inB t) (lnF_codes t).1 (s := (t.getD q 0).toNat) (by rw [lnF_len]; exact (t.getD q 0).toNat_lt)
  have hg1 : ((codesL (lnF t)).getD (t.getD q 0).toNat ((0, 0) : Int × Int)).1 = (dg : Nat) := by rw [codesL_get' (by rw [lnF_len]; exact (t.getD q 0).toNat_lt), hcd]
  have hg2 : ((codesL (lnF t)).getD (t.getD q 0).toNat ((0, 0) : Int × Int)).2 = (W : Nat) := by rw [codesL_get' (by rw [lnF_len]; exact (t.getD q 0).toNat_lt), hcd]
  have hnq := lnF_bits t q (by omega)
  have hnx := bits_next (L := (lnF t)) (t := t) (q := q) (by omega)
  rw [hcd, Int.toNat_natCast] at hnx
  refine fa rfl <| m_ld (v := .int .i64 (((codesL (lnF t)).getD ((t.getD q 0).toNat) ((0, 0) : Int × Int)).1)) hM48 (i := 5) (j := 0) rfl rfl rfl rfl <| stp (v := .int .i64 ((((codesL (lnF t)).getD ((t.getD q 0).toNat) ((0, 0) : Int × Int)).1) - 1)) (o_bin rfl rfl (v_sub64 (by omega))) <| mv <| h49 _ _ <| lp (n := fun _ _ => False) (ι := (Nat) × (Value) × (List Ent)) (fun ⟨k, v2, r2⟩ f w' => f 17 = .int .i64 ((dg : Nat) - 1 - (k : Nat)) ∧ f 9 = y23 ∧ f 11 = .pointer (some ⟨b26, 0, none⟩) ∧ f 13 = .func (.func 45) [].toArray [.pointer (some ⟨b30, 0, none⟩), .pointer (some ⟨b26, 0, none⟩)].toArray ∧ f 16 = .pointer (some ⟨b46, 0, none⟩) ∧ f 48 = x ∧ f 49 = .int .i64 (t.length : Nat) ∧ f 50 = .int .i64 (q : Nat) ∧ Mem w [] w' [r4_, rs21, rs23, r2, [⟨b26, 24, [v2]⟩, ⟨b30, 3, [.int .i64 ((bitsF (lnF t) (t.take q)).length + k : Nat)]⟩], [⟨b46, 93, [.int .i64 (((codesL (lnF t)).getD ((t.getD q 0).toNat) ((0, 0) : Int × Int)).1), .int .u32 (((codesL (lnF t)).getD ((t.getD q 0).toNat) ((0, 0) : Int × Int)).2)]⟩]] ∧ (SlE byteV 5 v2 ((hdrE (lnF t) 0 ++ [0]) ++ pkA (bitsF (lnF t) t) ((bitsF (lnF t) (t.take q)).length + k)) r2) ∧ (k ≤ dg)) (fun ⟨k, v2, r2⟩ => dg - k) (0, vo, ro) ?_ ?_
  ·exact ⟨vi, rfl, rfl, rfl, rfl, rfl, vi, vi, hM48, hso, by omega⟩
  rintro ⟨k, v2, r2⟩ f w50 ⟨e50_17, e50_9, e50_11, e50_13, e50_16, e50_48, e50_49, e50_50, hM50, hs2, hk⟩ K51 h51
  obtain ⟨frm, rfl⟩ := re8 e50_17 e50_9 e50_11 e50_13 e50_16 e50_48 e50_49 e50_50
  refine seq fun _ h52 => seq fun _ h53 => mv <| bn rfl rfl <| h53 _ _ <| cndP rfl (fun c54 => ?_) (fun c54 => ?_)
  ·refine h52 _ _ <| seq fun _ h55 => mv <| fa rfl <| m_ld (v := .int .u32 (((codesL (lnF t)).getD ((t.getD q 0).toNat) ((0, 0) : Int × Int)).2)) hM50 (i := 5) (j := 0) rfl rfl rfl rfl <| mv ?_
   have hwk : W / 2 ^ (dg - 1 - k) ≤ W := Nat.div_le_self _ _
   have hbit : (bitsF (lnF t) t).getD ((bitsF (lnF t) (t.take q)).length + k) 0 = W / 2 ^ (dg - 1 - k) % 2 := by
    have e := bits_at (L := (lnF t)) (t := t) (q := q) (k := k) (by omega) (by rw [hcd, Int.toNat_natCast]; omega)
    rw [hcd, Int.toNat_natCast, Int.toNat_natCast] at e
    exact e
   refine stp (v := .int .u32 (W / 2 ^ (dg - 1 - k) : Nat)) (o_shr rfl rfl (by omega) (shr_at hg2 (by omega) (by omega))) <| stp (v := .int .u32 (W / 2 ^ (dg - 1 - k) % 2 : Nat)) (o_bin rfl rfl (and1' (by omega))) <| m_callv rfl (by kernel_rfl) (put_ok (W / 2 ^ (dg - 1 - k) % 2) ((bitsF (lnF t) (t.take q)).length + k) b30 b26 _ r2 (hdrE (lnF t) 0 ++ [0]) (pkA (bitsF (lnF t) t) ((bitsF (lnF t) (t.take q)).length + k)) w50 hs2 (hM50.res2 4 3 rfl rfl (by decide)) (by omega) (pkA_ok bits_le _) (by omega) hHD) rfl fun v56 w56 ⟨v56, rb56, hs56, hm56⟩ => ?_
   have hM56 : Mem w [] w56 [r4_, rs21, rs23, rb56, [⟨b26, 24, [v56]⟩, ⟨b30, 3, [.int .i64 ((bitsF (lnF t) (t.take q)).length + k + 1 : Nat)]⟩], [⟨b46, 93, [.int .i64 (((codesL (lnF t)).getD ((t.getD q 0).toNat) ((0, 0) : Int × Int)).1), .int .u32 (((codesL (lnF t)).getD ((t.getD q 0).toNat) ((0, 0) : Int × Int)).2)]⟩]] := hM50.step2 4 3 rfl rfl (by decide) hm56
   refine h55 _ _ <| mv <| stp (v := .int .i64 (((dg : Nat) - 1 - (k : Nat)) - 1)) (o_bin rfl rfl (v_sub64 (by omega))) <| mv <| h51 (k + 1, v56, rb56) _ _ ⟨vi, rfl, rfl, rfl, rfl, rfl, vi, vi, hM56, (by show SlE byteV 5 _ ((hdrE (lnF t) 0 ++ [0]) ++ pk1 (pkA (bitsF (lnF t) t) ((bitsF (lnF t) (t.take q)).length + k)) ((bitsF (lnF t) (t.take q)).length + k) ((bitsF (lnF t) t).getD ((bitsF (lnF t) (t.take q)).length + k) 0)) _; rw [hbit]; exact hs56), by omega⟩ (by (try dsimp only); omega)
  refine h41 _ _ <| stp (v := .int .i64 ((q : Nat) + 1)) (o_bin rfl rfl (v_add64 (by omega))) <| mv <| h37 (q + 1, v2, r2) _ _ ⟨vi, rfl, rfl, rfl, rfl, vi, (by have e : (bitsF (lnF t) (t.take q)).length + k = (bitsF (lnF t) (t.take (q + 1))).length := (by omega); rw [← e]; exact hM50.keep (by simp)), (by rw [hnx, show dg = k by omega]; exact hs2), by omega⟩ (by (try dsimp only); omega)
 refine h34 _ _ <| seq fun _ h57 => m_ld (v := vo) hM36 (i := 4) (j := 0) rfl rfl rfl rfl <| mv <| mv <| h57 _ _ <| ⟨(.tuple [vo, .int .i64 0].toArray), rfl, ?_⟩
 rw [encR_ok (by omega)]
 exact ⟨_, _, rfl, SlE.eqL hso (by unfold encF; rw [bits_all (by omega)]), hM36.keep (by simp; repeat first | exact List.Sublist.refl _ | exact List.sublist_append_left _ _ | refine List.sublist_append_of_sublist_right ?_)⟩
end Go.Proofs.Ytifnmbmijljhfaa.E.Hf
namespace Go.Proofs.Ytifnmbmijljhfaa.E.Hf
open Go
def lastI (l : List Int) : Int := l.getLast?.getD (-1)
theorem lastI_app {l : List Int} {n : Nat} {x : Int} (h : 1 ≤ n) : lastI (l ++ List.replicate n x) = x := by
 unfold lastI
 obtain ⟨m, rfl⟩ : ∃ m, n = m + 1 := ⟨n - 1, by omega⟩
 rw [List.replicate_succ', ← List.append_assoc, List.getLast?_append]; simp
theorem get_nz {b : List UInt8} {a : Nat} (ha : a < b.length) (h0 : ¬ b.getD a 0 = 0) (h : (get (b.drop a)).2.2 = 0) : 1 ≤ (get (b.drop a)).1 := by
 apply Decidable.byContradiction; intro k
 have hg := get_ok h
 rw [show (get (b.drop a)).1 = 0 by omega] at hg
 have e : putI ((0 : Nat) : Int) = [0] := by decide +kernel
 rw [e, dropG 0 ha] at hg
 have h3 := hg.2.2
 cases hk : (get (b.getD a 0 :: b.drop (a + 1))).2.1 with
 | zero => rw [hk] at h3; simp at h3
 | succ m => rw [hk, List.take_succ_cons] at h3; injection h3 with h4 _; exact h0 h4.symm
theorem get_z {b : List UInt8} {a : Nat} (ha : a < b.length) (h0 : b.getD a 0 = 0) : get (b.drop a) = (0, 1, 0) := by
 rw [dropG 0 ha, h0]
 have := get_put (v := 0) (by omega) (by omega) (b.drop (a + 1))
 have e : putI 0 = [0] := by decide +kernel
 rw [e] at this
 exact this
def hdrP (b : List UInt8) (a : Nat) (l : List Int) : Prop := (get (b.drop a)).2.2 = 0 ∧ l.length + (get (b.drop a)).1 ≤ 256 ∧ a + (get (b.drop a)).2.1 < b.length ∧ ((b.getD (a + (get (b.drop a)).2.1) 0).toNat : Int) ≤ 15 ∧ ¬ lastI l = ((b.getD (a + (get (b.drop a)).2.1) 0).toNat : Int)
instance (b : List UInt8) (a : Nat) (l : List Int) : Decidable (hdrP b a l) := by unfold hdrP; infer_instance
def hdrL (b : List UInt8) (a : Nat) (l : List Int) : List Int := l ++ List.replicate (get (b.drop a)).1 ((b.getD (a + (get (b.drop a)).2.1) 0).toNat : Int)
def hdr (b : List UInt8) (a : Nat) (l : List Int) : Option (List Int × Nat) :=
 if _h : a < b.length then
  if b.getD a 0 = 0 then (if lastI l = 0 then none else some (l, a + 1))
  else if hdrP b a l then hdr b (a + (get (b.drop a)).2.1 + 1) (hdrL b a l) else none
 else none
termination_by b.length - a
theorem hdr_end {b : List UInt8} {a : Nat} {l : List Int} (h : ¬ a < b.length) : hdr b a l = none := by rw [hdr, dif_neg h]
theorem hdr_z0 {b : List UInt8} {a : Nat} {l : List Int} (h : a < b.length) (h0 : b.getD a 0 = 0) (h1 : lastI l = 0) : hdr b a l = none := by rw [hdr, dif_pos h, if_pos h0, if_pos h1]
theorem hdr_z1 {b : List UInt8} {a : Nat} {l : List Int} (h : a < b.length) (h0 : b.getD a 0 = 0) (h1 : ¬ lastI l = 0) : hdr b a l = some (l, a + 1) := by rw [hdr, dif_pos h, if_pos h0, if_neg h1]
theorem hdr_no {b : List UInt8} {a : Nat} {l : List Int} (h : a < b.length) (h0 : ¬ b.getD a 0 = 0) (h1 : ¬ hdrP b a l) : hdr b a l = none := by rw [hdr, dif_pos h, if_neg h0, if_neg h1]
theorem hdr_more {b : List UInt8} {a : Nat} {l : List Int} (h : a < b.length) (h0 : ¬ b.getD a 0 = 0) (h1 : hdrP b a l) : hdr b a l = hdr b (a + (get (b.drop a)).2.1 + 1) (hdrL b a l) := by conv => lhs; rw [hdr, dif_pos h, if_neg h0, if_pos h1]
def bitW (w : List UInt8) (i : Nat) : Nat := (w.getD (i / 8) 0).toNat / 2 ^ (i % 8) % 2
theorem bitW_le (w : List UInt8) (i : Nat) : bitW w i ≤ 1 := by unfold bitW; omega
def dec1 (l : List Int) (w : List UInt8) : Nat → Nat → Nat → Nat → Option (Nat × Nat)
 | 0, _, _, _ => none
 | k + 1, n, word, p => if p < 8 * w.length then (if 2 * word + bitW w p < firstW l n + cntW l n then some ((symN l n l.length).getD (2 * word + bitW w p - firstW l n) 0, p + 1) else dec1 l w k (n + 1) (2 * word + bitW w p) (p + 1)) else none
theorem dec1_end {l : List Int} {w : List UInt8} {k n word p : Nat} (h : ¬ p < 8 * w.length) : dec1 l w k n word p = none := by cases k with
 | zero => rfl
 | succ k => rw [dec1, if_neg h]
theorem dec1_yes {l : List Int} {w : List UInt8} {k n word p : Nat} (h : p < 8 * w.length) (h2 : 2 * word + bitW w p < firstW l n + cntW l n) : dec1 l w (k + 1) n word p = some ((symN l n l.length).getD (2 * word + bitW w p - firstW l n) 0, p + 1) := by rw [dec1, if_pos h, if_pos h2]
theorem dec1_no {l : List Int} {w : List UInt8} {k n word p : Nat} (h : p < 8 * w.length) (h2 : ¬ 2 * word + bitW w p < firstW l n + cntW l n) : dec1 l w (k + 1) n word p = dec1 l w k (n + 1) (2 * word + bitW w p) (p + 1) := by rw [dec1, if_pos h, if_neg h2]
theorem dec1_bd {l : List Int} {w : List UInt8} : ∀ {k n word p s e : Nat}, dec1 l w k n word p = some (s, e) → p < e ∧ e ≤ 8 * w.length
 | 0, _, _, _, _, _, h => by cases h
 | k + 1, n, word, p, s, e, h => by
  by_cases c : p < 8 * w.length
  ·by_cases c2 : 2 * word + bitW w p < firstW l n + cntW l n
   ·rw [dec1_yes c c2] at h; injection h with h; injection h with _ h; omega
   rw [dec1_no c c2] at h
   have := dec1_bd h; omega
  rw [dec1_end c] at h; cases h
def decA (l : List Int) (w : List UInt8) : Nat → Nat → Option (List UInt8 × Nat)
 | 0, p => some ([], p)
 | m + 1, p => match dec1 l w 15 1 0 p with
  | none => none
  | some (s, e) => match decA l w m e with
   | none => none
   | some (t, e2) => some (s.toUInt8 :: t, e2)
def pre (t : List UInt8) : Option (List UInt8 × Nat) → Option (List UInt8 × Nat)
 | none => none
 | some (u, e) => some (t ++ u, e)
theorem pre_nil (o : Option (List UInt8 × Nat)) : pre [] o = o := by cases o <;> rfl
theorem pre_step {l : List Int} {w : List UInt8} {m p s e : Nat} {t : List UInt8} (h : dec1 l w 15 1 0 p = some (s, e)) : pre t (decA l w (m + 1) p) = pre (t ++ [s.toUInt8]) (decA l w m e) := by
 rw [decA, h]
 simp only []
 cases decA l w m e with
 | none => rfl
 | some x => obtain ⟨u, e2⟩ := x; simp [pre]
theorem pre_fail {l : List Int} {w : List UInt8} {m p : Nat} {t : List UInt8} (h : dec1 l w 15 1 0 p = none) : pre t (decA l w (m + 1) p) = none := by rw [decA, h]; rfl
theorem decA_bd {l : List Int} {w : List UInt8} : ∀ {m p : Nat} {t : List UInt8} {e : Nat}, decA l w m p = some (t, e) → p ≤ 8 * w.length → p + m ≤ e ∧ e ≤ 8 * w.length ∧ t.length = m
 | 0, p, t, e, h, hp => by injection h with h; injection h with h1 h2; subst h1 h2; exact ⟨by omega, hp, rfl⟩
 | m + 1, p, t, e, h, hp => by
  rw [decA] at h
  split at h
  ·cases h
  rename_i s e1 h1
  have hb := dec1_bd h1
  split at h
  ·cases h
  rename_i u e2 h2
  injection h with h; injection h with h3 h4
  subst h3 h4
  have := decA_bd h2 (by omega)
  simp only [List.length_cons]; omega
def tailZ (w : List UInt8) (e : Nat) : Prop := ∀ i, i < 8 * w.length → e ≤ i → bitW w i = 0
instance (w : List UInt8) (e : Nat) : Decidable (tailZ w e) := by unfold tailZ; infer_instance
def wordsF (l : List Int) (w : List UInt8) (n : Nat) : Option (List UInt8) :=
 if 32768 < usedB l 15 then none else match decA l w n 0 with
  | none => none
  | some (t, e) => if (e + 7) / 8 = w.length ∧ tailZ w e then some t else none
def huffD (b : List UInt8) (n : Int) : List UInt8 × Int := if n < 0 ∨ 65536 < n then ([], 3) else match hdr b 0 [] with
 | none => ([], 40)
 | some (l, a) => match wordsF l (b.drop a) n.toNat with
  | none => ([], 40)
  | some t => (t, 0)
theorem bits_zero {x : UInt8} {k : Nat} (hk : k < 8) : (x.toNat / 2 ^ k = 0) ↔ ∀ i, k ≤ i → i < 8 → x.toNat / 2 ^ i % 2 = 0 := by
 have hx := x.toNat_lt
 constructor
 ·intro h i hi h8
  obtain ⟨j, rfl⟩ : ∃ j, i = k + j := ⟨i - k, by omega⟩
  rw [Nat.pow_add, ← Nat.div_div_eq_div_mul, h]; simp
 intro h
 apply Nat.eq_of_testBit_eq
 intro i
 rw [Nat.zero_testBit, Nat.testBit_div_two_pow]
 by_cases c : k + i < 8
 ·have := h (k + i) (by omega) c
  rw [Nat.testBit_eq_decide_div_mod_eq, Nat.add_comm i k, this]; rfl
 exact Nat.testBit_lt_two_pow (by
  have : 2 ^ 8 ≤ 2 ^ (i + k) := Nat.pow_le_pow_right (by omega) (by omega)
  omega)
theorem tail_byte {w : List UInt8} {e : Nat} (h : (e + 7) / 8 = w.length) (h8 : ¬ e % 8 = 0) : tailZ w e ↔ (w.getD (e / 8) 0).toNat / 2 ^ (e % 8) = 0 := by
 rw [bits_zero (by omega)]
 unfold tailZ bitW
 constructor
 ·intro hz i hi h8'
  have := hz (8 * (e / 8) + i) (by omega) (by omega)
  rwa [show (8 * (e / 8) + i) / 8 = e / 8 by omega, show (8 * (e / 8) + i) % 8 = i by omega] at this
 intro hz i hi he
 have h1 : i / 8 = e / 8 := by omega
 rw [h1]
 exact hz (i % 8) (by omega) (by omega)
theorem tail_none {w : List UInt8} {e : Nat} (h : (e + 7) / 8 = w.length) (h8 : e % 8 = 0) : tailZ w e := fun i hi he => by omega
end Go.Proofs.Ytifnmbmijljhfaa.E.Hf
namespace Go.Proofs.Ytifnmbmijljhfaa.E.Hf
open Go
theorem huffD_room {b : List UInt8} {n : Int} (h : (huffD b n).2 = 0) : 0 ≤ n ∧ n ≤ 65536 ∧ ((huffD b n).1.length : Int) = n ∧ n ≤ 8 * b.length := by
 unfold huffD at h ⊢
 by_cases c : n < 0 ∨ 65536 < n
 ·rw [if_pos c] at h; simp at h
 rw [if_neg c] at h ⊢
 cases h1 : hdr b 0 [] with
 | none => rw [h1] at h; simp at h
 | some la =>
  obtain ⟨l, a⟩ := la
  rw [h1] at h
  dsimp only at h ⊢
  cases h2 : wordsF l (b.drop a) n.toNat with
  | none => rw [h2] at h; simp at h
  | some t =>
   dsimp only
   have hw := h2
   unfold wordsF at hw
   split at hw
   ·cases hw
   split at hw
   ·cases hw
   rename_i t' e hd
   split at hw
   ·rename_i hk
    injection hw with hw; subst hw
    have hb := decA_bd hd (Nat.zero_le _)
    rw [List.length_drop] at hb hk
    refine ⟨by omega, by omega, by omega, by omega⟩
   cases hw
end Go.Proofs.Ytifnmbmijljhfaa.E.Hf
namespace Go.Proofs.Ytifnmbmijljhfaa.E
open Go
theorem o_idxv {f : Fr} {v : Value} {n s : Nat} {x i : Operand} {cs : Array Value} {k : IntKind} {j : Int} (hx : ev f x = .agg cs) (hi : ev f i = .int k j) (hj : 0 ≤ j ∧ j < (n : Int)) (hv : Value.agg (cs.extract (j.toNat * s) (j.toNat * s + s)) = v) : PeV (.idxv n s true x i) f v := fun K h => by
 show kagg (ev f x) _; rw [hx]; show anyint (ev f i) _; rw [hi]; refine ⟨hj, ?_⟩; show K _; rw [hv]; exact h
theorem huff_len {t : List UInt8} (h : t.length ≤ 65536) : (Hf.encR t).1.length ≤ 200000 ∧ (Hf.encR t).2 = 0 := by
 rw [Hf.encR_ok (by omega)]
 refine ⟨?_, rfl⟩
 show (Hf.encF t).length ≤ _
 have h1 := Hf.hdrE_len (Hf.lnF t) (by rw [Hf.lnF_len]; omega) 256 0 (by rw [Hf.lnF_len]; omega)
 have h2 := (Hf.pkA_ok (bs := Hf.bitsF (Hf.lnF t) t) Hf.bits_le (Hf.bitsF (Hf.lnF t) t).length).len
 have h3 := Hf.lnF_bits t t.length (Nat.le_refl _)
 rw [List.take_of_length_le (Nat.le_refl _)] at h3
 rw [Hf.lnF_len] at h1
 unfold Hf.encF
 simp only [List.length_append, List.length_singleton]
 omega
theorem lz_len {t : List UInt8} (h : t.length ≤ 65536) : (Lz.encF t).1.length ≤ 65541 ∧ (Lz.encF t).2 = 0 := ⟨Lz.enc_len, by rw [Lz.encF_ok h]⟩
def cand (T : List UInt8) (k : Nat) : List UInt8 := if k = 0 then T else if k = 1 then (Lz.encF T).1 else (Hf.encR T).1
def bestS (T : List UInt8) (b : List UInt8 × Int) (k : Nat) : List UInt8 × Int := if T.length ≤ 64 * (cand T k).length ∧ (b.2 < 0 ∨ (cand T k).length < b.1.length) then (cand T k, (k : Int)) else b
def bestF (T : List UInt8) : Nat → List UInt8 × Int
 | 0 => ([], -1)
 | k + 1 => bestS T (bestF T k) k
def startsF (st : List Int) : List UInt8 := (st.map fun a => fixedI a 4).flatten
def rawB (R : Nat) (raw : List UInt8) (st : List Int) (n : Nat) : List UInt8 := raw ++ startsF st ++ fixedI (R : Nat) 4 ++ fixedI (n : Nat) 4
theorem starts_succ {st : List Int} {i : Nat} (h : i < st.length) : startsF (st.take (i + 1)) = startsF (st.take i) ++ fixedI (st.getD i 0) 4 := by
 unfold startsF
 rw [List.take_add_one, List.getElem?_eq_getElem h, List.map_append, List.flatten_append]
 simp [List.getD_eq_getElem?_getD, List.getElem?_eq_getElem h]
theorem starts_len (st : List Int) : (startsF st).length = 4 * st.length := by
 unfold startsF
 induction st with
 | nil => rfl
 | cons a r ih => rw [List.map_cons, List.flatten_cons, List.length_append, ih, fixedI_some (by omega), fixed_length]; simp only [List.length_cons]; omega
theorem fix4_len (v : Int) : (fixedI v 4).length = 4 := by rw [fixedI_some (by omega), fixed_length]; rfl
theorem conv_u64 {a : Int} (h0 : 0 ≤ a) (h : a ≤ 9223372036854775807) : Value.int .u64 (IntKind.u64.wrap a) = .int .u64 a := by rw [wrap_u64, Int.emod_eq_of_lt h0 (by omega)]
theorem Size_ok (bb R M : Nat) (raw : List UInt8) (st : List Int) (last : List UInt8) (n : Nat) (r0 : List Ent) (w : World) (hB : BldS bb R M raw st last n r0) (hr : Res w r0) (hR : 1 ≤ R ∧ R ≤ 64) (hl : raw.length ≤ 65536 ∧ n ≤ 65536) : Calls Try.prog 21 [.pointer (some ⟨bb, 0, none⟩)].toArray w (Rt fun r w' => r = .int .i64 ((szB R raw.length n : Nat) : Int) ∧ Upd [] w w') := by
 obtain ⟨vr, vs, rr, rs, rfl, hvr, hvs⟩ := hB
 have ho := (Mem.res1 hr).1
 have hM0 : Mem w [] w [] := Mem.nil w []
 refine calls_vc mixed Try.func21 rfl C21 (by simp [Try.ntmps21]) <| seq fun _ h1 => mv <| h1 _ _ <| seq fun _ h2 => seq fun _ h3 => mv <| stp (v := .bool false) (o_isnil rfl rfl) <| h3 _ _ <| cndF rfl <| h2 _ _ <| seq fun _ h4 => ?_
 intro wd e1 e2 e3 e4
 have hd := Upd.same e1 e2 e3 e4 []
 have hM5 := hM0.pure hd
 clear e1 e2 e3 e4
 refine ⟨(some [bb]), ?_⟩
 show vd _ _ _ _ _ _ _
 refine dmv <| dmv <| dq (v := .pointer (some ⟨bb, 0, none⟩)) (o_nilchk rfl rfl) <| dfa rfl <| dmv <| dq (v := .pointer (some ⟨bb, 0, none⟩)) (o_nilchk rfl rfl) <| dfa rfl <| dqld rfl (by simp [isHeld]) (v := .int .i64 (n : Nat)) ((ho.upd hM5.upd (by simp)).cell 5) <| dl (ld (v := vr) rfl ((ho.upd hM5.upd (by simp)).cell 2) <| ⟨(fun b hb => rfl), dq (v := .int .i64 (raw.length : Nat)) (o_lenR ((hvr.rdOwn fun e he => ((Mem.res1 hr).2 e (List.mem_append_left _ he)).upd hM5.upd (by simp))) rfl rfl) <| dl (m_call (size_ok bb R _ (raw.length) (n) wd (ho.upd hM5.upd (by simp)) hR (by omega) (by omega)) rfl fun v6 w6 ⟨hr6, hu6⟩ => ?_)⟩)
 have hM6 : Mem w [] w6 [] := hM5.pure hu6
 subst hr6
 have hh6 := held_upd (wr := wd) (bs := [bb]) hu6 (fun b hb => by
  simp only [List.mem_cons, List.not_mem_nil, or_false] at hb
  rw [hb]; exact ⟨(ho.upd hM5.upd (by simp)).lt, by simp⟩) (fun b hb => rfl)
 refine ⟨hh6, dmv <| h4 _ _ <| ⟨(.int .i64 (szB R (raw.length) (n) : Nat)), rfl, ⟨rfl, hM6.upd⟩⟩⟩
theorem BLen_ok (bb R M : Nat) (raw : List UInt8) (st : List Int) (last : List UInt8) (n : Nat) (r0 : List Ent) (w : World) (hB : BldS bb R M raw st last n r0) (hr : Res w r0) : Calls Try.prog 25 [.pointer (some ⟨bb, 0, none⟩)].toArray w (Rt fun r w' => r = .int .i64 (n : Nat) ∧ Upd [] w w') := by
 obtain ⟨vr, vs, rr, rs, rfl, hvr, hvs⟩ := hB
 have ho := (Mem.res1 hr).1
 have hM0 : Mem w [] w [] := Mem.nil w []
 refine calls_vc mixed Try.func25 rfl C25 (by simp [Try.ntmps25]) <| seq fun _ h1 => mv <| h1 _ _ <| seq fun _ h2 => seq fun _ h3 => mv <| stp (v := .bool false) (o_isnil rfl rfl) <| h3 _ _ <| cndF rfl <| h2 _ _ <| seq fun _ h4 => mv <| nilchk rfl ?_
 refine fa rfl <| ld (v := .int .i64 (n : Nat)) rfl ((ho.upd hM0.upd (by simp)).cell 5) <| mv <| h4 _ _ <| ⟨(.int .i64 (n : Nat)), rfl, ⟨rfl, hM0.upd⟩⟩
end Go.Proofs.Ytifnmbmijljhfaa.E
namespace Go.Proofs.Ytifnmbmijljhfaa.E
open Go
theorem best_0 {T : List UInt8} : bestF T 1 = (T, 0) := by
 show bestS T ([], -1) 0 = _
 unfold bestS
 rw [if_pos ⟨by show T.length ≤ 64 * T.length; omega, .inl (by show (-1 : Int) < 0; omega)⟩]; rfl
theorem best_fl {T : List UInt8} : ∀ k, 0 < k → 0 ≤ (bestF T k).2
 | 0, h => absurd h (by omega)
 | 1, _ => by rw [best_0]; exact Int.le_refl _
 | k + 2, _ => by
  show 0 ≤ (bestS T (bestF T (k + 1)) (k + 1)).2
  unfold bestS
  split
  ·show 0 ≤ ((k + 1 : Nat) : Int); omega
  exact best_fl (k + 1) (by omega)
end Go.Proofs.Ytifnmbmijljhfaa.E
