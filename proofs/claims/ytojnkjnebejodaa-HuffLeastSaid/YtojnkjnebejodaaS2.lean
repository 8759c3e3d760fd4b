/- Sorting: the walks of the library's stable sort of things. -/
import Derived.Test.YtojnkjnebejodaaS1
import Derived.Test.YtojnkjnebejodaaM
namespace Go.Proofs.Ytojnkjnebejodaa.E
open Go
/-- a thing or a package: its weight, how often each symbol is in it; (and, not in memory, its rank) -/
structure Th where
  w : Int
  f : Nat → Nat
  r : Int
def thC (t : Th) : List Value := .int .i64 t.w :: (List.range 256).map fun i => .int .u8 ((t.f i : Nat) : Int)
def th0 : Th := ⟨0, fun _ => 0, 0⟩
@[simp] theorem thC_len (t : Th) : (thC t).length = 257 := by simp [thC]
theorem thC_one (t : Th) : oneCells (thC t) := by
  intro v hv
  unfold thC at hv
  rcases List.mem_cons.1 hv with rfl | hv
  · rfl
  · obtain ⟨i, _, rfl⟩ := List.mem_map.1 hv; rfl
instance : Enc thC 257 := ⟨thC_len, by omega, thC_one⟩
theorem zcTh : zcOf Try.t81 = thC th0 := by kernel_rfl
@[simp] theorem zcTh_len : (zcOf Try.t81).length = 257 := by rw [zcTh]; exact thC_len _
theorem Cells.all {w : World} {b o : Nat} {cs : List Value} (h : Cells w b o cs) : Row w (some ⟨b, o, none⟩) cs := h
theorem fill_big {cs zs : List Value} {n : Nat} (hz : zs.length = n) (hc : cs.length = n) : fillC zs [(0, n, .agg cs.toArray)] = some cs := by
  have hs : (Value.agg cs.toArray).cells.size = n := by simpa [Value.cells] using hc
  have hs2 : (Value.agg cs.toArray).cells.toList = cs := by simp [Value.cells]
  unfold fillC
  rw [if_pos ⟨hs, by omega⟩, hs2]
  unfold fillC
  rw [List.take_zero, List.nil_append, List.drop_eq_nil_of_le (by omega), List.append_nil]
/-- how two are compared -/
def cmpW (x y : Th) : Int := if x.w < y.w then -1 else if y.w < x.w then 1 else 0
theorem cmpW_neg {x y : Th} : cmpW x y < 0 ↔ x.w < y.w := by
  unfold cmpW
  split
  · rename_i h; exact ⟨fun _ => h, fun _ => by omega⟩
  · rename_i h; split <;> exact ⟨fun k => by omega, fun k => absurd k h⟩
theorem rot_refl {α : Type} {z : α} {l : List α} {s m e : Nat} (h : s = m ∨ m = e) : RotR z l l s m e := ⟨.refl _, fun q => by congr 1; unfold rotIdx; (repeat' split) <;> omega⟩
theorem PostS.upto {α : Type} {ρ : α → Int} {z : α} {l lc : List α} {a b i : Nat} (h : PostS ρ z l lc a i) (hb : b ≤ i) (hi : i ≤ b ∨ lc = l) : PostS ρ z l lc a b := by
  rcases hi with hi | hi
  · rw [show b = i by omega]; exact h
  · subst hi; exact PostS.refl fun p q h1 h2 h3 => h.srt p q h1 h2 (by omega)
theorem CutM.mk' {ρ : Th → Int} {l : List Th} {a m b mid s0 q0 st r : Nat} (hm : a < m ∧ m < b ∧ mid = (a + b) / 2) (s1 : Srt ρ th0 l a m) (s2 : Srt ρ th0 l m b) (h0 : (s0 = a ∧ q0 = m ∧ m ≤ mid) ∨ (s0 = mid + m - b ∧ q0 = mid ∧ mid < m)) (hr : s0 ≤ st ∧ st ≤ r ∧ r ≤ q0) (he : ¬ st < r)
    (lo : st = s0 ∨ ρ (l.getD (st - 1) th0) < ρ (l.getD (mid + m - st) th0)) (hi : r = q0 ∨ ρ (l.getD (mid + m - 1 - r) th0) < ρ (l.getD r th0)) : CutM ρ th0 l a m b mid st := by
  obtain rfl : st = r := by omega
  refine ⟨hm, s1, s2, by omega, ?_, ?_⟩
  · rcases lo with lo | lo
    · rcases h0 with h | h
      · exact .inl (by omega)
      · exact .inr (.inl (by omega))
    · exact .inr (.inr lo)
  · rcases hi with hi | hi
    · rcases h0 with h | h
      · exact .inl (by omega)
      · exact .inr (.inl (by omega))
    · exact .inr (.inr (by rw [show mid + m - st - 1 = mid + m - 1 - st by omega]; exact hi))

/-- huff.things$1 -/
theorem cmpW_ok (x y : Th) (w : World) : Calls Try.prog 68 [.agg (thC x).toArray, .agg (thC y).toArray].toArray w (Rt fun r w' => r = .int .i64 (cmpW x y) ∧ Upd [] w w') := by
  have hM0 : Mem w [] w [] := Mem.nil w []
  refine calls_vc mixed Try.func68 rfl C68 (by simp [Try.ntmps68]) ?_
  refine seq fun K1 h1 => ?_
  refine m_bx (v := .agg ((thC x).toArray)) hM0 rfl rfl fun b2 w3 (hM3 : Mem w [] w3 [[⟨b2, 81, (thC x)⟩]]) => ?_
  refine m_bx (v := .agg ((thC y).toArray)) hM3 rfl rfl fun b4 w5 (hM5 : Mem w [] w5 [[⟨b2, 81, (thC x)⟩], [⟨b4, 81, (thC y)⟩]]) => ?_
  refine stp (v := .int .i64 0) (o_mv rfl) ?_
  refine h1 _ _ ?_
  clear h1
  refine seq fun K6 h6 => ?_
  refine seq fun K7 h7 => ?_
  refine stp (v := .pointer (some ⟨b2, 0, none⟩)) (o_fa rfl rfl) ?_
  refine m_ld (v := .int .i64 x.w) hM5 (i := 0) (j := 0) rfl rfl rfl rfl ?_
  refine stp (v := .pointer (some ⟨b4, 0, none⟩)) (o_fa rfl rfl) ?_
  refine m_ld (v := .int .i64 y.w) hM5 (i := 1) (j := 0) rfl rfl rfl rfl ?_
  refine stp (v := .bool (decide (x.w < y.w))) (o_bin rfl rfl rfl) ?_
  refine stp (v := .bool (decide (x.w < y.w))) (o_mv rfl) ?_
  refine h7 _ _ ?_
  clear h7
  refine cndP rfl (fun c8 => ?_) (fun c8 => ?_)
  ·
    refine seq fun K9 h9 => ?_
    refine stp (v := .int .i64 (-1)) (o_mv rfl) ?_
    refine h9 _ _ ?_
    clear h9
    refine ⟨(.int .i64 (-1)), rfl, ?_⟩
    first | exact ⟨by unfold cmpW; rw [if_pos (by assumption)], hM5.upd⟩ | exact ⟨by unfold cmpW; rw [if_neg (by assumption), if_pos (by assumption)], hM5.upd⟩ | exact ⟨by unfold cmpW; rw [if_neg (by assumption), if_neg (by assumption)], hM5.upd⟩
  ·
    refine seq fun K10 h10 => ?_
    refine stp (v := .pointer (some ⟨b2, 0, none⟩)) (o_fa rfl rfl) ?_
    refine m_ld (v := .int .i64 x.w) hM5 (i := 0) (j := 0) rfl rfl rfl rfl ?_
    refine stp (v := .pointer (some ⟨b4, 0, none⟩)) (o_fa rfl rfl) ?_
    refine m_ld (v := .int .i64 y.w) hM5 (i := 1) (j := 0) rfl rfl rfl rfl ?_
    refine stp (v := .bool (decide (y.w < x.w))) (o_bin rfl rfl rfl) ?_
    refine stp (v := .bool (decide (y.w < x.w))) (o_mv rfl) ?_
    refine h10 _ _ ?_
    clear h10
    refine cndP rfl (fun c11 => ?_) (fun c11 => ?_)
    ·
      refine seq fun K12 h12 => ?_
      refine stp (v := .int .i64 1) (o_mv rfl) ?_
      refine h12 _ _ ?_
      clear h12
      refine ⟨(.int .i64 1), rfl, ?_⟩
      first | exact ⟨by unfold cmpW; rw [if_pos (by assumption)], hM5.upd⟩ | exact ⟨by unfold cmpW; rw [if_neg (by assumption), if_pos (by assumption)], hM5.upd⟩ | exact ⟨by unfold cmpW; rw [if_neg (by assumption), if_neg (by assumption)], hM5.upd⟩
    ·
      refine h6 _ _ ?_
      clear h6
      refine seq fun K13 h13 => ?_
      refine stp (v := .int .i64 0) (o_mv rfl) ?_
      refine h13 _ _ ?_
      clear h13
      refine ⟨(.int .i64 0), rfl, ?_⟩
      first | exact ⟨by unfold cmpW; rw [if_pos (by assumption)], hM5.upd⟩ | exact ⟨by unfold cmpW; rw [if_neg (by assumption), if_pos (by assumption)], hM5.upd⟩ | exact ⟨by unfold cmpW; rw [if_neg (by assumption), if_neg (by assumption)], hM5.upd⟩

/-- slices.swapRangeCmpFunc[huff.thing] -/
theorem swap_ok (x : Value) (l : List Th) (r0 : List Ent) (w : World) (hs0 : SlS thC 257 81 x l r0) (hr : Res w r0) (hl : l.length ≤ 1000000) (a b n : Nat) (hb : a + n ≤ b ∧ b + n ≤ l.length) : Calls Try.prog 80 [x, .int .i64 (a : Nat), .int .i64 (b : Nat), .int .i64 (n : Nat), .func (.func 68) ([] : List Value).toArray ([] : List Value).toArray].toArray w (Rt fun _ w' => ∃ l' r', SwR th0 l l' a b n ∧ SlS thC 257 81 x l' r' ∧ Mem w (ids r0) w' [r']) := by
  have hM0 : Mem w (ids r0) w [r0] := Mem.start hr
  refine calls_vc mixed Try.func80 rfl C80 (by simp [Try.ntmps80]) ?_
  refine seq fun K1 h1 => ?_
  refine stp (v := .int .i64 0) (o_mv rfl) ?_
  refine h1 _ _ ?_
  clear h1
  refine lp (n := fun _ _ => False) (ι := (Nat) × (List Th) × (List Ent)) (fun ⟨i, lc, r0_⟩ f w' => f 0 = x ∧ f 10 = .int .i64 (i : Nat) ∧ f 1 = .int .i64 (a : Nat) ∧ f 2 = .int .i64 (b : Nat) ∧ f 3 = .int .i64 (n : Nat) ∧ Mem w (ids r0) w' [r0_] ∧ (i ≤ n) ∧ (SwR th0 l lc a b i) ∧ (lc.length = l.length) ∧ (SlS thC 257 81 x (lc) r0_)) (fun ⟨i, lc, r0_⟩ => n - i) (0, l, r0) ?_ ?_
  · exact ⟨rfl, by first | rfl | exact v_int (by omega) | exact v_int (by simp) | exact v_int (by simp; omega), by first | rfl | exact v_int (by omega) | exact v_int (by simp) | exact v_int (by simp; omega), by first | rfl | exact v_int (by omega) | exact v_int (by simp) | exact v_int (by simp; omega), by first | rfl | exact v_int (by omega) | exact v_int (by simp) | exact v_int (by simp; omega), hM0, by omega, SwR.init, rfl, by first | exact hs0 | simpa using hs0⟩
  · rintro ⟨i, lc, r0_⟩ f w2 ⟨e2_0, e2_10, e2_1, e2_2, e2_3, hM2, hi, hS, hn, hy0_⟩ K3 h3
    obtain ⟨frm, rfl⟩ : ∃ frm, f = (upd (upd (upd (upd (upd frm 0 (x)) 10 (.int .i64 (i : Nat))) 1 (.int .i64 (a : Nat))) 2 (.int .i64 (b : Nat))) 3 (.int .i64 (n : Nat))) := ⟨f, by rw [upd_self e2_0, upd_self e2_10, upd_self e2_1, upd_self e2_2, upd_self e2_3]⟩
    clear e2_0 e2_10 e2_1 e2_2 e2_3
    refine seq fun K4 h4 => ?_
    refine seq fun K5 h5 => ?_
    refine stp (v := .int .i64 (i : Nat)) (o_mv rfl) ?_
    refine stp (v := .int .i64 (n : Nat)) (o_mv rfl) ?_
    refine stp (v := .bool (decide (((i : Nat) : Int) < (n : Nat)))) (o_bin rfl rfl rfl) ?_
    refine h5 _ _ ?_
    clear h5
    refine cndP rfl (fun c6 => ?_) (fun c6 => ?_)
    ·
      refine h4 _ _ ?_
      clear h4
      refine seq fun K7 h7 => ?_
      intro wd e1 e2 e3 e4
      have hd := Upd.same e1 e2 e3 e4 []
      have hM8 := hM2.pure hd
      clear e1 e2 e3 e4
      refine ⟨(some []), ?_⟩
      show vd _ _ _ _ _ _ _
      refine dq (v := x) (o_mv rfl) ?_
      refine dq (v := .int .i64 (a : Nat)) (o_mv rfl) ?_
      refine dq (v := .int .i64 (i : Nat)) (o_mv rfl) ?_
      refine dq (v := .int .i64 ((a : Nat) + (i : Nat))) (o_bin rfl rfl (v_add64 (by constructor <;> omega))) ?_
      refine dq (v := x) (o_mv rfl) ?_
      refine dq (v := .int .i64 (b : Nat)) (o_mv rfl) ?_
      refine dq (v := .int .i64 (i : Nat)) (o_mv rfl) ?_
      refine dq (v := .int .i64 ((b : Nat) + (i : Nat))) (o_bin rfl rfl (v_add64 (by constructor <;> omega))) ?_
      refine dq (v := x) (o_mv rfl) ?_
      refine dq (v := .int .i64 (b : Nat)) (o_mv rfl) ?_
      refine dq (v := .int .i64 (i : Nat)) (o_mv rfl) ?_
      refine dq (v := .int .i64 ((b : Nat) + (i : Nat))) (o_bin rfl rfl (v_add64 (by constructor <;> omega))) ?_
      refine dqp (m_idxS th0 (j := ((b) + (i))) (hy0_.rd hM8 (i := 0) rfl) rfl (v_int (by omega)) (by omega) fun b9 o9 hp9 => ?_)
      show vd _ _ _ _ _ _ _
      refine dq (v := x) (o_mv rfl) ?_
      refine dq (v := .int .i64 (a : Nat)) (o_mv rfl) ?_
      refine dq (v := .int .i64 (i : Nat)) (o_mv rfl) ?_
      refine dq (v := .int .i64 ((a : Nat) + (i : Nat))) (o_bin rfl rfl (v_add64 (by constructor <;> omega))) ?_
      refine dqp (m_idxS th0 (j := ((a) + (i))) (hy0_.rd hM8 (i := 0) rfl) rfl (v_int (by omega)) (by omega) fun b10 o10 hp10 => ?_)
      show vd _ _ _ _ _ _ _
      show _ ∧ _
      refine ⟨?_, ?_⟩
      ·
        show vd _ _ _ _ _ _ _
        refine dl (ldA (cs := thC (lc.getD ((b) + (i)) th0)) rfl (thC_len _) (hp9.all) ?_)
        refine ⟨(fun b hb => by cases hb), ?_⟩
        refine dl (ldA (cs := thC (lc.getD ((a) + (i)) th0)) rfl (thC_len _) (hp10.all) ?_)
        refine ⟨(fun b hb => by cases hb), ?_⟩
        refine dset (m_setS (enc := thC) th0 (q := lc.getD ((b) + (i)) th0) (j := (a + i)) hM8 (i := 0) rfl hy0_ rfl (v_int (by omega)) (by omega) (by simp) (rfl) fun w11 r11 u11 he11 hs11 (hM11 : Mem w (ids r0) w11 [r11]) => ?_)
        refine ⟨(fun b hb => by cases hb), ?_⟩
        show vd _ _ _ _ _ _ _
        refine dset (m_setS (enc := thC) th0 (q := lc.getD ((a) + (i)) th0) (j := (b + i)) hM11 (i := 0) rfl hs11 rfl (v_int (by omega)) (by rw [List.length_set]; omega) (by simp) (rfl) fun w12 r12 u12 he12 hs12 (hM12 : Mem w (ids r0) w12 [r12]) => ?_)
        refine ⟨(fun b hb => by cases hb), ?_⟩
        show vd _ _ _ _ _ _ _
        refine h7 _ _ ?_
        clear h7
        refine stp (v := .int .i64 (i : Nat)) (o_mv rfl) ?_
        refine stp (v := .int .i64 ((i : Nat) + 1)) (o_bin rfl rfl (v_add64 (by constructor <;> omega))) ?_
        refine stp (v := .int .i64 ((i : Nat) + 1)) (o_mv rfl) ?_
        refine h3 (i + 1, swp th0 lc (a + i) (b + i), r12) _ _ ⟨rfl, by first | rfl | exact v_int (by omega) | exact v_int (by simp) | exact v_int (by simp; omega), by first | rfl | exact v_int (by omega) | exact v_int (by simp) | exact v_int (by simp; omega), by first | rfl | exact v_int (by omega) | exact v_int (by simp) | exact v_int (by simp; omega), by first | rfl | exact v_int (by omega) | exact v_int (by simp) | exact v_int (by simp; omega), hM12, by omega, hS.step (by omega) (by omega), by rw [swp_len]; exact hn, by first | exact hs12 | simpa using hs12⟩ (by (try dsimp only); omega)
      ·
        show vd _ _ _ _ _ _ _
        refine dl (ldA (cs := thC (lc.getD ((a) + (i)) th0)) rfl (thC_len _) (hp10.all) ?_)
        refine ⟨(fun b hb => by cases hb), ?_⟩
        refine dl (ldA (cs := thC (lc.getD ((b) + (i)) th0)) rfl (thC_len _) (hp9.all) ?_)
        refine ⟨(fun b hb => by cases hb), ?_⟩
        refine dset (m_setS (enc := thC) th0 (q := lc.getD ((b) + (i)) th0) (j := (a + i)) hM8 (i := 0) rfl hy0_ rfl (v_int (by omega)) (by omega) (by simp) (rfl) fun w13 r13 u13 he13 hs13 (hM13 : Mem w (ids r0) w13 [r13]) => ?_)
        refine ⟨(fun b hb => by cases hb), ?_⟩
        show vd _ _ _ _ _ _ _
        refine dset (m_setS (enc := thC) th0 (q := lc.getD ((a) + (i)) th0) (j := (b + i)) hM13 (i := 0) rfl hs13 rfl (v_int (by omega)) (by rw [List.length_set]; omega) (by simp) (rfl) fun w14 r14 u14 he14 hs14 (hM14 : Mem w (ids r0) w14 [r14]) => ?_)
        refine ⟨(fun b hb => by cases hb), ?_⟩
        show vd _ _ _ _ _ _ _
        refine h7 _ _ ?_
        clear h7
        refine stp (v := .int .i64 (i : Nat)) (o_mv rfl) ?_
        refine stp (v := .int .i64 ((i : Nat) + 1)) (o_bin rfl rfl (v_add64 (by constructor <;> omega))) ?_
        refine stp (v := .int .i64 ((i : Nat) + 1)) (o_mv rfl) ?_
        refine h3 (i + 1, swp th0 lc (a + i) (b + i), r14) _ _ ⟨rfl, by first | rfl | exact v_int (by omega) | exact v_int (by simp) | exact v_int (by simp; omega), by first | rfl | exact v_int (by omega) | exact v_int (by simp) | exact v_int (by simp; omega), by first | rfl | exact v_int (by omega) | exact v_int (by simp) | exact v_int (by simp; omega), by first | rfl | exact v_int (by omega) | exact v_int (by simp) | exact v_int (by simp; omega), hM14, by omega, hS.step (by omega) (by omega), by rw [swp_len]; exact hn, by first | exact hs14 | simpa using hs14⟩ (by (try dsimp only); omega)
    ·
      refine ⟨(.tuple [].toArray), rfl, ?_⟩
      obtain rfl : i = n := by omega
      exact ⟨_, _, hS, hy0_, hM2⟩

/-- slices.rotateCmpFunc[huff.thing] -/
theorem rotate_ok (x : Value) (l : List Th) (r0 : List Ent) (w : World) (hs0 : SlS thC 257 81 x l r0) (hr : Res w r0) (hl : l.length ≤ 1000000) (s m e : Nat) (hb : s < m ∧ m < e ∧ e ≤ l.length) : Calls Try.prog 79 [x, .int .i64 (s : Nat), .int .i64 (m : Nat), .int .i64 (e : Nat), .func (.func 68) ([] : List Value).toArray ([] : List Value).toArray].toArray w (Rt fun _ w' => ∃ l' r', RotR th0 l l' s m e ∧ SlS thC 257 81 x l' r' ∧ Mem w (ids r0) w' [r']) := by
  have hM0 : Mem w (ids r0) w [r0] := Mem.start hr
  refine calls_vc mixed Try.func79 rfl C79 (by simp [Try.ntmps79]) ?_
  refine seq fun K1 h1 => ?_
  refine stp (v := .int .i64 (m : Nat)) (o_mv rfl) ?_
  refine stp (v := .int .i64 (s : Nat)) (o_mv rfl) ?_
  refine stp (v := .int .i64 ((m : Nat) - (s : Nat))) (o_bin rfl rfl (v_sub64 (by constructor <;> omega))) ?_
  refine stp (v := .int .i64 ((m : Nat) - (s : Nat))) (o_mv rfl) ?_
  refine h1 _ _ ?_
  clear h1
  refine seq fun K2 h2 => ?_
  refine stp (v := .int .i64 (e : Nat)) (o_mv rfl) ?_
  refine stp (v := .int .i64 (m : Nat)) (o_mv rfl) ?_
  refine stp (v := .int .i64 ((e : Nat) - (m : Nat))) (o_bin rfl rfl (v_sub64 (by constructor <;> omega))) ?_
  refine stp (v := .int .i64 ((e : Nat) - (m : Nat))) (o_mv rfl) ?_
  refine h2 _ _ ?_
  clear h2
  refine seq fun K3 h3 => ?_
  refine lp (n := fun _ _ => False) (ι := (Nat) × (Nat) × (List Th) × (List Ent)) (fun ⟨i, j, lc, r0_⟩ f w' => f 0 = x ∧ f 10 = .int .i64 (i : Nat) ∧ f 11 = .int .i64 (j : Nat) ∧ f 2 = .int .i64 (m : Nat) ∧ f 4 = .func (.func 68) [].toArray [].toArray ∧ Mem w (ids r0) w' [r0_] ∧ (RotI th0 l lc s m e i j) ∧ (lc.length = l.length) ∧ (0 < i ∧ 0 < j ∧ s + i ≤ m ∧ m + j ≤ e) ∧ (SlS thC 257 81 x (lc) r0_)) (fun ⟨i, j, lc, r0_⟩ => i + j) (m - s, e - m, l, r0) ?_ ?_
  · exact ⟨rfl, by first | rfl | exact v_int (by omega) | exact v_int (by simp) | exact v_int (by simp; omega), by first | rfl | exact v_int (by omega) | exact v_int (by simp) | exact v_int (by simp; omega), by first | rfl | exact v_int (by omega) | exact v_int (by simp) | exact v_int (by simp; omega), rfl, hM0, RotI.init (by omega), rfl, by omega, by first | exact hs0 | simpa using hs0⟩
  · rintro ⟨i, j, lc, r0_⟩ f w4 ⟨e4_0, e4_10, e4_11, e4_2, e4_4, hM4, hI, hn, hij, hy0_⟩ K5 h5
    obtain ⟨frm, rfl⟩ : ∃ frm, f = (upd (upd (upd (upd (upd frm 0 (x)) 10 (.int .i64 (i : Nat))) 11 (.int .i64 (j : Nat))) 2 (.int .i64 (m : Nat))) 4 (.func (.func 68) [].toArray [].toArray)) := ⟨f, by rw [upd_self e4_0, upd_self e4_10, upd_self e4_11, upd_self e4_2, upd_self e4_4]⟩
    clear e4_0 e4_10 e4_11 e4_2 e4_4
    refine seq fun K6 h6 => ?_
    refine seq fun K7 h7 => ?_
    refine stp (v := .int .i64 (i : Nat)) (o_mv rfl) ?_
    refine stp (v := .int .i64 (j : Nat)) (o_mv rfl) ?_
    refine stp (v := .bool (decide (¬ ((i : Nat) : Int) = (j : Nat)))) (o_bin rfl rfl v_neq) ?_
    refine h7 _ _ ?_
    clear h7
    refine cndP rfl (fun c8 => ?_) (fun c8 => ?_)
    ·
      refine h6 _ _ ?_
      clear h6
      refine seq fun K9 h9 => ?_
      refine stp (v := .int .i64 (i : Nat)) (o_mv rfl) ?_
      refine stp (v := .int .i64 (j : Nat)) (o_mv rfl) ?_
      refine stp (v := .bool (decide (((j : Nat) : Int) < ((i : Nat) : Int)))) (o_bin rfl rfl rfl) ?_
      refine h9 _ _ ?_
      clear h9
      refine cndP rfl (fun c10 => ?_) (fun c10 => ?_)
      ·
        refine seq fun K11 h11 => ?_
        refine stp (v := x) (o_mv rfl) ?_
        refine stp (v := .int .i64 (m : Nat)) (o_mv rfl) ?_
        refine stp (v := .int .i64 (i : Nat)) (o_mv rfl) ?_
        refine stp (v := .int .i64 (m - i : Nat)) (o_bin rfl rfl ((v_sub64 (by constructor <;> omega)).trans (v_int (by omega)))) ?_
        refine stp (v := .int .i64 (m : Nat)) (o_mv rfl) ?_
        refine stp (v := .int .i64 (j : Nat)) (o_mv rfl) ?_
        refine stp (v := .func (.func 68) [].toArray [].toArray) (o_mv rfl) ?_
        refine m_call (swap_ok _ lc r0_ w4 hy0_ (hM4.res (i := 0) rfl) (by omega) (m - i) m j (by omega)) rfl fun v12 w12 ⟨l12_, r'12, hP31, hs12, hm12⟩ => ?_
        have hM12 : Mem w (ids r0) w12 [r'12] := hM4.step 0 rfl hm12
        have hn12_ : l12_.length = lc.length := hP31.1.length_eq
        refine h11 _ _ ?_
        clear h11
        refine stp (v := .int .i64 (i : Nat)) (o_mv rfl) ?_
        refine stp (v := .int .i64 (j : Nat)) (o_mv rfl) ?_
        refine stp (v := .int .i64 (i - j : Nat)) (o_bin rfl rfl ((v_sub64 (by constructor <;> omega)).trans (v_int (by omega)))) ?_
        refine stp (v := .int .i64 (i - j : Nat)) (o_mv rfl) ?_
        refine h5 (i - j, j, l12_, r'12) _ _ ⟨rfl, by first | rfl | exact v_int (by omega) | exact v_int (by simp) | exact v_int (by simp; omega), by first | rfl | exact v_int (by omega) | exact v_int (by simp) | exact v_int (by simp; omega), by first | rfl | exact v_int (by omega) | exact v_int (by simp) | exact v_int (by simp; omega), rfl, hM12, hI.left (by omega) hP31, by omega, by omega, by first | exact hs12 | simpa using hs12⟩ (by (try dsimp only); omega)
      ·
        refine seq fun K13 h13 => ?_
        refine stp (v := x) (o_mv rfl) ?_
        refine stp (v := .int .i64 (m : Nat)) (o_mv rfl) ?_
        refine stp (v := .int .i64 (i : Nat)) (o_mv rfl) ?_
        refine stp (v := .int .i64 (m - i : Nat)) (o_bin rfl rfl ((v_sub64 (by constructor <;> omega)).trans (v_int (by omega)))) ?_
        refine stp (v := .int .i64 (m : Nat)) (o_mv rfl) ?_
        refine stp (v := .int .i64 (j : Nat)) (o_mv rfl) ?_
        refine stp (v := .int .i64 ((m : Nat) + (j : Nat))) (o_bin rfl rfl (v_add64 (by constructor <;> omega))) ?_
        refine stp (v := .int .i64 (i : Nat)) (o_mv rfl) ?_
        refine stp (v := .int .i64 (m + j - i : Nat)) (o_bin rfl rfl ((v_sub64 (by constructor <;> omega)).trans (v_int (by omega)))) ?_
        refine stp (v := .int .i64 (i : Nat)) (o_mv rfl) ?_
        refine stp (v := .func (.func 68) [].toArray [].toArray) (o_mv rfl) ?_
        refine m_call (swap_ok _ lc r0_ w4 hy0_ (hM4.res (i := 0) rfl) (by omega) (m - i) (m + j - i) i (by omega)) rfl fun v14 w14 ⟨l14_, r'14, hP46, hs14, hm14⟩ => ?_
        have hM14 : Mem w (ids r0) w14 [r'14] := hM4.step 0 rfl hm14
        have hn14_ : l14_.length = lc.length := hP46.1.length_eq
        refine h13 _ _ ?_
        clear h13
        refine stp (v := .int .i64 (j : Nat)) (o_mv rfl) ?_
        refine stp (v := .int .i64 (i : Nat)) (o_mv rfl) ?_
        refine stp (v := .int .i64 (j - i : Nat)) (o_bin rfl rfl ((v_sub64 (by constructor <;> omega)).trans (v_int (by omega)))) ?_
        refine stp (v := .int .i64 (j - i : Nat)) (o_mv rfl) ?_
        refine h5 (i, j - i, l14_, r'14) _ _ ⟨rfl, by first | rfl | exact v_int (by omega) | exact v_int (by simp) | exact v_int (by simp; omega), by first | rfl | exact v_int (by omega) | exact v_int (by simp) | exact v_int (by simp; omega), by first | rfl | exact v_int (by omega) | exact v_int (by simp) | exact v_int (by simp; omega), rfl, hM14, hI.right (by omega) hP46, by omega, by omega, by first | exact hs14 | simpa using hs14⟩ (by (try dsimp only); omega)
    ·
      refine h3 _ _ ?_
      clear h3
      refine stp (v := x) (o_mv rfl) ?_
      refine stp (v := .int .i64 (m : Nat)) (o_mv rfl) ?_
      refine stp (v := .int .i64 (i : Nat)) (o_mv rfl) ?_
      refine stp (v := .int .i64 (m - i : Nat)) (o_bin rfl rfl ((v_sub64 (by constructor <;> omega)).trans (v_int (by omega)))) ?_
      refine stp (v := .int .i64 (m : Nat)) (o_mv rfl) ?_
      refine stp (v := .int .i64 (i : Nat)) (o_mv rfl) ?_
      refine stp (v := .func (.func 68) [].toArray [].toArray) (o_mv rfl) ?_
      refine m_call (swap_ok _ lc r0_ w4 hy0_ (hM4.res (i := 0) rfl) (by omega) (m - i) m i (by omega)) rfl fun v15 w15 ⟨l15_, r'15, hP57, hs15, hm15⟩ => ?_
      have hM15 : Mem w (ids r0) w15 [r'15] := hM4.step 0 rfl hm15
      have hn15_ : l15_.length = lc.length := hP57.1.length_eq
      refine ⟨(.tuple [].toArray), rfl, ?_⟩
      obtain rfl : i = j := by omega
      exact ⟨_, _, hI.done hP57, hs15, hM15⟩

/-- slices.insertionSortCmpFunc[huff.thing] -/
theorem insert_ok (x : Value) (l : List Th) (r0 : List Ent) (w : World) (hs0 : SlS thC 257 81 x l r0) (hr : Res w r0) (hl : l.length ≤ 1000000) (a b : Nat) (hb : a ≤ l.length ∧ b ≤ l.length) (hc : ∀ p q, a ≤ p → p < q → q < b → Cr Th.r Th.w (l.getD p th0) (l.getD q th0)) : Calls Try.prog 77 [x, .int .i64 (a : Nat), .int .i64 (b : Nat), .func (.func 68) ([] : List Value).toArray ([] : List Value).toArray].toArray w (Rt fun _ w' => ∃ l' r', PostS Th.r th0 l l' a b ∧ SlS thC 257 81 x l' r' ∧ Mem w (ids r0) w' [r']) := by
  have hM0 : Mem w (ids r0) w [r0] := Mem.start hr
  refine calls_vc mixed Try.func77 rfl C77 (by simp [Try.ntmps77]) ?_
  refine seq fun K1 h1 => ?_
  refine stp (v := .int .i64 (a : Nat)) (o_mv rfl) ?_
  refine stp (v := .int .i64 ((a : Nat) + 1)) (o_bin rfl rfl (v_add64 (by constructor <;> omega))) ?_
  refine stp (v := .int .i64 ((a : Nat) + 1)) (o_mv rfl) ?_
  refine h1 _ _ ?_
  clear h1
  refine lp (n := fun _ _ => False) (ι := (Nat) × (List Th) × (List Ent)) (fun ⟨i, lc, r0_⟩ f w' => f 0 = x ∧ f 8 = .int .i64 (i : Nat) ∧ f 1 = .int .i64 (a : Nat) ∧ f 2 = .int .i64 (b : Nat) ∧ f 3 = .func (.func 68) [].toArray [].toArray ∧ Mem w (ids r0) w' [r0_] ∧ (PostS Th.r th0 l lc a i) ∧ (lc.length = l.length) ∧ (a + 1 ≤ i) ∧ (i ≤ b ∨ lc = l) ∧ (SlS thC 257 81 x (lc) r0_)) (fun ⟨i, lc, r0_⟩ => b - i) (a + 1, l, r0) ?_ ?_
  · exact ⟨rfl, by first | rfl | exact v_int (by omega) | exact v_int (by simp) | exact v_int (by simp; omega), by first | rfl | exact v_int (by omega) | exact v_int (by simp) | exact v_int (by simp; omega), by first | rfl | exact v_int (by omega) | exact v_int (by simp) | exact v_int (by simp; omega), rfl, hM0, PostS.refl fun p q h1 h2 h3 => by omega, rfl, by omega, .inr rfl, by first | exact hs0 | simpa using hs0⟩
  · rintro ⟨i, lc, r0_⟩ f w2 ⟨e2_0, e2_8, e2_1, e2_2, e2_3, hM2, hP, hn, hia, hib, hy0_⟩ K3 h3
    obtain ⟨frm, rfl⟩ : ∃ frm, f = (upd (upd (upd (upd (upd frm 0 (x)) 8 (.int .i64 (i : Nat))) 1 (.int .i64 (a : Nat))) 2 (.int .i64 (b : Nat))) 3 (.func (.func 68) [].toArray [].toArray)) := ⟨f, by rw [upd_self e2_0, upd_self e2_8, upd_self e2_1, upd_self e2_2, upd_self e2_3]⟩
    clear e2_0 e2_8 e2_1 e2_2 e2_3
    refine seq fun K4 h4 => ?_
    refine seq fun K5 h5 => ?_
    refine stp (v := .int .i64 (i : Nat)) (o_mv rfl) ?_
    refine stp (v := .int .i64 (b : Nat)) (o_mv rfl) ?_
    refine stp (v := .bool (decide (((i : Nat) : Int) < (b : Nat)))) (o_bin rfl rfl rfl) ?_
    refine h5 _ _ ?_
    clear h5
    refine cndP rfl (fun c6 => ?_) (fun c6 => ?_)
    ·
      refine h4 _ _ ?_
      clear h4
      refine seq fun K7 h7 => ?_
      refine seq fun K8 h8 => ?_
      refine stp (v := .int .i64 (i : Nat)) (o_mv rfl) ?_
      refine stp (v := .int .i64 (i : Nat)) (o_mv rfl) ?_
      refine h8 _ _ ?_
      clear h8
      refine lp (n := fun _ _ => False) (ι := (Nat) × (List Th) × (List Ent)) (fun ⟨j, l2, r0_⟩ f w' => f 0 = x ∧ f 9 = .int .i64 (j : Nat) ∧ f 1 = .int .i64 (a : Nat) ∧ f 2 = .int .i64 (b : Nat) ∧ f 3 = .func (.func 68) [].toArray [].toArray ∧ f 8 = .int .i64 (i : Nat) ∧ Mem w (ids r0) w' [r0_] ∧ (InsI Th.r th0 l l2 a i j) ∧ (l2.length = l.length) ∧ (a ≤ j ∧ j ≤ i) ∧ (SlS thC 257 81 x (l2) r0_)) (fun ⟨j, l2, r0_⟩ => j) (i, lc, r0_) ?_ ?_
      · exact ⟨rfl, by first | rfl | exact v_int (by omega) | exact v_int (by simp) | exact v_int (by simp; omega), by first | rfl | exact v_int (by omega) | exact v_int (by simp) | exact v_int (by simp; omega), by first | rfl | exact v_int (by omega) | exact v_int (by simp) | exact v_int (by simp; omega), rfl, by first | rfl | exact v_int (by omega) | exact v_int (by simp) | exact v_int (by simp; omega), hM2, InsI.init hP (by omega), hn, by omega, by first | exact hy0_ | simpa using hy0_⟩
      · rintro ⟨j, l2, r0_⟩ f w9 ⟨e9_0, e9_9, e9_1, e9_2, e9_3, e9_8, hM9, hI, hn2, hja, hy0_⟩ K10 h10
        obtain ⟨frm, rfl⟩ : ∃ frm, f = (upd (upd (upd (upd (upd (upd frm 0 (x)) 9 (.int .i64 (j : Nat))) 1 (.int .i64 (a : Nat))) 2 (.int .i64 (b : Nat))) 3 (.func (.func 68) [].toArray [].toArray)) 8 (.int .i64 (i : Nat))) := ⟨f, by rw [upd_self e9_0, upd_self e9_9, upd_self e9_1, upd_self e9_2, upd_self e9_3, upd_self e9_8]⟩
        clear e9_0 e9_9 e9_1 e9_2 e9_3 e9_8
        refine seq fun K11 h11 => ?_
        refine seq fun K12 h12 => ?_
        intro wd e1 e2 e3 e4
        have hd := Upd.same e1 e2 e3 e4 []
        have hM13 := hM9.pure hd
        clear e1 e2 e3 e4
        refine ⟨(some [(blkV x)]), ?_⟩
        show vd _ _ _ _ _ _ _
        refine dq (v := .int .i64 (j : Nat)) (o_mv rfl) ?_
        refine dq (v := .int .i64 (a : Nat)) (o_mv rfl) ?_
        refine dq (v := .bool (decide (((a : Nat) : Int) < ((j : Nat) : Int)))) (o_bin rfl rfl rfl) ?_
        refine dq (v := .bool (decide (((a : Nat) : Int) < ((j : Nat) : Int)))) (o_mv rfl) ?_
        refine dsplitP rfl (fun c14 => ?_) (fun c14 => ?_)
        ·
          refine dqg rfl (v := .func (.func 68) [].toArray [].toArray) (o_mv rfl) ?_
          refine dqg rfl (v := x) (o_mv rfl) ?_
          refine dqg rfl (v := .int .i64 (j : Nat)) (o_mv rfl) ?_
          refine dgyes rfl rfl (dqp (m_idxS3 th0 (j := j) (hy0_.rd hM13 (i := 0) rfl) (hy0_.rd hM13 (i := 0) rfl) rfl rfl (by omega) fun b15 o15 hp15 hbb15 => ?_))
          show vd _ _ _ _ _ _ _
          subst hbb15
          refine dqg rfl (v := x) (o_mv rfl) ?_
          refine dqg rfl (v := .int .i64 (j : Nat)) (o_mv rfl) ?_
          refine dqg rfl (v := .int .i64 ((j : Nat) - 1)) (o_bin rfl rfl (v_sub64 (by constructor <;> omega))) ?_
          refine dgyes rfl rfl (dqp (m_idxS3 th0 (j := (j - 1)) (hy0_.rd hM13 (i := 0) rfl) (hy0_.rd hM13 (i := 0) rfl) rfl (v_int (by omega)) (by omega) fun b16 o16 hp16 hbb16 => ?_))
          show vd _ _ _ _ _ _ _
          subst hbb16
          refine dqgyes rfl rfl ?_
          refine dqldA (cs := thC (l2.getD (j - 1) th0)) rfl (by simp [isHeld]) (thC_len _) (hp16.all) ?_
          refine dgyesl rfl ?_
          refine dl (ldA (cs := thC (l2.getD j th0)) rfl (thC_len _) (hp15.all) ?_)
          refine ⟨(fun b hb => rfl), ?_⟩
          refine dgyesl rfl ?_
          refine dl (m_callv rfl (by kernel_rfl) (cmpW_ok (l2.getD j th0) (l2.getD (j - 1) th0) wd) rfl fun v17 w17 ⟨hr17, hu17⟩ => ?_)
          have hM17 : Mem w (ids r0) w17 [r0_] := hM13.pure hu17
          subst hr17
          have hh17 := held_upd (wr := wd) (bs := [(blkV x)]) hu17 (fun b hb => by
            simp only [List.mem_cons, List.not_mem_nil, or_false] at hb
            rw [hb]; exact ⟨Rd.blkV_ltS (hy0_.rd hM13 (i := 0) rfl) (by omega), by simp⟩) (fun b hb => rfl)
          refine ⟨hh17, ?_⟩
          refine dqg rfl (v := .bool (decide ((cmpW (l2.getD j th0) (l2.getD (j - 1) th0)) < 0))) (o_bin rfl rfl rfl) ?_
          refine dq (v := .bool (decide ((cmpW (l2.getD j th0) (l2.getD (j - 1) th0)) < 0))) (o_pickT rfl rfl) ?_
          refine h12 _ _ ?_
          clear h12
          refine cndP rfl (fun c18 => ?_) (fun c18 => ?_)
          ·
            refine h11 _ _ ?_
            clear h11
            refine seq fun K19 h19 => ?_
            intro wd e1 e2 e3 e4
            have hd := Upd.same e1 e2 e3 e4 []
            have hM20 := hM17.pure hd
            clear e1 e2 e3 e4
            refine ⟨(some []), ?_⟩
            show vd _ _ _ _ _ _ _
            refine dq (v := x) (o_mv rfl) ?_
            refine dq (v := .int .i64 (j : Nat)) (o_mv rfl) ?_
            refine dq (v := x) (o_mv rfl) ?_
            refine dq (v := .int .i64 (j : Nat)) (o_mv rfl) ?_
            refine dq (v := .int .i64 ((j : Nat) - 1)) (o_bin rfl rfl (v_sub64 (by constructor <;> omega))) ?_
            refine dq (v := x) (o_mv rfl) ?_
            refine dq (v := .int .i64 (j : Nat)) (o_mv rfl) ?_
            refine dq (v := .int .i64 ((j : Nat) - 1)) (o_bin rfl rfl (v_sub64 (by constructor <;> omega))) ?_
            refine dqp (m_idxS th0 (j := (j - 1)) (hy0_.rd hM20 (i := 0) rfl) rfl (v_int (by omega)) (by omega) fun b21 o21 hp21 => ?_)
            show vd _ _ _ _ _ _ _
            refine dq (v := x) (o_mv rfl) ?_
            refine dq (v := .int .i64 (j : Nat)) (o_mv rfl) ?_
            refine dqp (m_idxS th0 (j := j) (hy0_.rd hM20 (i := 0) rfl) rfl rfl (by omega) fun b22 o22 hp22 => ?_)
            show vd _ _ _ _ _ _ _
            show _ ∧ _
            refine ⟨?_, ?_⟩
            ·
              show vd _ _ _ _ _ _ _
              refine dl (ldA (cs := thC (l2.getD (j - 1) th0)) rfl (thC_len _) (hp21.all) ?_)
              refine ⟨(fun b hb => by cases hb), ?_⟩
              refine dl (ldA (cs := thC (l2.getD j th0)) rfl (thC_len _) (hp22.all) ?_)
              refine ⟨(fun b hb => by cases hb), ?_⟩
              refine dset (m_setS (enc := thC) th0 (q := l2.getD (j - 1) th0) (j := j) hM20 (i := 0) rfl hy0_ rfl rfl (by omega) (by simp) (rfl) fun w23 r23 u23 he23 hs23 (hM23 : Mem w (ids r0) w23 [r23]) => ?_)
              refine ⟨(fun b hb => by cases hb), ?_⟩
              show vd _ _ _ _ _ _ _
              refine dset (m_setS (enc := thC) th0 (q := l2.getD j th0) (j := (j - 1)) hM23 (i := 0) rfl hs23 rfl (v_int (by omega)) (by rw [List.length_set]; omega) (by simp) (rfl) fun w24 r24 u24 he24 hs24 (hM24 : Mem w (ids r0) w24 [r24]) => ?_)
              refine ⟨(fun b hb => by cases hb), ?_⟩
              show vd _ _ _ _ _ _ _
              refine h19 _ _ ?_
              clear h19
              refine stp (v := .int .i64 (j : Nat)) (o_mv rfl) ?_
              refine stp (v := .int .i64 ((j : Nat) - 1)) (o_bin rfl rfl (v_sub64 (by constructor <;> omega))) ?_
              refine stp (v := .int .i64 ((j : Nat) - 1)) (o_mv rfl) ?_
              refine h10 (j - 1, swp th0 l2 j (j - 1), r24) _ _ ⟨rfl, by first | rfl | exact v_int (by omega) | exact v_int (by simp) | exact v_int (by simp; omega), by first | rfl | exact v_int (by omega) | exact v_int (by simp) | exact v_int (by simp; omega), by first | rfl | exact v_int (by omega) | exact v_int (by simp) | exact v_int (by simp; omega), rfl, by first | rfl | exact v_int (by omega) | exact v_int (by simp) | exact v_int (by simp; omega), hM24, hI.step (by omega) (by omega) ((hI.cr (by omega) fun p q k1 k2 k3 => hc p q k1 k2 (by omega)).1 (cmpW_neg.1 (by assumption))), by rw [swp_len]; exact hn2, by omega, by first | exact hs24 | simpa using hs24⟩ (by (try dsimp only); omega)
            ·
              show vd _ _ _ _ _ _ _
              refine dl (ldA (cs := thC (l2.getD j th0)) rfl (thC_len _) (hp22.all) ?_)
              refine ⟨(fun b hb => by cases hb), ?_⟩
              refine dl (ldA (cs := thC (l2.getD (j - 1) th0)) rfl (thC_len _) (hp21.all) ?_)
              refine ⟨(fun b hb => by cases hb), ?_⟩
              refine dset (m_setS (enc := thC) th0 (q := l2.getD (j - 1) th0) (j := j) hM20 (i := 0) rfl hy0_ rfl rfl (by omega) (by simp) (rfl) fun w25 r25 u25 he25 hs25 (hM25 : Mem w (ids r0) w25 [r25]) => ?_)
              refine ⟨(fun b hb => by cases hb), ?_⟩
              show vd _ _ _ _ _ _ _
              refine dset (m_setS (enc := thC) th0 (q := l2.getD j th0) (j := (j - 1)) hM25 (i := 0) rfl hs25 rfl (v_int (by omega)) (by rw [List.length_set]; omega) (by simp) (rfl) fun w26 r26 u26 he26 hs26 (hM26 : Mem w (ids r0) w26 [r26]) => ?_)
              refine ⟨(fun b hb => by cases hb), ?_⟩
              show vd _ _ _ _ _ _ _
              refine h19 _ _ ?_
              clear h19
              refine stp (v := .int .i64 (j : Nat)) (o_mv rfl) ?_
              refine stp (v := .int .i64 ((j : Nat) - 1)) (o_bin rfl rfl (v_sub64 (by constructor <;> omega))) ?_
              refine stp (v := .int .i64 ((j : Nat) - 1)) (o_mv rfl) ?_
              refine h10 (j - 1, swp th0 l2 j (j - 1), r26) _ _ ⟨rfl, by first | rfl | exact v_int (by omega) | exact v_int (by simp) | exact v_int (by simp; omega), by first | rfl | exact v_int (by omega) | exact v_int (by simp) | exact v_int (by simp; omega), by first | rfl | exact v_int (by omega) | exact v_int (by simp) | exact v_int (by simp; omega), rfl, by first | rfl | exact v_int (by omega) | exact v_int (by simp) | exact v_int (by simp; omega), hM26, hI.step (by omega) (by omega) ((hI.cr (by omega) fun p q k1 k2 k3 => hc p q k1 k2 (by omega)).1 (cmpW_neg.1 (by assumption))), by rw [swp_len]; exact hn2, by omega, by first | exact hs26 | simpa using hs26⟩ (by (try dsimp only); omega)
          ·
            refine h7 _ _ ?_
            clear h7
            refine stp (v := .int .i64 (i : Nat)) (o_mv rfl) ?_
            refine stp (v := .int .i64 ((i : Nat) + 1)) (o_bin rfl rfl (v_add64 (by constructor <;> omega))) ?_
            refine stp (v := .int .i64 ((i : Nat) + 1)) (o_mv rfl) ?_
            refine h3 (i + 1, l2, r0_) _ _ ⟨rfl, by first | rfl | exact v_int (by omega) | exact v_int (by simp) | exact v_int (by simp; omega), by first | rfl | exact v_int (by omega) | exact v_int (by simp) | exact v_int (by simp; omega), by first | rfl | exact v_int (by omega) | exact v_int (by simp) | exact v_int (by simp; omega), rfl, hM17, hI.done (.inr ((hI.cr (by omega) fun p q k1 k2 k3 => hc p q k1 k2 (by omega)).2 (fun k => absurd (cmpW_neg.2 k) (by assumption)))), by omega, by omega, .inl (by omega), by first | exact hy0_ | simpa using hy0_⟩ (by (try dsimp only); omega)
        ·
          refine dgno rfl (by simp) ?_
          refine dgno rfl (by simp) ?_
          refine dgno rfl (by simp) ?_
          refine dgno rfl (by simp) ?_
          refine dgno rfl (by simp) ?_
          refine dgno rfl (by simp) ?_
          refine dgno rfl (by simp) ?_
          refine dgno rfl (by simp) ?_
          refine dqgno rfl (by simp) ?_
          refine dgnol rfl (by simp) ?_
          refine dgnol rfl (by simp) ?_
          refine dgno rfl (by simp) ?_
          refine dq (v := .bool false) (o_pickF rfl rfl) ?_
          refine h12 _ _ ?_
          clear h12
          refine cndF rfl ?_
          refine h7 _ _ ?_
          clear h7
          refine stp (v := .int .i64 (i : Nat)) (o_mv rfl) ?_
          refine stp (v := .int .i64 ((i : Nat) + 1)) (o_bin rfl rfl (v_add64 (by constructor <;> omega))) ?_
          refine stp (v := .int .i64 ((i : Nat) + 1)) (o_mv rfl) ?_
          refine h3 (i + 1, l2, r0_) _ _ ⟨rfl, by first | rfl | exact v_int (by omega) | exact v_int (by simp) | exact v_int (by simp; omega), by first | rfl | exact v_int (by omega) | exact v_int (by simp) | exact v_int (by simp; omega), by first | rfl | exact v_int (by omega) | exact v_int (by simp) | exact v_int (by simp; omega), rfl, hM13, hI.done (.inl (by omega)), by omega, by omega, .inl (by omega), by first | exact hy0_ | simpa using hy0_⟩ (by (try dsimp only); omega)
    ·
      refine ⟨(.tuple [].toArray), rfl, ?_⟩
      exact ⟨_, _, hP.upto (by omega) hib, hy0_, hM2⟩
