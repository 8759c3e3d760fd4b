/- Compare, Common: an order of texts. The walks of the code, and what is computed. -/
import Derived.Test.YtdjdhplacfemfaaN1
namespace Go.Proofs.Ytdjdhplacfemfaa.E
open Go

def common : List UInt8 → List UInt8 → Nat
  | x :: a, y :: b => if x = y then common a b + 1 else 0
  | _, _ => 0
def cmp : List UInt8 → List UInt8 → Int
  | [], [] => 0
  | [], _ :: _ => -1
  | _ :: _, [] => 1
  | x :: a, y :: b => if x.toNat < y.toNat then -1 else if y.toNat < x.toNat then 1 else cmp a b
theorem drop_getD {a : List UInt8} {i : Nat} (h : i < a.length) : a.drop i = a.getD i 0 :: a.drop (i + 1) := by
  rw [List.drop_eq_getElem_cons h, List.getD_eq_getElem?_getD, List.getElem?_eq_getElem h]; rfl
theorem cmp_drop (i : Nat) : ∀ {a b : List UInt8}, a.take i = b.take i → i ≤ a.length → i ≤ b.length → cmp a b = cmp (a.drop i) (b.drop i) := by
  induction i with
  | zero => intro a b _ _ _; rfl
  | succ i ih =>
    intro a b h ha hb
    match a, b with
    | [], _ => simp at ha
    | _ :: _, [] => simp at hb
    | x :: a, y :: b =>
      simp only [List.take_succ_cons, List.cons.injEq] at h
      simp only [List.length_cons] at ha hb
      obtain ⟨rfl, h⟩ := h
      simp only [cmp, Nat.lt_irrefl, if_false, List.drop_succ_cons]
      exact ih h (by omega) (by omega)
theorem common_drop (i : Nat) : ∀ {a b : List UInt8}, a.take i = b.take i → i ≤ a.length → i ≤ b.length → common a b = i + common (a.drop i) (b.drop i) := by
  induction i with
  | zero => intro a b _ _ _; simp
  | succ i ih =>
    intro a b h ha hb
    match a, b with
    | [], _ => simp at ha
    | _ :: _, [] => simp at hb
    | x :: a, y :: b =>
      simp only [List.take_succ_cons, List.cons.injEq] at h
      simp only [List.length_cons] at ha hb
      obtain ⟨rfl, h⟩ := h
      simp only [common, if_true, List.drop_succ_cons]
      rw [ih h (by omega) (by omega)]; omega
theorem cmp_lt {a b : List UInt8} {i : Nat} (hp : a.take i = b.take i) (ha : i < a.length) (hb : i < b.length) (h : ((a.getD i 0).toNat : Int) < (b.getD i 0).toNat) : cmp a b = -1 := by
  rw [cmp_drop i hp (by omega) (by omega), drop_getD ha, drop_getD hb, cmp, if_pos (by omega)]
theorem cmp_gt {a b : List UInt8} {i : Nat} (hp : a.take i = b.take i) (ha : i < a.length) (hb : i < b.length) (h : ((b.getD i 0).toNat : Int) < (a.getD i 0).toNat) : cmp a b = 1 := by
  rw [cmp_drop i hp (by omega) (by omega), drop_getD ha, drop_getD hb, cmp, if_neg (by omega), if_pos (by omega)]
theorem cmp_short {a b : List UInt8} {i : Nat} (hp : a.take i = b.take i) (ha : i = a.length) (hb : i < b.length) : cmp a b = -1 := by
  rw [cmp_drop i hp (by omega) (by omega), List.drop_eq_nil_of_le (by omega), drop_getD hb, cmp]
theorem cmp_long {a b : List UInt8} {i : Nat} (hp : a.take i = b.take i) (ha : i < a.length) (hb : i = b.length) : cmp a b = 1 := by
  rw [cmp_drop i hp (by omega) (by omega), show b.drop i = [] from List.drop_eq_nil_of_le (by omega), drop_getD ha, cmp]
theorem cmp_same {a b : List UInt8} {i : Nat} (hp : a.take i = b.take i) (ha : i = a.length) (hb : i = b.length) : cmp a b = 0 := by
  rw [cmp_drop i hp (by omega) (by omega), show b.drop i = [] from List.drop_eq_nil_of_le (by omega), List.drop_eq_nil_of_le (by omega), cmp]
theorem common_at {a b : List UInt8} {i : Nat} (hp : a.take i = b.take i) (ha : i < a.length) (hb : i < b.length) (h : ¬ a.getD i 0 = b.getD i 0) : common a b = i := by
  rw [common_drop i hp (by omega) (by omega), drop_getD ha, drop_getD hb, common, if_neg h]; omega
theorem common_end {a b : List UInt8} {i : Nat} (hp : a.take i = b.take i) (h : i = min a.length b.length) : common a b = i := by
  rw [common_drop i hp (by omega) (by omega)]
  rcases Nat.le_total a.length b.length with h1 | h1
  · rw [show a.drop i = [] from List.drop_eq_nil_of_le (by omega)]; simp [common]
  · rw [show b.drop i = [] from List.drop_eq_nil_of_le (by omega)]
    cases a.drop i <;> simp [common]
theorem common_le : ∀ (a b : List UInt8), common a b ≤ a.length ∧ common a b ≤ b.length ∧ a.take (common a b) = b.take (common a b) ∧ (common a b < a.length → common a b < b.length → ¬ a.getD (common a b) 0 = b.getD (common a b) 0)
  | [], b => by simp [common]
  | x :: a, [] => by simp [common]
  | x :: a, y :: b => by
    obtain ⟨h1, h2, h3, h4⟩ := common_le a b
    by_cases h : x = y
    · subst h
      simp only [common, if_true, List.length_cons, List.take_succ_cons]
      refine ⟨by omega, by omega, by rw [h3], fun i j => ?_⟩
      simpa using h4 (by omega) (by omega)
    · simp [common, h]
theorem gt_of {a b : List UInt8} {n : Nat} (h : n < a.length → n < b.length → ¬ a.getD n 0 = b.getD n 0) (ha : n < a.length) (hb : n < b.length) (hn : ¬ ((a.getD n 0).toNat : Int) < (b.getD n 0).toNat) : ((b.getD n 0).toNat : Int) < (a.getD n 0).toNat := by
  have h1 := h ha hb
  rcases Nat.lt_trichotomy (a.getD n 0).toNat (b.getD n 0).toNat with h2 | h2 | h2
  · omega
  · exact absurd (UInt8.toNat_inj.1 h2) h1
  · omega
theorem nat_ne {x y : UInt8} (h : ¬ (x.toNat : Int) = (y.toNat : Int)) : ¬ x = y := fun e => h (by rw [e])

/-- nums.Compare -/
theorem Compare_ok (a b : List UInt8) (w : World) (hla : a.length ≤ 1152921504606846976) (hlb : b.length ≤ 1152921504606846976) : Calls Try.prog 23 [.string (str a), .string (str b)].toArray w (Rt fun r w' => r = .int .i64 (cmp a b) ∧ Upd [] w w') := by
  have hM0 : Mem w [] w [] := Mem.nil w []
  refine calls_vc mixed Try.func23 rfl C23 (by simp [Try.ntmps23]) ?_
  refine seq fun K1 h1 => ?_
  refine stp (v := .int .i64 0) (o_mv rfl) ?_
  refine h1 _ _ ?_
  clear h1
  refine seq fun K2 h2 => ?_
  refine seq fun K3 h3 => ?_
  refine stp (v := .string (str a)) (o_mv rfl) ?_
  refine stp (v := .int .i64 (a.length : Nat)) (o_lens rfl rfl) ?_
  refine stp (v := .string (str b)) (o_mv rfl) ?_
  refine stp (v := .int .i64 (b.length : Nat)) (o_lens rfl rfl) ?_
  refine stp (v := .int .i64 (min ((a.length : Nat) : Int) ((b.length : Nat) : Int))) (o_mm rfl rfl rfl) ?_
  refine stp (v := .int .i64 0) (o_mv rfl) ?_
  refine h3 _ _ ?_
  clear h3
  refine lp (n := fun _ _ => False) (ι := (Nat)) (fun i f w' => f 0 = .string (str a) ∧ f 1 = .string (str b) ∧ f 10 = .int .i64 (min a.length b.length : Nat) ∧ f 11 = .int .i64 (i : Nat) ∧ Mem w [] w' [] ∧ (i ≤ min a.length b.length) ∧ (a.take i = b.take i)) (fun i => min a.length b.length - i) (0) ?_ ?_
  · exact ⟨by first | rfl | simp [upd], by first | rfl | simp [upd], by first | rfl | exact v_int (by omega) | exact v_int (by simp) | exact v_int (by simp; omega), by first | rfl | exact v_int (by omega) | exact v_int (by simp) | exact v_int (by simp; omega), hM0, by omega, by simp⟩
  · rintro i f w4 ⟨e4_0, e4_1, e4_10, e4_11, hM4, hi, hp⟩ K5 h5
    obtain ⟨frm, rfl⟩ : ∃ frm, f = (upd (upd (upd (upd frm 0 (.string (str a))) 1 (.string (str b))) 10 (.int .i64 (min a.length b.length : Nat))) 11 (.int .i64 (i : Nat))) := ⟨f, by rw [upd_self e4_0, upd_self e4_1, upd_self e4_10, upd_self e4_11]⟩
    clear e4_0 e4_1 e4_10 e4_11
    refine seq fun K6 h6 => ?_
    refine stp (v := .bool (decide (((i : Nat) : Int) < (min a.length b.length : Nat)))) (o_bin rfl rfl rfl) ?_
    refine h6 _ _ ?_
    clear h6
    refine seq fun K7 h7 => ?_
    refine cndP rfl (fun c8 => ?_) (fun c8 => ?_)
    ·
      refine h7 _ _ ?_
      clear h7
      refine seq fun K9 h9 => ?_
      refine seq fun K10 h10 => ?_
      refine stp (v := .int .i64 (i : Nat)) (o_mv rfl) ?_
      refine stp (v := .int .i64 (i : Nat)) (o_mv rfl) ?_
      refine h10 _ _ ?_
      clear h10
      refine seq fun K11 h11 => ?_
      intro wd e1 e2 e3 e4
      have hd := Upd.same e1 e2 e3 e4 []
      have hM12 := hM4.pure hd
      clear e1 e2 e3 e4
      refine ⟨none, ?_⟩
      refine dq (v := .string (str a)) (o_mv rfl) ?_
      refine dq (v := .int .i64 (i : Nat)) (o_mv rfl) ?_
      refine dq (v := byteV (a.getD i 0)) (o_idxs rfl rfl (by omega) rfl) ?_
      refine dq (v := .string (str b)) (o_mv rfl) ?_
      refine dq (v := .int .i64 (i : Nat)) (o_mv rfl) ?_
      refine dq (v := byteV (b.getD i 0)) (o_idxs rfl rfl (by omega) rfl) ?_
      refine dq (v := .bool (decide (((a.getD i 0).toNat : Int) < ((b.getD i 0).toNat : Int)))) (o_bin rfl rfl rfl) ?_
      refine dq (v := .bool (decide (((a.getD i 0).toNat : Int) < ((b.getD i 0).toNat : Int)))) (o_mv rfl) ?_
      refine h11 _ _ ?_
      clear h11
      refine cndP rfl (fun c13 => ?_) (fun c13 => ?_)
      ·
        refine seq fun K14 h14 => ?_
        refine stp (v := .int .i64 (-1)) (o_mv rfl) ?_
        refine h14 _ _ ?_
        clear h14
        refine ⟨(.int .i64 (-1)), rfl, ?_⟩
        exact ⟨by rw [cmp_lt hp (by omega) (by omega) (by omega)], hM12.upd⟩
      ·
        refine seq fun K15 h15 => ?_
        intro wd e1 e2 e3 e4
        have hd := Upd.same e1 e2 e3 e4 []
        have hM16 := hM12.pure hd
        clear e1 e2 e3 e4
        refine ⟨none, ?_⟩
        refine dq (v := .string (str a)) (o_mv rfl) ?_
        refine dq (v := .int .i64 (i : Nat)) (o_mv rfl) ?_
        refine dq (v := byteV (a.getD i 0)) (o_idxs rfl rfl (by omega) rfl) ?_
        refine dq (v := .string (str b)) (o_mv rfl) ?_
        refine dq (v := .int .i64 (i : Nat)) (o_mv rfl) ?_
        refine dq (v := byteV (b.getD i 0)) (o_idxs rfl rfl (by omega) rfl) ?_
        refine dq (v := .bool (decide (((b.getD i 0).toNat : Int) < ((a.getD i 0).toNat : Int)))) (o_bin rfl rfl rfl) ?_
        refine dq (v := .bool (decide (((b.getD i 0).toNat : Int) < ((a.getD i 0).toNat : Int)))) (o_mv rfl) ?_
        refine h15 _ _ ?_
        clear h15
        refine cndP rfl (fun c17 => ?_) (fun c17 => ?_)
        ·
          refine seq fun K18 h18 => ?_
          refine stp (v := .int .i64 1) (o_mv rfl) ?_
          refine h18 _ _ ?_
          clear h18
          refine ⟨(.int .i64 1), rfl, ?_⟩
          exact ⟨by rw [cmp_gt hp (by omega) (by omega) (by omega)], hM16.upd⟩
        ·
          refine h9 _ _ ?_
          clear h9
          refine stp (v := .int .i64 ((i : Nat) + 1)) (o_bin rfl rfl (v_add64 (by constructor <;> omega))) ?_
          refine stp (v := .int .i64 ((i : Nat) + 1)) (o_mv rfl) ?_
          refine h5 (i + 1) _ _ ⟨by first | rfl | simp [upd], by first | rfl | simp [upd], by first | rfl | exact v_int (by omega) | exact v_int (by simp) | exact v_int (by simp; omega), by first | rfl | exact v_int (by omega) | exact v_int (by simp) | exact v_int (by simp; omega), hM16, by omega, take_succ_eq hp (by omega) (by omega) (u8_eq (by omega))⟩ (by (try dsimp only); omega)
    ·
      refine h2 _ _ ?_
      clear h2
      refine seq fun K19 h19 => ?_
      refine seq fun K20 h20 => ?_
      refine stp (v := .string (str a)) (o_mv rfl) ?_
      refine stp (v := .int .i64 (a.length : Nat)) (o_lens rfl rfl) ?_
      refine stp (v := .string (str b)) (o_mv rfl) ?_
      refine stp (v := .int .i64 (b.length : Nat)) (o_lens rfl rfl) ?_
      refine stp (v := .bool (decide (((a.length : Nat) : Int) < (b.length : Nat)))) (o_bin rfl rfl rfl) ?_
      refine stp (v := .bool (decide (((a.length : Nat) : Int) < (b.length : Nat)))) (o_mv rfl) ?_
      refine h20 _ _ ?_
      clear h20
      refine cndP rfl (fun c21 => ?_) (fun c21 => ?_)
      ·
        refine seq fun K22 h22 => ?_
        refine stp (v := .int .i64 (-1)) (o_mv rfl) ?_
        refine h22 _ _ ?_
        clear h22
        refine ⟨(.int .i64 (-1)), rfl, ?_⟩
        exact ⟨by rw [cmp_short hp (by omega) (by omega)], hM4.upd⟩
      ·
        refine seq fun K23 h23 => ?_
        refine stp (v := .string (str a)) (o_mv rfl) ?_
        refine stp (v := .int .i64 (a.length : Nat)) (o_lens rfl rfl) ?_
        refine stp (v := .string (str b)) (o_mv rfl) ?_
        refine stp (v := .int .i64 (b.length : Nat)) (o_lens rfl rfl) ?_
        refine stp (v := .bool (decide (((b.length : Nat) : Int) < ((a.length : Nat) : Int)))) (o_bin rfl rfl rfl) ?_
        refine stp (v := .bool (decide (((b.length : Nat) : Int) < ((a.length : Nat) : Int)))) (o_mv rfl) ?_
        refine h23 _ _ ?_
        clear h23
        refine cndP rfl (fun c24 => ?_) (fun c24 => ?_)
        ·
          refine seq fun K25 h25 => ?_
          refine stp (v := .int .i64 1) (o_mv rfl) ?_
          refine h25 _ _ ?_
          clear h25
          refine ⟨(.int .i64 1), rfl, ?_⟩
          exact ⟨by rw [cmp_long hp (by omega) (by omega)], hM4.upd⟩
        ·
          refine h19 _ _ ?_
          clear h19
          refine seq fun K26 h26 => ?_
          refine stp (v := .int .i64 0) (o_mv rfl) ?_
          refine h26 _ _ ?_
          clear h26
          refine ⟨(.int .i64 0), rfl, ?_⟩
          exact ⟨by rw [cmp_same hp (by omega) (by omega)], hM4.upd⟩

/-- nums.Common -/
theorem Common_ok (a b : List UInt8) (w : World) (hla : a.length ≤ 1152921504606846976) (hlb : b.length ≤ 1152921504606846976) : Calls Try.prog 25 [.string (str a), .string (str b)].toArray w (Rt fun r w' => r = .int .i64 ((common a b : Nat) : Int) ∧ Upd [] w w') := by
  have hM0 : Mem w [] w [] := Mem.nil w []
  refine calls_vc mixed Try.func25 rfl C25 (by simp [Try.ntmps25]) ?_
  refine seq fun K1 h1 => ?_
  refine stp (v := .int .i64 0) (o_mv rfl) ?_
  refine h1 _ _ ?_
  clear h1
  refine seq fun K2 h2 => ?_
  refine seq fun K3 h3 => ?_
  refine stp (v := .string (str a)) (o_mv rfl) ?_
  refine stp (v := .int .i64 (a.length : Nat)) (o_lens rfl rfl) ?_
  refine stp (v := .string (str b)) (o_mv rfl) ?_
  refine stp (v := .int .i64 (b.length : Nat)) (o_lens rfl rfl) ?_
  refine stp (v := .int .i64 (min ((a.length : Nat) : Int) ((b.length : Nat) : Int))) (o_mm rfl rfl rfl) ?_
  refine stp (v := .int .i64 0) (o_mv rfl) ?_
  refine h3 _ _ ?_
  clear h3
  refine lp (n := fun _ _ => False) (ι := (Nat)) (fun i f w' => f 0 = .string (str a) ∧ f 1 = .string (str b) ∧ f 10 = .int .i64 (min a.length b.length : Nat) ∧ f 11 = .int .i64 (i : Nat) ∧ Mem w [] w' [] ∧ (i ≤ min a.length b.length) ∧ (a.take i = b.take i)) (fun i => min a.length b.length - i) (0) ?_ ?_
  · exact ⟨by first | rfl | simp [upd], by first | rfl | simp [upd], by first | rfl | exact v_int (by omega) | exact v_int (by simp) | exact v_int (by simp; omega), by first | rfl | exact v_int (by omega) | exact v_int (by simp) | exact v_int (by simp; omega), hM0, by omega, by simp⟩
  · rintro i f w4 ⟨e4_0, e4_1, e4_10, e4_11, hM4, hi, hp⟩ K5 h5
    obtain ⟨frm, rfl⟩ : ∃ frm, f = (upd (upd (upd (upd frm 0 (.string (str a))) 1 (.string (str b))) 10 (.int .i64 (min a.length b.length : Nat))) 11 (.int .i64 (i : Nat))) := ⟨f, by rw [upd_self e4_0, upd_self e4_1, upd_self e4_10, upd_self e4_11]⟩
    clear e4_0 e4_1 e4_10 e4_11
    refine seq fun K6 h6 => ?_
    refine stp (v := .bool (decide (((i : Nat) : Int) < (min a.length b.length : Nat)))) (o_bin rfl rfl rfl) ?_
    refine h6 _ _ ?_
    clear h6
    refine seq fun K7 h7 => ?_
    refine cndP rfl (fun c8 => ?_) (fun c8 => ?_)
    ·
      refine h7 _ _ ?_
      clear h7
      refine seq fun K9 h9 => ?_
      refine seq fun K10 h10 => ?_
      refine stp (v := .int .i64 (i : Nat)) (o_mv rfl) ?_
      refine stp (v := .int .i64 (i : Nat)) (o_mv rfl) ?_
      refine h10 _ _ ?_
      clear h10
      refine seq fun K11 h11 => ?_
      intro wd e1 e2 e3 e4
      have hd := Upd.same e1 e2 e3 e4 []
      have hM12 := hM4.pure hd
      clear e1 e2 e3 e4
      refine ⟨none, ?_⟩
      refine dq (v := .string (str a)) (o_mv rfl) ?_
      refine dq (v := .int .i64 (i : Nat)) (o_mv rfl) ?_
      refine dq (v := byteV (a.getD i 0)) (o_idxs rfl rfl (by omega) rfl) ?_
      refine dq (v := .string (str b)) (o_mv rfl) ?_
      refine dq (v := .int .i64 (i : Nat)) (o_mv rfl) ?_
      refine dq (v := byteV (b.getD i 0)) (o_idxs rfl rfl (by omega) rfl) ?_
      refine dq (v := .bool (decide (¬ ((a.getD i 0).toNat : Int) = ((b.getD i 0).toNat : Int)))) (o_bin rfl rfl v_neq) ?_
      refine h11 _ _ ?_
      clear h11
      refine cndP rfl (fun c13 => ?_) (fun c13 => ?_)
      ·
        refine seq fun K14 h14 => ?_
        refine stp (v := .int .i64 (i : Nat)) (o_mv rfl) ?_
        refine stp (v := .int .i64 (i : Nat)) (o_mv rfl) ?_
        refine h14 _ _ ?_
        clear h14
        refine ⟨(.int .i64 (i : Nat)), rfl, ?_⟩
        exact ⟨by rw [common_at hp (by omega) (by omega) (nat_ne (by omega))], hM12.upd⟩
      ·
        refine h9 _ _ ?_
        clear h9
        refine stp (v := .int .i64 ((i : Nat) + 1)) (o_bin rfl rfl (v_add64 (by constructor <;> omega))) ?_
        refine stp (v := .int .i64 ((i : Nat) + 1)) (o_mv rfl) ?_
        refine h5 (i + 1) _ _ ⟨by first | rfl | simp [upd], by first | rfl | simp [upd], by first | rfl | exact v_int (by omega) | exact v_int (by simp) | exact v_int (by simp; omega), by first | rfl | exact v_int (by omega) | exact v_int (by simp) | exact v_int (by simp; omega), hM12, by omega, take_succ_eq hp (by omega) (by omega) (u8_eq (by omega))⟩ (by (try dsimp only); omega)
    ·
      refine h2 _ _ ?_
      clear h2
      refine seq fun K15 h15 => ?_
      refine stp (v := .string (str a)) (o_mv rfl) ?_
      refine stp (v := .int .i64 (a.length : Nat)) (o_lens rfl rfl) ?_
      refine stp (v := .string (str b)) (o_mv rfl) ?_
      refine stp (v := .int .i64 (b.length : Nat)) (o_lens rfl rfl) ?_
      refine stp (v := .int .i64 (min ((a.length : Nat) : Int) ((b.length : Nat) : Int))) (o_mm rfl rfl rfl) ?_
      refine stp (v := .int .i64 (min ((a.length : Nat) : Int) ((b.length : Nat) : Int))) (o_mv rfl) ?_
      refine h15 _ _ ?_
      clear h15
      refine ⟨(.int .i64 (min ((a.length : Nat) : Int) ((b.length : Nat) : Int))), rfl, ?_⟩
      exact ⟨by rw [common_end hp (by omega)]; exact v_int (by omega), hM4.upd⟩

/-- winnowref2.Common -/
theorem refCommon_ok (a b : List UInt8) (w : World) (hla : a.length ≤ 1152921504606846976) (hlb : b.length ≤ 1152921504606846976) : Calls Try.prog 26 [.string (str a), .string (str b)].toArray w (Rt fun r w' => r = .int .i64 ((common a b : Nat) : Int) ∧ Upd [] w w') := by
  have hM0 : Mem w [] w [] := Mem.nil w []
  refine calls_vc mixed Try.func26 rfl C26 (by simp [Try.ntmps26]) ?_
  refine seq fun K1 h1 => ?_
  refine stp (v := .int .i64 0) (o_mv rfl) ?_
  refine h1 _ _ ?_
  clear h1
  refine seq fun K2 h2 => ?_
  refine stp (v := .int .i64 0) (o_mv rfl) ?_
  refine h2 _ _ ?_
  clear h2
  refine seq fun K3 h3 => ?_
  refine lp (n := fun _ _ => False) (ι := (Nat)) (fun i f w' => f 0 = .string (str a) ∧ f 1 = .string (str b) ∧ f 5 = .int .i64 (i : Nat) ∧ Mem w [] w' [] ∧ (i ≤ min a.length b.length) ∧ (a.take i = b.take i)) (fun i => min a.length b.length - i) (0) ?_ ?_
  · exact ⟨by first | rfl | simp [upd], by first | rfl | simp [upd], by first | rfl | exact v_int (by omega) | exact v_int (by simp) | exact v_int (by simp; omega), hM0, by omega, by simp⟩
  · rintro i f w4 ⟨e4_0, e4_1, e4_5, hM4, hi, hp⟩ K5 h5
    obtain ⟨frm, rfl⟩ : ∃ frm, f = (upd (upd (upd frm 0 (.string (str a))) 1 (.string (str b))) 5 (.int .i64 (i : Nat))) := ⟨f, by rw [upd_self e4_0, upd_self e4_1, upd_self e4_5]⟩
    clear e4_0 e4_1 e4_5
    refine seq fun K6 h6 => ?_
    refine seq fun K7 h7 => ?_
    intro wd e1 e2 e3 e4
    have hd := Upd.same e1 e2 e3 e4 []
    have hM8 := hM4.pure hd
    clear e1 e2 e3 e4
    refine ⟨none, ?_⟩
    refine dq (v := .int .i64 (i : Nat)) (o_mv rfl) ?_
    refine dq (v := .string (str a)) (o_mv rfl) ?_
    refine dq (v := .int .i64 (a.length : Nat)) (o_lens rfl rfl) ?_
    refine dq (v := .bool (decide (((i : Nat) : Int) < (a.length : Nat)))) (o_bin rfl rfl rfl) ?_
    refine dq (v := .bool (decide (((i : Nat) : Int) < (a.length : Nat)))) (o_mv rfl) ?_
    refine dsplitP rfl (fun c9 => ?_) (fun c9 => ?_)
    ·
      refine dqg rfl (v := .int .i64 (i : Nat)) (o_mv rfl) ?_
      refine dqg rfl (v := .string (str b)) (o_mv rfl) ?_
      refine dqg rfl (v := .int .i64 (b.length : Nat)) (o_lens rfl rfl) ?_
      refine dqg rfl (v := .bool (decide (((i : Nat) : Int) < (b.length : Nat)))) (o_bin rfl rfl rfl) ?_
      refine dq (v := .bool (decide (((i : Nat) : Int) < (b.length : Nat)))) (o_pickT rfl rfl) ?_
      refine dq (v := .bool (decide (((i : Nat) : Int) < (b.length : Nat)))) (o_mv rfl) ?_
      refine dsplitP rfl (fun c10 => ?_) (fun c10 => ?_)
      ·
        refine dqg rfl (v := .string (str a)) (o_mv rfl) ?_
        refine dqg rfl (v := .int .i64 (i : Nat)) (o_mv rfl) ?_
        refine dqg rfl (v := byteV (a.getD i 0)) (o_idxs rfl rfl (by omega) rfl) ?_
        refine dqg rfl (v := .string (str b)) (o_mv rfl) ?_
        refine dqg rfl (v := .int .i64 (i : Nat)) (o_mv rfl) ?_
        refine dqg rfl (v := byteV (b.getD i 0)) (o_idxs rfl rfl (by omega) rfl) ?_
        refine dqg rfl (v := .bool (decide (((a.getD i 0).toNat : Int) = ((b.getD i 0).toNat : Int)))) (o_bin rfl rfl rfl) ?_
        refine dq (v := .bool (decide (((a.getD i 0).toNat : Int) = ((b.getD i 0).toNat : Int)))) (o_pickT rfl rfl) ?_
        refine h7 _ _ ?_
        clear h7
        refine cndP rfl (fun c11 => ?_) (fun c11 => ?_)
        ·
          refine h6 _ _ ?_
          clear h6
          refine stp (v := .int .i64 (i : Nat)) (o_mv rfl) ?_
          refine stp (v := .int .i64 ((i : Nat) + 1)) (o_bin rfl rfl (v_add64 (by constructor <;> omega))) ?_
          refine stp (v := .int .i64 ((i : Nat) + 1)) (o_mv rfl) ?_
          refine h5 (i + 1) _ _ ⟨by first | rfl | simp [upd], by first | rfl | simp [upd], by first | rfl | exact v_int (by omega) | exact v_int (by simp) | exact v_int (by simp; omega), hM8, by omega, take_succ_eq hp (by omega) (by omega) (u8_eq (by omega))⟩ (by (try dsimp only); omega)
        ·
          refine h3 _ _ ?_
          clear h3
          refine seq fun K12 h12 => ?_
          refine stp (v := .int .i64 (i : Nat)) (o_mv rfl) ?_
          refine stp (v := .int .i64 (i : Nat)) (o_mv rfl) ?_
          refine h12 _ _ ?_
          clear h12
          refine ⟨(.int .i64 (i : Nat)), rfl, ?_⟩
          exact ⟨by rw [common_at hp (by omega) (by omega) (nat_ne (by omega))], hM8.upd⟩
      ·
        refine dgno rfl (by simp) ?_
        refine dgno rfl (by simp) ?_
        refine dgno rfl (by simp) ?_
        refine dgno rfl (by simp) ?_
        refine dgno rfl (by simp) ?_
        refine dgno rfl (by simp) ?_
        refine dgno rfl (by simp) ?_
        refine dq (v := .bool false) (o_pickF rfl rfl) ?_
        refine h7 _ _ ?_
        clear h7
        refine cndF rfl ?_
        refine h3 _ _ ?_
        clear h3
        refine seq fun K13 h13 => ?_
        refine stp (v := .int .i64 (i : Nat)) (o_mv rfl) ?_
        refine stp (v := .int .i64 (i : Nat)) (o_mv rfl) ?_
        refine h13 _ _ ?_
        clear h13
        refine ⟨(.int .i64 (i : Nat)), rfl, ?_⟩
        exact ⟨by rw [common_end hp (by omega)], hM8.upd⟩
    ·
      refine dgno rfl (by simp) ?_
      refine dgno rfl (by simp) ?_
      refine dgno rfl (by simp) ?_
      refine dgno rfl (by simp) ?_
      refine dq (v := .bool false) (o_pickF rfl rfl) ?_
      refine dq (v := .bool false) (o_mv rfl) ?_
      refine dsplitF rfl ?_
      refine dgno rfl (by simp) ?_
      refine dgno rfl (by simp) ?_
      refine dgno rfl (by simp) ?_
      refine dgno rfl (by simp) ?_
      refine dgno rfl (by simp) ?_
      refine dgno rfl (by simp) ?_
      refine dgno rfl (by simp) ?_
      refine dq (v := .bool false) (o_pickF rfl rfl) ?_
      refine h7 _ _ ?_
      clear h7
      refine cndF rfl ?_
      refine h3 _ _ ?_
      clear h3
      refine seq fun K14 h14 => ?_
      refine stp (v := .int .i64 (i : Nat)) (o_mv rfl) ?_
      refine stp (v := .int .i64 (i : Nat)) (o_mv rfl) ?_
      refine h14 _ _ ?_
      clear h14
      refine ⟨(.int .i64 (i : Nat)), rfl, ?_⟩
      exact ⟨by rw [common_end hp (by omega)], hM8.upd⟩

/-- winnowref2.Compare -/
theorem refCompare_ok (a b : List UInt8) (w : World) (hla : a.length ≤ 1152921504606846976) (hlb : b.length ≤ 1152921504606846976) : Calls Try.prog 24 [.string (str a), .string (str b)].toArray w (Rt fun r w' => r = .int .i64 (cmp a b) ∧ Upd [] w w') := by
  have hM0 : Mem w [] w [] := Mem.nil w []
  obtain ⟨n1, n2, n3, n4⟩ := common_le a b
  refine calls_vc mixed Try.func24 rfl C24 (by simp [Try.ntmps24]) ?_
  refine seq fun K1 h1 => ?_
  refine stp (v := .int .i64 0) (o_mv rfl) ?_
  refine h1 _ _ ?_
  clear h1
  refine seq fun K2 h2 => ?_
  refine stp (v := .string (str a)) (o_mv rfl) ?_
  refine stp (v := .string (str b)) (o_mv rfl) ?_
  refine m_call (refCommon_ok a b w (by first | omega | (simp; done) | (simp; omega)) (by first | omega | (simp; done) | (simp; omega))) rfl fun v3 w3 ⟨hr3, hu3⟩ => ?_
  have hM3 : Mem w [] w3 [] := hM0.pure hu3
  subst hr3
  refine stp (v := .int .i64 (common a b : Nat)) (o_mv rfl) ?_
  refine h2 _ _ ?_
  clear h2
  refine seq fun K4 h4 => ?_
  refine seq fun K5 h5 => ?_
  refine stp (v := .int .i64 (common a b : Nat)) (o_mv rfl) ?_
  refine stp (v := .string (str a)) (o_mv rfl) ?_
  refine stp (v := .int .i64 (a.length : Nat)) (o_lens rfl rfl) ?_
  refine stp (v := .bool (decide (((common a b : Nat) : Int) = (a.length : Nat)))) (o_bin rfl rfl rfl) ?_
  refine stp (v := .bool (decide (((common a b : Nat) : Int) = (a.length : Nat)))) (o_mv rfl) ?_
  refine splitP rfl (fun c6 => ?_) (fun c6 => ?_)
  ·
    refine stg rfl (v := .int .i64 (common a b : Nat)) (o_mv rfl) ?_
    refine stg rfl (v := .string (str b)) (o_mv rfl) ?_
    refine stg rfl (v := .int .i64 (b.length : Nat)) (o_lens rfl rfl) ?_
    refine stg rfl (v := .bool (decide (((common a b : Nat) : Int) = (b.length : Nat)))) (o_bin rfl rfl rfl) ?_
    refine stp (v := .bool (decide (((common a b : Nat) : Int) = (b.length : Nat)))) (o_pickT rfl rfl) ?_
    refine stp (v := .bool (decide (((common a b : Nat) : Int) = (b.length : Nat)))) (o_mv rfl) ?_
    refine h5 _ _ ?_
    clear h5
    refine cndP rfl (fun c7 => ?_) (fun c7 => ?_)
    ·
      refine seq fun K8 h8 => ?_
      refine stp (v := .int .i64 0) (o_mv rfl) ?_
      refine h8 _ _ ?_
      clear h8
      refine ⟨(.int .i64 0), rfl, ?_⟩
      exact ⟨by rw [cmp_same n3 (by omega) (by omega)], hM3.upd⟩
    ·
      refine seq fun K9 h9 => ?_
      refine stp (v := .int .i64 (common a b : Nat)) (o_mv rfl) ?_
      refine stp (v := .string (str a)) (o_mv rfl) ?_
      refine stp (v := .int .i64 (a.length : Nat)) (o_lens rfl rfl) ?_
      refine stp (v := .bool (decide (((common a b : Nat) : Int) = (a.length : Nat)))) (o_bin rfl rfl rfl) ?_
      refine stp (v := .bool (decide (((common a b : Nat) : Int) = (a.length : Nat)))) (o_mv rfl) ?_
      refine h9 _ _ ?_
      clear h9
      refine cndP rfl (fun c10 => ?_) (fun c10 => (c10 (by omega)).elim)
      refine seq fun K11 h11 => ?_
      refine stp (v := .int .i64 (-1)) (o_mv rfl) ?_
      refine h11 _ _ ?_
      clear h11
      refine ⟨(.int .i64 (-1)), rfl, ?_⟩
      exact ⟨by rw [cmp_short n3 (by omega) (by omega)], hM3.upd⟩
  ·
    refine gno rfl (by simp) ?_
    refine gno rfl (by simp) ?_
    refine gno rfl (by simp) ?_
    refine gno rfl (by simp) ?_
    refine stp (v := .bool false) (o_pickF rfl rfl) ?_
    refine stp (v := .bool false) (o_mv rfl) ?_
    refine h5 _ _ ?_
    clear h5
    refine cndF rfl ?_
    refine seq fun K12 h12 => ?_
    refine stp (v := .int .i64 (common a b : Nat)) (o_mv rfl) ?_
    refine stp (v := .string (str a)) (o_mv rfl) ?_
    refine stp (v := .int .i64 (a.length : Nat)) (o_lens rfl rfl) ?_
    refine stp (v := .bool (decide (((common a b : Nat) : Int) = (a.length : Nat)))) (o_bin rfl rfl rfl) ?_
    refine stp (v := .bool (decide (((common a b : Nat) : Int) = (a.length : Nat)))) (o_mv rfl) ?_
    refine h12 _ _ ?_
    clear h12
    refine cndP rfl (fun c13 => absurd c13 (by omega)) (fun c13 => ?_)
    refine seq fun K14 h14 => ?_
    refine stp (v := .int .i64 (common a b : Nat)) (o_mv rfl) ?_
    refine stp (v := .string (str b)) (o_mv rfl) ?_
    refine stp (v := .int .i64 (b.length : Nat)) (o_lens rfl rfl) ?_
    refine stp (v := .bool (decide (((common a b : Nat) : Int) = (b.length : Nat)))) (o_bin rfl rfl rfl) ?_
    refine stp (v := .bool (decide (((common a b : Nat) : Int) = (b.length : Nat)))) (o_mv rfl) ?_
    refine h14 _ _ ?_
    clear h14
    refine cndP rfl (fun c15 => ?_) (fun c15 => ?_)
    ·
      refine seq fun K16 h16 => ?_
      refine stp (v := .int .i64 1) (o_mv rfl) ?_
      refine h16 _ _ ?_
      clear h16
      refine ⟨(.int .i64 1), rfl, ?_⟩
      exact ⟨by rw [cmp_long n3 (by omega) (by omega)], hM3.upd⟩
    ·
      refine seq fun K17 h17 => ?_
      intro wd e1 e2 e3 e4
      have hd := Upd.same e1 e2 e3 e4 []
      have hM18 := hM3.pure hd
      clear e1 e2 e3 e4
      refine ⟨none, ?_⟩
      refine dq (v := .string (str a)) (o_mv rfl) ?_
      refine dq (v := .int .i64 (common a b : Nat)) (o_mv rfl) ?_
      refine dq (v := byteV (a.getD (common a b) 0)) (o_idxs rfl rfl (by omega) rfl) ?_
      refine dq (v := .string (str b)) (o_mv rfl) ?_
      refine dq (v := .int .i64 (common a b : Nat)) (o_mv rfl) ?_
      refine dq (v := byteV (b.getD (common a b) 0)) (o_idxs rfl rfl (by omega) rfl) ?_
      refine dq (v := .bool (decide (((a.getD (common a b) 0).toNat : Int) < ((b.getD (common a b) 0).toNat : Int)))) (o_bin rfl rfl rfl) ?_
      refine dq (v := .bool (decide (((a.getD (common a b) 0).toNat : Int) < ((b.getD (common a b) 0).toNat : Int)))) (o_mv rfl) ?_
      refine h17 _ _ ?_
      clear h17
      refine cndP rfl (fun c19 => ?_) (fun c19 => ?_)
      ·
        refine seq fun K20 h20 => ?_
        refine stp (v := .int .i64 (-1)) (o_mv rfl) ?_
        refine h20 _ _ ?_
        clear h20
        refine ⟨(.int .i64 (-1)), rfl, ?_⟩
        exact ⟨by rw [cmp_lt n3 (by omega) (by omega) (by omega)], hM18.upd⟩
      ·
        refine h4 _ _ ?_
        clear h4
        refine seq fun K21 h21 => ?_
        refine stp (v := .int .i64 1) (o_mv rfl) ?_
        refine h21 _ _ ?_
        clear h21
        refine ⟨(.int .i64 1), rfl, ?_⟩
        exact ⟨by rw [cmp_gt n3 (by omega) (by omega) (gt_of n4 (by omega) (by omega) (by omega))], hM18.upd⟩

/-- winnowlaw2.NumsCompare -/
theorem NumsCompare_ok (a b : List UInt8) (hla : a.length ≤ 140737488351232) (hlb : b.length ≤ 140737488351232) (w : World) : Calls Try.prog 5 [.string (str a), .string (str b)].toArray w (Rt fun r w' => r = .bool true ∧ Upd [] w w') := by
  have hM0 : Mem w [] w [] := Mem.nil w []
  refine calls_vc mixed Try.func5 rfl C5 (by simp [Try.ntmps5]) ?_
  refine seq fun K1 h1 => ?_
  refine stp (v := .bool false) (o_mv rfl) ?_
  refine h1 _ _ ?_
  clear h1
  refine seq fun K2 h2 => ?_
  refine stp (v := .string (str a)) (o_mv rfl) ?_
  refine stp (v := .string (str b)) (o_mv rfl) ?_
  refine m_call (Compare_ok a b w (by first | omega | (simp; done) | (simp; omega)) (by first | omega | (simp; done) | (simp; omega))) rfl fun v3 w3 ⟨hr3, hu3⟩ => ?_
  have hM3 : Mem w [] w3 [] := hM0.pure hu3
  subst hr3
  refine stp (v := .string (str a)) (o_mv rfl) ?_
  refine stp (v := .string (str b)) (o_mv rfl) ?_
  refine m_call (refCompare_ok a b w3 (by first | omega | (simp; done) | (simp; omega)) (by first | omega | (simp; done) | (simp; omega))) rfl fun v4 w4 ⟨hr4, hu4⟩ => ?_
  have hM4 : Mem w [] w4 [] := hM3.pure hu4
  subst hr4
  refine stp (v := .bool true) (o_bin rfl rfl v_eqT) ?_
  refine stp (v := .bool true) (o_mv rfl) ?_
  refine splitT rfl ?_
  refine stg rfl (v := .string (str a)) (o_mv rfl) ?_
  refine stg rfl (v := .string (str b)) (o_mv rfl) ?_
  refine gyesl rfl ?_
  refine m_call (Common_ok a b w4 (by first | omega | (simp; done) | (simp; omega)) (by first | omega | (simp; done) | (simp; omega))) rfl fun v5 w5 ⟨hr5, hu5⟩ => ?_
  have hM5 : Mem w [] w5 [] := hM4.pure hu5
  subst hr5
  refine stg rfl (v := .string (str a)) (o_mv rfl) ?_
  refine stg rfl (v := .string (str b)) (o_mv rfl) ?_
  refine gyesl rfl ?_
  refine m_call (refCommon_ok a b w5 (by first | omega | (simp; done) | (simp; omega)) (by first | omega | (simp; done) | (simp; omega))) rfl fun v6 w6 ⟨hr6, hu6⟩ => ?_
  have hM6 : Mem w [] w6 [] := hM5.pure hu6
  subst hr6
  refine stg rfl (v := .bool true) (o_bin rfl rfl v_eqT) ?_
  refine stp (v := .bool true) (o_pickT rfl rfl) ?_
  refine stp (v := .bool true) (o_mv rfl) ?_
  refine h2 _ _ ?_
  clear h2
  refine ⟨(.bool true), rfl, ?_⟩
  exact ⟨rfl, hM6.upd⟩
