/- Footers: texts in order; filters; what a footer is. -/
import Derived.Test.YthhmhmnhbababaaC1
import Derived.Test.YthhmhmnhbababaaE23
import Derived.Test.YthhmhmnhbababaaE20
namespace Go.Proofs.Ythhmhmnhbababaa.E
open Go
def common : List UInt8 → List UInt8 → Nat
 | x :: a, y :: b => if x = y then common a b + 1 else 0
 | _, _ => 0
def cmp : List UInt8 → List UInt8 → Int
 | [], [] => 0
 | [], _ :: _ => -1
 | _ :: _, [] => 1
 | x :: a, y :: b => if x.toNat < y.toNat then -1 else if y.toNat < x.toNat then 1 else cmp a b
theorem cmp_drop (i : Nat) : ∀ {a b : List UInt8}, a.take i = b.take i → i ≤ a.length → i ≤ b.length → cmp a b = cmp (a.drop i) (b.drop i) := by
 induction i with
 | zero => intro a b _ _ _; rfl
 | succ i ih =>
  intro a b h ha hb
  match a, b with
  | [], _ => simp at ha
  | _ :: _, [] => simp at hb
  | x :: a, y :: b =>
   simp only [List.take_succ_cons, List.cons.injEq] at h
   simp only [List.length_cons] at ha hb
   obtain ⟨rfl, h⟩ := h
   simp only [cmp, Nat.lt_irrefl, if_false, List.drop_succ_cons]
   exact ih h (by omega) (by omega)
theorem common_drop (i : Nat) : ∀ {a b : List UInt8}, a.take i = b.take i → i ≤ a.length → i ≤ b.length → common a b = i + common (a.drop i) (b.drop i) := by
 induction i with
 | zero => intro a b _ _ _; simp
 | succ i ih =>
  intro a b h ha hb
  match a, b with
  | [], _ => simp at ha
  | _ :: _, [] => simp at hb
  | x :: a, y :: b =>
   simp only [List.take_succ_cons, List.cons.injEq] at h
   simp only [List.length_cons] at ha hb
   obtain ⟨rfl, h⟩ := h
   simp only [common, if_true, List.drop_succ_cons]
   rw [ih h (by omega) (by omega)]; omega
theorem cmp_lt {a b : List UInt8} {i : Nat} (hp : a.take i = b.take i) (ha : i < a.length) (hb : i < b.length) (h : ((a.getD i 0).toNat : Int) < (b.getD i 0).toNat) : cmp a b = -1 := by
 rw [cmp_drop i hp (by omega) (by omega), drop_getD ha, drop_getD hb, cmp, if_pos (by omega)]
theorem cmp_gt {a b : List UInt8} {i : Nat} (hp : a.take i = b.take i) (ha : i < a.length) (hb : i < b.length) (h : ((b.getD i 0).toNat : Int) < (a.getD i 0).toNat) : cmp a b = 1 := by
 rw [cmp_drop i hp (by omega) (by omega), drop_getD ha, drop_getD hb, cmp, if_neg (by omega), if_pos (by omega)]
theorem cmp_short {a b : List UInt8} {i : Nat} (hp : a.take i = b.take i) (ha : i = a.length) (hb : i < b.length) : cmp a b = -1 := by
 rw [cmp_drop i hp (by omega) (by omega), List.drop_eq_nil_of_le (by omega), drop_getD hb, cmp]
theorem cmp_long {a b : List UInt8} {i : Nat} (hp : a.take i = b.take i) (ha : i < a.length) (hb : i = b.length) : cmp a b = 1 := by
 rw [cmp_drop i hp (by omega) (by omega), show b.drop i = [] from List.drop_eq_nil_of_le (by omega), drop_getD ha, cmp]
theorem cmp_same {a b : List UInt8} {i : Nat} (hp : a.take i = b.take i) (ha : i = a.length) (hb : i = b.length) : cmp a b = 0 := by
 rw [cmp_drop i hp (by omega) (by omega), show b.drop i = [] from List.drop_eq_nil_of_le (by omega), List.drop_eq_nil_of_le (by omega), cmp]
theorem common_at {a b : List UInt8} {i : Nat} (hp : a.take i = b.take i) (ha : i < a.length) (hb : i < b.length) (h : ¬ a.getD i 0 = b.getD i 0) : common a b = i := by
 rw [common_drop i hp (by omega) (by omega), drop_getD ha, drop_getD hb, common, if_neg h]; omega
theorem common_end {a b : List UInt8} {i : Nat} (hp : a.take i = b.take i) (h : i = min a.length b.length) : common a b = i := by
 rw [common_drop i hp (by omega) (by omega)]
 rcases Nat.le_total a.length b.length with h1 | h1
 ·rw [show a.drop i = [] from List.drop_eq_nil_of_le (by omega)]; simp [common]
 rw [show b.drop i = [] from List.drop_eq_nil_of_le (by omega)]
 cases a.drop i <;> simp [common]
theorem common_le : ∀ (a b : List UInt8), common a b ≤ a.length ∧ common a b ≤ b.length ∧ a.take (common a b) = b.take (common a b) ∧ (common a b < a.length → common a b < b.length → ¬ a.getD (common a b) 0 = b.getD (common a b) 0)
 | [], b => by simp [common]
 | x :: a, [] => by simp [common]
 | x :: a, y :: b => by
  obtain ⟨h1, h2, h3, h4⟩ := common_le a b
  by_cases h : x = y
  ·subst h
   simp only [common, if_true, List.length_cons, List.take_succ_cons]
   refine ⟨by omega, by omega, by rw [h3], fun i j => ?_⟩
   simpa using h4 (by omega) (by omega)
  simp [common, h]
theorem gt_of {a b : List UInt8} {n : Nat} (h : n < a.length → n < b.length → ¬ a.getD n 0 = b.getD n 0) (ha : n < a.length) (hb : n < b.length) (hn : ¬ ((a.getD n 0).toNat : Int) < (b.getD n 0).toNat) : ((b.getD n 0).toNat : Int) < (a.getD n 0).toNat := by
 have h1 := h ha hb
 rcases Nat.lt_trichotomy (a.getD n 0).toNat (b.getD n 0).toNat with h2 | h2 | h2
 ·omega
 ·exact absurd (UInt8.toNat_inj.1 h2) h1
 omega
theorem nat_ne {x y : UInt8} (h : ¬ (x.toNat : Int) = (y.toNat : Int)) : ¬ x = y := fun e => h (by rw [e])
theorem cmp_anti : ∀ (a b : List UInt8), cmp b a = - cmp a b
 | [], [] => by simp [cmp]
 | [], _ :: _ => by simp [cmp]
 | _ :: _, [] => by simp [cmp]
 | x :: a, y :: b => by
  simp only [cmp]
  have := cmp_anti a b
  split <;> split <;> first | omega | (split <;> omega)
theorem cmp_range : ∀ (a b : List UInt8), -1 ≤ cmp a b ∧ cmp a b ≤ 1
 | [], [] => by simp [cmp]
 | [], _ :: _ => by simp [cmp]
 | _ :: _, [] => by simp [cmp]
 | x :: a, y :: b => by
  simp only [cmp]
  have := cmp_range a b
  split <;> first | omega | (split <;> omega)
theorem cmp_zero : ∀ (a b : List UInt8), cmp a b = 0 ↔ a = b
 | [], [] => by simp [cmp]
 | [], _ :: _ => by simp [cmp]
 | _ :: _, [] => by simp [cmp]
 | x :: a, y :: b => by
  simp only [cmp, List.cons.injEq]
  have := cmp_zero a b
  by_cases h : x = y
  ·subst h; simp [this]
  have h1 : x.toNat ≠ y.toNat := fun e => h (UInt8.toNat_inj.1 e)
  simp only [h, false_and, iff_false]
  split
  ·omega
  split <;> omega
theorem cmp_trans : ∀ (a b c : List UInt8), (cmp a b ≤ 0 → cmp b c ≤ 0 → cmp a c ≤ 0) ∧ (cmp a b < 0 → cmp b c ≤ 0 → cmp a c < 0)
 | [], b, [] => by
  simp only [cmp]
  cases b <;> simp [cmp]
 | [], b, _ :: _ => by simp [cmp]
 | x :: a, [], c => by simp [cmp]
 | x :: a, y :: b, [] => by simp [cmp]
 | x :: a, y :: b, z :: c => by
  have := cmp_trans a b c
  simp only [cmp]
  refine ⟨?_, ?_⟩
  ·split <;> split <;> split <;> (try split) <;> (try split) <;> (try split) <;> first | omega | (intro h1 h2; exact this.1 h1 h2)
  split <;> split <;> split <;> (try split) <;> (try split) <;> (try split) <;> first | omega | (intro h1 h2; exact this.2 h1 h2)
theorem cmp_ge (a b c : List UInt8) (h1 : 0 ≤ cmp a b) (h2 : 0 ≤ cmp b c) : 0 ≤ cmp a c := by
 have k := (cmp_trans c b a).1
 rw [cmp_anti b c, cmp_anti a b, cmp_anti a c] at k
 have := k (by omega) (by omega)
 omega
theorem cmp_pre (c a b : List UInt8) : cmp (c ++ a) (c ++ b) = cmp a b := by
 rw [cmp_drop c.length (by simp) (by simp) (by simp)]; simp
theorem common_pre (c a b : List UInt8) : common (c ++ a) (c ++ b) = c.length + common a b := by
 rw [common_drop c.length (by simp) (by simp) (by simp)]; simp
theorem cmp_cut {a b : List UInt8} : cmp (a.drop (common a b)) (b.drop (common a b)) = cmp a b := by
 obtain ⟨n1, n2, n3, n4⟩ := common_le a b
 exact (cmp_drop _ n3 n1 n2).symm
theorem Compare_ok (a b : List UInt8) (w : World) (hla : a.length ≤ 1152921504606846976) (hlb : b.length ≤ 1152921504606846976) : Calls Try.prog 48 [.string (str a), .string (str b)].toArray w (Rt fun r w' => r = .int .i64 (cmp a b) ∧ Upd [] w w') := by
 have hM0 : Mem w [] w [] := Mem.nil w []
 refine calls_vc mixed Try.func48 rfl C48 (by simp [Try.ntmps48]) <| seq fun _ h1 => mv <| h1 _ _ <| seq fun _ h2 => seq fun _ h3 => mv <| stp (v := .int .i64 (a.length : Nat)) (o_lens rfl rfl) <| mv <| stp (v := .int .i64 (b.length : Nat)) (o_lens rfl rfl) <| stp (v := .int .i64 (min ((a.length : Nat) : Int) ((b.length : Nat) : Int))) (o_mm rfl rfl rfl) <| mv <| h3 _ _ <| lp (n := fun _ _ => False) (ι := (Nat)) (fun i f w' => f 0 = .string (str a) ∧ f 1 = .string (str b) ∧ f 10 = .int .i64 (min a.length b.length : Nat) ∧ f 11 = .int .i64 (i : Nat) ∧ Mem w [] w' [] ∧ (i ≤ min a.length b.length) ∧ (a.take i = b.take i)) (fun i => min a.length b.length - i) (0) ?_ ?_
 ·exact ⟨by first | rfl | simp [upd], by first | rfl | simp [upd], vi, vi, hM0, by omega, by simp⟩
 rintro i f w4 ⟨e4_0, e4_1, e4_10, e4_11, hM4, hi, hp⟩ K5 h5
 obtain ⟨frm, rfl⟩ := re4 e4_0 e4_1 e4_10 e4_11
 refine seq fun _ h6 => bn rfl rfl <| h6 _ _ <| seq fun _ h7 => cndP rfl (fun c8 => ?_) (fun c8 => ?_)
 ·refine h7 _ _ <| seq fun _ h9 => seq fun _ h10 => mv <| mv <| h10 _ _ <| seq fun _ h11 => ?_
  intro wd e1 e2 e3 e4
  have hd := Upd.same e1 e2 e3 e4 []
  have hM12 := hM4.pure hd
  clear e1 e2 e3 e4
  refine ⟨none, ?_⟩
  show vd _ _ _ _ _ _ _
  refine dmv <| dmv <| dq (v := byteV (a.getD i 0)) (o_idxs rfl rfl (by omega) rfl) <| dmv <| dmv <| dq (v := byteV (b.getD i 0)) (o_idxs rfl rfl (by omega) rfl) <| dbn rfl rfl <| dmv <| h11 _ _ <| cndP rfl (fun c13 => ?_) (fun c13 => ?_)
  ·refine seq fun _ h14 => mv <| h14 _ _ <| ⟨(.int .i64 (-1)), rfl, ⟨by rw [cmp_lt hp (by omega) (by omega) (by omega)], hM12.upd⟩⟩
  refine seq fun _ h15 => ?_
  intro wd e1 e2 e3 e4
  have hd := Upd.same e1 e2 e3 e4 []
  have hM16 := hM12.pure hd
  clear e1 e2 e3 e4
  refine ⟨none, ?_⟩
  show vd _ _ _ _ _ _ _
  refine dmv <| dmv <| dq (v := byteV (a.getD i 0)) (o_idxs rfl rfl (by omega) rfl) <| dmv <| dmv <| dq (v := byteV (b.getD i 0)) (o_idxs rfl rfl (by omega) rfl) <| dbn rfl rfl <| dmv <| h15 _ _ <| cndP rfl (fun c17 => ?_) (fun c17 => ?_)
  ·refine seq fun _ h18 => mv <| h18 _ _ <| ⟨(.int .i64 1), rfl, ⟨by rw [cmp_gt hp (by omega) (by omega) (by omega)], hM16.upd⟩⟩
  refine h9 _ _ <| stp (v := .int .i64 ((i : Nat) + 1)) (o_bin rfl rfl (v_add64 (by omega))) <| mv <| h5 (i + 1) _ _ ⟨by first | rfl | simp [upd], by first | rfl | simp [upd], vi, vi, hM16, by omega, take_succ_eq hp (by omega) (by omega) (u8_eq (by omega))⟩ (by (try dsimp only); omega)
 refine h2 _ _ <| seq fun _ h19 => seq fun _ h20 => mv <| stp (v := .int .i64 (a.length : Nat)) (o_lens rfl rfl) <| mv <| stp (v := .int .i64 (b.length : Nat)) (o_lens rfl rfl) <| bn rfl rfl <| mv <| h20 _ _ <| cndP rfl (fun c21 => ?_) (fun c21 => ?_)
 ·refine seq fun _ h22 => mv <| h22 _ _ <| ⟨(.int .i64 (-1)), rfl, ⟨by rw [cmp_short hp (by omega) (by omega)], hM4.upd⟩⟩
 refine seq fun _ h23 => mv <| stp (v := .int .i64 (a.length : Nat)) (o_lens rfl rfl) <| mv <| stp (v := .int .i64 (b.length : Nat)) (o_lens rfl rfl) <| bn rfl rfl <| mv <| h23 _ _ <| cndP rfl (fun c24 => ?_) (fun c24 => ?_)
 ·refine seq fun _ h25 => mv <| h25 _ _ <| ⟨(.int .i64 1), rfl, ⟨by rw [cmp_long hp (by omega) (by omega)], hM4.upd⟩⟩
 refine h19 _ _ <| seq fun _ h26 => mv <| h26 _ _ <| ⟨(.int .i64 0), rfl, ⟨by rw [cmp_same hp (by omega) (by omega)], hM4.upd⟩⟩
def fk (a : Bool) (h : Int) (d : List UInt8) : Nat := if h = 0 ∧ d.length = 0 then (if a then 1 else 2) else if a = false ∧ 1 ≤ h ∧ h ≤ 8 ∧ 1 ≤ d.length ∧ d.length ≤ 4096 then 3 else 0
theorem fk_all {h : Int} {d : List UInt8} (h0 : h = 0) (hd : d.length = 0) : fk true h d = 1 := by unfold fk; rw [if_pos ⟨h0, hd⟩]; rfl
theorem fk_none {h : Int} {d : List UInt8} (h0 : h = 0) (hd : d.length = 0) : fk false h d = 2 := by unfold fk; rw [if_pos ⟨h0, hd⟩]; rfl
theorem fk_bits {h : Int} {d : List UInt8} (h0 : 1 ≤ h ∧ h ≤ 8 ∧ 1 ≤ d.length ∧ d.length ≤ 4096) : fk false h d = 3 := by unfold fk; rw [if_neg (by omega), if_pos ⟨rfl, h0⟩]
theorem fk_bt {h : Int} {d : List UInt8} (h0 : ¬ (h = 0 ∧ d.length = 0)) : fk true h d = 0 := by unfold fk; rw [if_neg h0, if_neg (fun k => by cases k.1)]
theorem fk_bf {h : Int} {d : List UInt8} (h0 : ¬ (h = 0 ∧ d.length = 0)) (h1 : ¬ (1 ≤ h ∧ h ≤ 8 ∧ 1 ≤ d.length ∧ d.length ≤ 4096)) : fk false h d = 0 := by unfold fk; rw [if_neg h0, if_neg (fun k => h1 k.2)]
theorem fk3 {a : Bool} {h : Int} {d : List UInt8} (h0 : fk a h d = 3) : a = false ∧ 1 ≤ h ∧ h ≤ 8 ∧ 1 ≤ d.length ∧ d.length ≤ 4096 := by
 unfold fk at h0
 split at h0
 ·split at h0 <;> omega
 split at h0
 ·assumption
 omega
def chk (a : Bool) (h : Int) (d : List UInt8) : Int := if fk a h d = 0 then 70 else 0
theorem ne_of {x n : Nat} (h : x = n) (hn : ¬ n = 0) : ¬ x = 0 := h ▸ hn
theorem chk_0 {a : Bool} {h : Int} {d : List UInt8} (k : ¬ fk a h d = 0) : chk a h d = 0 := by unfold chk; rw [if_neg k]
theorem chk_70 {a : Bool} {h : Int} {d : List UInt8} (k : fk a h d = 0) : chk a h d = 70 := by unfold chk; rw [if_pos k]
theorem kind_ok (a : Bool) (h : Int) (v : Value) (d : List UInt8) (w : World) (hd : RdE byteV w v d) (hl : d.length ≤ 140737488351232) : Calls Try.prog 69 [.agg [.bool a, .int .i64 h, v].toArray].toArray w (Rt fun r w' => r = .int .i64 ((fk a h d : Nat) : Int) ∧ Upd [] w w') := by
 have hM0 : Mem w [] w [] := Mem.nil w []
 refine calls_vc mixed Try.func69 rfl C69 (by simp [Try.ntmps69]) <| seq fun _ h1 => m_bx (v := .agg ([.bool a, .int .i64 h, v] : List Value).toArray) hM0 rfl rfl fun b2 w3 (hM3 : Mem w [] w3 [[⟨b2, 69, [.bool a, .int .i64 h, v]⟩]]) => mv <| h1 _ _ <| seq fun _ h4 => seq fun _ h5 => ?_
 rcases a with _ | _
 ·refine fa rfl <| m_ld (v := .bool false) hM3 (i := 0) (j := 0) rfl rfl rfl rfl <| mv <| splitF rfl <| gx rfl <| gxl rfl <| gx rfl <| pkF rfl <| mv <| splitF rfl <| gx rfl <| gxl rfl <| gx rfl <| gx rfl ?_
  refine pkF rfl <| mv <| h5 _ _ <| cndF rfl <| seq fun _ h6 => fa rfl <| m_ld (v := .bool false) hM3 (i := 0) (j := 0) rfl rfl rfl rfl <| stp (v := .bool true) (o_not rfl rfl) <| mv <| splitT rfl <| gfa rfl rfl <| gyesl rfl <| m_ld (v := .int .i64 h) hM3 (i := 0) (j := 0) rfl rfl rfl rfl <| gbn rfl rfl rfl ?_
  refine pkT rfl <| mv <| splitP rfl (fun c7 => ?_) (fun c7 => ?_)
  ·refine gfa rfl rfl <| gyesl rfl <| m_ld (v := v) hM3 (i := 0) (j := 0) rfl rfl rfl rfl <| stg rfl (v := .int .i64 (d.length : Nat)) (o_lenR (hd.upd hM3.upd) rfl rfl) <| gbn rfl rfl rfl <| pkT rfl <| mv <| h6 _ _ <| cndP rfl (fun c8 => ?_) (fun c8 => ?_)
   ·refine seq fun _ h9 => mv <| h9 _ _ <| ⟨(.int .i64 2), rfl, ⟨v_int (by rw [fk_none (by omega) (by omega)]; rfl), hM3.upd⟩⟩
   refine seq fun _ h10 => fa rfl <| m_ld (v := .bool false) hM3 (i := 0) (j := 0) rfl rfl rfl rfl <| stp (v := .bool true) (o_not rfl rfl) <| mv <| splitT rfl <| gfa rfl rfl <| gyesl rfl <| m_ld (v := .int .i64 h) hM3 (i := 0) (j := 0) rfl rfl rfl rfl <| gbn rfl rfl rfl <| pkT rfl <| mv <| splitP rfl (fun c11 => ?_) (fun c11 => ?_)
   ·refine gfa rfl rfl <| gyesl rfl <| m_ld (v := .int .i64 h) hM3 (i := 0) (j := 0) rfl rfl rfl rfl <| gbn rfl rfl rfl <| pkT rfl <| mv <| splitP rfl (fun c12 => ?_) (fun c12 => ?_)
    ·refine gfa rfl rfl <| gyesl rfl <| m_ld (v := v) hM3 (i := 0) (j := 0) rfl rfl rfl rfl <| stg rfl (v := .int .i64 (d.length : Nat)) (o_lenR (hd.upd hM3.upd) rfl rfl) <| gbn rfl rfl rfl <| pkT rfl <| mv <| splitP rfl (fun c13 => ?_) (fun c13 => ?_)
     ·refine gfa rfl rfl <| gyesl rfl <| m_ld (v := v) hM3 (i := 0) (j := 0) rfl rfl rfl rfl <| stg rfl (v := .int .i64 (d.length : Nat)) (o_lenR (hd.upd hM3.upd) rfl rfl) <| gbn rfl rfl rfl <| pkT rfl <| mv <| h10 _ _ <| cndP rfl (fun c14 => ?_) (fun c14 => ?_)
      ·refine seq fun _ h15 => mv <| h15 _ _ <| ⟨(.int .i64 3), rfl, ⟨v_int (by rw [fk_bits (by omega)]; rfl), hM3.upd⟩⟩
      refine h4 _ _ <| seq fun _ h16 => mv <| h16 _ _ <| ⟨(.int .i64 0), rfl, ⟨v_int (by rw [fk_bf (by omega) (by omega)]; rfl), hM3.upd⟩⟩
     refine gx rfl <| gxl rfl <| gx rfl <| gx rfl <| pkF rfl <| mv <| h10 _ _ <| cndF rfl <| h4 _ _ <| seq fun _ h17 => mv <| h17 _ _ <| ⟨(.int .i64 0), rfl, ⟨v_int (by rw [fk_bf (by omega) (by omega)]; rfl), hM3.upd⟩⟩
    refine gx rfl <| gxl rfl <| gx rfl <| gx rfl <| pkF rfl <| mv <| splitF rfl <| gx rfl <| gxl rfl <| gx rfl <| gx rfl <| pkF rfl <| mv <| h10 _ _ <| cndF rfl <| h4 _ _ <| seq fun _ h18 => mv <| h18 _ _ <| ⟨(.int .i64 0), rfl, ⟨v_int (by rw [fk_bf (by omega) (by omega)]; rfl), hM3.upd⟩⟩
   refine gx rfl <| gxl rfl <| gx rfl <| pkF rfl <| mv <| splitF rfl <| gx rfl <| gxl rfl <| gx rfl <| gx rfl <| pkF rfl <| mv <| splitF rfl <| gx rfl <| gxl rfl <| gx rfl <| gx rfl <| pkF rfl <| mv <| h10 _ _ <| cndF rfl <| h4 _ _ <| seq fun _ h19 => mv <| h19 _ _ <| ⟨(.int .i64 0), rfl, ⟨v_int (by rw [fk_bf (by omega) (by omega)]; rfl), hM3.upd⟩⟩
  refine gx rfl <| gxl rfl <| gx rfl <| gx rfl <| pkF rfl <| mv <| h6 _ _ <| cndF rfl <| seq fun _ h20 => fa rfl <| m_ld (v := .bool false) hM3 (i := 0) (j := 0) rfl rfl rfl rfl <| stp (v := .bool true) (o_not rfl rfl) <| mv <| splitT rfl <| gfa rfl rfl <| gyesl rfl <| m_ld (v := .int .i64 h) hM3 (i := 0) (j := 0) rfl rfl rfl rfl <| gbn rfl rfl rfl <| pkT rfl <| mv <| splitP rfl (fun c21 => ?_) (fun c21 => ?_)
  ·refine gfa rfl rfl <| gyesl rfl <| m_ld (v := .int .i64 h) hM3 (i := 0) (j := 0) rfl rfl rfl rfl <| gbn rfl rfl rfl <| pkT rfl <| mv <| splitP rfl (fun c22 => ?_) (fun c22 => ?_)
   ·refine gfa rfl rfl <| gyesl rfl <| m_ld (v := v) hM3 (i := 0) (j := 0) rfl rfl rfl rfl <| stg rfl (v := .int .i64 (d.length : Nat)) (o_lenR (hd.upd hM3.upd) rfl rfl) <| gbn rfl rfl rfl <| pkT rfl <| mv <| splitP rfl (fun c23 => ?_) (fun c23 => ?_)
    ·refine gfa rfl rfl <| gyesl rfl <| m_ld (v := v) hM3 (i := 0) (j := 0) rfl rfl rfl rfl <| stg rfl (v := .int .i64 (d.length : Nat)) (o_lenR (hd.upd hM3.upd) rfl rfl) <| gbn rfl rfl rfl <| pkT rfl <| mv <| h20 _ _ <| cndP rfl (fun c24 => ?_) (fun c24 => ?_)
     ·refine seq fun _ h25 => mv <| h25 _ _ <| ⟨(.int .i64 3), rfl, ⟨v_int (by rw [fk_bits (by omega)]; rfl), hM3.upd⟩⟩
     refine h4 _ _ <| seq fun _ h26 => mv <| h26 _ _ <| ⟨(.int .i64 0), rfl, ⟨v_int (by rw [fk_bf (by omega) (by omega)]; rfl), hM3.upd⟩⟩
    refine gx rfl <| gxl rfl <| gx rfl <| gx rfl <| pkF rfl <| mv <| h20 _ _ <| cndF rfl <| h4 _ _ <| seq fun _ h27 => mv <| h27 _ _ <| ⟨(.int .i64 0), rfl, ⟨v_int (by rw [fk_bf (by omega) (by omega)]; rfl), hM3.upd⟩⟩
   refine gx rfl <| gxl rfl <| gx rfl <| gx rfl <| pkF rfl <| mv <| splitF rfl <| gx rfl <| gxl rfl <| gx rfl <| gx rfl <| pkF rfl <| mv <| h20 _ _ <| cndF rfl <| h4 _ _ <| seq fun _ h28 => mv <| h28 _ _ <| ⟨(.int .i64 0), rfl, ⟨v_int (by rw [fk_bf (by omega) (by omega)]; rfl), hM3.upd⟩⟩
  refine gx rfl <| gxl rfl <| gx rfl <| pkF rfl <| mv <| splitF rfl <| gx rfl <| gxl rfl <| gx rfl <| gx rfl <| pkF rfl <| mv <| splitF rfl <| gx rfl <| gxl rfl <| gx rfl <| gx rfl <| pkF rfl <| mv <| h20 _ _ <| cndF rfl <| h4 _ _ <| seq fun _ h29 => mv <| h29 _ _ <| ⟨(.int .i64 0), rfl, ⟨v_int (by rw [fk_bf (by omega) (by omega)]; rfl), hM3.upd⟩⟩
 refine fa rfl <| m_ld (v := .bool true) hM3 (i := 0) (j := 0) rfl rfl rfl rfl <| mv <| splitT rfl <| gfa rfl rfl <| gyesl rfl <| m_ld (v := .int .i64 h) hM3 (i := 0) (j := 0) rfl rfl rfl rfl <| gbn rfl rfl rfl <| pkT rfl <| mv <| splitP rfl (fun c30 => ?_) (fun c30 => ?_)
 ·refine gfa rfl rfl <| gyesl rfl <| m_ld (v := v) hM3 (i := 0) (j := 0) rfl rfl rfl rfl <| stg rfl (v := .int .i64 (d.length : Nat)) (o_lenR (hd.upd hM3.upd) rfl rfl) <| gbn rfl rfl rfl <| pkT rfl <| mv <| h5 _ _ <| cndP rfl (fun c31 => ?_) (fun c31 => ?_)
  ·refine seq fun _ h32 => mv <| h32 _ _ <| ⟨(.int .i64 1), rfl, ⟨v_int (by rw [fk_all (by omega) (by omega)]; rfl), hM3.upd⟩⟩
  refine seq fun _ h33 => fa rfl <| m_ld (v := .bool true) hM3 (i := 0) (j := 0) rfl rfl rfl rfl <| stp (v := .bool false) (o_not rfl rfl) <| mv <| splitF rfl <| gx rfl <| gxl rfl <| gx rfl <| pkF rfl <| mv <| splitF rfl <| gx rfl <| gxl rfl <| gx rfl <| gx rfl <| pkF rfl <| mv <| h33 _ _ <| cndF rfl <| seq fun _ h34 => fa rfl <| m_ld (v := .bool true) hM3 (i := 0) (j := 0) rfl rfl rfl rfl <| stp (v := .bool false) (o_not rfl rfl) <| mv <| splitF rfl <| gx rfl <| gxl rfl <| gx rfl <| pkF rfl <| mv <| splitF rfl <| gx rfl <| gxl rfl <| gx rfl <| pkF rfl <| mv <| splitF rfl <| gx rfl <| gxl rfl <| gx rfl <| gx rfl <| pkF rfl <| mv <| splitF rfl <| gx rfl <| gxl rfl <| gx rfl <| gx rfl <| pkF rfl <| mv <| h34 _ _ <| cndF rfl <| h4 _ _ <| seq fun _ h35 => mv <| h35 _ _ <| ⟨(.int .i64 0), rfl, ⟨v_int (by rw [fk_bt (by omega)]; rfl), hM3.upd⟩⟩
 refine gx rfl <| gxl rfl <| gx rfl <| gx rfl <| pkF rfl <| mv <| h5 _ _ <| cndF rfl <| seq fun _ h36 => fa rfl <| m_ld (v := .bool true) hM3 (i := 0) (j := 0) rfl rfl rfl rfl <| stp (v := .bool false) (o_not rfl rfl) <| mv <| splitF rfl <| gx rfl <| gxl rfl <| gx rfl <| pkF rfl <| mv <| splitF rfl <| gx rfl <| gxl rfl <| gx rfl <| gx rfl <| pkF rfl <| mv <| h36 _ _ <| cndF rfl <| seq fun _ h37 => fa rfl <| m_ld (v := .bool true) hM3 (i := 0) (j := 0) rfl rfl rfl rfl <| stp (v := .bool false) (o_not rfl rfl) <| mv <| splitF rfl <| gx rfl <| gxl rfl <| gx rfl <| pkF rfl <| mv <| splitF rfl <| gx rfl <| gxl rfl <| gx rfl <| pkF rfl <| mv <| splitF rfl <| gx rfl <| gxl rfl <| gx rfl <| gx rfl <| pkF rfl <| mv <| splitF rfl <| gx rfl <| gxl rfl <| gx rfl <| gx rfl <| pkF rfl <| mv <| h37 _ _ <| cndF rfl <| h4 _ _ <| seq fun _ h38 => mv <| h38 _ _ <| ⟨(.int .i64 0), rfl, ⟨v_int (by rw [fk_bt (by omega)]; rfl), hM3.upd⟩⟩
theorem refCheck_ok (a : Bool) (h : Int) (v : Value) (d : List UInt8) (w : World) (hd : RdE byteV w v d) (hl : d.length ≤ 140737488351232) : Calls Try.prog 44 [.agg [.bool a, .int .i64 h, v].toArray].toArray w (Rt fun r w' => r = .int .i64 (chk a h d) ∧ Upd [] w w') := by
 have hM0 : Mem w [] w [] := Mem.nil w []
 refine calls_vc mixed Try.func44 rfl C44 (by simp [Try.ntmps44]) <| seq fun _ h1 => m_bx (v := .agg ([.bool a, .int .i64 h, v] : List Value).toArray) hM0 rfl rfl fun b2 w3 (hM3 : Mem w [] w3 [[⟨b2, 69, [.bool a, .int .i64 h, v]⟩]]) => mv <| h1 _ _ <| seq fun _ h4 => seq fun _ h5 => ?_
 rcases a with _ | _
 ·refine fa rfl <| m_ld (v := .int .i64 h) hM3 (i := 0) (j := 0) rfl rfl rfl rfl <| bn rfl rfl <| mv <| splitP rfl (fun c6 => ?_) (fun c6 => ?_)
  ·refine gfa rfl rfl <| gyesl rfl <| m_ld (v := v) hM3 (i := 0) (j := 0) rfl rfl rfl rfl <| stg rfl (v := .int .i64 (d.length : Nat)) (o_lenR (hd.upd hM3.upd) rfl rfl) <| gbn rfl rfl rfl <| pkT rfl <| h5 _ _ <| cndP rfl (fun c7 => ?_) (fun c7 => ?_)
   ·refine seq fun _ h8 => mv <| h8 _ _ <| ⟨(.int .i64 0), rfl, ⟨v_int (chk_0 (ne_of (fk_none (by omega) (by omega)) (by omega))).symm, hM3.upd⟩⟩
   refine h4 _ _ <| seq fun _ h9 => seq fun _ h10 => fa rfl <| m_ld (v := .bool false) hM3 (i := 0) (j := 0) rfl rfl rfl rfl <| mv <| splitF rfl <| gfa rfl rfl <| gyesl rfl <| m_ld (v := .int .i64 h) hM3 (i := 0) (j := 0) rfl rfl rfl rfl <| gbn rfl rfl rfl <| pkF rfl <| mv <| splitP rfl (fun c11 => ?_) (fun c11 => ?_)
   ·refine gx rfl <| gxl rfl <| gx rfl <| pkT rfl <| mv <| splitT rfl <| gx rfl <| gxl rfl <| gx rfl <| gx rfl <| pkT rfl <| mv <| splitT rfl <| gx rfl ?_
    refine gxl rfl <| gx rfl <| gx rfl <| pkT rfl <| h10 _ _ <| cndT rfl <| seq fun _ h12 => mv <| h12 _ _ <| ⟨(.int .i64 70), rfl, ⟨v_int (chk_70 (fk_bf (by omega) (by omega))).symm, hM3.upd⟩⟩
   refine gfa rfl rfl <| gyesl rfl <| m_ld (v := .int .i64 h) hM3 (i := 0) (j := 0) rfl rfl rfl rfl <| gbn rfl rfl rfl <| pkF rfl <| mv <| splitP rfl (fun c13 => ?_) (fun c13 => ?_)
   ·refine gx rfl <| gxl rfl <| gx rfl <| gx rfl <| pkT rfl <| mv <| splitT rfl <| gx rfl <| gxl rfl <| gx rfl <| gx rfl <| pkT rfl <| h10 _ _ <| cndT rfl ?_
    refine seq fun _ h14 => mv <| h14 _ _ <| ⟨(.int .i64 70), rfl, ⟨v_int (chk_70 (fk_bf (by omega) (by omega))).symm, hM3.upd⟩⟩
   refine gfa rfl rfl <| gyesl rfl <| m_ld (v := v) hM3 (i := 0) (j := 0) rfl rfl rfl rfl <| stg rfl (v := .int .i64 (d.length : Nat)) (o_lenR (hd.upd hM3.upd) rfl rfl) <| gbn rfl rfl rfl <| pkF rfl <| mv <| splitP rfl (fun c15 => ?_) (fun c15 => ?_)
   ·refine gx rfl <| gxl rfl <| gx rfl <| gx rfl <| pkT rfl <| h10 _ _ <| cndT rfl <| seq fun _ h16 => mv <| h16 _ _ <| ⟨(.int .i64 70), rfl, ⟨v_int (chk_70 (fk_bf (by omega) (by omega))).symm, hM3.upd⟩⟩
   refine gfa rfl rfl <| gyesl rfl <| m_ld (v := v) hM3 (i := 0) (j := 0) rfl rfl rfl rfl <| stg rfl (v := .int .i64 (d.length : Nat)) (o_lenR (hd.upd hM3.upd) rfl rfl) <| gbn rfl rfl rfl <| pkF rfl <| h10 _ _ <| cndP rfl (fun c17 => ?_) (fun c17 => ?_)
   ·refine seq fun _ h18 => mv <| h18 _ _ <| ⟨(.int .i64 70), rfl, ⟨v_int (chk_70 (fk_bf (by omega) (by omega))).symm, hM3.upd⟩⟩
   refine h9 _ _ <| seq fun _ h19 => mv <| h19 _ _ <| ⟨(.int .i64 0), rfl, ⟨v_int (chk_0 (ne_of (fk_none (by omega) (by omega)) (by omega))).symm, hM3.upd⟩⟩
  refine gx rfl <| gxl rfl <| gx rfl <| gx rfl <| pkF rfl <| h5 _ _ <| cndF rfl <| h4 _ _ <| seq fun _ h20 => seq fun _ h21 => fa rfl <| m_ld (v := .bool false) hM3 (i := 0) (j := 0) rfl rfl rfl rfl <| mv <| splitF rfl <| gfa rfl rfl <| gyesl rfl <| m_ld (v := .int .i64 h) hM3 (i := 0) (j := 0) rfl rfl rfl rfl <| gbn rfl rfl rfl <| pkF rfl <| mv <| splitP rfl (fun c22 => ?_) (fun c22 => ?_)
  ·refine gx rfl <| gxl rfl <| gx rfl <| pkT rfl <| mv <| splitT rfl <| gx rfl <| gxl rfl <| gx rfl <| gx rfl <| pkT rfl <| mv <| splitT rfl <| gx rfl ?_
   refine gxl rfl <| gx rfl <| gx rfl <| pkT rfl <| h21 _ _ <| cndT rfl <| seq fun _ h23 => mv <| h23 _ _ <| ⟨(.int .i64 70), rfl, ⟨v_int (chk_70 (fk_bf (by omega) (by omega))).symm, hM3.upd⟩⟩
  refine gfa rfl rfl <| gyesl rfl <| m_ld (v := .int .i64 h) hM3 (i := 0) (j := 0) rfl rfl rfl rfl <| gbn rfl rfl rfl <| pkF rfl <| mv <| splitP rfl (fun c24 => ?_) (fun c24 => ?_)
  ·refine gx rfl <| gxl rfl <| gx rfl <| gx rfl <| pkT rfl <| mv <| splitT rfl <| gx rfl <| gxl rfl <| gx rfl <| gx rfl <| pkT rfl <| h21 _ _ <| cndT rfl ?_
   refine seq fun _ h25 => mv <| h25 _ _ <| ⟨(.int .i64 70), rfl, ⟨v_int (chk_70 (fk_bf (by omega) (by omega))).symm, hM3.upd⟩⟩
  refine gfa rfl rfl <| gyesl rfl <| m_ld (v := v) hM3 (i := 0) (j := 0) rfl rfl rfl rfl <| stg rfl (v := .int .i64 (d.length : Nat)) (o_lenR (hd.upd hM3.upd) rfl rfl) <| gbn rfl rfl rfl <| pkF rfl <| mv <| splitP rfl (fun c26 => ?_) (fun c26 => ?_)
  ·refine gx rfl <| gxl rfl <| gx rfl <| gx rfl <| pkT rfl <| h21 _ _ <| cndT rfl <| seq fun _ h27 => mv <| h27 _ _ <| ⟨(.int .i64 70), rfl, ⟨v_int (chk_70 (fk_bf (by omega) (by omega))).symm, hM3.upd⟩⟩
  refine gfa rfl rfl <| gyesl rfl <| m_ld (v := v) hM3 (i := 0) (j := 0) rfl rfl rfl rfl <| stg rfl (v := .int .i64 (d.length : Nat)) (o_lenR (hd.upd hM3.upd) rfl rfl) <| gbn rfl rfl rfl <| pkF rfl <| h21 _ _ <| cndP rfl (fun c28 => ?_) (fun c28 => ?_)
  ·refine seq fun _ h29 => mv <| h29 _ _ <| ⟨(.int .i64 70), rfl, ⟨v_int (chk_70 (fk_bf (by omega) (by omega))).symm, hM3.upd⟩⟩
  refine h20 _ _ <| seq fun _ h30 => mv <| h30 _ _ <| ⟨(.int .i64 0), rfl, ⟨v_int (chk_0 (ne_of (fk_bits (by omega)) (by omega))).symm, hM3.upd⟩⟩
 refine fa rfl <| m_ld (v := .int .i64 h) hM3 (i := 0) (j := 0) rfl rfl rfl rfl <| bn rfl rfl <| mv <| splitP rfl (fun c31 => ?_) (fun c31 => ?_)
 ·refine gfa rfl rfl <| gyesl rfl <| m_ld (v := v) hM3 (i := 0) (j := 0) rfl rfl rfl rfl <| stg rfl (v := .int .i64 (d.length : Nat)) (o_lenR (hd.upd hM3.upd) rfl rfl) <| gbn rfl rfl rfl <| pkT rfl <| h5 _ _ <| cndP rfl (fun c32 => ?_) (fun c32 => ?_)
  ·refine seq fun _ h33 => mv <| h33 _ _ <| ⟨(.int .i64 0), rfl, ⟨v_int (chk_0 (ne_of (fk_all (by omega) (by omega)) (by omega))).symm, hM3.upd⟩⟩
  refine h4 _ _ <| seq fun _ h34 => seq fun _ h35 => fa rfl <| m_ld (v := .bool true) hM3 (i := 0) (j := 0) rfl rfl rfl rfl <| mv <| splitT rfl <| gx rfl <| gxl rfl <| gx rfl <| pkT rfl <| mv <| splitT rfl <| gx rfl <| gxl rfl <| gx rfl <| pkT rfl <| mv <| splitT rfl <| gx rfl <| gxl rfl <| gx rfl <| gx rfl <| pkT rfl <| mv <| splitT rfl <| gx rfl <| gxl rfl <| gx rfl <| gx rfl <| pkT rfl <| h35 _ _ <| cndT rfl <| seq fun _ h36 => mv <| h36 _ _ <| ⟨(.int .i64 70), rfl, ⟨v_int (chk_70 (fk_bt (by omega))).symm, hM3.upd⟩⟩
 refine gx rfl <| gxl rfl <| gx rfl <| gx rfl <| pkF rfl <| h5 _ _ <| cndF rfl <| h4 _ _ <| seq fun _ h37 => seq fun _ h38 => fa rfl <| m_ld (v := .bool true) hM3 (i := 0) (j := 0) rfl rfl rfl rfl <| mv <| splitT rfl <| gx rfl <| gxl rfl <| gx rfl <| pkT rfl <| mv <| splitT rfl <| gx rfl <| gxl rfl <| gx rfl <| pkT rfl <| mv <| splitT rfl <| gx rfl <| gxl rfl <| gx rfl <| gx rfl <| pkT rfl <| mv <| splitT rfl <| gx rfl <| gxl rfl <| gx rfl <| gx rfl <| pkT rfl <| h38 _ _ <| cndT rfl <| seq fun _ h39 => mv <| h39 _ _ <| ⟨(.int .i64 70), rfl, ⟨v_int (chk_70 (fk_bt (by omega))).symm, hM3.upd⟩⟩
theorem fCheck_ok (a : Bool) (h : Int) (v : Value) (d : List UInt8) (w : World) (hd : RdE byteV w v d) (hl : d.length ≤ 140737488351232) : Calls Try.prog 46 [.agg [.bool a, .int .i64 h, v].toArray].toArray w (Rt fun r w' => r = .int .i64 (chk a h d) ∧ Upd [] w w') := by
 have hM0 : Mem w [] w [] := Mem.nil w []
 refine calls_vc mixed Try.func46 rfl C46 (by simp [Try.ntmps46]) <| seq fun _ h1 => m_bx (v := .agg ([.bool a, .int .i64 h, v] : List Value).toArray) hM0 rfl rfl fun b2 w3 (hM3 : Mem w [] w3 [[⟨b2, 69, [.bool a, .int .i64 h, v]⟩]]) => mv <| h1 _ _ <| seq fun _ h4 => seq fun _ h5 => m_ldA (l := [.bool a, .int .i64 h, v]) hM3 (i := 0) (j := 0) rfl rfl rfl rfl rfl <| m_call (kind_ok a h _ d w3 (hd.upd hM3.upd) (by first | omega | (simp; done) | (simp; omega))) rfl fun v6 w6 ⟨hr6, hu6⟩ => ?_
 have hM6 : Mem w [] w6 [[⟨b2, 69, [.bool a, .int .i64 h, v]⟩]] := hM3.pure hu6
 subst hr6
 refine bn rfl rfl <| h5 _ _ <| cndP rfl (fun c7 => ?_) (fun c7 => ?_)
 ·refine seq fun _ h8 => mv <| h8 _ _ <| ⟨(.int .i64 70), rfl, ⟨v_int (chk_70 (by omega)).symm, hM6.upd⟩⟩
 refine h4 _ _ <| seq fun _ h9 => mv <| h9 _ _ <| ⟨(.int .i64 0), rfl, ⟨v_int (chk_0 (by omega)).symm, hM6.upd⟩⟩
