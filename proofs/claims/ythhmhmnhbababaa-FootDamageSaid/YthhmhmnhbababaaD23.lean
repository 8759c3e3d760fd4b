/- Footers: turned bits. -/
import Derived.Test.YthhmhmnhbababaaD14
namespace Go.Proofs.Ythhmhmnhbababaa.E
open Go

/-- a burst of at most 32 neighbouring bits changes a sum -/
theorem stepK_256 (y : Nat) : stepK 8 (256 * y) = y := by
  rw [← stepK_add 4 4, show 256 * y = 16 * (16 * y) by omega, stepK_hi, stepK_hi]
theorem split256 {c : Nat} (y : Nat) (hc : c < 256) : c + 256 * y = c ^^^ (256 * y) := by
  apply Nat.eq_of_testBit_eq
  intro i
  have h := Nat.testBit_two_pow_mul_add y (i := 8) (b := c) (by omega) i
  rw [show c + 256 * y = 2 ^ 8 * y + c by omega, h, Nat.testBit_xor, show 256 * y = 2 ^ 8 * y by omega, Nat.testBit_two_pow_mul]
  by_cases k : i < 8
  · rw [if_pos k, decide_eq_false (by omega)]; simp
  · rw [if_neg k, decide_eq_true (by omega)]
    have h3 : c.testBit i = false := Nat.testBit_lt_two_pow (by
      have : 2 ^ 8 ≤ 2 ^ i := Nat.pow_le_pow_right (by omega) (by omega)
      omega)
    rw [h3]; simp
theorem crcX_le : ∀ (e : List UInt8) (x : Nat), crcX x e = stepK (8 * e.length) (x ^^^ le e)
  | [], x => by simp [crcX, le, stepK]
  | c :: r, x => by
    have hc := c.toNat_lt
    have ih := crcX_le r (stepK 8 (x ^^^ c.toNat))
    show crcX (stepK 8 (x ^^^ c.toNat)) r = _
    rw [ih, le, List.length_cons, show 8 * (r.length + 1) = 8 * r.length + 8 by omega, ← stepK_add, split256 _ (by omega), ← Nat.xor_assoc, stepK_xor 8 (x ^^^ c.toNat), stepK_256]
def xorL (a b : List UInt8) : List UInt8 := List.zipWith (· ^^^ ·) a b
theorem xorL_length {a b : List UInt8} (h : a.length = b.length) : (xorL a b).length = a.length := by unfold xorL; rw [List.length_zipWith]; omega
theorem crcX_xor : ∀ (m e : List UInt8) (a b : Nat), m.length = e.length → crcX (a ^^^ b) (xorL m e) = crcX a m ^^^ crcX b e
  | [], [], a, b, _ => rfl
  | [], _ :: _, _, _, h => by simp at h
  | _ :: _, [], _, _, h => by simp at h
  | c :: m, d :: e, a, b, h => by
    show crcX (stepK 8 ((a ^^^ b) ^^^ (c ^^^ d).toNat)) (xorL m e) = crcX (stepK 8 (a ^^^ c.toNat)) m ^^^ crcX (stepK 8 (b ^^^ d.toNat)) e
    rw [← crcX_xor m e _ _ (by simpa using h), ← stepK_xor, UInt8.toNat_xor]
    congr 2
    rw [Nat.xor_assoc, Nat.xor_assoc, ← Nat.xor_assoc b, Nat.xor_comm b, Nat.xor_assoc]
theorem stepN_ne {x : Nat} (h : x < 4294967296) (h0 : ¬ x = 0) : ¬ stepN x = 0 := by
  unfold stepN
  split
  · intro k
    have : x / 2 ^^^ 2197175160 ^^^ 2197175160 = 0 ^^^ 2197175160 := by rw [k]
    rw [Nat.xor_assoc, Nat.xor_self, Nat.xor_zero, Nat.zero_xor] at this
    omega
  · omega
theorem stepK_ne {x : Nat} (h : x < 4294967296) (h0 : ¬ x = 0) : ∀ k, ¬ stepK k x = 0
  | 0 => h0
  | k + 1 => stepN_ne (stepK_lt h k) (stepK_ne h h0 k)
theorem stepK_pow (B : Nat) : ∀ p, stepK p (2 ^ p * B) = B
  | 0 => by show 2 ^ 0 * B = B; omega
  | p + 1 => by
    rw [← stepK_add p 1]
    show stepK p (stepN (2 ^ (p + 1) * B)) = B
    rw [show 2 ^ (p + 1) * B = 2 * (2 ^ p * B) by rw [Nat.pow_succ, Nat.mul_comm (2 ^ p) 2, Nat.mul_assoc], stepN_two, stepK_pow B p]
theorem seal_res (x : List UInt8) : crcX 4294967295 (sealF x) = stepK 32 4294967295 := by
  have hs := crcX_lt (b := x) (x := 4294967295) (by omega)
  have hc : crcX 4294967295 (sealF x) = crcX (crcX 4294967295 x) (fixed 4 (crcN 0 x)) := by
    unfold sealF crcX; rw [List.foldl_append]
  rw [hc, crcX_le, fixed_length, le_fixed]
  have e1 : crcN 0 x % 256 ^ 4 = 4294967295 ^^^ crcX 4294967295 x := by
    rw [cpl32 hs]
    show (4294967295 - crcX 4294967295 x) % 256 ^ 4 = _
    omega
  rw [e1, Nat.xor_comm 4294967295, ← Nat.xor_assoc, Nat.xor_self, Nat.zero_xor]
theorem burst {x e : List UInt8} {p B : Nat} (hl : e.length = (sealF x).length) (he : le e = 2 ^ p * B) (hB : 0 < B ∧ B < 4294967296) : ¬ (openF (xorL (sealF x) e)).2 = 0 := by
  intro h
  have hp : p ≤ 8 * e.length := by
    have h1 := le_lt e
    rw [he, show (256 : Nat) = 2 ^ 8 from rfl, ← Nat.pow_mul] at h1
    have h2 : 2 ^ p ≤ 2 ^ p * B := Nat.le_mul_of_pos_right _ hB.1
    exact Nat.le_of_lt ((Nat.pow_lt_pow_iff_right (by omega)).1 (Nat.lt_of_le_of_lt h2 h1))
  have h1 := seal_res (openF (xorL (sealF x) e)).1
  rw [(open_take h).2.1] at h1
  have h2 := crcX_xor (sealF x) e 4294967295 0 hl.symm
  rw [Nat.xor_zero, h1, seal_res, crcX_le e, Nat.zero_xor, he] at h2
  have h3 : stepK (8 * e.length) (2 ^ p * B) = stepK (8 * e.length - p) B := by
    conv => lhs; rw [show 8 * e.length = (8 * e.length - p) + p by omega, ← stepK_add, stepK_pow]
  rw [h3] at h2
  have h4 : stepK 32 4294967295 ^^^ stepK 32 4294967295 = stepK 32 4294967295 ^^^ (stepK 32 4294967295 ^^^ stepK (8 * e.length - p) B) := by rw [← h2]
  rw [Nat.xor_self, ← Nat.xor_assoc, Nat.xor_self, Nat.zero_xor] at h4
  exact stepK_ne hB.2 (by omega) _ h4.symm

/-- bits turned in a list of bytes -/
theorem powB8 (i : Nat) : (256 : Nat) ^ i = 2 ^ (8 * i) := by rw [show (256 : Nat) = 2 ^ 8 from rfl, ← Nat.pow_mul]
theorem dig_bit (a i j : Nat) : (a / 256 ^ i % 256).testBit j = (decide (j < 8) && a.testBit (8 * i + j)) := by
  rw [powB8, show (256 : Nat) = 2 ^ 8 from rfl, Nat.testBit_mod_two_pow, Nat.testBit_div_two_pow, Nat.add_comm j]
theorem dig_xor (a b i : Nat) : (a ^^^ b) / 256 ^ i % 256 = (a / 256 ^ i % 256) ^^^ (b / 256 ^ i % 256) := by
  apply Nat.eq_of_testBit_eq
  intro j
  rw [Nat.testBit_xor, dig_bit, dig_bit, dig_bit, Nat.testBit_xor]
  cases decide (j < 8) <;> simp
theorem dig_pow (q i : Nat) : 2 ^ q / 256 ^ i % 256 = if i = q / 8 then 2 ^ (q % 8) else 0 := by
  apply Nat.eq_of_testBit_eq
  intro j
  rw [dig_bit, Nat.testBit_two_pow]
  split
  · rename_i h
    rw [Nat.testBit_two_pow]
    by_cases k : q % 8 = j
    · rw [decide_eq_true k, decide_eq_true (show j < 8 by omega), decide_eq_true (show q = 8 * i + j by omega)]; rfl
    · rw [decide_eq_false k]
      by_cases k2 : j < 8
      · rw [decide_eq_false (show ¬ q = 8 * i + j by omega)]; simp
      · rw [decide_eq_false k2]; rfl
  · rename_i h
    rw [Nat.zero_testBit]
    by_cases k2 : j < 8
    · rw [decide_eq_false (show ¬ q = 8 * i + j by omega)]; simp
    · rw [decide_eq_false k2]; rfl
theorem add_xor {E q : Nat} (h : E < 2 ^ q) : E + 2 ^ q = E ^^^ 2 ^ q := by
  apply Nat.eq_of_testBit_eq
  intro j
  have h1 := Nat.testBit_two_pow_mul_add 1 h j
  rw [show 2 ^ q * 1 + E = E + 2 ^ q by omega] at h1
  rw [h1, Nat.testBit_xor, Nat.testBit_two_pow]
  split
  · rename_i k; rw [decide_eq_false (show ¬ q = j by omega)]; simp
  · rename_i k
    have h3 : E.testBit j = false := Nat.testBit_lt_two_pow (Nat.lt_of_lt_of_le h (Nat.pow_le_pow_right (by omega) (by omega)))
    rw [h3]
    by_cases k2 : q = j
    · rw [decide_eq_true k2, show j - q = 0 by omega]; rfl
    · rw [decide_eq_false k2, Nat.testBit_lt_two_pow (Nat.one_lt_two_pow (show j - q ≠ 0 by omega))]; rfl
theorem fixed_get {n v i : Nat} (h : i < (fixed n v).length) : (fixed n v)[i] = (v / 256 ^ i % 256).toUInt8 := by
  simp only [fixed, List.getElem_map, List.getElem_range]
theorem u8_xor {a b : Nat} (ha : a < 256) (hb : b < 256) : (a ^^^ b).toUInt8 = a.toUInt8 ^^^ b.toUInt8 := by
  apply UInt8.toNat_inj.1
  rw [UInt8.toNat_xor]
  simp [Nat.mod_eq_of_lt ha, Nat.mod_eq_of_lt hb]
theorem xorL_flip {L : List UInt8} {E q : Nat} (hE : E < 2 ^ q) :
    (xorL L (fixed L.length E)).set (q / 8) ((xorL L (fixed L.length E)).getD (q / 8) 0 ^^^ (2 ^ (q % 8)).toUInt8) = xorL L (fixed L.length (E + 2 ^ q)) := by
  have hl : (xorL L (fixed L.length E)).length = L.length := xorL_length (fixed_length _ _).symm
  have hl2 : (xorL L (fixed L.length (E + 2 ^ q))).length = L.length := xorL_length (fixed_length _ _).symm
  have hp : 2 ^ (q % 8) < 256 := by
    have : 2 ^ (q % 8) < 2 ^ 8 := (Nat.pow_lt_pow_iff_right (by omega)).2 (by omega)
    exact this
  apply List.ext_getElem
  · rw [List.length_set, hl, hl2]
  · intro i h1 h2
    rw [List.length_set, hl] at h1
    have hd : (E + 2 ^ q) / 256 ^ i % 256 = (E / 256 ^ i % 256) ^^^ (if i = q / 8 then 2 ^ (q % 8) else 0) := by rw [add_xor hE, dig_xor, dig_pow]
    have hr : (xorL L (fixed L.length (E + 2 ^ q)))[i] = L[i] ^^^ ((E + 2 ^ q) / 256 ^ i % 256).toUInt8 := by
      simp only [xorL, List.getElem_zipWith]
      rw [fixed_get]
    have hm : ∀ (hi : i < (xorL L (fixed L.length E)).length), (xorL L (fixed L.length E))[i] = L[i] ^^^ (E / 256 ^ i % 256).toUInt8 := by
      intro hi
      simp only [xorL, List.getElem_zipWith]
      rw [fixed_get]
    rw [hr, hd, List.getElem_set]
    split
    · rename_i k
      subst k
      rw [if_pos rfl, List.getD_eq_getElem?_getD, List.getElem?_eq_getElem (by omega), Option.getD_some, hm, u8_xor (Nat.mod_lt _ (by omega)) hp, UInt8.xor_assoc]
    · rename_i k
      rw [if_neg (fun e => k e.symm), Nat.xor_zero, hm]

/-- turned bits, place by place -/
theorem dig_mul (a X i : Nat) : 2 ^ (8 * a) * X / 256 ^ i % 256 = if i < a then 0 else X / 256 ^ (i - a) % 256 := by
  apply Nat.eq_of_testBit_eq
  intro j
  rw [dig_bit, Nat.testBit_two_pow_mul]
  by_cases k2 : j < 8
  · split
    · rename_i h
      rw [Nat.zero_testBit, decide_eq_false (show ¬ 8 * a ≤ 8 * i + j by omega)]; simp
    · rename_i h
      rw [dig_bit, decide_eq_true (show 8 * a ≤ 8 * i + j by omega), show 8 * i + j - 8 * a = 8 * (i - a) + j by omega]; simp
  · rw [decide_eq_false k2]
    split
    · rw [Nat.zero_testBit]; rfl
    · rw [dig_bit, decide_eq_false k2]; rfl
theorem xorL_get {L : List UInt8} {E i : Nat} (h : i < (xorL L (fixed L.length E)).length) (h2 : i < L.length) : (xorL L (fixed L.length E))[i] = L[i] ^^^ (E / 256 ^ i % 256).toUInt8 := by
  simp only [xorL, List.getElem_zipWith]
  rw [fixed_get]
theorem slice_in {L : List UInt8} {a n X : Nat} (h : a + n ≤ L.length) : ((xorL L (fixed L.length (2 ^ (8 * a) * X))).drop a).take n = xorL ((L.drop a).take n) (fixed n X) := by
  have hl : (xorL L (fixed L.length (2 ^ (8 * a) * X))).length = L.length := xorL_length (fixed_length _ _).symm
  have hn : ((L.drop a).take n).length = n := by rw [List.length_take, List.length_drop]; omega
  have hl2 : (xorL ((L.drop a).take n) (fixed n X)).length = n := by rw [xorL_length (by rw [fixed_length, hn]), hn]
  apply List.ext_getElem
  · rw [hl2, List.length_take, List.length_drop, hl]; omega
  · intro i h1 h2
    rw [hl2] at h2
    rw [List.getElem_take, List.getElem_drop, xorL_get _ (by omega), dig_mul, if_neg (by omega), show a + i - a = i by omega]
    simp only [xorL, List.getElem_zipWith]
    rw [fixed_get, List.getElem_take, List.getElem_drop]
theorem slice_out {L : List UInt8} {a n X c d : Nat} (hX : X < 2 ^ (8 * n)) (h : c + d ≤ a ∨ a + n ≤ c) : ((xorL L (fixed L.length (2 ^ (8 * a) * X))).drop c).take d = (L.drop c).take d := by
  have hl : (xorL L (fixed L.length (2 ^ (8 * a) * X))).length = L.length := xorL_length (fixed_length _ _).symm
  apply List.ext_getElem
  · rw [List.length_take, List.length_drop, hl, List.length_take, List.length_drop]
  · intro i h1 h2
    rw [List.length_take, List.length_drop] at h2
    rw [List.getElem_take, List.getElem_drop, xorL_get _ (by omega), List.getElem_take, List.getElem_drop, dig_mul]
    have hz : (if c + i < a then 0 else X / 256 ^ (c + i - a) % 256) = 0 := by
      split
      · rfl
      · have h3 : X < 256 ^ (c + i - a) := by
          rw [powB8]
          exact Nat.lt_of_lt_of_le hX (Nat.pow_le_pow_right (by omega) (by omega))
        rw [Nat.div_eq_of_lt h3]
    rw [hz]
    simp

theorem tshr {m i : Nat} (hi : i < 32) : Value.int .u32 ((m : Int).fdiv (2 ^ min (i : Int).toNat IntKind.u32.bits)) = .int .u32 ((m / 2 ^ i : Nat) : Int) := v_int (shrI_nat (k := .u32) (by simp only [IntKind.bits]; omega))
theorem tshl {q : Nat} {z : Int} (hz : z = ((q % 8 : Nat) : Int)) : Value.int .u8 (IntKind.u8.wrap ((1 : Int) * 2 ^ min z.toNat IntKind.u8.bits)) = .int .u8 ((2 ^ (q % 8) : Nat) : Int) := by
  rw [hz, Int.toNat_natCast]
  have hp : 2 ^ (q % 8) < 2 ^ 8 := (Nat.pow_lt_pow_iff_right (by omega)).2 (by omega)
  have := shlI_nat (k := .u8) (a := 1) (n := q % 8) (by simp only [IntKind.bits]; omega) (by simp only [inK]; omega)
  rw [Nat.one_mul] at this
  exact v_int this
theorem tbit {x : UInt8} {q : Nat} : xorI .u8 (x.toNat : Int) ((2 ^ (q % 8) : Nat) : Int) = ((x ^^^ (2 ^ (q % 8)).toUInt8).toNat : Int) := by
  have hp : 2 ^ (q % 8) < 2 ^ 8 := (Nat.pow_lt_pow_iff_right (by omega)).2 (by omega)
  have hx := x.toNat_lt
  have h4 : x.toNat ^^^ 2 ^ (q % 8) < 2 ^ 8 := Nat.xor_lt_two_pow hx hp
  rw [xorI_nat (k := .u8) (by simpa [IntKind.bits] using hx) (by simpa [IntKind.bits] using hp) (by simp only [inK]; omega), UInt8.toNat_xor]
  simp [Nat.mod_eq_of_lt hp]
theorem mask_one {m k : Nat} (h : m / 2 ^ k % 2 = 1) : m % 2 ^ (k + 1) = m % 2 ^ k + 2 ^ k := by
  rw [Nat.mod_pow_succ, h, Nat.mul_one]
theorem mask_no {m k : Nat} (h : ¬ m / 2 ^ k % 2 = 1) : m % 2 ^ (k + 1) = m % 2 ^ k := by
  rw [Nat.mod_pow_succ, show m / 2 ^ k % 2 = 0 by omega, Nat.mul_zero, Nat.add_zero]
/-- the list with the mask's first k bits turned from bit p on -/
def trn (L : List UInt8) (p m k : Nat) : List UInt8 := xorL L (fixed L.length (2 ^ p * (m % 2 ^ k)))
theorem trn_len {L : List UInt8} {p m k : Nat} : (trn L p m k).length = L.length := xorL_length (fixed_length _ _).symm
theorem trn_no {L : List UInt8} {p m k : Nat} (h : ¬ m / 2 ^ k % 2 = 1) : trn L p m (k + 1) = trn L p m k := by unfold trn; rw [mask_no h]
theorem trn_one {L : List UInt8} {p m k : Nat} (h : m / 2 ^ k % 2 = 1) : (trn L p m k).set ((p + k) / 8) ((trn L p m k).getD ((p + k) / 8) 0 ^^^ (2 ^ ((p + k) % 8)).toUInt8) = trn L p m (k + 1) := by
  unfold trn
  have hlt : 2 ^ p * (m % 2 ^ k) < 2 ^ (p + k) := by
    rw [Nat.pow_add]
    exact Nat.mul_lt_mul_of_pos_left (Nat.mod_lt _ (Nat.pow_pos (by omega))) (Nat.pow_pos (by omega))
  rw [xorL_flip hlt, mask_one h, Nat.mul_add, Nat.pow_add]
theorem xor_zero : ∀ (L : List UInt8), xorL L (fixed L.length 0) = L := fun L => by
  apply List.ext_getElem (xorL_length (fixed_length _ _).symm)
  intro i h1 h2
  simp only [xorL, List.getElem_zipWith]
  rw [fixed_get]
  simp
theorem trn_zero {L : List UInt8} {p m : Nat} : trn L p m 0 = L := by
  unfold trn
  rw [Nat.pow_zero, Nat.mod_one, Nat.mul_zero, xor_zero]

/-- winnowlaw8.turn -/
theorem turn_ok (x : Value) (L : List UInt8) (r0 : List Ent) (a b tl at_ : Int) (m : Nat) (w : World) (hs0 : SlE byteV 5 x L r0) (hr : Res w r0) (hab : 0 ≤ a ∧ a < b ∧ b ≤ L.length) (hl : L.length ≤ 1073741824) (hat : inK .i64 at_) (hm : m < 4294967296) : Calls Try.prog 43 [x, .int .i64 a, .int .i64 b, .agg [.int .i64 tl, .int .i64 at_, .int .u32 (m : Nat)].toArray].toArray w (Rt fun r w' => ∃ (q k : Nat) (r' : List Ent), r = .bool (decide (¬ m % 2 ^ k = 0)) ∧ (k ≤ 32 ∧ (q : Int) + k ≤ 8 * (b - a)) ∧ SlE byteV 5 x (trn L (8 * a.toNat + q) m k) r' ∧ Mem w (ids r0) w' [r']) := by
  have hM0 : Mem w (ids r0) w [r0] := Mem.start hr
  simp only [inK] at hat
  refine calls_vc mixed Try.func43 rfl C43 (by simp [Try.ntmps43]) ?_
  refine seq fun K1 h1 => ?_
  refine m_bx (v := .agg ([.int .i64 tl, .int .i64 at_, .int .u32 (m : Nat)] : List Value).toArray) hM0 rfl rfl fun b2 w3 (hM3 : Mem w (ids r0) w3 [r0, [⟨b2, 80, [.int .i64 tl, .int .i64 at_, .int .u32 (m : Nat)]⟩]]) => ?_
  refine stp (v := .bool false) (o_mv rfl) ?_
  refine h1 _ _ ?_
  clear h1
  refine seq fun K4 h4 => ?_
  refine stp (v := .int .i64 b) (o_mv rfl) ?_
  refine stp (v := .int .i64 a) (o_mv rfl) ?_
  refine stp (v := .int .i64 (b - a)) (o_bin rfl rfl (v_sub64 (by constructor <;> omega))) ?_
  refine stp (v := .int .i64 (8 * (b - a))) (o_bin rfl rfl (v_mul64 (by constructor <;> omega))) ?_
  refine stp (v := .int .i64 (8 * (b - a))) (o_mv rfl) ?_
  refine h4 _ _ ?_
  clear h4
  refine seq fun K5 h5 => ?_
  refine stp (v := .pointer (some ⟨b2, 1, none⟩)) (o_fa rfl rfl) ?_
  refine m_ld (v := .int .i64 at_) hM3 (i := 1) (j := 0) rfl rfl rfl rfl ?_
  refine stp (v := .int .i64 (8 * (b - a))) (o_mv rfl) ?_
  obtain ⟨t, ht⟩ : ∃ t, t = at_.tmod (8 * (b - a)) := ⟨_, rfl⟩
  have ht1 : t < 8 * (b - a) := by rw [ht]; exact Int.tmod_lt_of_pos _ (by omega)
  have ht2 : -(8 * (b - a)) < t := by rw [ht]; exact Int.lt_tmod_of_pos _ (by omega)
  refine stp (v := .int .i64 t) (o_rem rfl rfl (by omega) (v_int ht.symm)) ?_
  refine stp (v := .int .i64 t) (o_mv rfl) ?_
  refine h5 _ _ ?_
  clear h5
  refine seq fun K6 h6 => ?_
  refine seq fun K7 h7 => ?_
  refine stp (v := .int .i64 t) (o_mv rfl) ?_
  refine stp (v := .bool (decide (t < 0))) (o_bin rfl rfl rfl) ?_
  refine h7 _ _ ?_
  clear h7
  refine cndP rfl (fun c8 => ?_) (fun c8 => ?_)
  ·
    refine stp (v := .int .i64 t) (o_mv rfl) ?_
    refine stp (v := .int .i64 (8 * (b - a))) (o_mv rfl) ?_
    refine stp (v := .int .i64 (t + (8 * (b - a)))) (o_bin rfl rfl (v_add64 (by constructor <;> omega))) ?_
    refine stp (v := .int .i64 (t + (8 * (b - a)))) (o_mv rfl) ?_
    refine h6 _ _ ?_
    clear h6
    refine seq fun K9 h9 => ?_
    refine stp (v := .bool false) (o_mv rfl) ?_
    refine h9 _ _ ?_
    clear h9
    refine seq fun K10 h10 => ?_
    refine seq fun K11 h11 => ?_
    refine stp (v := .int .i64 0) (o_mv rfl) ?_
    refine h11 _ _ ?_
    clear h11
    refine lp (n := fun _ _ => False) (ι := (Nat) × (Nat) × (List Ent)) (fun ⟨q, k, r⟩ f w' => f 0 = x ∧ f 10 = .int .i64 (q : Nat) ∧ f 11 = .bool (decide (¬ m % 2 ^ k = 0)) ∧ f 12 = .int .i64 (k : Nat) ∧ f 1 = .int .i64 a ∧ f 7 = .pointer (some ⟨b2, 0, none⟩) ∧ f 9 = .int .i64 (8 * (b - a)) ∧ Mem w (ids r0) w' [r, [⟨b2, 80, [.int .i64 tl, .int .i64 at_, .int .u32 (m : Nat)]⟩]] ∧ (SlE byteV 5 x (trn L (8 * a.toNat + q) m k) r) ∧ (k ≤ 32 ∧ (q : Int) + k ≤ 8 * (b - a) ∧ (q : Int) < 8 * (b - a))) (fun ⟨q, k, r⟩ => 32 - k) ((t + 8 * (b - a)).toNat, 0, r0) ?_ ?_
    · exact ⟨rfl, by first | rfl | exact v_int (by omega) | exact v_int (by simp) | exact v_int (by simp; omega), (show Value.bool false = Value.bool _ from by rw [Nat.pow_zero, Nat.mod_one]; rfl), by first | rfl | exact v_int (by omega) | exact v_int (by simp) | exact v_int (by simp; omega), by first | rfl | exact v_int (by omega) | exact v_int (by simp) | exact v_int (by simp; omega), rfl, by first | rfl | exact v_int (by omega) | exact v_int (by simp) | exact v_int (by simp; omega), hM3, by rw [trn_zero]; exact hs0, by omega⟩
    · rintro ⟨q, k, r⟩ f w12 ⟨e12_0, e12_10, e12_11, e12_12, e12_1, e12_7, e12_9, hM12, hs, hk⟩ K13 h13
      obtain ⟨frm, rfl⟩ : ∃ frm, f = (upd (upd (upd (upd (upd (upd (upd frm 0 (x)) 10 (.int .i64 (q : Nat))) 11 (.bool (decide (¬ m % 2 ^ k = 0)))) 12 (.int .i64 (k : Nat))) 1 (.int .i64 a)) 7 (.pointer (some ⟨b2, 0, none⟩))) 9 (.int .i64 (8 * (b - a)))) := ⟨f, by rw [upd_self e12_0, upd_self e12_10, upd_self e12_11, upd_self e12_12, upd_self e12_1, upd_self e12_7, upd_self e12_9]⟩
      clear e12_0 e12_10 e12_11 e12_12 e12_1 e12_7 e12_9
      refine seq fun K14 h14 => ?_
      refine seq fun K15 h15 => ?_
      refine stp (v := .int .i64 (k : Nat)) (o_mv rfl) ?_
      refine stp (v := .bool (decide (((k : Nat) : Int) < 32))) (o_bin rfl rfl rfl) ?_
      refine stp (v := .bool (decide (((k : Nat) : Int) < 32))) (o_mv rfl) ?_
      refine splitP rfl (fun c16 => ?_) (fun c16 => ?_)
      ·
        refine stg rfl (v := .int .i64 (q : Nat)) (o_mv rfl) ?_
        refine stg rfl (v := .int .i64 (k : Nat)) (o_mv rfl) ?_
        refine stg rfl (v := .int .i64 ((q : Nat) + (k : Nat))) (o_bin rfl rfl (v_add64 (by constructor <;> omega))) ?_
        refine stg rfl (v := .int .i64 (8 * (b - a))) (o_mv rfl) ?_
        refine stg rfl (v := .bool (decide (((q : Nat) + (k : Nat) : Int) < (8 * (b - a))))) (o_bin rfl rfl rfl) ?_
        refine stp (v := .bool (decide (((q : Nat) + (k : Nat) : Int) < (8 * (b - a))))) (o_pickT rfl rfl) ?_
        refine h15 _ _ ?_
        clear h15
        refine cndP rfl (fun c17 => ?_) (fun c17 => ?_)
        ·
          refine h14 _ _ ?_
          clear h14
          refine seq fun K18 h18 => ?_
          refine seq fun K19 h19 => ?_
          have htl := trn_len (L := L) (p := 8 * a.toNat + q) (m := m) (k := k)
          refine stp (v := .pointer (some ⟨b2, 2, none⟩)) (o_fa rfl rfl) ?_
          refine m_ld (v := .int .u32 (m : Nat)) hM12 (i := 1) (j := 0) rfl rfl rfl rfl ?_
          refine stp (v := .int .i64 (k : Nat)) (o_mv rfl) ?_
          refine stp (v := .int .u64 (k : Nat)) (o_conv rfl (v_same (by simp only [inK]; omega))) ?_
          refine stp (v := .int .u32 (m / 2 ^ k : Nat)) (o_shr rfl rfl (by omega) (tshr (m := m) (i := k) (by omega))) ?_
          refine stp (v := .int .u32 (m / 2 ^ k % 2 : Nat)) (o_bin rfl rfl (and1 (by have := Nat.div_le_self m (2 ^ k); omega))) ?_
          refine stp (v := .bool (decide (((m / 2 ^ k % 2 : Nat) : Int) = 1))) (o_bin rfl rfl rfl) ?_
          refine h19 _ _ ?_
          clear h19
          refine cndP rfl (fun c20 => ?_) (fun c20 => ?_)
          ·
            refine seq fun K21 h21 => ?_
            refine stp (v := .int .i64 a) (o_mv rfl) ?_
            refine stp (v := .int .i64 (8 * a)) (o_bin rfl rfl (v_mul64 (by constructor <;> omega))) ?_
            refine stp (v := .int .i64 (q : Nat)) (o_mv rfl) ?_
            refine stp (v := .int .i64 ((8 * a) + (q : Nat))) (o_bin rfl rfl (v_add64 (by constructor <;> omega))) ?_
            refine stp (v := .int .i64 (k : Nat)) (o_mv rfl) ?_
            refine stp (v := .int .i64 (8 * a.toNat + q + k : Nat)) (o_bin rfl rfl ((v_add64 (by omega)).trans (v_int (by omega)))) ?_
            refine stp (v := .int .i64 (8 * a.toNat + q + k : Nat)) (o_mv rfl) ?_
            refine h21 _ _ ?_
            clear h21
            refine seq fun K22 h22 => ?_
            refine stp (v := x) (o_mv rfl) ?_
            refine stp (v := .int .i64 (8 * a.toNat + q + k : Nat)) (o_mv rfl) ?_
            refine stp (v := .int .i64 ((8 * a.toNat + q + k) / 8 : Nat)) (o_quo rfl rfl (by omega) ((v_quo (by omega) (by omega) (by simp only [inK]; omega)).trans (v_int (by omega)))) ?_
            refine stp (v := x) (o_mv rfl) ?_
            refine stp (v := .int .i64 (8 * a.toNat + q + k : Nat)) (o_mv rfl) ?_
            refine stp (v := .int .i64 ((8 * a.toNat + q + k) / 8 : Nat)) (o_quo rfl rfl (by omega) ((v_quo (by omega) (by omega) (by simp only [inK]; omega)).trans (v_int (by omega)))) ?_
            refine m_idxE 0 (j := (8 * a.toNat + q + k) / 8) (hs.rd hM12 (i := 0) rfl) rfl rfl (by omega) fun b23 o23 hp23 => ?_
            refine ld (v := byteV ((trn L (8 * a.toNat + q) m k).getD ((8 * a.toNat + q + k) / 8) 0)) rfl (hp23) ?_
            refine stp (v := .int .i64 (8 * a.toNat + q + k : Nat)) (o_mv rfl) ?_
            refine stp (v := .int .i64 ((8 * a.toNat + q + k) % 8 : Nat)) (o_rem rfl rfl (by omega) ((v_rem (by omega)).trans (v_int (by omega)))) ?_
            refine stp (v := .int .u64 ((8 * a.toNat + q + k) % 8 : Nat)) (o_conv rfl (v_same (by simp only [inK]; omega))) ?_
            refine stp (v := .int .u8 (2 ^ ((8 * a.toNat + q + k) % 8) : Nat)) (o_shl rfl rfl (by omega) (tshl (by omega))) ?_
            refine stp (v := .int .u8 (((trn L (8 * a.toNat + q) m k).getD ((8 * a.toNat + q + k) / 8) 0 ^^^ (2 ^ ((8 * a.toNat + q + k) % 8) : Nat).toUInt8).toNat : Int)) (o_bin rfl rfl (v_int (tbit (x := (trn L (8 * a.toNat + q) m k).getD ((8 * a.toNat + q + k) / 8) 0) (q := 8 * a.toNat + q + k)))) ?_
            refine m_set (E := byteV) (q := (trn L (8 * a.toNat + q) m k).getD ((8 * a.toNat + q + k) / 8) 0 ^^^ (2 ^ ((8 * a.toNat + q + k) % 8) : Nat).toUInt8) (j := (8 * a.toNat + q + k) / 8) hM12 (i := 0) rfl hs rfl rfl (by omega) (by simp) (rfl) fun w24 r24 u24 he24 hs24 (hM24 : Mem w (ids r0) w24 [r24, [⟨b2, 80, [.int .i64 tl, .int .i64 at_, .int .u32 (m : Nat)]⟩]]) => ?_
            refine h22 _ _ ?_
            clear h22
            refine stp (v := .bool true) (o_mv rfl) ?_
            refine h18 _ _ ?_
            clear h18
            refine stp (v := .int .i64 (k : Nat)) (o_mv rfl) ?_
            refine stp (v := .int .i64 ((k : Nat) + 1)) (o_bin rfl rfl (v_add64 (by constructor <;> omega))) ?_
            refine stp (v := .int .i64 ((k : Nat) + 1)) (o_mv rfl) ?_
            refine h13 (q, k + 1, r24) _ _ ⟨rfl, by first | rfl | exact v_int (by omega) | exact v_int (by simp) | exact v_int (by simp; omega), (by first | (show Value.bool true = Value.bool _; rw [mask_one (by omega), decide_eq_true (by have := Nat.pow_pos (n := k) (show 0 < 2 by omega); omega)]) | (show Value.bool _ = Value.bool _; rw [mask_no (by omega)])), by first | rfl | exact v_int (by omega) | exact v_int (by simp) | exact v_int (by simp; omega), by first | rfl | exact v_int (by omega) | exact v_int (by simp) | exact v_int (by simp; omega), rfl, by first | rfl | exact v_int (by omega) | exact v_int (by simp) | exact v_int (by simp; omega), hM24, by rw [← trn_one (by omega)]; exact hs24, by omega⟩ (by (try dsimp only); omega)
          ·
            refine h18 _ _ ?_
            clear h18
            refine stp (v := .int .i64 (k : Nat)) (o_mv rfl) ?_
            refine stp (v := .int .i64 ((k : Nat) + 1)) (o_bin rfl rfl (v_add64 (by constructor <;> omega))) ?_
            refine stp (v := .int .i64 ((k : Nat) + 1)) (o_mv rfl) ?_
            refine h13 (q, k + 1, r) _ _ ⟨rfl, by first | rfl | exact v_int (by omega) | exact v_int (by simp) | exact v_int (by simp; omega), (by first | (show Value.bool true = Value.bool _; rw [mask_one (by omega), decide_eq_true (by have := Nat.pow_pos (n := k) (show 0 < 2 by omega); omega)]) | (show Value.bool _ = Value.bool _; rw [mask_no (by omega)])), by first | rfl | exact v_int (by omega) | exact v_int (by simp) | exact v_int (by simp; omega), by first | rfl | exact v_int (by omega) | exact v_int (by simp) | exact v_int (by simp; omega), rfl, by first | rfl | exact v_int (by omega) | exact v_int (by simp) | exact v_int (by simp; omega), hM12, by rw [trn_no (by omega)]; exact hs, by omega⟩ (by (try dsimp only); omega)
        ·
          refine h10 _ _ ?_
          clear h10
          refine seq fun K25 h25 => ?_
          refine stp (v := .bool (decide (¬ m % 2 ^ k = 0))) (o_mv rfl) ?_
          refine stp (v := .bool (decide (¬ m % 2 ^ k = 0))) (o_mv rfl) ?_
          refine h25 _ _ ?_
          clear h25
          refine ⟨(.bool (decide (¬ m % 2 ^ k = 0))), rfl, ?_⟩
          exact ⟨q, k, r, rfl, by omega, hs, hM12.keep (by simp)⟩
      ·
        refine gno rfl (by simp) ?_
        refine gno rfl (by simp) ?_
        refine gno rfl (by simp) ?_
        refine gno rfl (by simp) ?_
        refine gno rfl (by simp) ?_
        refine stp (v := .bool false) (o_pickF rfl rfl) ?_
        refine h15 _ _ ?_
        clear h15
        refine cndF rfl ?_
        refine h10 _ _ ?_
        clear h10
        refine seq fun K26 h26 => ?_
        refine stp (v := .bool (decide (¬ m % 2 ^ k = 0))) (o_mv rfl) ?_
        refine stp (v := .bool (decide (¬ m % 2 ^ k = 0))) (o_mv rfl) ?_
        refine h26 _ _ ?_
        clear h26
        refine ⟨(.bool (decide (¬ m % 2 ^ k = 0))), rfl, ?_⟩
        exact ⟨q, k, r, rfl, by omega, hs, hM12.keep (by simp)⟩
  ·
    refine h6 _ _ ?_
    clear h6
    refine seq fun K27 h27 => ?_
    refine stp (v := .bool false) (o_mv rfl) ?_
    refine h27 _ _ ?_
    clear h27
    refine seq fun K28 h28 => ?_
    refine seq fun K29 h29 => ?_
    refine stp (v := .int .i64 0) (o_mv rfl) ?_
    refine h29 _ _ ?_
    clear h29
    refine lp (n := fun _ _ => False) (ι := (Nat) × (Nat) × (List Ent)) (fun ⟨q, k, r⟩ f w' => f 0 = x ∧ f 10 = .int .i64 (q : Nat) ∧ f 11 = .bool (decide (¬ m % 2 ^ k = 0)) ∧ f 12 = .int .i64 (k : Nat) ∧ f 1 = .int .i64 a ∧ f 7 = .pointer (some ⟨b2, 0, none⟩) ∧ f 9 = .int .i64 (8 * (b - a)) ∧ Mem w (ids r0) w' [r, [⟨b2, 80, [.int .i64 tl, .int .i64 at_, .int .u32 (m : Nat)]⟩]] ∧ (SlE byteV 5 x (trn L (8 * a.toNat + q) m k) r) ∧ (k ≤ 32 ∧ (q : Int) + k ≤ 8 * (b - a) ∧ (q : Int) < 8 * (b - a))) (fun ⟨q, k, r⟩ => 32 - k) (t.toNat, 0, r0) ?_ ?_
    · exact ⟨rfl, by first | rfl | exact v_int (by omega) | exact v_int (by simp) | exact v_int (by simp; omega), (show Value.bool false = Value.bool _ from by rw [Nat.pow_zero, Nat.mod_one]; rfl), by first | rfl | exact v_int (by omega) | exact v_int (by simp) | exact v_int (by simp; omega), by first | rfl | exact v_int (by omega) | exact v_int (by simp) | exact v_int (by simp; omega), rfl, by first | rfl | exact v_int (by omega) | exact v_int (by simp) | exact v_int (by simp; omega), hM3, by rw [trn_zero]; exact hs0, by omega⟩
    · rintro ⟨q, k, r⟩ f w30 ⟨e30_0, e30_10, e30_11, e30_12, e30_1, e30_7, e30_9, hM30, hs, hk⟩ K31 h31
      obtain ⟨frm, rfl⟩ : ∃ frm, f = (upd (upd (upd (upd (upd (upd (upd frm 0 (x)) 10 (.int .i64 (q : Nat))) 11 (.bool (decide (¬ m % 2 ^ k = 0)))) 12 (.int .i64 (k : Nat))) 1 (.int .i64 a)) 7 (.pointer (some ⟨b2, 0, none⟩))) 9 (.int .i64 (8 * (b - a)))) := ⟨f, by rw [upd_self e30_0, upd_self e30_10, upd_self e30_11, upd_self e30_12, upd_self e30_1, upd_self e30_7, upd_self e30_9]⟩
      clear e30_0 e30_10 e30_11 e30_12 e30_1 e30_7 e30_9
      refine seq fun K32 h32 => ?_
      refine seq fun K33 h33 => ?_
      refine stp (v := .int .i64 (k : Nat)) (o_mv rfl) ?_
      refine stp (v := .bool (decide (((k : Nat) : Int) < 32))) (o_bin rfl rfl rfl) ?_
      refine stp (v := .bool (decide (((k : Nat) : Int) < 32))) (o_mv rfl) ?_
      refine splitP rfl (fun c34 => ?_) (fun c34 => ?_)
      ·
        refine stg rfl (v := .int .i64 (q : Nat)) (o_mv rfl) ?_
        refine stg rfl (v := .int .i64 (k : Nat)) (o_mv rfl) ?_
        refine stg rfl (v := .int .i64 ((q : Nat) + (k : Nat))) (o_bin rfl rfl (v_add64 (by constructor <;> omega))) ?_
        refine stg rfl (v := .int .i64 (8 * (b - a))) (o_mv rfl) ?_
        refine stg rfl (v := .bool (decide (((q : Nat) + (k : Nat) : Int) < (8 * (b - a))))) (o_bin rfl rfl rfl) ?_
        refine stp (v := .bool (decide (((q : Nat) + (k : Nat) : Int) < (8 * (b - a))))) (o_pickT rfl rfl) ?_
        refine h33 _ _ ?_
        clear h33
        refine cndP rfl (fun c35 => ?_) (fun c35 => ?_)
        ·
          refine h32 _ _ ?_
          clear h32
          refine seq fun K36 h36 => ?_
          refine seq fun K37 h37 => ?_
          have htl := trn_len (L := L) (p := 8 * a.toNat + q) (m := m) (k := k)
          refine stp (v := .pointer (some ⟨b2, 2, none⟩)) (o_fa rfl rfl) ?_
          refine m_ld (v := .int .u32 (m : Nat)) hM30 (i := 1) (j := 0) rfl rfl rfl rfl ?_
          refine stp (v := .int .i64 (k : Nat)) (o_mv rfl) ?_
          refine stp (v := .int .u64 (k : Nat)) (o_conv rfl (v_same (by simp only [inK]; omega))) ?_
          refine stp (v := .int .u32 (m / 2 ^ k : Nat)) (o_shr rfl rfl (by omega) (tshr (m := m) (i := k) (by omega))) ?_
          refine stp (v := .int .u32 (m / 2 ^ k % 2 : Nat)) (o_bin rfl rfl (and1 (by have := Nat.div_le_self m (2 ^ k); omega))) ?_
          refine stp (v := .bool (decide (((m / 2 ^ k % 2 : Nat) : Int) = 1))) (o_bin rfl rfl rfl) ?_
          refine h37 _ _ ?_
          clear h37
          refine cndP rfl (fun c38 => ?_) (fun c38 => ?_)
          ·
            refine seq fun K39 h39 => ?_
            refine stp (v := .int .i64 a) (o_mv rfl) ?_
            refine stp (v := .int .i64 (8 * a)) (o_bin rfl rfl (v_mul64 (by constructor <;> omega))) ?_
            refine stp (v := .int .i64 (q : Nat)) (o_mv rfl) ?_
            refine stp (v := .int .i64 ((8 * a) + (q : Nat))) (o_bin rfl rfl (v_add64 (by constructor <;> omega))) ?_
            refine stp (v := .int .i64 (k : Nat)) (o_mv rfl) ?_
            refine stp (v := .int .i64 (8 * a.toNat + q + k : Nat)) (o_bin rfl rfl ((v_add64 (by omega)).trans (v_int (by omega)))) ?_
            refine stp (v := .int .i64 (8 * a.toNat + q + k : Nat)) (o_mv rfl) ?_
            refine h39 _ _ ?_
            clear h39
            refine seq fun K40 h40 => ?_
            refine stp (v := x) (o_mv rfl) ?_
            refine stp (v := .int .i64 (8 * a.toNat + q + k : Nat)) (o_mv rfl) ?_
            refine stp (v := .int .i64 ((8 * a.toNat + q + k) / 8 : Nat)) (o_quo rfl rfl (by omega) ((v_quo (by omega) (by omega) (by simp only [inK]; omega)).trans (v_int (by omega)))) ?_
            refine stp (v := x) (o_mv rfl) ?_
            refine stp (v := .int .i64 (8 * a.toNat + q + k : Nat)) (o_mv rfl) ?_
            refine stp (v := .int .i64 ((8 * a.toNat + q + k) / 8 : Nat)) (o_quo rfl rfl (by omega) ((v_quo (by omega) (by omega) (by simp only [inK]; omega)).trans (v_int (by omega)))) ?_
            refine m_idxE 0 (j := (8 * a.toNat + q + k) / 8) (hs.rd hM30 (i := 0) rfl) rfl rfl (by omega) fun b41 o41 hp41 => ?_
            refine ld (v := byteV ((trn L (8 * a.toNat + q) m k).getD ((8 * a.toNat + q + k) / 8) 0)) rfl (hp41) ?_
            refine stp (v := .int .i64 (8 * a.toNat + q + k : Nat)) (o_mv rfl) ?_
            refine stp (v := .int .i64 ((8 * a.toNat + q + k) % 8 : Nat)) (o_rem rfl rfl (by omega) ((v_rem (by omega)).trans (v_int (by omega)))) ?_
            refine stp (v := .int .u64 ((8 * a.toNat + q + k) % 8 : Nat)) (o_conv rfl (v_same (by simp only [inK]; omega))) ?_
            refine stp (v := .int .u8 (2 ^ ((8 * a.toNat + q + k) % 8) : Nat)) (o_shl rfl rfl (by omega) (tshl (by omega))) ?_
            refine stp (v := .int .u8 (((trn L (8 * a.toNat + q) m k).getD ((8 * a.toNat + q + k) / 8) 0 ^^^ (2 ^ ((8 * a.toNat + q + k) % 8) : Nat).toUInt8).toNat : Int)) (o_bin rfl rfl (v_int (tbit (x := (trn L (8 * a.toNat + q) m k).getD ((8 * a.toNat + q + k) / 8) 0) (q := 8 * a.toNat + q + k)))) ?_
            refine m_set (E := byteV) (q := (trn L (8 * a.toNat + q) m k).getD ((8 * a.toNat + q + k) / 8) 0 ^^^ (2 ^ ((8 * a.toNat + q + k) % 8) : Nat).toUInt8) (j := (8 * a.toNat + q + k) / 8) hM30 (i := 0) rfl hs rfl rfl (by omega) (by simp) (rfl) fun w42 r42 u42 he42 hs42 (hM42 : Mem w (ids r0) w42 [r42, [⟨b2, 80, [.int .i64 tl, .int .i64 at_, .int .u32 (m : Nat)]⟩]]) => ?_
            refine h40 _ _ ?_
            clear h40
            refine stp (v := .bool true) (o_mv rfl) ?_
            refine h36 _ _ ?_
            clear h36
            refine stp (v := .int .i64 (k : Nat)) (o_mv rfl) ?_
            refine stp (v := .int .i64 ((k : Nat) + 1)) (o_bin rfl rfl (v_add64 (by constructor <;> omega))) ?_
            refine stp (v := .int .i64 ((k : Nat) + 1)) (o_mv rfl) ?_
            refine h31 (q, k + 1, r42) _ _ ⟨rfl, by first | rfl | exact v_int (by omega) | exact v_int (by simp) | exact v_int (by simp; omega), (by first | (show Value.bool true = Value.bool _; rw [mask_one (by omega), decide_eq_true (by have := Nat.pow_pos (n := k) (show 0 < 2 by omega); omega)]) | (show Value.bool _ = Value.bool _; rw [mask_no (by omega)])), by first | rfl | exact v_int (by omega) | exact v_int (by simp) | exact v_int (by simp; omega), by first | rfl | exact v_int (by omega) | exact v_int (by simp) | exact v_int (by simp; omega), rfl, by first | rfl | exact v_int (by omega) | exact v_int (by simp) | exact v_int (by simp; omega), hM42, by rw [← trn_one (by omega)]; exact hs42, by omega⟩ (by (try dsimp only); omega)
          ·
            refine h36 _ _ ?_
            clear h36
            refine stp (v := .int .i64 (k : Nat)) (o_mv rfl) ?_
            refine stp (v := .int .i64 ((k : Nat) + 1)) (o_bin rfl rfl (v_add64 (by constructor <;> omega))) ?_
            refine stp (v := .int .i64 ((k : Nat) + 1)) (o_mv rfl) ?_
            refine h31 (q, k + 1, r) _ _ ⟨rfl, by first | rfl | exact v_int (by omega) | exact v_int (by simp) | exact v_int (by simp; omega), (by first | (show Value.bool true = Value.bool _; rw [mask_one (by omega), decide_eq_true (by have := Nat.pow_pos (n := k) (show 0 < 2 by omega); omega)]) | (show Value.bool _ = Value.bool _; rw [mask_no (by omega)])), by first | rfl | exact v_int (by omega) | exact v_int (by simp) | exact v_int (by simp; omega), by first | rfl | exact v_int (by omega) | exact v_int (by simp) | exact v_int (by simp; omega), rfl, by first | rfl | exact v_int (by omega) | exact v_int (by simp) | exact v_int (by simp; omega), hM30, by rw [trn_no (by omega)]; exact hs, by omega⟩ (by (try dsimp only); omega)
        ·
          refine h28 _ _ ?_
          clear h28
          refine seq fun K43 h43 => ?_
          refine stp (v := .bool (decide (¬ m % 2 ^ k = 0))) (o_mv rfl) ?_
          refine stp (v := .bool (decide (¬ m % 2 ^ k = 0))) (o_mv rfl) ?_
          refine h43 _ _ ?_
          clear h43
          refine ⟨(.bool (decide (¬ m % 2 ^ k = 0))), rfl, ?_⟩
          exact ⟨q, k, r, rfl, by omega, hs, hM30.keep (by simp)⟩
      ·
        refine gno rfl (by simp) ?_
        refine gno rfl (by simp) ?_
        refine gno rfl (by simp) ?_
        refine gno rfl (by simp) ?_
        refine gno rfl (by simp) ?_
        refine stp (v := .bool false) (o_pickF rfl rfl) ?_
        refine h33 _ _ ?_
        clear h33
        refine cndF rfl ?_
        refine h28 _ _ ?_
        clear h28
        refine seq fun K44 h44 => ?_
        refine stp (v := .bool (decide (¬ m % 2 ^ k = 0))) (o_mv rfl) ?_
        refine stp (v := .bool (decide (¬ m % 2 ^ k = 0))) (o_mv rfl) ?_
        refine h44 _ _ ?_
        clear h44
        refine ⟨(.bool (decide (¬ m % 2 ^ k = 0))), rfl, ?_⟩
        exact ⟨q, k, r, rfl, by omega, hs, hM30.keep (by simp)⟩
