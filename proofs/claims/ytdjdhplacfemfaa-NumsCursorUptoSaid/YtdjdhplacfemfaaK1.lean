/- Numbers as bytes. -/
import Derived.Test.YtdjdhplacfemfaaE17
import Derived.Test.YtdjdhplacfemfaaE13
import Derived.Test.YtdjdhplacfemfaaM
namespace Go.Proofs.Ytdjdhplacfemfaa.E
open Go

/-! ## numbers as bytes, and back -/
theorem drop_getD {a : List UInt8} {i : Nat} (h : i < a.length) : a.drop i = a.getD i 0 :: a.drop (i + 1) := by
  rw [List.drop_eq_getElem_cons h, List.getD_eq_getElem?_getD, List.getElem?_eq_getElem h]; rfl
def put (v : Nat) : List UInt8 := if h : v < 128 then [v.toUInt8] else (v % 128 + 128).toUInt8 :: put (v / 128)
termination_by v
def putI (v : Int) : List UInt8 := if v < 0 then [] else put v.toNat
theorem put_lt {v : Nat} (h : v < 128) : put v = [v.toUInt8] := by rw [put]; simp [h]
theorem put_ge {v : Nat} (h : 128 ≤ v) : put v = (v % 128 + 128).toUInt8 :: put (v / 128) := by rw [put]; simp [Nat.not_lt.2 h]
theorem put_len (k : Nat) : ∀ v : Nat, v < 128 ^ (k + 1) → (put v).length ≤ k + 1 := by
  induction k with
  | zero => intro v h; rw [put_lt (by simpa using h)]; simp
  | succ k ih =>
    intro v h
    by_cases h1 : v < 128
    · rw [put_lt h1]; simp
    · rw [put_ge (by omega)]
      have : v / 128 < 128 ^ (k + 1) := by rw [Nat.pow_succ] at h; omega
      have := ih _ this
      simp; omega
theorem putI_len {v : Int} (h : v ≤ 9223372036854775807) : (putI v).length ≤ 9 := by
  unfold putI; split
  · simp
  · exact put_len 8 _ (by simp; omega)
theorem putI_ge {v : Int} (h : 128 ≤ v) : putI v = (v % 128 + 128).toNat.toUInt8 :: putI (v / 128) := by
  unfold putI
  rw [if_neg (by omega), if_neg (by omega), put_ge (by omega)]
  congr 2
  · omega
  · congr 1; omega
theorem putI_lt {v : Int} (h0 : 0 ≤ v) (h : v < 128) : putI v = [v.toNat.toUInt8] := by
  unfold putI
  rw [if_neg (by omega), put_lt (by omega)]
theorem put_pos (v : Nat) : 0 < (put v).length := by rw [put]; split <;> simp
theorem putI_pos {v : Int} (h : 0 ≤ v) : 0 < (putI v).length := by unfold putI; rw [if_neg (by omega)]; exact put_pos _

theorem byteV_one (b : UInt8) : (byteV b).oneCell' = true := rfl
theorem Sl.snoc {t : TypeId} {v : Value} {p : List UInt8} {b : UInt8} {u : Value} {r : List Ent} (h : Sl 1 t v (p.length + 1) (p.map byteV ++ [u]) r) (hu : u = byteV b) : Sl 1 t v (p ++ [b]).length ((p ++ [b]).map byteV) r := by
  subst hu; simpa using h
theorem low_or8 : ∀ n : Fin 256, orI .u8 (n.val : Int) 128 = (n.val : Int) % 128 + 128 := by decide +kernel
/-- the low byte of a number, with the top bit -/
theorem low_or (v : Int) : orI .u8 (v % 256) 128 = v % 128 + 128 := by
  have h := low_or8 ⟨(v % 256).toNat, by omega⟩
  simp only [] at h
  rw [Int.toNat_of_nonneg (by omega)] at h
  rw [h]; omega
def fixed (n v : Nat) : List UInt8 := (List.range n).map fun i => (v / 256 ^ i % 256).toUInt8
def fixedI (v n : Int) : List UInt8 := if n < 1 ∨ 8 < n then [] else fixed n.toNat v.toNat
theorem fixedI_none {v n : Int} (h : n < 1 ∨ 8 < n) : fixedI v n = [] := by unfold fixedI; rw [if_pos h]
theorem fixedI_some {v n : Int} (h : ¬ (n < 1 ∨ 8 < n)) : fixedI v n = fixed n.toNat v.toNat := by unfold fixedI; rw [if_neg h]
theorem fixed_length (n v : Nat) : (fixed n v).length = n := by simp [fixed]
theorem fixed_succ (n v : Nat) : fixed (n + 1) v = fixed n v ++ [(v / 256 ^ n % 256).toUInt8] := by simp [fixed, List.range_succ]
theorem fixed_set {n i v : Nat} (h : i < n) : (fixed i v ++ List.replicate (n - i) 0).set i (v / 256 ^ i % 256).toUInt8 = fixed (i + 1) v ++ List.replicate (n - (i + 1)) 0 := by
  rw [List.set_append_right _ _ (by rw [fixed_length]; exact Nat.le_refl _), fixed_length, Nat.sub_self, fixed_succ]
  obtain ⟨k, hk⟩ : ∃ k, n - i = k + 1 := ⟨n - i - 1, by omega⟩
  rw [hk, List.replicate_succ, List.set_cons_zero, show n - (i + 1) = k by omega]
  simp
/-- a byte out of the middle of a number -/
theorem shr_byte {v : Int} {i : Nat} (h0 : 0 ≤ v) (hi : i < 8) : Value.int .u8 (IntKind.u8.wrap (shrI .u64 v (8 * (i : Int)))) = byteV (v.toNat / 256 ^ i % 256).toUInt8 := by
  have e1 : shrI .u64 v (8 * (i : Int)) = ((v.toNat / 256 ^ i : Nat) : Int) := by
    unfold shrI
    have e : (8 * (i : Int)).toNat = 8 * i := by omega
    rw [e]
    have e2 : min (8 * i) IntKind.u64.bits = 8 * i := Nat.min_eq_left (by simp only [IntKind.bits]; omega)
    rw [e2, Int.fdiv_eq_ediv_of_nonneg _ (by exact Int.le_of_lt (Int.pow_pos (by omega)))]
    have e3 : (2 : Int) ^ (8 * i) = ((256 ^ i : Nat) : Int) := by rw [Int.pow_mul]; simp
    rw [e3]
    obtain ⟨m, rfl⟩ := Int.eq_ofNat_of_zero_le h0
    rfl
  rw [e1, wrap_u8]
  have e3 : ((v.toNat / 256 ^ i : Nat) : Int) % 256 = ((v.toNat / 256 ^ i % 256 : Nat) : Int) := by omega
  rw [e3]
  exact byteV_of (by omega) (by omega)
theorem byte_mod (m : Nat) : Value.int .u8 ((m : Int) % 256 % 256) = byteV (m % 256).toUInt8 := by
  have e3 : (m : Int) % 256 % 256 = ((m % 256 : Nat) : Int) := by omega
  rw [e3]
  exact byteV_of (by omega) (by omega)
theorem take_succ_eq {a b : List UInt8} {i : Nat} (h : a.take i = b.take i) (ha : i < a.length) (hb : i < b.length) (he : a.getD i 0 = b.getD i 0) : a.take (i + 1) = b.take (i + 1) := by
  rw [List.take_add_one, List.take_add_one, h, List.getElem?_eq_getElem ha, List.getElem?_eq_getElem hb]
  simp only [List.getD_eq_getElem?_getD, List.getElem?_eq_getElem ha, List.getElem?_eq_getElem hb, Option.getD_some] at he
  rw [he]
theorem getD_ne {a b : List UInt8} {i : Nat} (h : ¬ ((a.getD i 0).toNat : Int) = ((b.getD i 0).toNat : Int)) : a ≠ b := fun e => h (by rw [e])
theorem fixed_len {n v : Nat} : (fixed n v).length = n := fixed_length n v
theorem fixedI_len {v n : Int} : (fixedI v n).length ≤ 8 := by
  unfold fixedI; split
  · simp
  · rw [fixed_length]; omega
/-- The number at the head of bytes, from place i on, v being what is read so far: the number, how many bytes, the error. -/
def getA : Nat → Nat → List UInt8 → Nat × Nat × Int
  | _, _, [] => (0, 0, 20)
  | i, v, c :: r => if i = 8 ∧ 128 ≤ c.toNat then (0, 0, 21) else if c.toNat < 128 then (if c.toNat = 0 ∧ 0 < i then (0, 0, 21) else (v + c.toNat % 128 * 128 ^ i, i + 1, 0)) else getA (i + 1) (v + c.toNat % 128 * 128 ^ i) r
def get (b : List UInt8) : Nat × Nat × Int := getA 0 0 b
theorem get_far {b : List UInt8} {i v : Nat} (hg : get b = getA i v (b.drop i)) (hi : i < b.length) (h8 : (i : Int) = 8) (hc : (128 : Int) ≤ (b.getD i 0).toNat) : get b = (0, 0, 21) := by
  rw [hg, drop_getD hi, getA, if_pos ⟨by omega, by omega⟩]
theorem get_zero {b : List UInt8} {i v : Nat} (hg : get b = getA i v (b.drop i)) (hi : i < b.length) (h0 : (0 : Int) < i) (hc : ((b.getD i 0).toNat : Int) = 0) : get b = (0, 0, 21) := by
  rw [hg, drop_getD hi, getA, if_neg (by omega), if_pos (by omega), if_pos ⟨by omega, by omega⟩]
theorem get_stop {b : List UInt8} {i v : Nat} (hg : get b = getA i v (b.drop i)) (hi : i < b.length) (hc : ((b.getD i 0).toNat : Int) < 128) (h0 : ¬ ((b.getD i 0).toNat = 0 ∧ 0 < i)) : get b = (v + (b.getD i 0).toNat % 128 * 128 ^ i, i + 1, 0) := by
  rw [hg, drop_getD hi, getA, if_neg (by omega), if_pos (by omega), if_neg h0]
theorem get_more {b : List UInt8} {i v : Nat} (hg : get b = getA i v (b.drop i)) (hi : i < b.length) (h8 : i < 8) (hc : 128 ≤ (b.getD i 0).toNat) : get b = getA (i + 1) (v + (b.getD i 0).toNat % 128 * 128 ^ i) (b.drop (i + 1)) := by
  rw [hg, drop_getD hi, getA, if_neg (by omega), if_neg (by omega)]
theorem get_end {b : List UInt8} {i v : Nat} (hg : get b = getA i v (b.drop i)) (hi : b.length ≤ i) : get b = (0, 0, 20) := by
  rw [hg, List.drop_eq_nil_of_le hi, getA]
abbrev tup3 (t : Nat × Nat × Int) : Value := .tuple [.int .i64 (t.1 : Nat), .int .i64 (t.2.1 : Nat), .int .i64 t.2.2].toArray
theorem ret3 {b : List UInt8} {v n : Nat} {e : Int} (h : get b = (v, n, e)) : (.tuple [.int .i64 (v : Nat), .int .i64 (n : Nat), .int .i64 e].toArray : Value) = tup3 (get b) := by rw [h]
theorem pow_8 {i : Nat} (h : i ≤ 8) : 128 ^ i ≤ 72057594037927936 := Nat.le_trans (Nat.pow_le_pow_right (by omega) h) (by decide)
theorem digit_lt {d i : Nat} (hd : d < 128) : d * 128 ^ i + 128 ^ i ≤ 128 ^ (i + 1) := by
  rw [Nat.pow_succ]
  calc d * 128 ^ i + 128 ^ i = (d + 1) * 128 ^ i := by rw [Nat.add_mul]; omega
    _ ≤ 128 * 128 ^ i := Nat.mul_le_mul_right _ hd
    _ = 128 ^ i * 128 := Nat.mul_comm _ _
theorem digit_bd {d v i : Nat} (hd : d < 128) (hi : i ≤ 8) (hv : v < 128 ^ i) : v + d * 128 ^ i < 128 ^ (i + 1) ∧ v + d * 128 ^ i ≤ 9223372036854775807 ∧ d * 128 ^ i ≤ 9223372036854775807 := by
  have h1 := digit_lt (i := i) hd
  have h2 : 128 ^ (i + 1) ≤ 9223372036854775808 := Nat.le_trans (Nat.pow_le_pow_right (by omega) (show i + 1 ≤ 9 by omega)) (by decide)
  omega
theorem and127 (c : UInt8) : binI .and .u8 (c.toNat : Int) 127 = .int .u8 ((c.toNat % 128 : Nat) : Int) := by
  have hc := c.toNat_lt
  have h := andI_nat (k := .u8) (a := c.toNat) (b := 127) (by simpa [IntKind.bits] using hc) (by decide) (by
    have := Nat.and_le_left (n := c.toNat) (m := 127)
    simp only [inK]; omega)
  rw [show (127 : Nat) = 2 ^ 7 - 1 from rfl, and_low] at h
  exact v_int h
theorem get_shl {d i : Nat} (hd : d < 128) (hi : i ≤ 8) : Value.int .i64 (IntKind.i64.wrap ((d : Int) * 2 ^ min (7 * (i : Int)).toNat IntKind.i64.bits)) = .int .i64 ((d * 128 ^ i : Nat) : Int) := by
  have e : (7 * (i : Int)).toNat = 7 * i := by omega
  have h := shlI_nat (k := .i64) (a := d) (n := 7 * i) (by simp only [IntKind.bits]; omega) (by
    rw [← pow128]; have := (digit_bd (v := 0) hd hi (Nat.pow_pos (by omega))).2.2
    simp only [inK]; omega)
  unfold shlI at h
  rw [Int.toNat_natCast, ← pow128] at h
  rw [e]; exact v_int h
theorem get_or {v d i : Nat} (hd : d < 128) (hi : i ≤ 8) (hv : v < 128 ^ i) : binI .or .i64 (v : Int) ((d * 128 ^ i : Nat) : Int) = .int .i64 ((v + d * 128 ^ i : Nat) : Int) := by
  obtain ⟨h1, h2, h3⟩ := digit_bd hd hi hv
  have e := or_add (v := v) (d := d) (n := 7 * i) (by rw [← pow128]; exact hv)
  rw [← pow128] at e
  have h := orI_nat (k := .i64) (a := v) (b := d * 128 ^ i) (by simp only [IntKind.bits]; omega) (by simp only [IntKind.bits]; omega) (by rw [e]; simp only [inK]; omega)
  rw [e] at h
  exact v_int h
theorem ref_mul {c : UInt8} {i : Nat} (hi : i ≤ 8) : binI .mul .i64 ((c.toNat : Int) % 128) ((128 ^ i : Nat) : Int) = .int .i64 ((c.toNat % 128 * 128 ^ i : Nat) : Int) := by
  have hb := (digit_bd (v := 0) (d := c.toNat % 128) (Nat.mod_lt _ (by omega)) hi (Nat.pow_pos (by omega))).2.2
  have e : ((c.toNat : Int) % 128) * ((128 ^ i : Nat) : Int) = ((c.toNat % 128 * 128 ^ i : Nat) : Int) := by rw [Int.natCast_mul]; rfl
  rw [v_mul64 (by rw [e]; omega), e]
theorem ref_unit {i : Nat} (hi : i < 8) : binI .mul .i64 ((128 ^ i : Nat) : Int) 128 = .int .i64 ((128 ^ (i + 1) : Nat) : Int) := by
  have e : ((128 ^ i : Nat) : Int) * 128 = ((128 ^ (i + 1) : Nat) : Int) := by rw [Nat.pow_succ]; rfl
  have := pow_8 (i := i + 1) (by omega)
  rw [v_mul64 (by rw [e]; generalize 128 ^ (i + 1) = q at this ⊢; omega), e]
theorem m128 (c : UInt8) : c.toNat % 128 < 128 := Nat.mod_lt _ (by omega)

/-- bytes as a number, the lowest first -/
def le : List UInt8 → Nat
  | [] => 0
  | b :: r => b.toNat + 256 * le r
def word (b : List UInt8) : Nat := le (b.take 8)
theorem le_lt : ∀ l : List UInt8, le l < 256 ^ l.length
  | [] => by simp [le]
  | b :: r => by
    have h := le_lt r
    have hb := b.toNat_lt
    simp only [le, List.length_cons, Nat.pow_succ]
    have : 256 * le r + 256 ≤ 256 * 256 ^ r.length := by
      calc 256 * le r + 256 = 256 * (le r + 1) := by omega
        _ ≤ 256 * 256 ^ r.length := Nat.mul_le_mul_left _ h
    omega
theorem le_snoc : ∀ (l : List UInt8) (b : UInt8), le (l ++ [b]) = le l + b.toNat * 256 ^ l.length
  | [], b => by simp [le]
  | c :: r, b => by
    simp only [List.cons_append, le, le_snoc r b, List.length_cons, Nat.pow_succ, Nat.mul_add]
    have : 256 * (b.toNat * 256 ^ r.length) = b.toNat * (256 ^ r.length * 256) := by rw [Nat.mul_comm 256, Nat.mul_assoc]
    omega
theorem take_getD {b : List UInt8} {i : Nat} (h : i < b.length) : b.take (i + 1) = b.take i ++ [b.getD i 0] := by
  rw [List.take_add_one, List.getElem?_eq_getElem h, List.getD_eq_getElem?_getD, List.getElem?_eq_getElem h]; rfl
theorem le_take {b : List UInt8} {i : Nat} (h : i < b.length) : le (b.take (i + 1)) = le (b.take i) + (b.getD i 0).toNat * 256 ^ i := by
  rw [take_getD h, le_snoc]; simp [Nat.min_eq_left (Nat.le_of_lt h)]
theorem le_take_lt {b : List UInt8} {i : Nat} (h : i ≤ b.length) : le (b.take i) < 256 ^ i := by
  have := le_lt (b.take i)
  rwa [List.length_take, Nat.min_eq_left h] at this
theorem pow_256 {i : Nat} (h : i ≤ 8) : 256 ^ i ≤ 18446744073709551616 := Nat.le_trans (Nat.pow_le_pow_right (by omega) h) (by decide)
theorem byte_pow {c : UInt8} {i : Nat} (h : i < 8) : c.toNat * 256 ^ i + 256 ^ i ≤ 18446744073709551616 := by
  have h1 := pow_256 (i := i + 1) (by omega)
  have hc := c.toNat_lt
  rw [Nat.pow_succ] at h1
  have : (c.toNat + 1) * 256 ^ i ≤ 256 * 256 ^ i := Nat.mul_le_mul_right _ hc
  rw [Nat.add_mul] at this; omega
theorem word_shl {c : UInt8} {i : Nat} (hi : i < 8) : Value.int .u64 (IntKind.u64.wrap ((c.toNat : Int) * 2 ^ min (8 * (i : Int)).toNat IntKind.u64.bits)) = .int .u64 ((c.toNat * 256 ^ i : Nat) : Int) := by
  have e : (8 * (i : Int)).toNat = 8 * i := by omega
  have hp : 0 < 256 ^ i := Nat.pow_pos (by omega)
  have hb := byte_pow (c := c) hi
  have h := shlI_nat (k := .u64) (a := c.toNat) (n := 8 * i) (by simp only [IntKind.bits]; omega) (by rw [← pow256]; simp only [inK]; omega)
  unfold shlI at h
  rw [Int.toNat_natCast, ← pow256] at h
  rw [e]; exact v_int h
theorem word_or {b : List UInt8} {i : Nat} (hi : i < 8) (hl : i < b.length) : binI .or .u64 (le (b.take i) : Int) (((b.getD i 0).toNat * 256 ^ i : Nat) : Int) = .int .u64 ((le (b.take (i + 1)) : Nat) : Int) := by
  have h1 := le_take_lt (b := b) (i := i) (by omega)
  have hb := byte_pow (c := b.getD i 0) hi
  have e := or_add (v := le (b.take i)) (d := (b.getD i 0).toNat) (n := 8 * i) (by rw [← pow256]; exact h1)
  rw [← pow256] at e
  have h := orI_nat (k := .u64) (a := le (b.take i)) (b := (b.getD i 0).toNat * 256 ^ i) (by simp only [IntKind.bits]; omega) (by simp only [IntKind.bits]; omega) (by rw [e]; simp only [inK]; omega)
  rw [e] at h
  rw [le_take hl]; exact v_int h
theorem wref_mul {c : UInt8} {i : Nat} (hi : i < 8) : binI .mul .u64 (c.toNat : Int) ((256 ^ i % 18446744073709551616 : Nat) : Int) = .int .u64 ((c.toNat * 256 ^ i : Nat) : Int) := by
  have hb := byte_pow (c := c) hi
  have h1 : 256 ^ i < 18446744073709551616 := Nat.lt_of_lt_of_le (Nat.pow_lt_pow_right (by omega) hi) (by decide)
  rw [Nat.mod_eq_of_lt h1]
  have hp : 0 < 256 ^ i := Nat.pow_pos (by omega)
  show Value.int .u64 (IntKind.u64.wrap _) = _
  rw [← Int.natCast_mul]
  exact v_same (by simp only [inK]; omega)
theorem wref_add {b : List UInt8} {i : Nat} (hi : i < 8) (hl : i < b.length) : binI .add .u64 (le (b.take i) : Int) (((b.getD i 0).toNat * 256 ^ i : Nat) : Int) = .int .u64 ((le (b.take (i + 1)) : Nat) : Int) := by
  have h1 := le_take_lt (b := b) (i := i) (by omega)
  have hb := byte_pow (c := b.getD i 0) hi
  rw [le_take hl]
  show Value.int .u64 (IntKind.u64.wrap _) = _
  rw [← Int.natCast_add]
  exact v_same (by simp only [inK]; omega)
theorem wref_unit (i : Nat) : binI .mul .u64 ((256 ^ i % 18446744073709551616 : Nat) : Int) 256 = .int .u64 ((256 ^ (i + 1) % 18446744073709551616 : Nat) : Int) := by
  show Value.int .u64 (IntKind.u64.wrap _) = _
  rw [wrap_u64, Nat.pow_succ]
  apply v_int
  have : (256 ^ i * 256 % 18446744073709551616 : Nat) = (256 ^ i % 18446744073709551616) * 256 % 18446744073709551616 := by rw [Nat.mod_mul_mod]
  omega
theorem word_end {b : List UInt8} {i : Nat} (hi : i ≤ b.length) (hi8 : i ≤ 8) (h : b.length ≤ i ∨ 8 ≤ i) : le (b.take i) = word b := by
  unfold word
  rcases h with h | h
  · rw [List.take_of_length_le h, List.take_of_length_le (by omega)]
  · rw [show i = 8 by omega]
theorem getA_put (r : List UInt8) : ∀ (n u i v : Nat), u < n → i ≤ 8 → u < 128 ^ (9 - i) → (0 < i → 0 < u) → getA i v (put u ++ r) = (v + u * 128 ^ i, i + (put u).length, 0) := by
  intro n
  induction n with
  | zero => intro u i v h; omega
  | succ n ih =>
    intro u i v hn hi hu h0
    by_cases h1 : u < 128
    · rw [put_lt h1]
      have e : u.toUInt8.toNat = u := by simp; omega
      simp only [List.cons_append, List.nil_append, getA, e, List.length_singleton]
      rw [if_neg (by omega), if_pos h1, if_neg (by omega), Nat.mod_eq_of_lt h1]
    · rw [put_ge (by omega)]
      have e : (u % 128 + 128).toUInt8.toNat = u % 128 + 128 := by simp; omega
      have h8 : i ≠ 8 := by intro h; subst h; simp at hu; omega
      simp only [List.cons_append, getA, e, List.length_cons]
      rw [if_neg (by omega), if_neg (by omega), ih _ _ _ (by omega) (by omega) ?_ (by intro; omega)]
      · have e2 : (u % 128 + 128) % 128 = u % 128 := by omega
        rw [e2, Nat.pow_succ]
        refine Prod.ext ?_ (Prod.ext ?_ rfl)
        · simp only
          have : u / 128 * (128 ^ i * 128) = (u / 128 * 128) * 128 ^ i := by rw [Nat.mul_comm (128 ^ i), ← Nat.mul_assoc]
          rw [this, Nat.add_assoc, ← Nat.add_mul]
          congr 2; omega
        · simp only; omega
      · have : 128 ^ (9 - i) = 128 ^ (9 - (i + 1)) * 128 := by rw [← Nat.pow_succ]; congr 1; omega
        rw [this] at hu; omega
theorem get_put {v : Int} (h0 : 0 ≤ v) (h : v ≤ 9223372036854775807) (r : List UInt8) : get (putI v ++ r) = (v.toNat, (putI v).length, 0) := by
  unfold get putI
  rw [if_neg (by omega), getA_put r (v.toNat + 1) v.toNat 0 0 (by omega) (by omega) (by
    have : (128 : Nat) ^ (9 - 0) = 9223372036854775808 := by decide
    omega) (by omega)]
  simp
theorem getA_inv : ∀ (b : List UInt8) (i v x m : Nat), getA i v b = (x, m, 0) → i ≤ 8 → ∃ u n, b.take n = put u ∧ n ≤ b.length ∧ 1 ≤ n ∧ m = i + n ∧ x = v + u * 128 ^ i ∧ (0 < i → 0 < u)
  | [], i, v, x, m, h, _ => by simp [getA] at h
  | c :: r, i, v, x, m, h, hi => by
    have hc := c.toNat_lt
    simp only [getA] at h
    split at h
    · simp at h
    · rename_i h8
      split at h
      · rename_i hlt
        split at h
        · simp at h
        · rename_i hz
          simp only [Prod.mk.injEq, and_true] at h
          refine ⟨c.toNat, 1, ?_, by simp, by omega, by omega, ?_, by omega⟩
          · rw [put_lt hlt]; simp
          · rw [← h.1, Nat.mod_eq_of_lt hlt]
      · rename_i hge
        obtain ⟨u, n, h1, h2, h3, h4, h5, h6⟩ := getA_inv r _ _ _ _ h (by omega)
        refine ⟨c.toNat % 128 + 128 * u, n + 1, ?_, by simp; omega, by omega, by omega, ?_, by omega⟩
        · rw [put_ge (by have := h6 (by omega); omega), List.take_succ_cons, h1]
          congr 1
          · have : (c.toNat % 128 + 128 * u) % 128 + 128 = c.toNat := by omega
            rw [this]; simp
          · congr 1; omega
        · rw [h5, Nat.pow_succ, Nat.add_mul, Nat.add_assoc]
          congr 2
          rw [Nat.mul_comm (128 ^ i), ← Nat.mul_assoc, Nat.mul_comm u]
theorem getA_bd : ∀ (b : List UInt8) (i v : Nat), i ≤ 8 → v < 128 ^ i → (getA i v b).1 < 9223372036854775808
  | [], i, v, _, _ => by simp [getA]
  | c :: r, i, v, hi, hv => by
    have hb := digit_bd (m128 c) hi hv
    simp only [getA]
    split
    · simp
    · split
      · split
        · simp
        · simp only; omega
      · exact getA_bd r _ _ (by omega) hb.1
theorem getA_err : ∀ (b : List UInt8) (i v : Nat), ((getA i v b).2.2 = 0 ∨ (getA i v b).2.2 = 20 ∨ (getA i v b).2.2 = 21) ∧ (¬ (getA i v b).2.2 = 0 → (getA i v b).1 = 0 ∧ (getA i v b).2.1 = 0)
  | [], i, v => by simp [getA]
  | c :: r, i, v => by
    simp only [getA]
    split
    · simp
    · split
      · split <;> simp
      · exact getA_err r _ _
theorem getA_short : ∀ (b : List UInt8) (i v : Nat), i ≤ 8 → (getA i v b).2.2 = 20 → b.length + i ≤ 8 ∧ (getA i v (b ++ [1])).2.2 = 0 ∧ (getA i v (b ++ [1])).2.1 = i + b.length + 1
  | [], i, v, hi, h => by
    have : (1 : UInt8).toNat = 1 := rfl
    simp [getA, this]; omega
  | c :: r, i, v, hi, h => by
    simp only [getA, List.cons_append] at h ⊢
    split at h
    · simp at h
    · rename_i h8
      rw [if_neg h8]
      split at h
      · split at h <;> simp at h
      · rename_i hge
        rw [if_neg hge]
        obtain ⟨h1, h2, h3⟩ := getA_short r _ _ (by omega) h
        refine ⟨by simp; omega, h2, by rw [h3]; simp; omega⟩
theorem getA_bad : ∀ (b : List UInt8) (i v : Nat), (getA i v b).2.2 = 21 → (getA i v (b ++ [1])).2.2 = 21
  | [], i, v, h => by simp [getA] at h
  | c :: r, i, v, h => by
    simp only [getA, List.cons_append] at h ⊢
    split at h
    · rename_i h8; rw [if_pos h8]
    · rename_i h8
      rw [if_neg h8]
      split at h
      · rename_i hlt
        rw [if_pos hlt]
        split at h
        · rename_i hz; rw [if_pos hz]
        · simp at h
      · rename_i hge
        rw [if_neg hge]
        exact getA_bad r _ _ h
theorem get_ok {b : List UInt8} (h : (get b).2.2 = 0) : 1 ≤ (get b).2.1 ∧ (get b).2.1 ≤ b.length ∧ putI ((get b).1 : Nat) = b.take (get b).2.1 := by
  obtain ⟨u, n, h1, h2, h3, h4, h5, h6⟩ := getA_inv b 0 0 (get b).1 (get b).2.1 (by rw [← h]; rfl) (by omega)
  simp at h4 h5
  refine ⟨by omega, by omega, ?_⟩
  unfold putI
  rw [if_neg (by omega), h4, h1, h5]; simp
theorem le_fixed (n : Nat) : ∀ v, le (fixed n v) = v % 256 ^ n := by
  induction n with
  | zero => intro v; simp [fixed, le, Nat.mod_one]
  | succ n ih =>
    intro v
    rw [fixed_succ, le_snoc, fixed_length, ih]
    have : (v / 256 ^ n % 256).toUInt8.toNat = v / 256 ^ n % 256 := by simp
    rw [this, Nat.pow_succ, Nat.mod_mul, Nat.mul_comm]
theorem fixed_le : ∀ (b : List UInt8), fixed b.length (le b) = b := by
  intro b
  apply List.ext_getElem (by rw [fixed_length])
  intro i h1 h2
  simp only [fixed, List.getElem_map, List.getElem_range]
  have key : ∀ (l : List UInt8) (i : Nat) (h : i < l.length), le l / 256 ^ i % 256 = l[i].toNat := by
    intro l
    induction l with
    | nil => intro i h; simp at h
    | cons c r ih =>
      intro i h
      have hc := c.toNat_lt
      cases i with
      | zero => simp only [le, Nat.pow_zero, Nat.div_one, List.getElem_cons_zero]; omega
      | succ i =>
        simp only [le, List.getElem_cons_succ, Nat.pow_succ]
        rw [Nat.mul_comm (256 ^ i), ← Nat.div_div_eq_div_mul, show (c.toNat + 256 * le r) / 256 = le r by omega]
        exact ih i (by simpa using h)
  rw [key b i h2]
  simp
theorem word_fixed {v : Int} (h : 0 ≤ v ∧ v ≤ 18446744073709551615) : (word (fixedI v 8) : Int) = v := by
  rw [fixedI_some (by omega)]
  unfold word
  rw [List.take_of_length_le (by rw [fixed_length]; decide), le_fixed, Nat.mod_eq_of_lt (by
    have : (256 : Nat) ^ (8 : Int).toNat = 18446744073709551616 := by decide
    rw [this]; omega)]
  omega
theorem fixed_word {b : List UInt8} (h0 : 0 < b.length) (h : b.length ≤ 8) : fixedI (word b : Nat) (b.length : Nat) = b := by
  rw [fixedI_some (by omega), Int.toNat_natCast, Int.toNat_natCast]
  unfold word
  rw [List.take_of_length_le h, fixed_le]
theorem word_lt (b : List UInt8) : word b < 18446744073709551616 := by
  unfold word
  have h := le_lt (b.take 8)
  have h2 : 256 ^ (b.take 8).length ≤ 256 ^ 8 := Nat.pow_le_pow_right (by omega) (by simp; omega)
  omega

/-- nums.Get -/
theorem Get_ok (x : Value) (b : List UInt8) (w : World) (hx : RdB w x b) (hl : b.length ≤ 1152921504606846976) : Calls Try.prog 18 [x].toArray w (Rt fun r w' => r = tup3 (get b) ∧ Upd [] w w') := by
  have hM0 : Mem w [] w [] := Mem.nil w []
  refine calls_vc mixed Try.func18 rfl C18 (by simp [Try.ntmps18]) ?_
  refine seq fun K1 h1 => ?_
  refine stp (v := .int .i64 0) (o_mv rfl) ?_
  refine stp (v := .int .i64 0) (o_mv rfl) ?_
  refine stp (v := .int .i64 0) (o_mv rfl) ?_
  refine h1 _ _ ?_
  clear h1
  refine seq fun K2 h2 => ?_
  refine stp (v := .int .i64 0) (o_mv rfl) ?_
  refine h2 _ _ ?_
  clear h2
  refine seq fun K3 h3 => ?_
  refine seq fun K4 h4 => ?_
  refine stp (v := x) (o_mv rfl) ?_
  refine stp (v := .int .i64 (b.length : Nat)) (o_lenR (hx.upd hM0.upd) rfl rfl) ?_
  refine stp (v := .int .i64 0) (o_mv rfl) ?_
  refine h4 _ _ ?_
  clear h4
  refine lp (n := fun _ _ => False) (ι := (Nat) × (Nat)) (fun ⟨i, v⟩ f w' => f 5 = .int .i64 (v : Nat) ∧ f 8 = x ∧ f 9 = .int .i64 (b.length : Nat) ∧ f 10 = .int .i64 (i : Nat) ∧ Mem w [] w' [] ∧ (i ≤ b.length ∧ i ≤ 8) ∧ (v < 128 ^ i) ∧ (get b = getA i v (b.drop i))) (fun ⟨i, v⟩ => b.length - i) (0, 0) ?_ ?_
  · exact ⟨by first | rfl | exact v_int (by omega) | exact v_int (by simp) | exact v_int (by simp; omega), rfl, by first | rfl | exact v_int (by omega) | exact v_int (by simp) | exact v_int (by simp; omega), by first | rfl | exact v_int (by omega) | exact v_int (by simp) | exact v_int (by simp; omega), hM0, by omega, by simp, rfl⟩
  · rintro ⟨i, v⟩ f w5 ⟨e5_5, e5_8, e5_9, e5_10, hM5, hi, hv, hg⟩ K6 h6
    obtain ⟨frm, rfl⟩ : ∃ frm, f = (upd (upd (upd (upd frm 5 (.int .i64 (v : Nat))) 8 (x)) 9 (.int .i64 (b.length : Nat))) 10 (.int .i64 (i : Nat))) := ⟨f, by rw [upd_self e5_5, upd_self e5_8, upd_self e5_9, upd_self e5_10]⟩
    clear e5_5 e5_8 e5_9 e5_10
    refine seq fun K7 h7 => ?_
    refine stp (v := .bool (decide (((i : Nat) : Int) < (b.length : Nat)))) (o_bin rfl rfl rfl) ?_
    refine h7 _ _ ?_
    clear h7
    refine seq fun K8 h8 => ?_
    refine cndP rfl (fun c9 => ?_) (fun c9 => ?_)
    ·
      refine h8 _ _ ?_
      clear h8
      refine seq fun K10 h10 => ?_
      refine seq fun K11 h11 => ?_
      refine stp (v := .int .i64 (i : Nat)) (o_mv rfl) ?_
      refine m_idxE 0 (j := i) (hx.upd hM5.upd) rfl rfl (by omega) fun b12 o12 hp12 => ?_
      refine ld (v := byteV (b.getD i 0)) rfl (hp12) ?_
      refine stp (v := .int .i64 (i : Nat)) (o_mv rfl) ?_
      refine stp (v := byteV (b.getD i 0)) (o_mv rfl) ?_
      refine h11 _ _ ?_
      clear h11
      refine seq fun K13 h13 => ?_
      refine seq fun K14 h14 => ?_
      refine stp (v := .int .i64 (i : Nat)) (o_mv rfl) ?_
      refine stp (v := .bool (decide (((i : Nat) : Int) = 8))) (o_bin rfl rfl rfl) ?_
      refine stp (v := .bool (decide (((i : Nat) : Int) = 8))) (o_mv rfl) ?_
      refine splitP rfl (fun c15 => ?_) (fun c15 => ?_)
      ·
        refine stg rfl (v := byteV (b.getD i 0)) (o_mv rfl) ?_
        refine stg rfl (v := .bool (decide ((128 : Int) ≤ ((b.getD i 0).toNat : Int)))) (o_bin rfl rfl rfl) ?_
        refine stp (v := .bool (decide ((128 : Int) ≤ ((b.getD i 0).toNat : Int)))) (o_pickT rfl rfl) ?_
        refine h14 _ _ ?_
        clear h14
        refine cndP rfl (fun c16 => ?_) (fun c16 => ?_)
        ·
          refine seq fun K17 h17 => ?_
          refine stp (v := .int .i64 0) (o_mv rfl) ?_
          refine stp (v := .int .i64 0) (o_mv rfl) ?_
          refine stp (v := .int .i64 21) (o_mv rfl) ?_
          refine h17 _ _ ?_
          clear h17
          refine ⟨(.tuple [.int .i64 0, .int .i64 0, .int .i64 21].toArray), rfl, ?_⟩
          exact ⟨ret3 (get_far hg (by omega) (by omega) (by omega)), hM5.upd⟩
        ·
          refine h13 _ _ ?_
          clear h13
          refine seq fun K18 h18 => ?_
          refine stp (v := .int .i64 (v : Nat)) (o_mv rfl) ?_
          refine stp (v := byteV (b.getD i 0)) (o_mv rfl) ?_
          refine stp (v := .int .u8 ((b.getD i 0).toNat % 128 : Nat)) (o_bin rfl rfl (and127 _)) ?_
          refine stp (v := .int .i64 ((b.getD i 0).toNat % 128 : Nat)) (o_conv rfl (v_same (by simp only [inK]; omega))) ?_
          refine stp (v := .int .i64 (i : Nat)) (o_mv rfl) ?_
          refine stp (v := .int .i64 (7 * (i : Nat))) (o_bin rfl rfl (v_mul64 (by constructor <;> omega))) ?_
          refine stp (v := .int .i64 ((b.getD i 0).toNat % 128 * 128 ^ i : Nat)) (o_shl rfl rfl (by omega) (get_shl (m128 _) (by omega))) ?_
          refine stp (v := .int .i64 (v + (b.getD i 0).toNat % 128 * 128 ^ i : Nat)) (o_bin rfl rfl (get_or (m128 _) (by omega) hv)) ?_
          refine stp (v := .int .i64 (v + (b.getD i 0).toNat % 128 * 128 ^ i : Nat)) (o_mv rfl) ?_
          refine h18 _ _ ?_
          clear h18
          refine seq fun K19 h19 => ?_
          refine stp (v := byteV (b.getD i 0)) (o_mv rfl) ?_
          refine stp (v := .bool (decide (((b.getD i 0).toNat : Int) < 128))) (o_bin rfl rfl rfl) ?_
          refine h19 _ _ ?_
          clear h19
          refine cndP rfl (fun c20 => ?_) (fun c20 => ?_)
          ·
            refine seq fun K21 h21 => ?_
            refine seq fun K22 h22 => ?_
            refine stp (v := byteV (b.getD i 0)) (o_mv rfl) ?_
            refine stp (v := .bool (decide (((b.getD i 0).toNat : Int) = 0))) (o_bin rfl rfl rfl) ?_
            refine stp (v := .bool (decide (((b.getD i 0).toNat : Int) = 0))) (o_mv rfl) ?_
            refine splitP rfl (fun c23 => ?_) (fun c23 => ?_)
            ·
              refine stg rfl (v := .int .i64 (i : Nat)) (o_mv rfl) ?_
              refine stg rfl (v := .bool (decide ((0 : Int) < ((i : Nat) : Int)))) (o_bin rfl rfl rfl) ?_
              refine stp (v := .bool (decide ((0 : Int) < ((i : Nat) : Int)))) (o_pickT rfl rfl) ?_
              refine h22 _ _ ?_
              clear h22
              refine cndP rfl (fun c24 => ?_) (fun c24 => ?_)
              ·
                refine seq fun K25 h25 => ?_
                refine stp (v := .int .i64 0) (o_mv rfl) ?_
                refine stp (v := .int .i64 0) (o_mv rfl) ?_
                refine stp (v := .int .i64 21) (o_mv rfl) ?_
                refine h25 _ _ ?_
                clear h25
                refine ⟨(.tuple [.int .i64 0, .int .i64 0, .int .i64 21].toArray), rfl, ?_⟩
                exact ⟨ret3 (get_zero hg (by omega) (by omega) (by omega)), hM5.upd⟩
              ·
                refine h21 _ _ ?_
                clear h21
                refine seq fun K26 h26 => ?_
                refine stp (v := .int .i64 (v + (b.getD i 0).toNat % 128 * 128 ^ i : Nat)) (o_mv rfl) ?_
                refine stp (v := .int .i64 (i : Nat)) (o_mv rfl) ?_
                refine stp (v := .int .i64 ((i : Nat) + 1)) (o_bin rfl rfl (v_add64 (by constructor <;> omega))) ?_
                refine stp (v := .int .i64 (v + (b.getD i 0).toNat % 128 * 128 ^ i : Nat)) (o_mv rfl) ?_
                refine stp (v := .int .i64 ((i : Nat) + 1)) (o_mv rfl) ?_
                refine stp (v := .int .i64 0) (o_mv rfl) ?_
                refine h26 _ _ ?_
                clear h26
                refine ⟨(.tuple [.int .i64 (v + (b.getD i 0).toNat % 128 * 128 ^ i : Nat), .int .i64 ((i : Nat) + 1), .int .i64 0].toArray), rfl, ?_⟩
                exact ⟨ret3 (get_stop hg (by omega) (by omega) (fun h => by have := h.1; have := h.2; omega)), hM5.upd⟩
            ·
              refine gno rfl (by simp) ?_
              refine gno rfl (by simp) ?_
              refine stp (v := .bool false) (o_pickF rfl rfl) ?_
              refine h22 _ _ ?_
              clear h22
              refine cndF rfl ?_
              refine h21 _ _ ?_
              clear h21
              refine seq fun K27 h27 => ?_
              refine stp (v := .int .i64 (v + (b.getD i 0).toNat % 128 * 128 ^ i : Nat)) (o_mv rfl) ?_
              refine stp (v := .int .i64 (i : Nat)) (o_mv rfl) ?_
              refine stp (v := .int .i64 ((i : Nat) + 1)) (o_bin rfl rfl (v_add64 (by constructor <;> omega))) ?_
              refine stp (v := .int .i64 (v + (b.getD i 0).toNat % 128 * 128 ^ i : Nat)) (o_mv rfl) ?_
              refine stp (v := .int .i64 ((i : Nat) + 1)) (o_mv rfl) ?_
              refine stp (v := .int .i64 0) (o_mv rfl) ?_
              refine h27 _ _ ?_
              clear h27
              refine ⟨(.tuple [.int .i64 (v + (b.getD i 0).toNat % 128 * 128 ^ i : Nat), .int .i64 ((i : Nat) + 1), .int .i64 0].toArray), rfl, ?_⟩
              exact ⟨ret3 (get_stop hg (by omega) (by omega) (fun h => by have := h.1; have := h.2; omega)), hM5.upd⟩
          ·
            refine h10 _ _ ?_
            clear h10
            refine stp (v := .int .i64 ((i : Nat) + 1)) (o_bin rfl rfl (v_add64 (by constructor <;> omega))) ?_
            refine stp (v := .int .i64 ((i : Nat) + 1)) (o_mv rfl) ?_
            refine h6 (i + 1, v + (b.getD i 0).toNat % 128 * 128 ^ i) _ _ ⟨by first | rfl | exact v_int (by omega) | exact v_int (by simp) | exact v_int (by simp; omega), rfl, by first | rfl | exact v_int (by omega) | exact v_int (by simp) | exact v_int (by simp; omega), by first | rfl | exact v_int (by omega) | exact v_int (by simp) | exact v_int (by simp; omega), hM5, by omega, (digit_bd (m128 _) (by omega) hv).1, get_more hg (by omega) (by omega) (by omega)⟩ (by (try dsimp only); omega)
      ·
        refine gno rfl (by simp) ?_
        refine gno rfl (by simp) ?_
        refine stp (v := .bool false) (o_pickF rfl rfl) ?_
        refine h14 _ _ ?_
        clear h14
        refine cndF rfl ?_
        refine h13 _ _ ?_
        clear h13
        refine seq fun K28 h28 => ?_
        refine stp (v := .int .i64 (v : Nat)) (o_mv rfl) ?_
        refine stp (v := byteV (b.getD i 0)) (o_mv rfl) ?_
        refine stp (v := .int .u8 ((b.getD i 0).toNat % 128 : Nat)) (o_bin rfl rfl (and127 _)) ?_
        refine stp (v := .int .i64 ((b.getD i 0).toNat % 128 : Nat)) (o_conv rfl (v_same (by simp only [inK]; omega))) ?_
        refine stp (v := .int .i64 (i : Nat)) (o_mv rfl) ?_
        refine stp (v := .int .i64 (7 * (i : Nat))) (o_bin rfl rfl (v_mul64 (by constructor <;> omega))) ?_
        refine stp (v := .int .i64 ((b.getD i 0).toNat % 128 * 128 ^ i : Nat)) (o_shl rfl rfl (by omega) (get_shl (m128 _) (by omega))) ?_
        refine stp (v := .int .i64 (v + (b.getD i 0).toNat % 128 * 128 ^ i : Nat)) (o_bin rfl rfl (get_or (m128 _) (by omega) hv)) ?_
        refine stp (v := .int .i64 (v + (b.getD i 0).toNat % 128 * 128 ^ i : Nat)) (o_mv rfl) ?_
        refine h28 _ _ ?_
        clear h28
        refine seq fun K29 h29 => ?_
        refine stp (v := byteV (b.getD i 0)) (o_mv rfl) ?_
        refine stp (v := .bool (decide (((b.getD i 0).toNat : Int) < 128))) (o_bin rfl rfl rfl) ?_
        refine h29 _ _ ?_
        clear h29
        refine cndP rfl (fun c30 => ?_) (fun c30 => ?_)
        ·
          refine seq fun K31 h31 => ?_
          refine seq fun K32 h32 => ?_
          refine stp (v := byteV (b.getD i 0)) (o_mv rfl) ?_
          refine stp (v := .bool (decide (((b.getD i 0).toNat : Int) = 0))) (o_bin rfl rfl rfl) ?_
          refine stp (v := .bool (decide (((b.getD i 0).toNat : Int) = 0))) (o_mv rfl) ?_
          refine splitP rfl (fun c33 => ?_) (fun c33 => ?_)
          ·
            refine stg rfl (v := .int .i64 (i : Nat)) (o_mv rfl) ?_
            refine stg rfl (v := .bool (decide ((0 : Int) < ((i : Nat) : Int)))) (o_bin rfl rfl rfl) ?_
            refine stp (v := .bool (decide ((0 : Int) < ((i : Nat) : Int)))) (o_pickT rfl rfl) ?_
            refine h32 _ _ ?_
            clear h32
            refine cndP rfl (fun c34 => ?_) (fun c34 => ?_)
            ·
              refine seq fun K35 h35 => ?_
              refine stp (v := .int .i64 0) (o_mv rfl) ?_
              refine stp (v := .int .i64 0) (o_mv rfl) ?_
              refine stp (v := .int .i64 21) (o_mv rfl) ?_
              refine h35 _ _ ?_
              clear h35
              refine ⟨(.tuple [.int .i64 0, .int .i64 0, .int .i64 21].toArray), rfl, ?_⟩
              exact ⟨ret3 (get_zero hg (by omega) (by omega) (by omega)), hM5.upd⟩
            ·
              refine h31 _ _ ?_
              clear h31
              refine seq fun K36 h36 => ?_
              refine stp (v := .int .i64 (v + (b.getD i 0).toNat % 128 * 128 ^ i : Nat)) (o_mv rfl) ?_
              refine stp (v := .int .i64 (i : Nat)) (o_mv rfl) ?_
              refine stp (v := .int .i64 ((i : Nat) + 1)) (o_bin rfl rfl (v_add64 (by constructor <;> omega))) ?_
              refine stp (v := .int .i64 (v + (b.getD i 0).toNat % 128 * 128 ^ i : Nat)) (o_mv rfl) ?_
              refine stp (v := .int .i64 ((i : Nat) + 1)) (o_mv rfl) ?_
              refine stp (v := .int .i64 0) (o_mv rfl) ?_
              refine h36 _ _ ?_
              clear h36
              refine ⟨(.tuple [.int .i64 (v + (b.getD i 0).toNat % 128 * 128 ^ i : Nat), .int .i64 ((i : Nat) + 1), .int .i64 0].toArray), rfl, ?_⟩
              exact ⟨ret3 (get_stop hg (by omega) (by omega) (fun h => by have := h.1; have := h.2; omega)), hM5.upd⟩
          ·
            refine gno rfl (by simp) ?_
            refine gno rfl (by simp) ?_
            refine stp (v := .bool false) (o_pickF rfl rfl) ?_
            refine h32 _ _ ?_
            clear h32
            refine cndF rfl ?_
            refine h31 _ _ ?_
            clear h31
            refine seq fun K37 h37 => ?_
            refine stp (v := .int .i64 (v + (b.getD i 0).toNat % 128 * 128 ^ i : Nat)) (o_mv rfl) ?_
            refine stp (v := .int .i64 (i : Nat)) (o_mv rfl) ?_
            refine stp (v := .int .i64 ((i : Nat) + 1)) (o_bin rfl rfl (v_add64 (by constructor <;> omega))) ?_
            refine stp (v := .int .i64 (v + (b.getD i 0).toNat % 128 * 128 ^ i : Nat)) (o_mv rfl) ?_
            refine stp (v := .int .i64 ((i : Nat) + 1)) (o_mv rfl) ?_
            refine stp (v := .int .i64 0) (o_mv rfl) ?_
            refine h37 _ _ ?_
            clear h37
            refine ⟨(.tuple [.int .i64 (v + (b.getD i 0).toNat % 128 * 128 ^ i : Nat), .int .i64 ((i : Nat) + 1), .int .i64 0].toArray), rfl, ?_⟩
            exact ⟨ret3 (get_stop hg (by omega) (by omega) (fun h => by have := h.1; have := h.2; omega)), hM5.upd⟩
        ·
          refine h10 _ _ ?_
          clear h10
          refine stp (v := .int .i64 ((i : Nat) + 1)) (o_bin rfl rfl (v_add64 (by constructor <;> omega))) ?_
          refine stp (v := .int .i64 ((i : Nat) + 1)) (o_mv rfl) ?_
          refine h6 (i + 1, v + (b.getD i 0).toNat % 128 * 128 ^ i) _ _ ⟨by first | rfl | exact v_int (by omega) | exact v_int (by simp) | exact v_int (by simp; omega), rfl, by first | rfl | exact v_int (by omega) | exact v_int (by simp) | exact v_int (by simp; omega), by first | rfl | exact v_int (by omega) | exact v_int (by simp) | exact v_int (by simp; omega), hM5, by omega, (digit_bd (m128 _) (by omega) hv).1, get_more hg (by omega) (by omega) (by omega)⟩ (by (try dsimp only); omega)
    ·
      refine h3 _ _ ?_
      clear h3
      refine seq fun K38 h38 => ?_
      refine stp (v := .int .i64 0) (o_mv rfl) ?_
      refine stp (v := .int .i64 0) (o_mv rfl) ?_
      refine stp (v := .int .i64 20) (o_mv rfl) ?_
      refine h38 _ _ ?_
      clear h38
      refine ⟨(.tuple [.int .i64 0, .int .i64 0, .int .i64 20].toArray), rfl, ?_⟩
      exact ⟨ret3 (get_end hg (by omega)), hM5.upd⟩

/-- winnowref2.Get -/
theorem refGet_ok (x : Value) (b : List UInt8) (w : World) (hx : RdB w x b) (hl : b.length ≤ 1152921504606846976) : Calls Try.prog 19 [x].toArray w (Rt fun r w' => r = tup3 (get b) ∧ Upd [] w w') := by
  have hM0 : Mem w [] w [] := Mem.nil w []
  refine calls_vc mixed Try.func19 rfl C19 (by simp [Try.ntmps19]) ?_
  refine seq fun K1 h1 => ?_
  refine stp (v := .int .i64 0) (o_mv rfl) ?_
  refine stp (v := .int .i64 0) (o_mv rfl) ?_
  refine stp (v := .int .i64 0) (o_mv rfl) ?_
  refine h1 _ _ ?_
  clear h1
  refine seq fun K2 h2 => ?_
  refine stp (v := .int .i64 0) (o_mv rfl) ?_
  refine h2 _ _ ?_
  clear h2
  refine seq fun K3 h3 => ?_
  refine stp (v := .int .i64 1) (o_mv rfl) ?_
  refine h3 _ _ ?_
  clear h3
  refine seq fun K4 h4 => ?_
  refine seq fun K5 h5 => ?_
  refine stp (v := .int .i64 0) (o_mv rfl) ?_
  refine h5 _ _ ?_
  clear h5
  refine lp (n := fun _ _ => False) (ι := (Nat) × (Nat)) (fun ⟨i, v⟩ f w' => f 0 = x ∧ f 5 = .int .i64 (v : Nat) ∧ f 6 = .int .i64 (128 ^ i : Nat) ∧ f 7 = .int .i64 (i : Nat) ∧ Mem w [] w' [] ∧ (i ≤ b.length ∧ i ≤ 8) ∧ (v < 128 ^ i) ∧ (get b = getA i v (b.drop i))) (fun ⟨i, v⟩ => b.length - i) (0, 0) ?_ ?_
  · exact ⟨rfl, by first | rfl | exact v_int (by omega) | exact v_int (by simp) | exact v_int (by simp; omega), by first | rfl | exact v_int (by omega) | exact v_int (by simp) | exact v_int (by simp; omega), by first | rfl | exact v_int (by omega) | exact v_int (by simp) | exact v_int (by simp; omega), hM0, by omega, by simp, rfl⟩
  · rintro ⟨i, v⟩ f w6 ⟨e6_0, e6_5, e6_6, e6_7, hM6, hi, hv, hg⟩ K7 h7
    obtain ⟨frm, rfl⟩ : ∃ frm, f = (upd (upd (upd (upd frm 0 (x)) 5 (.int .i64 (v : Nat))) 6 (.int .i64 (128 ^ i : Nat))) 7 (.int .i64 (i : Nat))) := ⟨f, by rw [upd_self e6_0, upd_self e6_5, upd_self e6_6, upd_self e6_7]⟩
    clear e6_0 e6_5 e6_6 e6_7
    refine seq fun K8 h8 => ?_
    refine seq fun K9 h9 => ?_
    refine stp (v := .int .i64 (i : Nat)) (o_mv rfl) ?_
    refine stp (v := x) (o_mv rfl) ?_
    refine stp (v := .int .i64 (b.length : Nat)) (o_lenR (hx.upd hM6.upd) rfl rfl) ?_
    refine stp (v := .bool (decide (((i : Nat) : Int) < (b.length : Nat)))) (o_bin rfl rfl rfl) ?_
    refine h9 _ _ ?_
    clear h9
    refine cndP rfl (fun c10 => ?_) (fun c10 => ?_)
    ·
      refine h8 _ _ ?_
      clear h8
      refine seq fun K11 h11 => ?_
      refine seq fun K12 h12 => ?_
      refine stp (v := x) (o_mv rfl) ?_
      refine stp (v := .int .i64 (i : Nat)) (o_mv rfl) ?_
      refine m_idxE 0 (j := i) (hx.upd hM6.upd) rfl rfl (by omega) fun b13 o13 hp13 => ?_
      refine ld (v := byteV (b.getD i 0)) rfl (hp13) ?_
      refine stp (v := .int .i64 ((b.getD i 0).toNat : Int)) (o_conv rfl (v_byteTo (by decide))) ?_
      refine stp (v := .int .i64 (((b.getD i 0).toNat : Int) % 128)) (o_rem rfl rfl (by omega) (v_rem (by omega))) ?_
      refine stp (v := .int .i64 (((b.getD i 0).toNat : Int) % 128)) (o_mv rfl) ?_
      refine h12 _ _ ?_
      clear h12
      refine seq fun K14 h14 => ?_
      refine stp (v := .int .i64 (v : Nat)) (o_mv rfl) ?_
      refine stp (v := .int .i64 (((b.getD i 0).toNat : Int) % 128)) (o_mv rfl) ?_
      refine stp (v := .int .i64 (128 ^ i : Nat)) (o_mv rfl) ?_
      refine stp (v := .int .i64 ((b.getD i 0).toNat % 128 * 128 ^ i : Nat)) (o_bin rfl rfl (ref_mul (by omega))) ?_
      refine stp (v := .int .i64 (v + (b.getD i 0).toNat % 128 * 128 ^ i : Nat)) (o_bin rfl rfl (v_add64 (by have := digit_bd (m128 (b.getD i 0)) (show i ≤ 8 by omega) hv; omega))) ?_
      refine stp (v := .int .i64 (v + (b.getD i 0).toNat % 128 * 128 ^ i : Nat)) (o_mv rfl) ?_
      refine h14 _ _ ?_
      clear h14
      refine seq fun K15 h15 => ?_
      refine seq fun K16 h16 => ?_
      refine stp (v := x) (o_mv rfl) ?_
      refine stp (v := .int .i64 (i : Nat)) (o_mv rfl) ?_
      refine m_idxE 0 (j := i) (hx.upd hM6.upd) rfl rfl (by omega) fun b17 o17 hp17 => ?_
      refine ld (v := byteV (b.getD i 0)) rfl (hp17) ?_
      refine stp (v := .bool (decide (((b.getD i 0).toNat : Int) < 128))) (o_bin rfl rfl rfl) ?_
      refine h16 _ _ ?_
      clear h16
      refine cndP rfl (fun c18 => ?_) (fun c18 => ?_)
      ·
        refine seq fun K19 h19 => ?_
        refine seq fun K20 h20 => ?_
        refine stp (v := .int .i64 (i : Nat)) (o_mv rfl) ?_
        refine stp (v := .bool (decide ((0 : Int) < ((i : Nat) : Int)))) (o_bin rfl rfl rfl) ?_
        refine stp (v := .bool (decide ((0 : Int) < ((i : Nat) : Int)))) (o_mv rfl) ?_
        refine splitP rfl (fun c21 => ?_) (fun c21 => ?_)
        ·
          refine stg rfl (v := x) (o_mv rfl) ?_
          refine stg rfl (v := .int .i64 (i : Nat)) (o_mv rfl) ?_
          refine gyes rfl rfl (m_idxE 0 (j := i) (hx.upd hM6.upd) rfl rfl (by omega) fun b22 o22 hp22 => ?_)
          refine gyesl rfl ?_
          refine ld (v := byteV (b.getD i 0)) rfl (hp22) ?_
          refine stg rfl (v := .bool (decide (((b.getD i 0).toNat : Int) = 0))) (o_bin rfl rfl rfl) ?_
          refine stp (v := .bool (decide (((b.getD i 0).toNat : Int) = 0))) (o_pickT rfl rfl) ?_
          refine h20 _ _ ?_
          clear h20
          refine cndP rfl (fun c23 => ?_) (fun c23 => ?_)
          ·
            refine seq fun K24 h24 => ?_
            refine stp (v := .int .i64 0) (o_mv rfl) ?_
            refine stp (v := .int .i64 0) (o_mv rfl) ?_
            refine stp (v := .int .i64 21) (o_mv rfl) ?_
            refine h24 _ _ ?_
            clear h24
            refine ⟨(.tuple [.int .i64 0, .int .i64 0, .int .i64 21].toArray), rfl, ?_⟩
            exact ⟨ret3 (get_zero hg (by omega) (by omega) (by omega)), hM6.upd⟩
          ·
            refine h19 _ _ ?_
            clear h19
            refine seq fun K25 h25 => ?_
            refine stp (v := .int .i64 (v + (b.getD i 0).toNat % 128 * 128 ^ i : Nat)) (o_mv rfl) ?_
            refine stp (v := .int .i64 (i : Nat)) (o_mv rfl) ?_
            refine stp (v := .int .i64 ((i : Nat) + 1)) (o_bin rfl rfl (v_add64 (by constructor <;> omega))) ?_
            refine stp (v := .int .i64 (v + (b.getD i 0).toNat % 128 * 128 ^ i : Nat)) (o_mv rfl) ?_
            refine stp (v := .int .i64 ((i : Nat) + 1)) (o_mv rfl) ?_
            refine stp (v := .int .i64 0) (o_mv rfl) ?_
            refine h25 _ _ ?_
            clear h25
            refine ⟨(.tuple [.int .i64 (v + (b.getD i 0).toNat % 128 * 128 ^ i : Nat), .int .i64 ((i : Nat) + 1), .int .i64 0].toArray), rfl, ?_⟩
            exact ⟨ret3 (get_stop hg (by omega) (by omega) (fun h => by have := h.1; have := h.2; omega)), hM6.upd⟩
        ·
          refine gno rfl (by simp) ?_
          refine gno rfl (by simp) ?_
          refine gno rfl (by simp) ?_
          refine gnol rfl (by simp) ?_
          refine gno rfl (by simp) ?_
          refine stp (v := .bool false) (o_pickF rfl rfl) ?_
          refine h20 _ _ ?_
          clear h20
          refine cndF rfl ?_
          refine h19 _ _ ?_
          clear h19
          refine seq fun K26 h26 => ?_
          refine stp (v := .int .i64 (v + (b.getD i 0).toNat % 128 * 128 ^ i : Nat)) (o_mv rfl) ?_
          refine stp (v := .int .i64 (i : Nat)) (o_mv rfl) ?_
          refine stp (v := .int .i64 ((i : Nat) + 1)) (o_bin rfl rfl (v_add64 (by constructor <;> omega))) ?_
          refine stp (v := .int .i64 (v + (b.getD i 0).toNat % 128 * 128 ^ i : Nat)) (o_mv rfl) ?_
          refine stp (v := .int .i64 ((i : Nat) + 1)) (o_mv rfl) ?_
          refine stp (v := .int .i64 0) (o_mv rfl) ?_
          refine h26 _ _ ?_
          clear h26
          refine ⟨(.tuple [.int .i64 (v + (b.getD i 0).toNat % 128 * 128 ^ i : Nat), .int .i64 ((i : Nat) + 1), .int .i64 0].toArray), rfl, ?_⟩
          exact ⟨ret3 (get_stop hg (by omega) (by omega) (fun h => by have := h.1; have := h.2; omega)), hM6.upd⟩
      ·
        refine h15 _ _ ?_
        clear h15
        refine seq fun K27 h27 => ?_
        refine seq fun K28 h28 => ?_
        refine stp (v := .int .i64 (i : Nat)) (o_mv rfl) ?_
        refine stp (v := .bool (decide (((i : Nat) : Int) = 8))) (o_bin rfl rfl rfl) ?_
        refine h28 _ _ ?_
        clear h28
        refine cndP rfl (fun c29 => ?_) (fun c29 => ?_)
        ·
          refine seq fun K30 h30 => ?_
          refine stp (v := .int .i64 0) (o_mv rfl) ?_
          refine stp (v := .int .i64 0) (o_mv rfl) ?_
          refine stp (v := .int .i64 21) (o_mv rfl) ?_
          refine h30 _ _ ?_
          clear h30
          refine ⟨(.tuple [.int .i64 0, .int .i64 0, .int .i64 21].toArray), rfl, ?_⟩
          exact ⟨ret3 (get_far hg (by omega) (by omega) (by omega)), hM6.upd⟩
        ·
          refine h27 _ _ ?_
          clear h27
          refine stp (v := .int .i64 (128 ^ i : Nat)) (o_mv rfl) ?_
          refine stp (v := .int .i64 (128 ^ (i + 1) : Nat)) (o_bin rfl rfl (ref_unit (by omega))) ?_
          refine stp (v := .int .i64 (128 ^ (i + 1) : Nat)) (o_mv rfl) ?_
          refine h11 _ _ ?_
          clear h11
          refine stp (v := .int .i64 (i : Nat)) (o_mv rfl) ?_
          refine stp (v := .int .i64 ((i : Nat) + 1)) (o_bin rfl rfl (v_add64 (by constructor <;> omega))) ?_
          refine stp (v := .int .i64 ((i : Nat) + 1)) (o_mv rfl) ?_
          refine h7 (i + 1, v + (b.getD i 0).toNat % 128 * 128 ^ i) _ _ ⟨rfl, by first | rfl | exact v_int (by omega) | exact v_int (by simp) | exact v_int (by simp; omega), by first | rfl | exact v_int (by omega) | exact v_int (by simp) | exact v_int (by simp; omega), by first | rfl | exact v_int (by omega) | exact v_int (by simp) | exact v_int (by simp; omega), hM6, by omega, (digit_bd (m128 _) (by omega) hv).1, get_more hg (by omega) (by omega) (by omega)⟩ (by (try dsimp only); omega)
    ·
      refine h4 _ _ ?_
      clear h4
      refine seq fun K31 h31 => ?_
      refine stp (v := .int .i64 0) (o_mv rfl) ?_
      refine stp (v := .int .i64 0) (o_mv rfl) ?_
      refine stp (v := .int .i64 20) (o_mv rfl) ?_
      refine h31 _ _ ?_
      clear h31
      refine ⟨(.tuple [.int .i64 0, .int .i64 0, .int .i64 20].toArray), rfl, ?_⟩
      exact ⟨ret3 (get_end hg (by omega)), hM6.upd⟩

/-- nums.Word -/
theorem Word_ok (x : Value) (b : List UInt8) (w : World) (hx : RdB w x b) (hl : b.length ≤ 1152921504606846976) : Calls Try.prog 20 [x].toArray w (Rt fun r w' => r = .int .u64 ((word b : Nat) : Int) ∧ Upd [] w w') := by
  have hM0 : Mem w [] w [] := Mem.nil w []
  refine calls_vc mixed Try.func20 rfl C20 (by simp [Try.ntmps20]) ?_
  refine seq fun K1 h1 => ?_
  refine stp (v := .int .u64 0) (o_mv rfl) ?_
  refine h1 _ _ ?_
  clear h1
  refine seq fun K2 h2 => ?_
  refine stp (v := .int .u64 0) (o_mv rfl) ?_
  refine h2 _ _ ?_
  clear h2
  refine seq fun K3 h3 => ?_
  refine seq fun K4 h4 => ?_
  refine stp (v := x) (o_mv rfl) ?_
  refine stp (v := .int .i64 (b.length : Nat)) (o_lenR (hx.upd hM0.upd) rfl rfl) ?_
  refine stp (v := .int .i64 (min ((b.length : Nat) : Int) (8 : Int))) (o_mm rfl rfl rfl) ?_
  refine stp (v := .int .i64 0) (o_mv rfl) ?_
  refine h4 _ _ ?_
  clear h4
  refine lp (n := fun _ _ => False) (ι := (Nat)) (fun i f w' => f 0 = x ∧ f 3 = .int .u64 (le (b.take i) : Nat) ∧ f 7 = .int .i64 (min b.length 8 : Nat) ∧ f 8 = .int .i64 (i : Nat) ∧ Mem w [] w' [] ∧ (i ≤ b.length ∧ i ≤ 8)) (fun i => b.length - i) (0) ?_ ?_
  · exact ⟨rfl, by first | rfl | exact v_int (by omega) | exact v_int (by simp) | exact v_int (by simp; omega), by first | rfl | exact v_int (by omega) | exact v_int (by simp) | exact v_int (by simp; omega), by first | rfl | exact v_int (by omega) | exact v_int (by simp) | exact v_int (by simp; omega), hM0, by omega⟩
  · rintro i f w5 ⟨e5_0, e5_3, e5_7, e5_8, hM5, hi⟩ K6 h6
    obtain ⟨frm, rfl⟩ : ∃ frm, f = (upd (upd (upd (upd frm 0 (x)) 3 (.int .u64 (le (b.take i) : Nat))) 7 (.int .i64 (min b.length 8 : Nat))) 8 (.int .i64 (i : Nat))) := ⟨f, by rw [upd_self e5_0, upd_self e5_3, upd_self e5_7, upd_self e5_8]⟩
    clear e5_0 e5_3 e5_7 e5_8
    refine seq fun K7 h7 => ?_
    refine stp (v := .bool (decide (((i : Nat) : Int) < (min b.length 8 : Nat)))) (o_bin rfl rfl rfl) ?_
    refine h7 _ _ ?_
    clear h7
    refine seq fun K8 h8 => ?_
    refine cndP rfl (fun c9 => ?_) (fun c9 => ?_)
    ·
      refine h8 _ _ ?_
      clear h8
      refine seq fun K10 h10 => ?_
      refine seq fun K11 h11 => ?_
      refine stp (v := .int .i64 (i : Nat)) (o_mv rfl) ?_
      refine stp (v := .int .i64 (i : Nat)) (o_mv rfl) ?_
      refine h11 _ _ ?_
      clear h11
      refine stp (v := .int .u64 (le (b.take i) : Nat)) (o_mv rfl) ?_
      refine stp (v := x) (o_mv rfl) ?_
      refine stp (v := .int .i64 (i : Nat)) (o_mv rfl) ?_
      refine m_idxE 0 (j := i) (hx.upd hM5.upd) rfl rfl (by omega) fun b12 o12 hp12 => ?_
      refine ld (v := byteV (b.getD i 0)) rfl (hp12) ?_
      refine stp (v := .int .u64 ((b.getD i 0).toNat : Int)) (o_conv rfl (v_byteTo (by decide))) ?_
      refine stp (v := .int .i64 (i : Nat)) (o_mv rfl) ?_
      refine stp (v := .int .i64 (8 * (i : Nat))) (o_bin rfl rfl (v_mul64 (by constructor <;> omega))) ?_
      refine stp (v := .int .u64 ((b.getD i 0).toNat * 256 ^ i : Nat)) (o_shl rfl rfl (by omega) (word_shl (by omega))) ?_
      refine stp (v := .int .u64 (le (b.take (i + 1)) : Nat)) (o_bin rfl rfl (word_or (by omega) (by omega))) ?_
      refine stp (v := .int .u64 (le (b.take (i + 1)) : Nat)) (o_mv rfl) ?_
      refine h10 _ _ ?_
      clear h10
      refine stp (v := .int .i64 ((i : Nat) + 1)) (o_bin rfl rfl (v_add64 (by constructor <;> omega))) ?_
      refine stp (v := .int .i64 ((i : Nat) + 1)) (o_mv rfl) ?_
      refine h6 (i + 1) _ _ ⟨rfl, by first | rfl | exact v_int (by omega) | exact v_int (by simp) | exact v_int (by simp; omega), by first | rfl | exact v_int (by omega) | exact v_int (by simp) | exact v_int (by simp; omega), by first | rfl | exact v_int (by omega) | exact v_int (by simp) | exact v_int (by simp; omega), hM5, by omega⟩ (by (try dsimp only); omega)
    ·
      refine h3 _ _ ?_
      clear h3
      refine seq fun K13 h13 => ?_
      refine stp (v := .int .u64 (le (b.take i) : Nat)) (o_mv rfl) ?_
      refine stp (v := .int .u64 (le (b.take i) : Nat)) (o_mv rfl) ?_
      refine h13 _ _ ?_
      clear h13
      refine ⟨(.int .u64 (le (b.take i) : Nat)), rfl, ?_⟩
      exact ⟨by rw [word_end (by omega) (by omega) (by omega)], hM5.upd⟩

/-- winnowref2.Word -/
theorem refWord_ok (x : Value) (b : List UInt8) (w : World) (hx : RdB w x b) (hl : b.length ≤ 1152921504606846976) : Calls Try.prog 21 [x].toArray w (Rt fun r w' => r = .int .u64 ((word b : Nat) : Int) ∧ Upd [] w w') := by
  have hM0 : Mem w [] w [] := Mem.nil w []
  refine calls_vc mixed Try.func21 rfl C21 (by simp [Try.ntmps21]) ?_
  refine seq fun K1 h1 => ?_
  refine stp (v := .int .u64 0) (o_mv rfl) ?_
  refine h1 _ _ ?_
  clear h1
  refine seq fun K2 h2 => ?_
  refine stp (v := .int .u64 0) (o_mv rfl) ?_
  refine h2 _ _ ?_
  clear h2
  refine seq fun K3 h3 => ?_
  refine stp (v := .int .u64 1) (o_mv rfl) ?_
  refine h3 _ _ ?_
  clear h3
  refine seq fun K4 h4 => ?_
  refine seq fun K5 h5 => ?_
  refine stp (v := .int .i64 0) (o_mv rfl) ?_
  refine h5 _ _ ?_
  clear h5
  refine lp (n := fun _ _ => False) (ι := (Nat)) (fun i f w' => f 0 = x ∧ f 3 = .int .u64 (le (b.take i) : Nat) ∧ f 4 = .int .u64 (256 ^ i % 18446744073709551616 : Nat) ∧ f 5 = .int .i64 (i : Nat) ∧ Mem w [] w' [] ∧ (i ≤ b.length ∧ i ≤ 8)) (fun i => b.length - i) (0) ?_ ?_
  · exact ⟨rfl, by first | rfl | exact v_int (by omega) | exact v_int (by simp) | exact v_int (by simp; omega), by first | rfl | exact v_int (by omega) | exact v_int (by simp) | exact v_int (by simp; omega), by first | rfl | exact v_int (by omega) | exact v_int (by simp) | exact v_int (by simp; omega), hM0, by omega⟩
  · rintro i f w6 ⟨e6_0, e6_3, e6_4, e6_5, hM6, hi⟩ K7 h7
    obtain ⟨frm, rfl⟩ : ∃ frm, f = (upd (upd (upd (upd frm 0 (x)) 3 (.int .u64 (le (b.take i) : Nat))) 4 (.int .u64 (256 ^ i % 18446744073709551616 : Nat))) 5 (.int .i64 (i : Nat))) := ⟨f, by rw [upd_self e6_0, upd_self e6_3, upd_self e6_4, upd_self e6_5]⟩
    clear e6_0 e6_3 e6_4 e6_5
    refine seq fun K8 h8 => ?_
    refine seq fun K9 h9 => ?_
    refine stp (v := .int .i64 (i : Nat)) (o_mv rfl) ?_
    refine stp (v := x) (o_mv rfl) ?_
    refine stp (v := .int .i64 (b.length : Nat)) (o_lenR (hx.upd hM6.upd) rfl rfl) ?_
    refine stp (v := .bool (decide (((i : Nat) : Int) < (b.length : Nat)))) (o_bin rfl rfl rfl) ?_
    refine stp (v := .bool (decide (((i : Nat) : Int) < (b.length : Nat)))) (o_mv rfl) ?_
    refine splitP rfl (fun c10 => ?_) (fun c10 => ?_)
    ·
      refine stg rfl (v := .int .i64 (i : Nat)) (o_mv rfl) ?_
      refine stg rfl (v := .bool (decide (((i : Nat) : Int) < 8))) (o_bin rfl rfl rfl) ?_
      refine stp (v := .bool (decide (((i : Nat) : Int) < 8))) (o_pickT rfl rfl) ?_
      refine h9 _ _ ?_
      clear h9
      refine cndP rfl (fun c11 => ?_) (fun c11 => ?_)
      ·
        refine h8 _ _ ?_
        clear h8
        refine seq fun K12 h12 => ?_
        refine seq fun K13 h13 => ?_
        refine stp (v := .int .u64 (le (b.take i) : Nat)) (o_mv rfl) ?_
        refine stp (v := x) (o_mv rfl) ?_
        refine stp (v := .int .i64 (i : Nat)) (o_mv rfl) ?_
        refine m_idxE 0 (j := i) (hx.upd hM6.upd) rfl rfl (by omega) fun b14 o14 hp14 => ?_
        refine ld (v := byteV (b.getD i 0)) rfl (hp14) ?_
        refine stp (v := .int .u64 ((b.getD i 0).toNat : Int)) (o_conv rfl (v_byteTo (by decide))) ?_
        refine stp (v := .int .u64 (256 ^ i % 18446744073709551616 : Nat)) (o_mv rfl) ?_
        refine stp (v := .int .u64 ((b.getD i 0).toNat * 256 ^ i : Nat)) (o_bin rfl rfl (wref_mul (by omega))) ?_
        refine stp (v := .int .u64 (le (b.take (i + 1)) : Nat)) (o_bin rfl rfl (wref_add (by omega) (by omega))) ?_
        refine stp (v := .int .u64 (le (b.take (i + 1)) : Nat)) (o_mv rfl) ?_
        refine h13 _ _ ?_
        clear h13
        refine stp (v := .int .u64 (256 ^ i % 18446744073709551616 : Nat)) (o_mv rfl) ?_
        refine stp (v := .int .u64 (256 ^ (i + 1) % 18446744073709551616 : Nat)) (o_bin rfl rfl (wref_unit _)) ?_
        refine stp (v := .int .u64 (256 ^ (i + 1) % 18446744073709551616 : Nat)) (o_mv rfl) ?_
        refine h12 _ _ ?_
        clear h12
        refine stp (v := .int .i64 (i : Nat)) (o_mv rfl) ?_
        refine stp (v := .int .i64 ((i : Nat) + 1)) (o_bin rfl rfl (v_add64 (by constructor <;> omega))) ?_
        refine stp (v := .int .i64 ((i : Nat) + 1)) (o_mv rfl) ?_
        refine h7 (i + 1) _ _ ⟨rfl, by first | rfl | exact v_int (by omega) | exact v_int (by simp) | exact v_int (by simp; omega), by first | rfl | exact v_int (by omega) | exact v_int (by simp) | exact v_int (by simp; omega), by first | rfl | exact v_int (by omega) | exact v_int (by simp) | exact v_int (by simp; omega), hM6, by omega⟩ (by (try dsimp only); omega)
      ·
        refine h4 _ _ ?_
        clear h4
        refine seq fun K15 h15 => ?_
        refine stp (v := .int .u64 (le (b.take i) : Nat)) (o_mv rfl) ?_
        refine stp (v := .int .u64 (le (b.take i) : Nat)) (o_mv rfl) ?_
        refine h15 _ _ ?_
        clear h15
        refine ⟨(.int .u64 (le (b.take i) : Nat)), rfl, ?_⟩
        exact ⟨by rw [word_end (by omega) (by omega) (by omega)], hM6.upd⟩
    ·
      refine gno rfl (by simp) ?_
      refine gno rfl (by simp) ?_
      refine stp (v := .bool false) (o_pickF rfl rfl) ?_
      refine h9 _ _ ?_
      clear h9
      refine cndF rfl ?_
      refine h4 _ _ ?_
      clear h4
      refine seq fun K16 h16 => ?_
      refine stp (v := .int .u64 (le (b.take i) : Nat)) (o_mv rfl) ?_
      refine stp (v := .int .u64 (le (b.take i) : Nat)) (o_mv rfl) ?_
      refine h16 _ _ ?_
      clear h16
      refine ⟨(.int .u64 (le (b.take i) : Nat)), rfl, ?_⟩
      exact ⟨by rw [word_end (by omega) (by omega) (by omega)], hM6.upd⟩
