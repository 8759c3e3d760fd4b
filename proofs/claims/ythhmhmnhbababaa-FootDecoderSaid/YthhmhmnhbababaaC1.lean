/- Sums. -/
import Derived.Test.YthhmhmnhbababaaE17
import Derived.Test.YthhmhmnhbababaaE23
import Derived.Test.YthhmhmnhbababaaM
namespace Go.Proofs.Ythhmhmnhbababaa.E
open Go
theorem drop_getD {a : List UInt8} {i : Nat} (h : i < a.length) : a.drop i = a.getD i 0 :: a.drop (i + 1) := by
 rw [List.drop_eq_getElem_cons h, List.getD_eq_getElem?_getD, List.getElem?_eq_getElem h]; rfl
def put (v : Nat) : List UInt8 := if h : v < 128 then [v.toUInt8] else (v % 128 + 128).toUInt8 :: put (v / 128)
termination_by v
def putI (v : Int) : List UInt8 := if v < 0 then [] else put v.toNat
theorem put_lt {v : Nat} (h : v < 128) : put v = [v.toUInt8] := by rw [put]; simp [h]
theorem put_ge {v : Nat} (h : 128 ≤ v) : put v = (v % 128 + 128).toUInt8 :: put (v / 128) := by rw [put]; simp [Nat.not_lt.2 h]
theorem put_len (k : Nat) : ∀ v : Nat, v < 128 ^ (k + 1) → (put v).length ≤ k + 1 := by
 induction k with
 | zero => intro v h; rw [put_lt (by simpa using h)]; simp
 | succ k ih =>
  intro v h
  by_cases h1 : v < 128
  ·rw [put_lt h1]; simp
  rw [put_ge (by omega)]
  have : v / 128 < 128 ^ (k + 1) := by rw [Nat.pow_succ] at h; omega
  have := ih _ this
  simp; omega
theorem putI_len {v : Int} (h : v ≤ 9223372036854775807) : (putI v).length ≤ 9 := by
 unfold putI; split
 ·simp
 exact put_len 8 _ (by simp; omega)
theorem putI_ge {v : Int} (h : 128 ≤ v) : putI v = (v % 128 + 128).toNat.toUInt8 :: putI (v / 128) := by
 unfold putI
 rw [if_neg (by omega), if_neg (by omega), put_ge (by omega)]
 congr 2
 ·omega
 congr 1; omega
theorem putI_lt {v : Int} (h0 : 0 ≤ v) (h : v < 128) : putI v = [v.toNat.toUInt8] := by
 unfold putI
 rw [if_neg (by omega), put_lt (by omega)]
theorem put_pos (v : Nat) : 0 < (put v).length := by rw [put]; split <;> simp
theorem putI_pos {v : Int} (h : 0 ≤ v) : 0 < (putI v).length := by unfold putI; rw [if_neg (by omega)]; exact put_pos _
theorem byteV_one (b : UInt8) : (byteV b).oneCell' = true := rfl
theorem Sl.snoc {t : TypeId} {v : Value} {p : List UInt8} {b : UInt8} {u : Value} {r : List Ent} (h : Sl 1 t v (p.length + 1) (p.map byteV ++ [u]) r) (hu : u = byteV b) : Sl 1 t v (p ++ [b]).length ((p ++ [b]).map byteV) r := by
 subst hu; simpa using h
theorem low_or8 : ∀ n : Fin 256, orI .u8 (n.val : Int) 128 = (n.val : Int) % 128 + 128 := by decide +kernel
theorem low_or (v : Int) : orI .u8 (v % 256) 128 = v % 128 + 128 := by
 have h := low_or8 ⟨(v % 256).toNat, by omega⟩
 simp only [] at h
 rw [Int.toNat_of_nonneg (by omega)] at h
 rw [h]; omega
def fixed (n v : Nat) : List UInt8 := (List.range n).map fun i => (v / 256 ^ i % 256).toUInt8
def fixedI (v n : Int) : List UInt8 := if n < 1 ∨ 8 < n then [] else fixed n.toNat v.toNat
theorem fixedI_none {v n : Int} (h : n < 1 ∨ 8 < n) : fixedI v n = [] := by unfold fixedI; rw [if_pos h]
theorem fixedI_some {v n : Int} (h : ¬ (n < 1 ∨ 8 < n)) : fixedI v n = fixed n.toNat v.toNat := by unfold fixedI; rw [if_neg h]
theorem fixed_length (n v : Nat) : (fixed n v).length = n := by simp [fixed]
theorem fixed_succ (n v : Nat) : fixed (n + 1) v = fixed n v ++ [(v / 256 ^ n % 256).toUInt8] := by simp [fixed, List.range_succ]
theorem fixed_set {n i v : Nat} (h : i < n) : (fixed i v ++ List.replicate (n - i) 0).set i (v / 256 ^ i % 256).toUInt8 = fixed (i + 1) v ++ List.replicate (n - (i + 1)) 0 := by
 rw [List.set_append_right _ _ (by rw [fixed_length]; exact Nat.le_refl _), fixed_length, Nat.sub_self, fixed_succ]
 obtain ⟨k, hk⟩ : ∃ k, n - i = k + 1 := ⟨n - i - 1, by omega⟩
 rw [hk, List.replicate_succ, List.set_cons_zero, show n - (i + 1) = k by omega]
 simp
theorem shr_byte {v : Int} {i : Nat} (h0 : 0 ≤ v) (hi : i < 8) : Value.int .u8 (IntKind.u8.wrap (shrI .u64 v (8 * (i : Int)))) = byteV (v.toNat / 256 ^ i % 256).toUInt8 := by
 have e1 : shrI .u64 v (8 * (i : Int)) = ((v.toNat / 256 ^ i : Nat) : Int) := by
  unfold shrI
  have e : (8 * (i : Int)).toNat = 8 * i := by omega
  rw [e]
  have e2 : min (8 * i) IntKind.u64.bits = 8 * i := Nat.min_eq_left (by simp only [IntKind.bits]; omega)
  rw [e2, Int.fdiv_eq_ediv_of_nonneg _ (by exact Int.le_of_lt (Int.pow_pos (by omega)))]
  have e3 : (2 : Int) ^ (8 * i) = ((256 ^ i : Nat) : Int) := by rw [Int.pow_mul]; simp
  rw [e3]
  obtain ⟨m, rfl⟩ := Int.eq_ofNat_of_zero_le h0
  rfl
 rw [e1, wrap_u8]
 have e3 : ((v.toNat / 256 ^ i : Nat) : Int) % 256 = ((v.toNat / 256 ^ i % 256 : Nat) : Int) := by omega
 rw [e3]
 exact byteV_of (by omega) (by omega)
theorem byte_mod (m : Nat) : Value.int .u8 ((m : Int) % 256 % 256) = byteV (m % 256).toUInt8 := by
 have e3 : (m : Int) % 256 % 256 = ((m % 256 : Nat) : Int) := by omega
 rw [e3]
 exact byteV_of (by omega) (by omega)
theorem take_succ_eq {a b : List UInt8} {i : Nat} (h : a.take i = b.take i) (ha : i < a.length) (hb : i < b.length) (he : a.getD i 0 = b.getD i 0) : a.take (i + 1) = b.take (i + 1) := by
 rw [List.take_add_one, List.take_add_one, h, List.getElem?_eq_getElem ha, List.getElem?_eq_getElem hb]
 simp only [List.getD_eq_getElem?_getD, List.getElem?_eq_getElem ha, List.getElem?_eq_getElem hb, Option.getD_some] at he
 rw [he]
theorem getD_ne {a b : List UInt8} {i : Nat} (h : ¬ ((a.getD i 0).toNat : Int) = ((b.getD i 0).toNat : Int)) : a ≠ b := fun e => h (by rw [e])
theorem fixed_len {n v : Nat} : (fixed n v).length = n := fixed_length n v
theorem fixedI_len {v n : Int} : (fixedI v n).length ≤ 8 := by
 unfold fixedI; split
 ·simp
 rw [fixed_length]; omega
def getA : Nat → Nat → List UInt8 → Nat × Nat × Int
 | _, _, [] => (0, 0, 20)
 | i, v, c :: r => if i = 8 ∧ 128 ≤ c.toNat then (0, 0, 21) else if c.toNat < 128 then (if c.toNat = 0 ∧ 0 < i then (0, 0, 21) else (v + c.toNat % 128 * 128 ^ i, i + 1, 0)) else getA (i + 1) (v + c.toNat % 128 * 128 ^ i) r
def get (b : List UInt8) : Nat × Nat × Int := getA 0 0 b
theorem get_far {b : List UInt8} {i v : Nat} (hg : get b = getA i v (b.drop i)) (hi : i < b.length) (h8 : (i : Int) = 8) (hc : (128 : Int) ≤ (b.getD i 0).toNat) : get b = (0, 0, 21) := by
 rw [hg, drop_getD hi, getA, if_pos ⟨by omega, by omega⟩]
theorem get_zero {b : List UInt8} {i v : Nat} (hg : get b = getA i v (b.drop i)) (hi : i < b.length) (h0 : (0 : Int) < i) (hc : ((b.getD i 0).toNat : Int) = 0) : get b = (0, 0, 21) := by
 rw [hg, drop_getD hi, getA, if_neg (by omega), if_pos (by omega), if_pos ⟨by omega, by omega⟩]
theorem get_stop {b : List UInt8} {i v : Nat} (hg : get b = getA i v (b.drop i)) (hi : i < b.length) (hc : ((b.getD i 0).toNat : Int) < 128) (h0 : ¬ ((b.getD i 0).toNat = 0 ∧ 0 < i)) : get b = (v + (b.getD i 0).toNat % 128 * 128 ^ i, i + 1, 0) := by
 rw [hg, drop_getD hi, getA, if_neg (by omega), if_pos (by omega), if_neg h0]
theorem get_more {b : List UInt8} {i v : Nat} (hg : get b = getA i v (b.drop i)) (hi : i < b.length) (h8 : i < 8) (hc : 128 ≤ (b.getD i 0).toNat) : get b = getA (i + 1) (v + (b.getD i 0).toNat % 128 * 128 ^ i) (b.drop (i + 1)) := by
 rw [hg, drop_getD hi, getA, if_neg (by omega), if_neg (by omega)]
theorem get_end {b : List UInt8} {i v : Nat} (hg : get b = getA i v (b.drop i)) (hi : b.length ≤ i) : get b = (0, 0, 20) := by
 rw [hg, List.drop_eq_nil_of_le hi, getA]
abbrev tup3 (t : Nat × Nat × Int) : Value := .tuple [.int .i64 (t.1 : Nat), .int .i64 (t.2.1 : Nat), .int .i64 t.2.2].toArray
theorem ret3 {b : List UInt8} {v n : Nat} {e : Int} (h : get b = (v, n, e)) : (.tuple [.int .i64 (v : Nat), .int .i64 (n : Nat), .int .i64 e].toArray : Value) = tup3 (get b) := by rw [h]
theorem pow_8 {i : Nat} (h : i ≤ 8) : 128 ^ i ≤ 72057594037927936 := Nat.le_trans (Nat.pow_le_pow_right (by omega) h) (by decide)
theorem digit_lt {d i : Nat} (hd : d < 128) : d * 128 ^ i + 128 ^ i ≤ 128 ^ (i + 1) := by
 rw [Nat.pow_succ]
 calc d * 128 ^ i + 128 ^ i = (d + 1) * 128 ^ i := by rw [Nat.add_mul]; omega
  _ ≤ 128 * 128 ^ i := Nat.mul_le_mul_right _ hd
  _ = 128 ^ i * 128 := Nat.mul_comm _ _
theorem digit_bd {d v i : Nat} (hd : d < 128) (hi : i ≤ 8) (hv : v < 128 ^ i) : v + d * 128 ^ i < 128 ^ (i + 1) ∧ v + d * 128 ^ i ≤ 9223372036854775807 ∧ d * 128 ^ i ≤ 9223372036854775807 := by
 have h1 := digit_lt (i := i) hd
 have h2 : 128 ^ (i + 1) ≤ 9223372036854775808 := Nat.le_trans (Nat.pow_le_pow_right (by omega) (show i + 1 ≤ 9 by omega)) (by decide)
 omega
theorem and127 (c : UInt8) : binI .and .u8 (c.toNat : Int) 127 = .int .u8 ((c.toNat % 128 : Nat) : Int) := by
 have hc := c.toNat_lt
 have h := andI_nat (k := .u8) (a := c.toNat) (b := 127) (by simpa [IntKind.bits] using hc) (by decide) (by
  have := Nat.and_le_left (n := c.toNat) (m := 127)
  simp only [inK]; omega)
 rw [show (127 : Nat) = 2 ^ 7 - 1 from rfl, and_low] at h
 exact v_int h
theorem get_shl {d i : Nat} (hd : d < 128) (hi : i ≤ 8) : Value.int .i64 (IntKind.i64.wrap ((d : Int) * 2 ^ min (7 * (i : Int)).toNat IntKind.i64.bits)) = .int .i64 ((d * 128 ^ i : Nat) : Int) := by
 have e : (7 * (i : Int)).toNat = 7 * i := by omega
 have h := shlI_nat (k := .i64) (a := d) (n := 7 * i) (by simp only [IntKind.bits]; omega) (by
  rw [← pow128]; have := (digit_bd (v := 0) hd hi (Nat.pow_pos (by omega))).2.2
  simp only [inK]; omega)
 unfold shlI at h
 rw [Int.toNat_natCast, ← pow128] at h
 rw [e]; exact v_int h
theorem get_or {v d i : Nat} (hd : d < 128) (hi : i ≤ 8) (hv : v < 128 ^ i) : binI .or .i64 (v : Int) ((d * 128 ^ i : Nat) : Int) = .int .i64 ((v + d * 128 ^ i : Nat) : Int) := by
 obtain ⟨h1, h2, h3⟩ := digit_bd hd hi hv
 have e := or_add (v := v) (d := d) (n := 7 * i) (by rw [← pow128]; exact hv)
 rw [← pow128] at e
 have h := orI_nat (k := .i64) (a := v) (b := d * 128 ^ i) (by simp only [IntKind.bits]; omega) (by simp only [IntKind.bits]; omega) (by rw [e]; simp only [inK]; omega)
 rw [e] at h
 exact v_int h
theorem ref_mul {c : UInt8} {i : Nat} (hi : i ≤ 8) : binI .mul .i64 ((c.toNat : Int) % 128) ((128 ^ i : Nat) : Int) = .int .i64 ((c.toNat % 128 * 128 ^ i : Nat) : Int) := by
 have hb := (digit_bd (v := 0) (d := c.toNat % 128) (Nat.mod_lt _ (by omega)) hi (Nat.pow_pos (by omega))).2.2
 have e : ((c.toNat : Int) % 128) * ((128 ^ i : Nat) : Int) = ((c.toNat % 128 * 128 ^ i : Nat) : Int) := by rw [Int.natCast_mul]; rfl
 rw [v_mul64 (by rw [e]; omega), e]
theorem ref_unit {i : Nat} (hi : i < 8) : binI .mul .i64 ((128 ^ i : Nat) : Int) 128 = .int .i64 ((128 ^ (i + 1) : Nat) : Int) := by
 have e : ((128 ^ i : Nat) : Int) * 128 = ((128 ^ (i + 1) : Nat) : Int) := by rw [Nat.pow_succ]; rfl
 have := pow_8 (i := i + 1) (by omega)
 rw [v_mul64 (by rw [e]; generalize 128 ^ (i + 1) = q at this ⊢; omega), e]
theorem m128 (c : UInt8) : c.toNat % 128 < 128 := Nat.mod_lt _ (by omega)
def le : List UInt8 → Nat
 | [] => 0
 | b :: r => b.toNat + 256 * le r
def word (b : List UInt8) : Nat := le (b.take 8)
theorem le_lt : ∀ l : List UInt8, le l < 256 ^ l.length
 | [] => by simp [le]
 | b :: r => by
  have h := le_lt r
  have hb := b.toNat_lt
  simp only [le, List.length_cons, Nat.pow_succ]
  have : 256 * le r + 256 ≤ 256 * 256 ^ r.length := by
   calc 256 * le r + 256 = 256 * (le r + 1) := by omega
    _ ≤ 256 * 256 ^ r.length := Nat.mul_le_mul_left _ h
  omega
theorem le_snoc : ∀ (l : List UInt8) (b : UInt8), le (l ++ [b]) = le l + b.toNat * 256 ^ l.length
 | [], b => by simp [le]
 | c :: r, b => by
  simp only [List.cons_append, le, le_snoc r b, List.length_cons, Nat.pow_succ, Nat.mul_add]
  have : 256 * (b.toNat * 256 ^ r.length) = b.toNat * (256 ^ r.length * 256) := by rw [Nat.mul_comm 256, Nat.mul_assoc]
  omega
theorem take_getD {b : List UInt8} {i : Nat} (h : i < b.length) : b.take (i + 1) = b.take i ++ [b.getD i 0] := by
 rw [List.take_add_one, List.getElem?_eq_getElem h, List.getD_eq_getElem?_getD, List.getElem?_eq_getElem h]; rfl
theorem le_take {b : List UInt8} {i : Nat} (h : i < b.length) : le (b.take (i + 1)) = le (b.take i) + (b.getD i 0).toNat * 256 ^ i := by
 rw [take_getD h, le_snoc]; simp [Nat.min_eq_left (Nat.le_of_lt h)]
theorem le_take_lt {b : List UInt8} {i : Nat} (h : i ≤ b.length) : le (b.take i) < 256 ^ i := by
 have := le_lt (b.take i)
 rwa [List.length_take, Nat.min_eq_left h] at this
theorem pow_256 {i : Nat} (h : i ≤ 8) : 256 ^ i ≤ 18446744073709551616 := Nat.le_trans (Nat.pow_le_pow_right (by omega) h) (by decide)
theorem byte_pow {c : UInt8} {i : Nat} (h : i < 8) : c.toNat * 256 ^ i + 256 ^ i ≤ 18446744073709551616 := by
 have h1 := pow_256 (i := i + 1) (by omega)
 have hc := c.toNat_lt
 rw [Nat.pow_succ] at h1
 have : (c.toNat + 1) * 256 ^ i ≤ 256 * 256 ^ i := Nat.mul_le_mul_right _ hc
 rw [Nat.add_mul] at this; omega
theorem word_shl {c : UInt8} {i : Nat} (hi : i < 8) : Value.int .u64 (IntKind.u64.wrap ((c.toNat : Int) * 2 ^ min (8 * (i : Int)).toNat IntKind.u64.bits)) = .int .u64 ((c.toNat * 256 ^ i : Nat) : Int) := by
 have e : (8 * (i : Int)).toNat = 8 * i := by omega
 have hp : 0 < 256 ^ i := Nat.pow_pos (by omega)
 have hb := byte_pow (c := c) hi
 have h := shlI_nat (k := .u64) (a := c.toNat) (n := 8 * i) (by simp only [IntKind.bits]; omega) (by rw [← pow256]; simp only [inK]; omega)
 unfold shlI at h
 rw [Int.toNat_natCast, ← pow256] at h
 rw [e]; exact v_int h
theorem word_or {b : List UInt8} {i : Nat} (hi : i < 8) (hl : i < b.length) : binI .or .u64 (le (b.take i) : Int) (((b.getD i 0).toNat * 256 ^ i : Nat) : Int) = .int .u64 ((le (b.take (i + 1)) : Nat) : Int) := by
 have h1 := le_take_lt (b := b) (i := i) (by omega)
 have hb := byte_pow (c := b.getD i 0) hi
 have e := or_add (v := le (b.take i)) (d := (b.getD i 0).toNat) (n := 8 * i) (by rw [← pow256]; exact h1)
 rw [← pow256] at e
 have h := orI_nat (k := .u64) (a := le (b.take i)) (b := (b.getD i 0).toNat * 256 ^ i) (by simp only [IntKind.bits]; omega) (by simp only [IntKind.bits]; omega) (by rw [e]; simp only [inK]; omega)
 rw [e] at h
 rw [le_take hl]; exact v_int h
theorem wref_mul {c : UInt8} {i : Nat} (hi : i < 8) : binI .mul .u64 (c.toNat : Int) ((256 ^ i % 18446744073709551616 : Nat) : Int) = .int .u64 ((c.toNat * 256 ^ i : Nat) : Int) := by
 have hb := byte_pow (c := c) hi
 have h1 : 256 ^ i < 18446744073709551616 := Nat.lt_of_lt_of_le (Nat.pow_lt_pow_right (by omega) hi) (by decide)
 rw [Nat.mod_eq_of_lt h1]
 have hp : 0 < 256 ^ i := Nat.pow_pos (by omega)
 show Value.int .u64 (IntKind.u64.wrap _) = _
 rw [← Int.natCast_mul]
 exact v_same (by simp only [inK]; omega)
theorem wref_add {b : List UInt8} {i : Nat} (hi : i < 8) (hl : i < b.length) : binI .add .u64 (le (b.take i) : Int) (((b.getD i 0).toNat * 256 ^ i : Nat) : Int) = .int .u64 ((le (b.take (i + 1)) : Nat) : Int) := by
 have h1 := le_take_lt (b := b) (i := i) (by omega)
 have hb := byte_pow (c := b.getD i 0) hi
 rw [le_take hl]
 show Value.int .u64 (IntKind.u64.wrap _) = _
 rw [← Int.natCast_add]
 exact v_same (by simp only [inK]; omega)
theorem wref_unit (i : Nat) : binI .mul .u64 ((256 ^ i % 18446744073709551616 : Nat) : Int) 256 = .int .u64 ((256 ^ (i + 1) % 18446744073709551616 : Nat) : Int) := by
 show Value.int .u64 (IntKind.u64.wrap _) = _
 rw [wrap_u64, Nat.pow_succ]
 apply v_int
 have : (256 ^ i * 256 % 18446744073709551616 : Nat) = (256 ^ i % 18446744073709551616) * 256 % 18446744073709551616 := by rw [Nat.mod_mul_mod]
 omega
theorem word_end {b : List UInt8} {i : Nat} (hi : i ≤ b.length) (hi8 : i ≤ 8) (h : b.length ≤ i ∨ 8 ≤ i) : le (b.take i) = word b := by
 unfold word
 rcases h with h | h
 ·rw [List.take_of_length_le h, List.take_of_length_le (by omega)]
 rw [show i = 8 by omega]
theorem getA_put (r : List UInt8) : ∀ (n u i v : Nat), u < n → i ≤ 8 → u < 128 ^ (9 - i) → (0 < i → 0 < u) → getA i v (put u ++ r) = (v + u * 128 ^ i, i + (put u).length, 0) := by
 intro n
 induction n with
 | zero => intro u i v h; omega
 | succ n ih =>
  intro u i v hn hi hu h0
  by_cases h1 : u < 128
  ·rw [put_lt h1]
   have e : u.toUInt8.toNat = u := by simp; omega
   simp only [List.cons_append, List.nil_append, getA, e, List.length_singleton]
   rw [if_neg (by omega), if_pos h1, if_neg (by omega), Nat.mod_eq_of_lt h1]
  rw [put_ge (by omega)]
  have e : (u % 128 + 128).toUInt8.toNat = u % 128 + 128 := by simp; omega
  have h8 : i ≠ 8 := by intro h; subst h; simp at hu; omega
  simp only [List.cons_append, getA, e, List.length_cons]
  rw [if_neg (by omega), if_neg (by omega), ih _ _ _ (by omega) (by omega) ?_ (by intro; omega)]
  ·have e2 : (u % 128 + 128) % 128 = u % 128 := by omega
   rw [e2, Nat.pow_succ]
   refine Prod.ext ?_ (Prod.ext ?_ rfl)
   ·simp only
    have : u / 128 * (128 ^ i * 128) = (u / 128 * 128) * 128 ^ i := by rw [Nat.mul_comm (128 ^ i), ← Nat.mul_assoc]
    rw [this, Nat.add_assoc, ← Nat.add_mul]
    congr 2; omega
   simp only; omega
  have : 128 ^ (9 - i) = 128 ^ (9 - (i + 1)) * 128 := by rw [← Nat.pow_succ]; congr 1; omega
  rw [this] at hu; omega
theorem get_put {v : Int} (h0 : 0 ≤ v) (h : v ≤ 9223372036854775807) (r : List UInt8) : get (putI v ++ r) = (v.toNat, (putI v).length, 0) := by
 unfold get putI
 rw [if_neg (by omega), getA_put r (v.toNat + 1) v.toNat 0 0 (by omega) (by omega) (by
  have : (128 : Nat) ^ (9 - 0) = 9223372036854775808 := by decide
  omega) (by omega)]
 simp
theorem getA_inv : ∀ (b : List UInt8) (i v x m : Nat), getA i v b = (x, m, 0) → i ≤ 8 → ∃ u n, b.take n = put u ∧ n ≤ b.length ∧ 1 ≤ n ∧ m = i + n ∧ x = v + u * 128 ^ i ∧ (0 < i → 0 < u)
 | [], i, v, x, m, h, _ => by simp [getA] at h
 | c :: r, i, v, x, m, h, hi => by
  have hc := c.toNat_lt
  simp only [getA] at h
  split at h
  ·simp at h
  rename_i h8
  split at h
  ·rename_i hlt
   split at h
   ·simp at h
   rename_i hz
   simp only [Prod.mk.injEq, and_true] at h
   refine ⟨c.toNat, 1, ?_, by simp, by omega, by omega, ?_, by omega⟩
   ·rw [put_lt hlt]; simp
   rw [← h.1, Nat.mod_eq_of_lt hlt]
  rename_i hge
  obtain ⟨u, n, h1, h2, h3, h4, h5, h6⟩ := getA_inv r _ _ _ _ h (by omega)
  refine ⟨c.toNat % 128 + 128 * u, n + 1, ?_, by simp; omega, by omega, by omega, ?_, by omega⟩
  ·rw [put_ge (by have := h6 (by omega); omega), List.take_succ_cons, h1]
   congr 1
   ·have : (c.toNat % 128 + 128 * u) % 128 + 128 = c.toNat := by omega
    rw [this]; simp
   congr 1; omega
  rw [h5, Nat.pow_succ, Nat.add_mul, Nat.add_assoc]
  congr 2
  rw [Nat.mul_comm (128 ^ i), ← Nat.mul_assoc, Nat.mul_comm u]
theorem getA_bd : ∀ (b : List UInt8) (i v : Nat), i ≤ 8 → v < 128 ^ i → (getA i v b).1 < 9223372036854775808
 | [], i, v, _, _ => by simp [getA]
 | c :: r, i, v, hi, hv => by
  have hb := digit_bd (m128 c) hi hv
  simp only [getA]
  split
  ·simp
  split
  ·split
   ·simp
   simp only; omega
  exact getA_bd r _ _ (by omega) hb.1
theorem getA_err : ∀ (b : List UInt8) (i v : Nat), ((getA i v b).2.2 = 0 ∨ (getA i v b).2.2 = 20 ∨ (getA i v b).2.2 = 21) ∧ (¬ (getA i v b).2.2 = 0 → (getA i v b).1 = 0 ∧ (getA i v b).2.1 = 0)
 | [], i, v => by simp [getA]
 | c :: r, i, v => by
  simp only [getA]
  split
  ·simp
  split
  ·split <;> simp
  exact getA_err r _ _
theorem getA_short : ∀ (b : List UInt8) (i v : Nat), i ≤ 8 → (getA i v b).2.2 = 20 → b.length + i ≤ 8 ∧ (getA i v (b ++ [1])).2.2 = 0 ∧ (getA i v (b ++ [1])).2.1 = i + b.length + 1
 | [], i, v, hi, h => by
  have : (1 : UInt8).toNat = 1 := rfl
  simp [getA, this]; omega
 | c :: r, i, v, hi, h => by
  simp only [getA, List.cons_append] at h ⊢
  split at h
  ·simp at h
  rename_i h8
  rw [if_neg h8]
  split at h
  ·split at h <;> simp at h
  rename_i hge
  rw [if_neg hge]
  obtain ⟨h1, h2, h3⟩ := getA_short r _ _ (by omega) h
  refine ⟨by simp; omega, h2, by rw [h3]; simp; omega⟩
theorem getA_bad : ∀ (b : List UInt8) (i v : Nat), (getA i v b).2.2 = 21 → (getA i v (b ++ [1])).2.2 = 21
 | [], i, v, h => by simp [getA] at h
 | c :: r, i, v, h => by
  simp only [getA, List.cons_append] at h ⊢
  split at h
  ·rename_i h8; rw [if_pos h8]
  rename_i h8
  rw [if_neg h8]
  split at h
  ·rename_i hlt
   rw [if_pos hlt]
   split at h
   ·rename_i hz; rw [if_pos hz]
   simp at h
  rename_i hge
  rw [if_neg hge]
  exact getA_bad r _ _ h
theorem get_ok {b : List UInt8} (h : (get b).2.2 = 0) : 1 ≤ (get b).2.1 ∧ (get b).2.1 ≤ b.length ∧ putI ((get b).1 : Nat) = b.take (get b).2.1 := by
 obtain ⟨u, n, h1, h2, h3, h4, h5, h6⟩ := getA_inv b 0 0 (get b).1 (get b).2.1 (by rw [← h]; rfl) (by omega)
 simp at h4 h5
 refine ⟨by omega, by omega, ?_⟩
 unfold putI
 rw [if_neg (by omega), h4, h1, h5]; simp
theorem le_fixed (n : Nat) : ∀ v, le (fixed n v) = v % 256 ^ n := by
 induction n with
 | zero => intro v; simp [fixed, le, Nat.mod_one]
 | succ n ih =>
  intro v
  rw [fixed_succ, le_snoc, fixed_length, ih]
  have : (v / 256 ^ n % 256).toUInt8.toNat = v / 256 ^ n % 256 := by simp
  rw [this, Nat.pow_succ, Nat.mod_mul, Nat.mul_comm]
theorem fixed_le : ∀ (b : List UInt8), fixed b.length (le b) = b := by
 intro b
 apply List.ext_getElem (by rw [fixed_length])
 intro i h1 h2
 simp only [fixed, List.getElem_map, List.getElem_range]
 have key : ∀ (l : List UInt8) (i : Nat) (h : i < l.length), le l / 256 ^ i % 256 = l[i].toNat := by
  intro l
  induction l with
  | nil => intro i h; simp at h
  | cons c r ih =>
   intro i h
   have hc := c.toNat_lt
   cases i with
   | zero => simp only [le, Nat.pow_zero, Nat.div_one, List.getElem_cons_zero]; omega
   | succ i =>
    simp only [le, List.getElem_cons_succ, Nat.pow_succ]
    rw [Nat.mul_comm (256 ^ i), ← Nat.div_div_eq_div_mul, show (c.toNat + 256 * le r) / 256 = le r by omega]
    exact ih i (by simpa using h)
 rw [key b i h2]
 simp
theorem word_fixed {v : Int} (h : 0 ≤ v ∧ v ≤ 18446744073709551615) : (word (fixedI v 8) : Int) = v := by
 rw [fixedI_some (by omega)]
 unfold word
 rw [List.take_of_length_le (by rw [fixed_length]; decide), le_fixed, Nat.mod_eq_of_lt (by
  have : (256 : Nat) ^ (8 : Int).toNat = 18446744073709551616 := by decide
  rw [this]; omega)]
 omega
theorem fixed_word {b : List UInt8} (h0 : 0 < b.length) (h : b.length ≤ 8) : fixedI (word b : Nat) (b.length : Nat) = b := by
 rw [fixedI_some (by omega), Int.toNat_natCast, Int.toNat_natCast]
 unfold word
 rw [List.take_of_length_le h, fixed_le]
theorem word_lt (b : List UInt8) : word b < 18446744073709551616 := by
 unfold word
 have h := le_lt (b.take 8)
 have h2 : 256 ^ (b.take 8).length ≤ 256 ^ 8 := Nat.pow_le_pow_right (by omega) (by simp; omega)
 omega
theorem Word_ok (x : Value) (b : List UInt8) (w : World) (hx : RdB w x b) (hl : b.length ≤ 1152921504606846976) : Calls Try.prog 50 [x].toArray w (Rt fun r w' => r = .int .u64 ((word b : Nat) : Int) ∧ Upd [] w w') := by
 have hM0 : Mem w [] w [] := Mem.nil w []
 refine calls_vc mixed Try.func50 rfl C50 (by simp [Try.ntmps50]) <| seq fun _ h1 => mv <| h1 _ _ <| seq fun _ h2 => mv <| h2 _ _ <| seq fun _ h3 => seq fun _ h4 => mv <| stp (v := .int .i64 (b.length : Nat)) (o_lenR (hx.upd hM0.upd) rfl rfl) <| stp (v := .int .i64 (min ((b.length : Nat) : Int) (8 : Int))) (o_mm rfl rfl rfl) <| mv <| h4 _ _ ?_
 refine lp (n := fun _ _ => False) (ι := (Nat)) (fun i f w' => f 0 = x ∧ f 3 = .int .u64 (le (b.take i) : Nat) ∧ f 7 = .int .i64 (min b.length 8 : Nat) ∧ f 8 = .int .i64 (i : Nat) ∧ Mem w [] w' [] ∧ (i ≤ b.length ∧ i ≤ 8)) (fun i => b.length - i) (0) ?_ ?_
 ·exact ⟨rfl, vi, vi, vi, hM0, by omega⟩
 rintro i f w5 ⟨e5_0, e5_3, e5_7, e5_8, hM5, hi⟩ K6 h6
 obtain ⟨frm, rfl⟩ := re4 e5_0 e5_3 e5_7 e5_8
 refine seq fun _ h7 => bn rfl rfl <| h7 _ _ <| seq fun _ h8 => cndP rfl (fun c9 => ?_) (fun c9 => ?_)
 ·refine h8 _ _ <| seq fun _ h10 => seq fun _ h11 => mv <| mv <| h11 _ _ <| mv <| mv <| mv <| m_idxE 0 (j := i) (hx.upd hM5.upd) rfl rfl (by omega) fun b12 o12 hp12 => ld (v := byteV (b.getD i 0)) rfl (hp12) <| stp (v := .int .u64 ((b.getD i 0).toNat : Int)) (o_conv rfl (v_byteTo (by decide))) <| mv <| stp (v := .int .i64 (8 * (i : Nat))) (o_bin rfl rfl (v_mul64 (by omega))) ?_
  refine stp (v := .int .u64 ((b.getD i 0).toNat * 256 ^ i : Nat)) (o_shl rfl rfl (by omega) (word_shl (by omega))) <| stp (v := .int .u64 (le (b.take (i + 1)) : Nat)) (o_bin rfl rfl (word_or (by omega) (by omega))) <| mv <| h10 _ _ <| stp (v := .int .i64 ((i : Nat) + 1)) (o_bin rfl rfl (v_add64 (by omega))) <| mv <| h6 (i + 1) _ _ ⟨rfl, vi, vi, vi, hM5, by omega⟩ (by (try dsimp only); omega)
 refine h3 _ _ <| seq fun _ h13 => mv <| mv <| h13 _ _ <| ⟨(.int .u64 (le (b.take i) : Nat)), rfl, ⟨by rw [word_end (by omega) (by omega) (by omega)], hM5.upd⟩⟩
def stepN (x : Nat) : Nat := if x % 2 = 1 then x / 2 ^^^ 2197175160 else x / 2
theorem stepN_lt {x : Nat} (h : x < 4294967296) : stepN x < 4294967296 := by
 unfold stepN
 split
 ·exact Nat.xor_lt_two_pow (n := 32) (by omega) (by omega)
 omega
theorem stepN_xor (a b : Nat) : stepN (a ^^^ b) = stepN a ^^^ stepN b := by
 unfold stepN
 have hd : (a ^^^ b) / 2 = a / 2 ^^^ b / 2 := by
  apply Nat.eq_of_testBit_eq
  intro i
  rw [Nat.testBit_div_two, Nat.testBit_xor, Nat.testBit_xor, Nat.testBit_div_two, Nat.testBit_div_two]
 have hp : ((a ^^^ b) % 2 = 1) ↔ ¬ ((a % 2 = 1) ↔ (b % 2 = 1)) := by
  have h1 : ∀ n : Nat, (n % 2 = 1) ↔ n.testBit 0 = true := fun n => by rw [Nat.testBit_zero]; simp
  rw [h1, h1, h1, Nat.testBit_xor]
  cases a.testBit 0 <;> cases b.testBit 0 <;> simp
 by_cases ha : a % 2 = 1 <;> by_cases hb : b % 2 = 1
 ·rw [if_neg (by rw [hp]; simp [ha, hb]), if_pos ha, if_pos hb, hd]
  rw [Nat.xor_assoc, ← Nat.xor_assoc 2197175160, Nat.xor_comm 2197175160, Nat.xor_assoc, Nat.xor_self, Nat.xor_zero]
 ·rw [if_pos (by rw [hp]; simp [ha, hb]), if_pos ha, if_neg hb, hd, Nat.xor_assoc, Nat.xor_comm (b / 2), ← Nat.xor_assoc]
 ·rw [if_pos (by rw [hp]; simp [ha, hb]), if_neg ha, if_pos hb, hd, Nat.xor_assoc]
 rw [if_neg (by rw [hp]; simp [ha, hb]), if_neg ha, if_neg hb, hd]
def stepK : Nat → Nat → Nat
 | 0, x => x
 | k + 1, x => stepN (stepK k x)
theorem stepK_lt {x : Nat} (h : x < 4294967296) : ∀ k, stepK k x < 4294967296
 | 0 => h
 | k + 1 => stepN_lt (stepK_lt h k)
theorem stepK_xor (k a b : Nat) : stepK k (a ^^^ b) = stepK k a ^^^ stepK k b := by
 induction k with
 | zero => rfl
 | succ k ih => show stepN (stepK k (a ^^^ b)) = _; rw [ih, stepN_xor]; rfl
theorem stepK_add (j k x : Nat) : stepK j (stepK k x) = stepK (j + k) x := by
 induction j with
 | zero => rw [Nat.zero_add]; rfl
 | succ j ih => rw [Nat.succ_add]; show stepN (stepK j (stepK k x)) = stepN (stepK (j + k) x); rw [ih]
theorem stepN_two (z : Nat) : stepN (2 * z) = z := by unfold stepN; rw [if_neg (by omega)]; omega
theorem stepK_hi (y : Nat) : stepK 4 (16 * y) = y := by
 show stepN (stepN (stepN (stepN (16 * y)))) = y
 rw [show 16 * y = 2 * (2 * (2 * (2 * y))) by omega, stepN_two, stepN_two, stepN_two, stepN_two]
theorem split16 (x : Nat) : x = 16 * (x / 16) ^^^ x % 16 := by
 apply Nat.eq_of_testBit_eq
 intro i
 have h := Nat.testBit_two_pow_mul_add (x / 16) (i := 4) (b := x % 16) (by omega) i
 have e : 2 ^ 4 * (x / 16) + x % 16 = x := by omega
 rw [e] at h
 have e2 : 16 * (x / 16) = 2 ^ 4 * (x / 16) := by omega
 rw [h, Nat.testBit_xor, e2, Nat.testBit_two_pow_mul]
 by_cases c : i < 4
 ·rw [if_pos c, decide_eq_false (by omega)]; simp
 rw [if_neg c, decide_eq_true (by omega)]
 have h3 : (x % 16).testBit i = false := Nat.testBit_lt_two_pow (by
  have : 2 ^ 4 ≤ 2 ^ i := Nat.pow_le_pow_right (by omega) (by omega)
  omega)
 rw [h3]; simp
theorem nib (x : Nat) : x / 16 ^^^ stepK 4 (x % 16) = stepK 4 x := by
 conv => rhs; rw [split16 x, stepK_xor, stepK_hi]
def crcX (x : Nat) (b : List UInt8) : Nat := b.foldl (fun x c => stepK 8 (x ^^^ c.toNat)) x
theorem crcX_lt : ∀ {b : List UInt8} {x : Nat}, x < 4294967296 → crcX x b < 4294967296
 | [], _, h => h
 | c :: b, x, h => by
  have hc := c.toNat_lt
  exact crcX_lt (b := b) (stepK_lt (Nat.xor_lt_two_pow (n := 32) (by omega) (by omega)) 8)
def crcN (s : Nat) (b : List UInt8) : Nat := 4294967295 - crcX (4294967295 - s) b
theorem crcN_lt (s : Nat) (b : List UInt8) : crcN s b < 4294967296 := by unfold crcN; omega
theorem cpl32 {n : Nat} (h : n < 4294967296) : 4294967295 ^^^ n = 4294967295 - n := by
 apply Nat.eq_of_testBit_eq
 intro i
 have h1 := Nat.testBit_two_pow_sub_succ (x := n) (n := 32) (by omega) i
 have h2 := Nat.testBit_two_pow_sub_one 32 i
 have e : (2 : Nat) ^ 32 = 4294967296 := rfl
 rw [e] at h1 h2
 rw [show 4294967296 - (n + 1) = 4294967295 - n by omega] at h1
 rw [show 4294967296 - 1 = 4294967295 from rfl] at h2
 rw [Nat.testBit_xor, h2, h1]
 by_cases c : i < 32
 ·rw [decide_eq_true c]; simp
 rw [decide_eq_false c, Nat.testBit_lt_two_pow (by
  have : 2 ^ 32 ≤ 2 ^ i := Nat.pow_le_pow_right (by omega) (by omega)
  have e : (2 : Nat) ^ 32 = 4294967296 := rfl
  omega)]; simp
theorem xor32 {a b : Nat} (ha : a < 4294967296) (hb : b < 4294967296) : xorI .u32 (a : Int) (b : Int) = ((a ^^^ b : Nat) : Int) :=
 xorI_nat (k := .u32) ha hb (by have := Nat.xor_lt_two_pow (n := 32) (x := a) (y := b) ha hb; simp only [inK]; omega)
theorem xor32_lt {a b : Nat} (ha : a < 4294967296) (hb : b < 4294967296) : a ^^^ b < 4294967296 := Nat.xor_lt_two_pow (n := 32) ha hb
theorem xor32_cpl {n : Nat} (h : n < 4294967296) : xorI .u32 4294967295 (n : Int) = ((4294967295 - n : Nat) : Int) := by
 have := xor32 (a := 4294967295) (b := n) (by omega) h
 rw [cpl32 h] at this
 exact this
theorem shr32 {n j : Nat} {z : Int} (hj : j < 32) (hz : z = (j : Int)) : Value.int .u32 ((n : Int).fdiv (2 ^ min z.toNat IntKind.u32.bits)) = .int .u32 ((n / 2 ^ j : Nat) : Int) := by
 subst hz; exact v_int (shrI_nat (k := .u32) (by simp only [IntKind.bits]; omega))
theorem and32_nat {a b : Nat} (ha : a < 4294967296) (hb : b < 4294967296) : binI .and .u32 (a : Int) (b : Int) = .int .u32 ((a &&& b : Nat) : Int) := by
 show Value.int .u32 (IntKind.u32.wrap (BitVec.ofInt 32 (a : Int) &&& BitVec.ofInt 32 (b : Int)).toNat) = _
 have h4 : a &&& b < 4294967296 := Nat.lt_of_le_of_lt Nat.and_le_left ha
 have e1 : (BitVec.ofInt 32 (a : Int)).toNat = a := by simp; omega
 have e2 : (BitVec.ofInt 32 (b : Int)).toNat = b := by simp; omega
 rw [BitVec.toNat_and, e1, e2, wrap_u32]
 exact v_int (by omega)
theorem and15 {a : Nat} (ha : a < 4294967296) : binI .and .u32 (a : Int) 15 = .int .u32 ((a % 16 : Nat) : Int) := by
 have := and32_nat (a := a) (b := 15) ha (by omega)
 rw [show a &&& 15 = a % 16 from Nat.and_two_pow_sub_one_eq_mod a 4] at this
 exact this
theorem and1 {a : Nat} (ha : a < 4294967296) : binI .and .u32 (a : Int) 1 = .int .u32 ((a % 2 : Nat) : Int) := by
 have := and32_nat (a := a) (b := 1) ha (by omega)
 rw [show a &&& 1 = a % 2 from Nat.and_two_pow_sub_one_eq_mod a 1] at this
 exact this
def tabN (n : Nat) : List Nat := (List.range 16).map fun i => if i < n then stepK 4 i else 0
def tabI (n : Nat) : List Value := (tabN n).map fun (x : Nat) => Value.int .u32 (x : Int)
theorem tabN_length (n : Nat) : (tabN n).length = 16 := by unfold tabN; simp
theorem tabI_length (n : Nat) : (tabI n).length = 16 := by unfold tabI; rw [List.length_map, tabN_length]
theorem tabI_zero : tabI 0 = List.replicate 16 (.int .u32 0) := rfl
theorem tabI_get {j : Nat} (h : j < 16) : (tabI 16)[j]? = some (.int .u32 ((stepK 4 j : Nat) : Int)) := by
 unfold tabI tabN
 rw [List.getElem?_map, List.getElem?_map, List.getElem?_range h]
 show some (Value.int .u32 (((if j < 16 then stepK 4 j else 0 : Nat)) : Int)) = _
 rw [if_pos h]
theorem tabI_set {n : Nat} (h : n < 16) : (tabI n).set n (.int .u32 ((stepK 4 n : Nat) : Int)) = tabI (n + 1) := by
 apply List.ext_getElem?
 intro i
 rw [List.getElem?_set, tabI_length]
 by_cases hi : i < 16
 ·unfold tabI tabN
  rw [List.getElem?_map, List.getElem?_map, List.getElem?_map, List.getElem?_map, List.getElem?_range hi]
  simp only [Option.map_some]
  split
  ·rename_i e; subst e
   rw [if_pos (show n < n + 1 by omega)]
  by_cases c : i < n
  ·rw [if_pos c, if_pos (show i < n + 1 by omega)]
  rw [if_neg c, if_neg (show ¬ i < n + 1 by omega)]
 rw [if_neg (by omega), List.getElem?_eq_none (by rw [tabI_length]; omega), List.getElem?_eq_none (by rw [tabI_length]; omega)]
theorem tabI_one (n : Nat) : oneCells (tabI n) := by
 intro c hc
 obtain ⟨x, _, rfl⟩ := List.mem_map.1 hc
 rfl
theorem crcX_succ {s : Nat} {b : List UInt8} {i : Nat} (h : i < b.length) : crcX s (b.take (i + 1)) = stepK 8 (crcX s (b.take i) ^^^ (b.getD i 0).toNat) := by
 unfold crcX; rw [takeG 0 h, List.foldl_append]; rfl
theorem fixed4 (s : Nat) : fixed 4 s = [(s % 256).toUInt8, (s / 256 % 256).toUInt8, (s / 65536 % 256).toUInt8, (s / 16777216 % 256).toUInt8] := by
 show [(s / 256 ^ 0 % 256).toUInt8, (s / 256 ^ 1 % 256).toUInt8, (s / 256 ^ 2 % 256).toUInt8, (s / 256 ^ 3 % 256).toUInt8] = _
 rw [Nat.pow_zero, Nat.div_one]
theorem byte4 (m : Nat) : Value.int .u8 (IntKind.u8.wrap (m : Int)) = byteV (m % 256).toUInt8 := by
 have := byte_mod m
 rw [Int.emod_emod_of_dvd _ (Int.dvd_refl _)] at this
 rw [wrap_u8]; exact this
def sealF (b : List UInt8) : List UInt8 := b ++ fixed 4 (crcN 0 b)
def openF (b : List UInt8) : List UInt8 × Int := if b.length < 4 then ([], 11) else if fixed 4 (crcN 0 (b.take (b.length - 4))) = b.drop (b.length - 4) then (b.take (b.length - 4), 0) else ([], 10)
theorem open_short {b : List UInt8} (h : b.length < 4) : openF b = ([], 11) := by unfold openF; rw [if_pos h]
theorem open_sum {b : List UInt8} (h : ¬ b.length < 4) (h2 : ¬ fixed 4 (crcN 0 (b.take (b.length - 4))) = b.drop (b.length - 4)) : openF b = ([], 10) := by unfold openF; rw [if_neg h, if_neg h2]
theorem open_ok {b : List UInt8} (h : ¬ b.length < 4) (h2 : fixed 4 (crcN 0 (b.take (b.length - 4))) = b.drop (b.length - 4)) : openF b = (b.take (b.length - 4), 0) := by unfold openF; rw [if_neg h, if_pos h2]
theorem seal_eq {b : List UInt8} (h : ¬ b.length < 4) : (sealF (b.take (b.length - 4)) = b) ↔ fixed 4 (crcN 0 (b.take (b.length - 4))) = b.drop (b.length - 4) := by
 unfold sealF
 constructor
 ·intro h2
  have h3 := congrArg (List.drop (b.length - 4)) h2
  rwa [List.drop_left' (by rw [List.length_take]; omega)] at h3
 intro h2
 rw [h2, List.take_append_drop]
theorem openF_len (b : List UInt8) : (openF b).1.length ≤ b.length := by
 unfold openF
 split
 ·simp
 split
 ·dsimp only; rw [List.length_take]; omega
 simp
theorem openF_20 {b : List UInt8} (h : b.length = 24) (h0 : (openF b).2 = 0) : (openF b).1.length = 20 := by
 unfold openF at h0 ⊢
 rw [if_neg (by omega)] at h0 ⊢
 split
 ·dsimp only; rw [List.length_take]; omega
 rename_i c; rw [if_neg c] at h0; simp at h0
theorem step_ok (x : Nat) (hx : x < 4294967296) (w : World) : Calls Try.prog 115 [.int .u32 (x : Nat)].toArray w (Rt fun r w' => r = .int .u32 ((stepN x : Nat) : Int) ∧ Upd [] w w') := by
 have hM0 : Mem w [] w [] := Mem.nil w []
 refine calls_vc mixed Try.func115 rfl C115 (by simp [Try.ntmps115]) <| seq fun _ h1 => mv <| h1 _ _ <| seq fun _ h2 => seq fun _ h3 => mv <| stp (v := .int .u32 (x % 2 : Nat)) (o_bin rfl rfl (and1 hx)) <| bn rfl rfl <| h3 _ _ <| cndP rfl (fun c4 => ?_) (fun c4 => ?_)
 ·refine seq fun _ h5 => mv <| stp (v := .int .u32 (x / 2 : Nat)) (o_shr rfl rfl (by omega) (shr32 (j := 1) (by omega) rfl)) <| stp (v := .int .u32 (x / 2 ^^^ 2197175160 : Nat)) (o_bin rfl rfl (v_int (xor32 (a := x / 2) (b := 2197175160) (by omega) (by omega)))) <| mv <| h5 _ _ <| ⟨(.int .u32 (x / 2 ^^^ 2197175160 : Nat)), rfl, ⟨by unfold stepN; rw [if_pos (by omega)], hM0.upd⟩⟩
 refine h2 _ _ <| seq fun _ h6 => mv <| stp (v := .int .u32 (x / 2 : Nat)) (o_shr rfl rfl (by omega) (shr32 (j := 1) (by omega) rfl)) <| mv <| h6 _ _ <| ⟨(.int .u32 (x / 2 : Nat)), rfl, ⟨by unfold stepN; rw [if_neg (by omega)], hM0.upd⟩⟩
theorem M_ok (x : Nat) (hx : x < 4294967296) (w : World) : Calls Try.prog 112 [.int .u32 (x : Nat)].toArray w (Rt fun r w' => r = .int .u32 ((stepN x : Nat) : Int) ∧ Upd [] w w') := by
 have hM0 : Mem w [] w [] := Mem.nil w []
 refine calls_vc mixed Try.func112 rfl C112 (by simp [Try.ntmps112]) <| seq fun _ h1 => mv <| h1 _ _ <| seq fun _ h2 => seq fun _ h3 => mv <| stp (v := .int .u32 (x % 2 : Nat)) (o_rem rfl rfl (by omega) ((v_rem (Int.natCast_nonneg _)).trans rfl)) <| bn rfl rfl <| h3 _ _ <| cndP rfl (fun c4 => ?_) (fun c4 => ?_)
 ·refine seq fun _ h5 => mv <| stp (v := .int .u32 (x / 2 : Nat)) (o_shr rfl rfl (by omega) (shr32 (j := 1) (by omega) rfl)) <| stp (v := .int .u32 (x / 2 ^^^ 2197175160 : Nat)) (o_bin rfl rfl (v_int (xor32 (a := x / 2) (b := 2197175160) (by omega) (by omega)))) <| mv <| h5 _ _ <| ⟨(.int .u32 (x / 2 ^^^ 2197175160 : Nat)), rfl, ⟨by unfold stepN; rw [if_pos (by omega)], hM0.upd⟩⟩
 refine h2 _ _ <| seq fun _ h6 => mv <| stp (v := .int .u32 (x / 2 : Nat)) (o_shr rfl rfl (by omega) (shr32 (j := 1) (by omega) rfl)) <| mv <| h6 _ _ <| ⟨(.int .u32 (x / 2 : Nat)), rfl, ⟨by unfold stepN; rw [if_neg (by omega)], hM0.upd⟩⟩
set_option maxRecDepth 100000 in
theorem sums_ok (w : World) : Calls Try.prog 111 [].toArray w (Rt fun r w' => r = .agg (tabI 16).toArray ∧ Upd [] w w') := by
 have hM0 : Mem w [] w [] := Mem.nil w []
 refine calls_vc mixed Try.func111 rfl C111 (by simp [Try.ntmps111]) <| seq fun _ h1 => m_al hM0 fun b2 w3 (hM3 : Mem w [] w3 [[⟨b2, 142, (List.replicate 16 (.int .u32 0))⟩]]) => h1 _ _ <| seq fun _ h4 => m_al hM3 fun b5 w6 (hM6 : Mem w [] w6 [[⟨b2, 142, (List.replicate 16 (.int .u32 0))⟩], [⟨b5, 142, (List.replicate 16 (.int .u32 0))⟩]]) => h4 _ _ <| seq fun _ h7 => seq fun _ h8 => mv <| h8 _ _ <| lp (n := fun _ _ => False) (ι := (Nat)) (fun i f w' => f 4 = .int .i64 (i : Nat) ∧ f 0 = .pointer (some ⟨b2, 0, none⟩) ∧ f 1 = .pointer (some ⟨b5, 0, none⟩) ∧ Mem w [] w' [[⟨b2, 142, (List.replicate 16 (.int .u32 0))⟩], [⟨b5, 142, tabI i⟩]] ∧ (i ≤ 16)) (fun i => 16 - i) (0) ?_ ?_
 ·exact ⟨vi, rfl, rfl, (by rw [tabI_zero]; exact hM6), by omega⟩
 rintro i f w9 ⟨e9_4, e9_0, e9_1, hM9, hi⟩ K10 h10
 obtain ⟨frm, rfl⟩ := re3 e9_4 e9_0 e9_1
 refine seq fun _ h11 => bn rfl rfl <| h11 _ _ <| seq fun _ h12 => cndP rfl (fun c13 => ?_) (fun c13 => ?_)
 ·refine h12 _ _ <| seq fun _ h14 => seq fun _ h15 => mv <| mv <| h15 _ _ <| seq fun _ h16 => mv <| stp (v := .int .u32 (i : Nat)) (o_conv rfl (by rw [wrap_u32]; exact v_int (by omega))) <| mv <| h16 _ _ <| seq fun _ h17 => seq fun _ h18 => mv ?_
  refine h18 _ _ <| lp (n := fun _ _ => False) (ι := (Nat)) (fun j f w' => f 9 = .int .i64 (j : Nat) ∧ f 3 = .int .u32 (stepK j i : Nat) ∧ f 0 = .pointer (some ⟨b2, 0, none⟩) ∧ f 1 = .pointer (some ⟨b5, 0, none⟩) ∧ f 2 = .int .i64 (i : Nat) ∧ f 4 = .int .i64 (i : Nat) ∧ Mem w [] w' [[⟨b2, 142, (List.replicate 16 (.int .u32 0))⟩], [⟨b5, 142, tabI i⟩]] ∧ (j ≤ 4)) (fun j => 4 - j) (0) ?_ ?_
  ·exact ⟨vi, vi, rfl, rfl, vi, vi, hM9, by omega⟩
  rintro j f w19 ⟨e19_9, e19_3, e19_0, e19_1, e19_2, e19_4, hM19, hj⟩ K20 h20
  obtain ⟨frm, rfl⟩ := re6 e19_9 e19_3 e19_0 e19_1 e19_2 e19_4
  refine seq fun _ h21 => bn rfl rfl <| h21 _ _ <| seq fun _ h22 => cndP rfl (fun c23 => ?_) (fun c23 => ?_)
  ·refine h22 _ _ <| seq fun _ h24 => mv <| m_call (step_ok (stepK j i) (by first | exact stepK_lt (by omega) _ | omega | assumption) w19) rfl fun v25 w25 ⟨hr25, hu25⟩ => ?_
   have hM25 : Mem w [] w25 [[⟨b2, 142, (List.replicate 16 (.int .u32 0))⟩], [⟨b5, 142, tabI i⟩]] := hM19.pure hu25
   subst hr25
   refine mv <| h24 _ _ <| stp (v := .int .i64 ((j : Nat) + 1)) (o_bin rfl rfl (v_add64 (by omega))) <| mv <| h20 (j + 1) _ _ ⟨vi, vi, rfl, rfl, vi, vi, hM25, by omega⟩ (by (try dsimp only); omega)
  refine h17 _ _ <| mv <| mv <| stp (v := .pointer (some ⟨b5, i, none⟩)) (o_idxa rfl rfl (by omega) (v_ptr (by first | (rw [Int.toNat_natCast, Nat.mul_one]; done) | (simp; done) | omega))) <| m_st (v := .int .u32 (stepK j i : Nat)) hM19 (i := 1) rfl rfl rfl rfl (by rw [tabI_length]; omega) fun w26 hm26 => ?_
  have hM26 : Mem w [] w26 [[⟨b2, 142, (List.replicate 16 (.int .u32 0))⟩], [⟨b5, 142, tabI (i + 1)⟩]] := by
   have e : (tabI i).set i (.int .u32 (stepK j i : Nat)) = (tabI (i + 1)) := by rw [show j = 4 by omega]; exact tabI_set (by omega)
   rw [← e]; exact hm26
  refine h14 _ _ <| stp (v := .int .i64 ((i : Nat) + 1)) (o_bin rfl rfl (v_add64 (by omega))) <| mv <| h10 (i + 1) _ _ ⟨vi, rfl, rfl, hM26, by omega⟩ (by (try dsimp only); omega)
 refine h7 _ _ <| seq fun _ h27 => ldA (cs := (tabI i)) rfl (by first | rfl | simp [tabI_length]) ((hM9.at (i := 1) (j := 0) rfl rfl).all) <| m_stA (l := (tabI i)) hM9 (i := 0) rfl rfl rfl (by simp [tabI_length]) (tabI_one _) (by simp) fun w28 hm28 => ?_
 have hM28 : Mem w [] w28 [[⟨b2, 142, (tabI i)⟩], [⟨b5, 142, tabI i⟩]] := by
  have e : splice (List.replicate 16 (.int .u32 0)) 0 (tabI i) = (tabI i) := splice_full (by simp; first | done | (simp [tabI_length]) | omega)
  rw [e] at hm28
  exact hm28
 refine h27 _ _ ?_
 show resV _ _ _ _ _
 refine res_cell (s := some 16) (by kernel_rfl) <| vl_ldA (cs := (tabI i)) rfl (by simp [tabI_length]) (hM28.at (i := 0) (j := 0) rfl rfl).all <| ⟨(.agg (((tabI i)).toArray)), rfl, ?_⟩
 rw [show i = 16 by omega]
 exact ⟨rfl, hM28.upd⟩
theorem Extend_ok (s : Nat) (hs : s < 4294967296) (x : Value) (b : List UInt8) (w : World) (hx : RdE byteV w x b) (hl : b.length ≤ 140737488355328) : Calls Try.prog 97 [.int .u32 (s : Nat), x].toArray w (Rt fun r w' => r = .int .u32 ((crcN s b : Nat) : Int) ∧ Upd [] w w') := by
 have hM0 : Mem w [] w [] := Mem.nil w []
 refine calls_vc mixed Try.func97 rfl C97 (by simp [Try.ntmps97]) <| seq fun _ h1 => mv <| h1 _ _ <| seq fun _ h2 => mv <| stp (v := .int .u32 (4294967295 - s : Nat)) (o_bin rfl rfl (v_int (xor32_cpl (by omega)))) <| mv <| h2 _ _ <| seq fun _ h3 => m_call (sums_ok w) rfl fun v4 w4 ⟨hr4, hu4⟩ => ?_
 have hM4 : Mem w [] w4 [] := hM0.pure hu4
 subst hr4
 refine m_al hM4 fun b5 w6 (hM6 : Mem w [] w6 [[⟨b5, 142, (List.replicate 16 (.int .u32 0))⟩]]) => m_stA (l := (tabI 16)) hM6 (i := 0) rfl rfl rfl (by simp [tabI_length]) (tabI_one _) (by simp) fun w7 hm7 => ?_
 have hM7 : Mem w [] w7 [[⟨b5, 142, (tabI 16)⟩]] := by
  have e : splice (List.replicate 16 (.int .u32 0)) 0 (tabI 16) = (tabI 16) := splice_full (by simp; first | done | (simp [tabI_length]) | omega)
  rw [e] at hm7
  exact hm7
 refine h3 _ _ <| seq fun _ h8 => seq fun _ h9 => mv <| stp (v := .int .i64 (b.length : Nat)) (o_lenR (hx.upd hM7.upd) rfl rfl) <| mv <| h9 _ _ <| lp (n := fun _ _ => False) (ι := (Nat) × (Nat)) (fun ⟨i, X⟩ f w' => f 14 = .int .i64 (i : Nat) ∧ f 5 = .int .u32 (X : Nat) ∧ f 6 = .pointer (some ⟨b5, 0, none⟩) ∧ f 12 = x ∧ f 13 = .int .i64 (b.length : Nat) ∧ Mem w [] w' [[⟨b5, 142, (tabI 16)⟩]] ∧ (i ≤ b.length) ∧ (X = crcX (4294967295 - s) (b.take i)) ∧ (X < 4294967296)) (fun ⟨i, X⟩ => b.length - i) (0, 4294967295 - s) ?_ ?_
 ·exact ⟨vi, vi, rfl, rfl, vi, hM7, by omega, rfl, by omega⟩
 rintro ⟨i, X⟩ f w10 ⟨e10_14, e10_5, e10_6, e10_12, e10_13, hM10, hi, hX, hXl⟩ K11 h11
 obtain ⟨frm, rfl⟩ := re5 e10_14 e10_5 e10_6 e10_12 e10_13
 refine seq fun _ h12 => bn rfl rfl <| h12 _ _ <| seq fun _ h13 => cndP rfl (fun c14 => ?_) (fun c14 => ?_)
 ·refine h13 _ _ <| seq fun _ h15 => seq fun _ h16 => ?_
  have hc8 := (b.getD i 0).toNat_lt
  have hY : X ^^^ (b.getD i 0).toNat < 4294967296 := xor32_lt hXl (by omega)
  have hZ := stepK_lt hY 4
  have hN := nib (X ^^^ (b.getD i 0).toNat)
  have hN2 := nib (stepK 4 (X ^^^ (b.getD i 0).toNat))
  have hS := stepK_lt (x := (X ^^^ (b.getD i 0).toNat) % 16) (by omega) 4
  have hS2 := stepK_lt (x := (stepK 4 (X ^^^ (b.getD i 0).toNat)) % 16) (by omega) 4
  refine m_idxE 0 (j := i) (hx.upd hM10.upd) rfl rfl (by omega) fun b17 o17 hp17 => ld (v := byteV (b.getD i 0)) rfl (hp17) <| mv <| h16 _ _ <| seq fun _ h18 => mv <| mv <| stp (v := .int .u32 ((b.getD i 0).toNat : Nat)) (o_conv rfl (by rw [wrap_u32]; exact v_int (by have := (b.getD i 0).toNat_lt; omega))) <| stp (v := .int .u32 ((X ^^^ (b.getD i 0).toNat) : Nat)) (o_bin rfl rfl (v_int (xor32 hXl (by omega)))) <| mv <| h18 _ _ <| seq fun _ h19 => mv <| stp (v := .int .u32 ((X ^^^ (b.getD i 0).toNat) / 16 : Nat)) (o_shr rfl rfl (by omega) (shr32 (j := 4) (by omega) rfl)) ?_
  refine mv <| stp (v := .int .u32 ((X ^^^ (b.getD i 0).toNat) % 16 : Nat)) (o_bin rfl rfl (and15 hY)) <| stp (v := .pointer (some ⟨b5, (X ^^^ (b.getD i 0).toNat) % 16, none⟩)) (o_idxa rfl rfl (by omega) (v_ptr (by first | (rw [Int.toNat_natCast, Nat.mul_one]; done) | (simp; done) | omega))) <| ld (v := .int .u32 (stepK 4 ((X ^^^ (b.getD i 0).toNat) % 16) : Nat)) rfl (((hM10.at (i := 0) (j := 0) rfl rfl).cell _).trans (tabI_get (by omega))) <| stp (v := .int .u32 ((stepK 4 (X ^^^ (b.getD i 0).toNat)) : Nat)) (o_bin rfl rfl ((v_int (xor32 (by omega) hS)).trans (by rw [hN]))) <| mv <| h19 _ _ <| mv <| stp (v := .int .u32 ((stepK 4 (X ^^^ (b.getD i 0).toNat)) / 16 : Nat)) (o_shr rfl rfl (by omega) (shr32 (j := 4) (by omega) rfl)) <| mv <| stp (v := .int .u32 ((stepK 4 (X ^^^ (b.getD i 0).toNat)) % 16 : Nat)) (o_bin rfl rfl (and15 hZ)) <| stp (v := .pointer (some ⟨b5, (stepK 4 (X ^^^ (b.getD i 0).toNat)) % 16, none⟩)) (o_idxa rfl rfl (by omega) (v_ptr (by first | (rw [Int.toNat_natCast, Nat.mul_one]; done) | (simp; done) | omega))) <| ld (v := .int .u32 (stepK 4 ((stepK 4 (X ^^^ (b.getD i 0).toNat)) % 16) : Nat)) rfl (((hM10.at (i := 0) (j := 0) rfl rfl).cell _).trans (tabI_get (by omega))) <| stp (v := .int .u32 (stepK 4 (stepK 4 (X ^^^ (b.getD i 0).toNat)) : Nat)) (o_bin rfl rfl ((v_int (xor32 (by omega) hS2)).trans (by rw [hN2]))) ?_
  refine mv <| h15 _ _ <| stp (v := .int .i64 ((i : Nat) + 1)) (o_bin rfl rfl (v_add64 (by omega))) <| mv <| h11 (i + 1, stepK 4 (stepK 4 (X ^^^ (b.getD i 0).toNat))) _ _ ⟨vi, vi, rfl, rfl, vi, hM10, by omega, by rw [stepK_add, crcX_succ (by omega), ← hX], stepK_lt hZ 4⟩ (by (try dsimp only); omega)
 refine h8 _ _ <| seq fun _ h20 => mv <| stp (v := .int .u32 (4294967295 - X : Nat)) (o_bin rfl rfl (v_int (xor32_cpl hXl))) <| mv <| h20 _ _ <| ⟨(.int .u32 (4294967295 - X : Nat)), rfl, ?_⟩
 have e : b.take i = b := List.take_of_length_le (by omega)
 rw [e] at hX
 exact ⟨by unfold crcN; rw [← hX], hM10.upd⟩
theorem refExtend_ok (s : Nat) (hs : s < 4294967296) (x : Value) (b : List UInt8) (w : World) (hx : RdE byteV w x b) (hl : b.length ≤ 140737488355328) : Calls Try.prog 100 [.int .u32 (s : Nat), x].toArray w (Rt fun r w' => r = .int .u32 ((crcN s b : Nat) : Int) ∧ Upd [] w w') := by
 have hM0 : Mem w [] w [] := Mem.nil w []
 refine calls_vc mixed Try.func100 rfl C100 (by simp [Try.ntmps100]) <| seq fun _ h1 => mv <| h1 _ _ <| seq fun _ h2 => mv <| stp (v := .int .u32 (4294967295 - s : Nat)) (o_bin rfl rfl (v_int (xor32_cpl (by omega)))) <| mv <| h2 _ _ <| seq fun _ h3 => seq fun _ h4 => mv <| h4 _ _ <| lp (n := fun _ _ => False) (ι := (Nat) × (Nat)) (fun ⟨i, X⟩ f w' => f 6 = .int .i64 (i : Nat) ∧ f 5 = .int .u32 (X : Nat) ∧ f 1 = x ∧ Mem w [] w' [] ∧ (i ≤ b.length) ∧ (X = crcX (4294967295 - s) (b.take i)) ∧ (X < 4294967296)) (fun ⟨i, X⟩ => b.length - i) (0, 4294967295 - s) ?_ ?_
 ·exact ⟨vi, vi, rfl, hM0, by omega, rfl, by omega⟩
 rintro ⟨i, X⟩ f w5 ⟨e5_6, e5_5, e5_1, hM5, hi, hX, hXl⟩ K6 h6
 obtain ⟨frm, rfl⟩ := re3 e5_6 e5_5 e5_1
 refine seq fun _ h7 => seq fun _ h8 => mv <| mv <| stp (v := .int .i64 (b.length : Nat)) (o_lenR (hx.upd hM5.upd) rfl rfl) <| bn rfl rfl <| h8 _ _ <| cndP rfl (fun c9 => ?_) (fun c9 => ?_)
 ·refine h7 _ _ <| seq fun _ h10 => seq fun _ h11 => ?_
  have hc8 := (b.getD i 0).toNat_lt
  have hY : X ^^^ (b.getD i 0).toNat < 4294967296 := xor32_lt hXl (by omega)
  have hZ := stepK_lt hY 4
  have hN := nib (X ^^^ (b.getD i 0).toNat)
  have hN2 := nib (stepK 4 (X ^^^ (b.getD i 0).toNat))
  have hS := stepK_lt (x := (X ^^^ (b.getD i 0).toNat) % 16) (by omega) 4
  have hS2 := stepK_lt (x := (stepK 4 (X ^^^ (b.getD i 0).toNat)) % 16) (by omega) 4
  refine mv <| mv <| mv <| m_idxE 0 (j := i) (hx.upd hM5.upd) rfl rfl (by omega) fun b12 o12 hp12 => ld (v := byteV (b.getD i 0)) rfl (hp12) <| stp (v := .int .u32 ((b.getD i 0).toNat : Nat)) (o_conv rfl (by rw [wrap_u32]; exact v_int (by have := (b.getD i 0).toNat_lt; omega))) <| stp (v := .int .u32 ((X ^^^ (b.getD i 0).toNat) : Nat)) (o_bin rfl rfl (v_int (xor32 hXl (by omega)))) <| mv <| h11 _ _ <| seq fun _ h13 => mv <| h13 _ _ <| lp (n := fun _ _ => False) (ι := (Nat)) (fun k f w' => f 7 = .int .i64 (k : Nat) ∧ f 5 = .int .u32 (stepK k (X ^^^ (b.getD i 0).toNat) : Nat) ∧ f 1 = x ∧ f 6 = .int .i64 (i : Nat) ∧ Mem w [] w' [] ∧ (k ≤ 8) ∧ ((X ^^^ (b.getD i 0).toNat) < 4294967296)) (fun k => 8 - k) (0) ?_ ?_
  ·exact ⟨vi, vi, rfl, vi, hM5, by omega, by assumption⟩
  rintro k f w14 ⟨e14_7, e14_5, e14_1, e14_6, hM14, hk, hY⟩ K15 h15
  obtain ⟨frm, rfl⟩ := re4 e14_7 e14_5 e14_1 e14_6
  refine seq fun _ h16 => seq fun _ h17 => mv <| bn rfl rfl <| h17 _ _ <| cndP rfl (fun c18 => ?_) (fun c18 => ?_)
  ·refine h16 _ _ <| seq fun _ h19 => mv <| m_call (M_ok (stepK k (X ^^^ (b.getD i 0).toNat)) (by first | exact stepK_lt (by omega) _ | omega | assumption) w14) rfl fun v20 w20 ⟨hr20, hu20⟩ => ?_
   have hM20 : Mem w [] w20 [] := hM14.pure hu20
   subst hr20
   refine mv <| h19 _ _ <| mv <| stp (v := .int .i64 ((k : Nat) + 1)) (o_bin rfl rfl (v_add64 (by omega))) <| mv <| h15 (k + 1) _ _ ⟨vi, vi, rfl, vi, hM20, by omega, hY⟩ (by (try dsimp only); omega)
  refine h10 _ _ <| mv <| stp (v := .int .i64 ((i : Nat) + 1)) (o_bin rfl rfl (v_add64 (by omega))) <| mv <| h6 (i + 1, stepK k (X ^^^ (b.getD i 0).toNat)) _ _ ⟨vi, vi, rfl, hM14, by omega, by rw [crcX_succ (by omega), ← hX, show k = 8 by omega], stepK_lt hY k⟩ (by (try dsimp only); omega)
 refine h3 _ _ <| seq fun _ h21 => mv <| stp (v := .int .u32 (4294967295 - X : Nat)) (o_bin rfl rfl (v_int (xor32_cpl hXl))) <| mv <| h21 _ _ <| ⟨(.int .u32 (4294967295 - X : Nat)), rfl, ?_⟩
 have e : b.take i = b := List.take_of_length_le (by omega)
 rw [e] at hX
 exact ⟨by unfold crcN; rw [← hX], hM5.upd⟩
