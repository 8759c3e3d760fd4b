/- Operations on bits, on numbers that are not negative. -/
import Derived.Test.YtnkilhmkegmenaaE12
namespace Go.Proofs.Ytnkilhmkegmenaa.E
open Go

theorem bv_nat {n a : Nat} (h : a < 2 ^ n) : (BitVec.ofInt n (a : Int)).toNat = a := by
  rw [BitVec.ofInt_natCast, BitVec.toNat_ofNat, Nat.mod_eq_of_lt h]
theorem andI_nat {k : IntKind} {a b : Nat} (ha : a < 2 ^ k.bits) (hb : b < 2 ^ k.bits) (h : inK k ((a &&& b : Nat) : Int)) : andI k a b = ((a &&& b : Nat) : Int) := by
  unfold andI; rw [BitVec.toNat_and, bv_nat ha, bv_nat hb, wrap_same h]
theorem orI_nat {k : IntKind} {a b : Nat} (ha : a < 2 ^ k.bits) (hb : b < 2 ^ k.bits) (h : inK k ((a ||| b : Nat) : Int)) : orI k a b = ((a ||| b : Nat) : Int) := by
  unfold orI; rw [BitVec.toNat_or, bv_nat ha, bv_nat hb, wrap_same h]
theorem xorI_nat {k : IntKind} {a b : Nat} (ha : a < 2 ^ k.bits) (hb : b < 2 ^ k.bits) (h : inK k ((a ^^^ b : Nat) : Int)) : xorI k a b = ((a ^^^ b : Nat) : Int) := by
  unfold xorI; rw [BitVec.toNat_xor, bv_nat ha, bv_nat hb, wrap_same h]
theorem shlI_nat {k : IntKind} {a n : Nat} (hn : n ≤ k.bits) (h : inK k ((a * 2 ^ n : Nat) : Int)) : shlI k a n = ((a * 2 ^ n : Nat) : Int) := by
  unfold shlI
  rw [Int.toNat_natCast, Nat.min_eq_left hn]
  have e : (a : Int) * 2 ^ n = ((a * 2 ^ n : Nat) : Int) := by simp
  rw [e, wrap_same h]
theorem shrI_nat {k : IntKind} {a n : Nat} (hn : n ≤ k.bits) : shrI k a n = ((a / 2 ^ n : Nat) : Int) := by
  unfold shrI
  rw [Int.toNat_natCast, Nat.min_eq_left hn, Int.fdiv_eq_ediv_of_nonneg _ (by exact Int.le_of_lt (Int.pow_pos (by omega)))]
  have e : (2 : Int) ^ n = ((2 ^ n : Nat) : Int) := by simp
  rw [e]; rfl
/-- bits above are added -/
theorem or_add {v d n : Nat} (h : v < 2 ^ n) : v ||| d * 2 ^ n = v + d * 2 ^ n := by
  rw [← Nat.shiftLeft_eq, Nat.or_comm, ← Nat.shiftLeft_add_eq_or_of_lt h, Nat.add_comm]
theorem and_low (a n : Nat) : a &&& (2 ^ n - 1) = a % 2 ^ n := Nat.and_two_pow_sub_one_eq_mod a n
theorem pow256 (i : Nat) : (256 : Nat) ^ i = 2 ^ (8 * i) := by rw [Nat.pow_mul]
theorem pow128 (i : Nat) : (128 : Nat) ^ i = 2 ^ (7 * i) := by rw [Nat.pow_mul]
end Go.Proofs.Ytnkilhmkegmenaa.E
