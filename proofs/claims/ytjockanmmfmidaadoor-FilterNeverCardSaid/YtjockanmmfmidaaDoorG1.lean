/- Filters: the two numbers of a key, its bits, what a filter says of it. -/
import Derived.Test.YtjockanmmfmidaaDoorE17
import Derived.Test.YtjockanmmfmidaaDoorM
namespace Go.Proofs.YtjockanmmfmidaaDoor.E
open Go
def hstep (h : Int) (c : UInt8) : Int := xorI .u64 h (c.toNat : Int) * 1099511628211 % 18446744073709551616
def hX (key : List UInt8) : Int := key.foldl hstep 14695981039346656037
def hZ (z : Int) (k m : Int) : Int := xorI .u64 z (z / k) * m % 18446744073709551616
def hY (key : List UInt8) : Int :=
  let z := hZ (hZ ((hX key + 11400714819323198485) % 18446744073709551616) 1073741824 13787848793156543929) 134217728 10723151780598845931
  orI .u64 (xorI .u64 z (z / 2147483648)) 1
theorem hX_take {key : List UInt8} {i : Nat} (h : i < key.length) : (key.take (i + 1)).foldl hstep 14695981039346656037 = hstep ((key.take i).foldl hstep 14695981039346656037) (key.getD i 0) := by
  rw [takeG 0 h, List.foldl_append]; rfl
theorem hfold_bd (l : List UInt8) : ∀ h : Int, 0 ≤ h ∧ h < 18446744073709551616 → 0 ≤ l.foldl hstep h ∧ l.foldl hstep h < 18446744073709551616 := by
  induction l with
  | nil => intro h hh; exact hh
  | cons c l ih => intro h _; exact ih _ (by unfold hstep; omega)
theorem hX_bd (key : List UInt8) : 0 ≤ hX key ∧ hX key < 18446744073709551616 := hfold_bd key _ (by omega)
theorem hY_bd (key : List UInt8) : 0 ≤ hY key ∧ hY key < 18446744073709551616 := by unfold hY orI; rw [wrap_u64]; omega
/-- the first number behind k steps -/
def xk (key : List UInt8) (k : Nat) : Int := (hX key + (k : Int) * hY key) % 18446744073709551616
theorem xk_zero (key : List UInt8) : xk key 0 = hX key := by have := hX_bd key; unfold xk; rw [Int.natCast_zero, Int.zero_mul]; omega
theorem xk_succ (key : List UInt8) (k : Nat) : (xk key k + hY key) % 18446744073709551616 = xk key (k + 1) := by
  unfold xk
  have e : ((k + 1 : Nat) : Int) * hY key = (k : Int) * hY key + hY key := by rw [Int.natCast_add, Int.add_mul]; simp
  rw [e]; omega
theorem xk_bd (key : List UInt8) (k : Nat) : 0 ≤ xk key k ∧ xk key k < 18446744073709551616 := by unfold xk; omega
/-- the bit number k of a key in a filter of n bytes -/
def bitN (key : List UInt8) (k n : Nat) : Nat := (xk key k % (8 * (n : Int))).toNat
theorem bitN_lt {key : List UInt8} {k n : Nat} (h : 0 < n) : bitN key k n < 8 * n := by
  have h1 := Int.emod_lt_of_pos (xk key k) (show (0 : Int) < 8 * (n : Int) by omega)
  have h2 := Int.emod_nonneg (xk key k) (show (8 * (n : Int)) ≠ 0 by omega)
  unfold bitN; omega
theorem bitN_v {key : List UInt8} {k n : Nat} (h : 0 < n) : xk key k % (8 * (n : Int)) = ((bitN key k n : Nat) : Int) := by
  have h2 := Int.emod_nonneg (xk key k) (show (8 * (n : Int)) ≠ 0 by omega)
  unfold bitN; omega
def places (key : List UInt8) (hs n : Nat) : List Nat := (List.range hs).map fun k => bitN key k n

/-- filter.Hash -/
theorem Hash_ok (key : List UInt8) (w : World) (hl : key.length ≤ 9223372036854775807) : Calls Tryd.prog 36 [.string (str key)].toArray w (Rt fun r w' => r = .tuple [.int .u64 (hX key), .int .u64 (hY key)].toArray ∧ Upd [] w w') := by
  have hM0 : Mem w [] w [] := Mem.nil w []
  refine calls_vc mixed Tryd.func36 rfl C36 (by simp [Tryd.ntmps36]) ?_
  refine seq fun K1 h1 => ?_
  refine stp (v := .int .u64 0) (o_mv rfl) ?_
  refine stp (v := .int .u64 0) (o_mv rfl) ?_
  refine h1 _ _ ?_
  clear h1
  refine seq fun K2 h2 => ?_
  refine stp (v := .int .u64 14695981039346656037) (o_mv rfl) ?_
  refine h2 _ _ ?_
  clear h2
  refine seq fun K3 h3 => ?_
  refine seq fun K4 h4 => ?_
  refine stp (v := .string (str key)) (o_mv rfl) ?_
  refine stp (v := .int .i64 (key.length : Nat)) (o_lens rfl rfl) ?_
  refine stp (v := .int .i64 0) (o_mv rfl) ?_
  refine h4 _ _ ?_
  clear h4
  refine lp (n := fun _ _ => False) (ι := (Nat)) (fun i f w' => f 4 = .int .u64 ((key.take i).foldl hstep 14695981039346656037) ∧ f 9 = .int .i64 (i : Nat) ∧ f 0 = .string (str key) ∧ f 8 = .int .i64 (key.length : Nat) ∧ Mem w [] w' [] ∧ (i ≤ key.length)) (fun i => key.length - i) (0) ?_ ?_
  · exact ⟨rfl, by first | rfl | exact v_int (by omega) | exact v_int (by simp) | exact v_int (by simp; omega), by first | rfl | simp [upd], by first | rfl | exact v_int (by omega) | exact v_int (by simp) | exact v_int (by simp; omega), hM0, by omega⟩
  · rintro i f w5 ⟨e5_4, e5_9, e5_0, e5_8, hM5, hi⟩ K6 h6
    obtain ⟨frm, rfl⟩ : ∃ frm, f = (upd (upd (upd (upd frm 4 (.int .u64 ((key.take i).foldl hstep 14695981039346656037))) 9 (.int .i64 (i : Nat))) 0 (.string (str key))) 8 (.int .i64 (key.length : Nat))) := ⟨f, by rw [upd_self e5_4, upd_self e5_9, upd_self e5_0, upd_self e5_8]⟩
    clear e5_4 e5_9 e5_0 e5_8
    refine seq fun K7 h7 => ?_
    refine stp (v := .bool (decide (((i : Nat) : Int) < (key.length : Nat)))) (o_bin rfl rfl rfl) ?_
    refine h7 _ _ ?_
    clear h7
    refine seq fun K8 h8 => ?_
    refine cndP rfl (fun c9 => ?_) (fun c9 => ?_)
    ·
      refine h8 _ _ ?_
      clear h8
      refine seq fun K10 h10 => ?_
      refine seq fun K11 h11 => ?_
      refine stp (v := .int .i64 (i : Nat)) (o_mv rfl) ?_
      refine stp (v := .int .i64 (i : Nat)) (o_mv rfl) ?_
      refine h11 _ _ ?_
      clear h11
      refine stp (v := .int .u64 ((key.take i).foldl hstep 14695981039346656037)) (o_mv rfl) ?_
      refine stp (v := .string (str key)) (o_mv rfl) ?_
      refine stp (v := .int .i64 (i : Nat)) (o_mv rfl) ?_
      refine stp (v := byteV (key.getD i 0)) (o_idxs rfl rfl (by omega) rfl) ?_
      refine stp (v := .int .u64 ((key.getD i 0).toNat : Int)) (o_conv rfl (v_byteTo (by decide))) ?_
      refine stp (v := .int .u64 (xorI .u64 ((key.take i).foldl hstep 14695981039346656037) ((key.getD i 0).toNat : Int))) (o_bin rfl rfl rfl) ?_
      refine stp (v := .int .u64 (((xorI .u64 ((key.take i).foldl hstep 14695981039346656037) ((key.getD i 0).toNat : Int)) * 1099511628211) % 18446744073709551616)) (o_bin rfl rfl (v_u64 _)) ?_
      refine stp (v := .int .u64 (((xorI .u64 ((key.take i).foldl hstep 14695981039346656037) ((key.getD i 0).toNat : Int)) * 1099511628211) % 18446744073709551616)) (o_mv rfl) ?_
      refine h10 _ _ ?_
      clear h10
      refine stp (v := .int .i64 ((i : Nat) + 1)) (o_bin rfl rfl (v_add64 (by constructor <;> omega))) ?_
      refine stp (v := .int .i64 ((i : Nat) + 1)) (o_mv rfl) ?_
      refine h6 (i + 1) _ _ ⟨v_int (by rw [hX_take (by omega)]; rfl), by first | rfl | exact v_int (by omega) | exact v_int (by simp) | exact v_int (by simp; omega), by first | rfl | simp [upd], by first | rfl | exact v_int (by omega) | exact v_int (by simp) | exact v_int (by simp; omega), hM5, by omega⟩ (by (try dsimp only); omega)
    ·
      refine h3 _ _ ?_
      clear h3
      refine seq fun K12 h12 => ?_
      refine stp (v := .int .u64 ((key.take i).foldl hstep 14695981039346656037)) (o_mv rfl) ?_
      refine stp (v := .int .u64 ((((key.take i).foldl hstep 14695981039346656037) + 11400714819323198485) % 18446744073709551616)) (o_bin rfl rfl (v_u64 _)) ?_
      refine stp (v := .int .u64 ((((key.take i).foldl hstep 14695981039346656037) + 11400714819323198485) % 18446744073709551616)) (o_mv rfl) ?_
      refine h12 _ _ ?_
      clear h12
      refine seq fun K13 h13 => ?_
      refine stp (v := .int .u64 ((((key.take i).foldl hstep 14695981039346656037) + 11400714819323198485) % 18446744073709551616)) (o_mv rfl) ?_
      refine stp (v := .int .u64 ((((key.take i).foldl hstep 14695981039346656037) + 11400714819323198485) % 18446744073709551616)) (o_mv rfl) ?_
      refine stp (v := .int .u64 (((((key.take i).foldl hstep 14695981039346656037) + 11400714819323198485) % 18446744073709551616) / 1073741824)) (o_shr rfl rfl (by omega) (v_shr 30 (by decide))) ?_
      refine stp (v := .int .u64 (xorI .u64 ((((key.take i).foldl hstep 14695981039346656037) + 11400714819323198485) % 18446744073709551616) (((((key.take i).foldl hstep 14695981039346656037) + 11400714819323198485) % 18446744073709551616) / 1073741824))) (o_bin rfl rfl rfl) ?_
      refine stp (v := .int .u64 (((xorI .u64 ((((key.take i).foldl hstep 14695981039346656037) + 11400714819323198485) % 18446744073709551616) (((((key.take i).foldl hstep 14695981039346656037) + 11400714819323198485) % 18446744073709551616) / 1073741824)) * 13787848793156543929) % 18446744073709551616)) (o_bin rfl rfl (v_u64 _)) ?_
      refine stp (v := .int .u64 (((xorI .u64 ((((key.take i).foldl hstep 14695981039346656037) + 11400714819323198485) % 18446744073709551616) (((((key.take i).foldl hstep 14695981039346656037) + 11400714819323198485) % 18446744073709551616) / 1073741824)) * 13787848793156543929) % 18446744073709551616)) (o_mv rfl) ?_
      refine h13 _ _ ?_
      clear h13
      refine seq fun K14 h14 => ?_
      refine stp (v := .int .u64 (((xorI .u64 ((((key.take i).foldl hstep 14695981039346656037) + 11400714819323198485) % 18446744073709551616) (((((key.take i).foldl hstep 14695981039346656037) + 11400714819323198485) % 18446744073709551616) / 1073741824)) * 13787848793156543929) % 18446744073709551616)) (o_mv rfl) ?_
      refine stp (v := .int .u64 (((xorI .u64 ((((key.take i).foldl hstep 14695981039346656037) + 11400714819323198485) % 18446744073709551616) (((((key.take i).foldl hstep 14695981039346656037) + 11400714819323198485) % 18446744073709551616) / 1073741824)) * 13787848793156543929) % 18446744073709551616)) (o_mv rfl) ?_
      refine stp (v := .int .u64 ((((xorI .u64 ((((key.take i).foldl hstep 14695981039346656037) + 11400714819323198485) % 18446744073709551616) (((((key.take i).foldl hstep 14695981039346656037) + 11400714819323198485) % 18446744073709551616) / 1073741824)) * 13787848793156543929) % 18446744073709551616) / 134217728)) (o_shr rfl rfl (by omega) (v_shr 27 (by decide))) ?_
      refine stp (v := .int .u64 (xorI .u64 (((xorI .u64 ((((key.take i).foldl hstep 14695981039346656037) + 11400714819323198485) % 18446744073709551616) (((((key.take i).foldl hstep 14695981039346656037) + 11400714819323198485) % 18446744073709551616) / 1073741824)) * 13787848793156543929) % 18446744073709551616) ((((xorI .u64 ((((key.take i).foldl hstep 14695981039346656037) + 11400714819323198485) % 18446744073709551616) (((((key.take i).foldl hstep 14695981039346656037) + 11400714819323198485) % 18446744073709551616) / 1073741824)) * 13787848793156543929) % 18446744073709551616) / 134217728))) (o_bin rfl rfl rfl) ?_
      refine stp (v := .int .u64 (((xorI .u64 (((xorI .u64 ((((key.take i).foldl hstep 14695981039346656037) + 11400714819323198485) % 18446744073709551616) (((((key.take i).foldl hstep 14695981039346656037) + 11400714819323198485) % 18446744073709551616) / 1073741824)) * 13787848793156543929) % 18446744073709551616) ((((xorI .u64 ((((key.take i).foldl hstep 14695981039346656037) + 11400714819323198485) % 18446744073709551616) (((((key.take i).foldl hstep 14695981039346656037) + 11400714819323198485) % 18446744073709551616) / 1073741824)) * 13787848793156543929) % 18446744073709551616) / 134217728)) * 10723151780598845931) % 18446744073709551616)) (o_bin rfl rfl (v_u64 _)) ?_
      refine stp (v := .int .u64 (((xorI .u64 (((xorI .u64 ((((key.take i).foldl hstep 14695981039346656037) + 11400714819323198485) % 18446744073709551616) (((((key.take i).foldl hstep 14695981039346656037) + 11400714819323198485) % 18446744073709551616) / 1073741824)) * 13787848793156543929) % 18446744073709551616) ((((xorI .u64 ((((key.take i).foldl hstep 14695981039346656037) + 11400714819323198485) % 18446744073709551616) (((((key.take i).foldl hstep 14695981039346656037) + 11400714819323198485) % 18446744073709551616) / 1073741824)) * 13787848793156543929) % 18446744073709551616) / 134217728)) * 10723151780598845931) % 18446744073709551616)) (o_mv rfl) ?_
      refine h14 _ _ ?_
      clear h14
      refine seq fun K15 h15 => ?_
      refine stp (v := .int .u64 ((key.take i).foldl hstep 14695981039346656037)) (o_mv rfl) ?_
      refine stp (v := .int .u64 (((xorI .u64 (((xorI .u64 ((((key.take i).foldl hstep 14695981039346656037) + 11400714819323198485) % 18446744073709551616) (((((key.take i).foldl hstep 14695981039346656037) + 11400714819323198485) % 18446744073709551616) / 1073741824)) * 13787848793156543929) % 18446744073709551616) ((((xorI .u64 ((((key.take i).foldl hstep 14695981039346656037) + 11400714819323198485) % 18446744073709551616) (((((key.take i).foldl hstep 14695981039346656037) + 11400714819323198485) % 18446744073709551616) / 1073741824)) * 13787848793156543929) % 18446744073709551616) / 134217728)) * 10723151780598845931) % 18446744073709551616)) (o_mv rfl) ?_
      refine stp (v := .int .u64 (((xorI .u64 (((xorI .u64 ((((key.take i).foldl hstep 14695981039346656037) + 11400714819323198485) % 18446744073709551616) (((((key.take i).foldl hstep 14695981039346656037) + 11400714819323198485) % 18446744073709551616) / 1073741824)) * 13787848793156543929) % 18446744073709551616) ((((xorI .u64 ((((key.take i).foldl hstep 14695981039346656037) + 11400714819323198485) % 18446744073709551616) (((((key.take i).foldl hstep 14695981039346656037) + 11400714819323198485) % 18446744073709551616) / 1073741824)) * 13787848793156543929) % 18446744073709551616) / 134217728)) * 10723151780598845931) % 18446744073709551616)) (o_mv rfl) ?_
      refine stp (v := .int .u64 ((((xorI .u64 (((xorI .u64 ((((key.take i).foldl hstep 14695981039346656037) + 11400714819323198485) % 18446744073709551616) (((((key.take i).foldl hstep 14695981039346656037) + 11400714819323198485) % 18446744073709551616) / 1073741824)) * 13787848793156543929) % 18446744073709551616) ((((xorI .u64 ((((key.take i).foldl hstep 14695981039346656037) + 11400714819323198485) % 18446744073709551616) (((((key.take i).foldl hstep 14695981039346656037) + 11400714819323198485) % 18446744073709551616) / 1073741824)) * 13787848793156543929) % 18446744073709551616) / 134217728)) * 10723151780598845931) % 18446744073709551616) / 2147483648)) (o_shr rfl rfl (by omega) (v_shr 31 (by decide))) ?_
      refine stp (v := .int .u64 (xorI .u64 (((xorI .u64 (((xorI .u64 ((((key.take i).foldl hstep 14695981039346656037) + 11400714819323198485) % 18446744073709551616) (((((key.take i).foldl hstep 14695981039346656037) + 11400714819323198485) % 18446744073709551616) / 1073741824)) * 13787848793156543929) % 18446744073709551616) ((((xorI .u64 ((((key.take i).foldl hstep 14695981039346656037) + 11400714819323198485) % 18446744073709551616) (((((key.take i).foldl hstep 14695981039346656037) + 11400714819323198485) % 18446744073709551616) / 1073741824)) * 13787848793156543929) % 18446744073709551616) / 134217728)) * 10723151780598845931) % 18446744073709551616) ((((xorI .u64 (((xorI .u64 ((((key.take i).foldl hstep 14695981039346656037) + 11400714819323198485) % 18446744073709551616) (((((key.take i).foldl hstep 14695981039346656037) + 11400714819323198485) % 18446744073709551616) / 1073741824)) * 13787848793156543929) % 18446744073709551616) ((((xorI .u64 ((((key.take i).foldl hstep 14695981039346656037) + 11400714819323198485) % 18446744073709551616) (((((key.take i).foldl hstep 14695981039346656037) + 11400714819323198485) % 18446744073709551616) / 1073741824)) * 13787848793156543929) % 18446744073709551616) / 134217728)) * 10723151780598845931) % 18446744073709551616) / 2147483648))) (o_bin rfl rfl rfl) ?_
      refine stp (v := .int .u64 (orI .u64 (xorI .u64 (((xorI .u64 (((xorI .u64 ((((key.take i).foldl hstep 14695981039346656037) + 11400714819323198485) % 18446744073709551616) (((((key.take i).foldl hstep 14695981039346656037) + 11400714819323198485) % 18446744073709551616) / 1073741824)) * 13787848793156543929) % 18446744073709551616) ((((xorI .u64 ((((key.take i).foldl hstep 14695981039346656037) + 11400714819323198485) % 18446744073709551616) (((((key.take i).foldl hstep 14695981039346656037) + 11400714819323198485) % 18446744073709551616) / 1073741824)) * 13787848793156543929) % 18446744073709551616) / 134217728)) * 10723151780598845931) % 18446744073709551616) ((((xorI .u64 (((xorI .u64 ((((key.take i).foldl hstep 14695981039346656037) + 11400714819323198485) % 18446744073709551616) (((((key.take i).foldl hstep 14695981039346656037) + 11400714819323198485) % 18446744073709551616) / 1073741824)) * 13787848793156543929) % 18446744073709551616) ((((xorI .u64 ((((key.take i).foldl hstep 14695981039346656037) + 11400714819323198485) % 18446744073709551616) (((((key.take i).foldl hstep 14695981039346656037) + 11400714819323198485) % 18446744073709551616) / 1073741824)) * 13787848793156543929) % 18446744073709551616) / 134217728)) * 10723151780598845931) % 18446744073709551616) / 2147483648)) 1)) (o_bin rfl rfl rfl) ?_
      refine stp (v := .int .u64 ((key.take i).foldl hstep 14695981039346656037)) (o_mv rfl) ?_
      refine stp (v := .int .u64 (orI .u64 (xorI .u64 (((xorI .u64 (((xorI .u64 ((((key.take i).foldl hstep 14695981039346656037) + 11400714819323198485) % 18446744073709551616) (((((key.take i).foldl hstep 14695981039346656037) + 11400714819323198485) % 18446744073709551616) / 1073741824)) * 13787848793156543929) % 18446744073709551616) ((((xorI .u64 ((((key.take i).foldl hstep 14695981039346656037) + 11400714819323198485) % 18446744073709551616) (((((key.take i).foldl hstep 14695981039346656037) + 11400714819323198485) % 18446744073709551616) / 1073741824)) * 13787848793156543929) % 18446744073709551616) / 134217728)) * 10723151780598845931) % 18446744073709551616) ((((xorI .u64 (((xorI .u64 ((((key.take i).foldl hstep 14695981039346656037) + 11400714819323198485) % 18446744073709551616) (((((key.take i).foldl hstep 14695981039346656037) + 11400714819323198485) % 18446744073709551616) / 1073741824)) * 13787848793156543929) % 18446744073709551616) ((((xorI .u64 ((((key.take i).foldl hstep 14695981039346656037) + 11400714819323198485) % 18446744073709551616) (((((key.take i).foldl hstep 14695981039346656037) + 11400714819323198485) % 18446744073709551616) / 1073741824)) * 13787848793156543929) % 18446744073709551616) / 134217728)) * 10723151780598845931) % 18446744073709551616) / 2147483648)) 1)) (o_mv rfl) ?_
      refine h15 _ _ ?_
      clear h15
      refine ⟨(.tuple [.int .u64 ((key.take i).foldl hstep 14695981039346656037), .int .u64 (orI .u64 (xorI .u64 (((xorI .u64 (((xorI .u64 ((((key.take i).foldl hstep 14695981039346656037) + 11400714819323198485) % 18446744073709551616) (((((key.take i).foldl hstep 14695981039346656037) + 11400714819323198485) % 18446744073709551616) / 1073741824)) * 13787848793156543929) % 18446744073709551616) ((((xorI .u64 ((((key.take i).foldl hstep 14695981039346656037) + 11400714819323198485) % 18446744073709551616) (((((key.take i).foldl hstep 14695981039346656037) + 11400714819323198485) % 18446744073709551616) / 1073741824)) * 13787848793156543929) % 18446744073709551616) / 134217728)) * 10723151780598845931) % 18446744073709551616) ((((xorI .u64 (((xorI .u64 ((((key.take i).foldl hstep 14695981039346656037) + 11400714819323198485) % 18446744073709551616) (((((key.take i).foldl hstep 14695981039346656037) + 11400714819323198485) % 18446744073709551616) / 1073741824)) * 13787848793156543929) % 18446744073709551616) ((((xorI .u64 ((((key.take i).foldl hstep 14695981039346656037) + 11400714819323198485) % 18446744073709551616) (((((key.take i).foldl hstep 14695981039346656037) + 11400714819323198485) % 18446744073709551616) / 1073741824)) * 13787848793156543929) % 18446744073709551616) / 134217728)) * 10723151780598845931) % 18446744073709551616) / 2147483648)) 1)].toArray), rfl, ?_⟩
      rw [List.take_of_length_le (by omega)]
      exact ⟨rfl, hM5.upd⟩

def testB (d : List UInt8) (p : Nat) : Bool := (d.getD (p / 8) 0).toNat.testBit (p % 8)
def setB (d : List UInt8) (p : Nat) : List UInt8 := d.set (p / 8) (d.getD (p / 8) 0 ||| (2 ^ (p % 8)).toUInt8)
theorem setB_length (d : List UInt8) (p : Nat) : (setB d p).length = d.length := by simp [setB]
/-- what a look at bits, one behind the other, tells, and what it leaves -/
def runE {σ : Type} (q : σ → Nat → Bool) (nx : σ → Nat → σ) : σ → List Nat → Bool × σ
  | s, [] => (true, s)
  | s, p :: ps => if q s p then runE q nx (nx s p) ps else (false, nx s p)
theorem runE_yes {σ : Type} {q : σ → Nat → Bool} {nx : σ → Nat → σ} {s : σ} {p : Nat} {ps : List Nat} (h : q s p = true) : runE q nx s (p :: ps) = runE q nx (nx s p) ps := by rw [runE, if_pos h]
theorem runE_no {σ : Type} {q : σ → Nat → Bool} {nx : σ → Nat → σ} {s : σ} {p : Nat} {ps : List Nat} (h : q s p = false) : runE q nx s (p :: ps) = (false, nx s p) := by rw [runE, if_neg (by simp [h])]
def rest (key : List UInt8) (hs n k : Nat) : List Nat := (places key hs n).drop k
theorem rest_cons {key : List UInt8} {hs n k : Nat} (h : k < hs) : rest key hs n k = bitN key k n :: rest key hs n (k + 1) := by
  unfold rest places
  rw [List.drop_eq_getElem_cons (by simpa using h)]; simp
theorem rest_nil {key : List UInt8} {hs n k : Nat} (h : hs ≤ k) : rest key hs n k = [] := by unfold rest places; rw [List.drop_eq_nil_iff]; simpa using h
theorem not_t {b : Bool} (h : (!b) = true) : b = false := by simpa using h
theorem not_f {b : Bool} (h : (!b) = false) : b = true := by simpa using h
theorem hs_le {hs : Int} {k : Nat} (h : ¬ (k : Int) < hs) : hs.toNat ≤ k := by omega

/-- filter.each -/
theorem each_ok {σ : Type} (I : σ → World → Prop) (q : σ → Nat → Bool) (nx : σ → Nat → σ) (s0 : σ) (key : List UInt8) (hs : Int) (n : Nat) (g : FuncId) (caps : List Value) (w : World) (hl : key.length ≤ 9223372036854775807) (hn : 0 < n) (hn2 : n ≤ 1000000000) (hh : hs ≤ 9223372036854775807) (ho : okFn Tryd.prog g = true) (hI0 : I s0 w) (hst : ∀ s w w', I s w → Upd [] w w' → I s w')
    (hq : ∀ s (p : Nat) wc, I s wc → p < 8 * n → Calls Tryd.prog g (.int .u64 (p : Int) :: caps).toArray wc (Rt fun r w' => r = .bool (q s p) ∧ I (nx s p) w')) :
    Calls Tryd.prog 27 [.string (str key), .int .i64 hs, .int .i64 (n : Int), .func (.func g) #[] caps.toArray].toArray w (Rt fun r w' => r = .bool (runE q nx s0 (places key hs.toNat n)).1 ∧ I (runE q nx s0 (places key hs.toNat n)).2 w') := by
  have hM0 : Mem w [] w [] := Mem.nil w []
  refine calls_vc mixed Tryd.func27 rfl C27 (by simp [Tryd.ntmps27]) ?_
  refine seq fun K1 h1 => ?_
  refine stp (v := .bool false) (o_mv rfl) ?_
  refine h1 _ _ ?_
  clear h1
  refine seq fun K2 h2 => ?_
  refine stp (v := .string (str key)) (o_mv rfl) ?_
  refine m_call (Hash_ok key w (by first | omega | (simp; done) | (simp; omega))) rfl fun v3 w3 ⟨hr3, hu3⟩ => ?_
  have hM3 : Mem w [] w3 [] := hM0.pure hu3
  subst hr3
  refine stp (v := .tuple [.int .u64 (hX key), .int .u64 (hY key)].toArray) (o_mv rfl) ?_
  refine stp (v := .int .u64 (hX key)) (o_ext rfl rfl) ?_
  refine stp (v := .int .u64 (hY key)) (o_ext rfl rfl) ?_
  refine stp (v := .int .u64 (hX key)) (o_mv rfl) ?_
  refine stp (v := .int .u64 (hY key)) (o_mv rfl) ?_
  refine h2 _ _ ?_
  clear h2
  refine seq fun K4 h4 => ?_
  refine seq fun K5 h5 => ?_
  refine stp (v := .int .i64 hs) (o_mv rfl) ?_
  refine stp (v := .int .i64 0) (o_mv rfl) ?_
  refine h5 _ _ ?_
  clear h5
  refine lp (n := fun _ _ => False) (ι := (Nat) × (World) × (σ)) (fun ⟨k, wb, s⟩ f w' => f 9 = .int .u64 (xk key k) ∧ f 17 = .int .i64 (k : Nat) ∧ f 2 = .int .i64 (n : Nat) ∧ f 3 = .func (.func g) #[] caps.toArray ∧ f 10 = .int .u64 (hY key) ∧ f 16 = .int .i64 hs ∧ Mem wb [] w' [] ∧ (I s w') ∧ (runE q nx s0 (places key hs.toNat n) = runE q nx s (rest key hs.toNat n k))) (fun ⟨k, wb, s⟩ => hs.toNat - k) (0, w3, s0) ?_ ?_
  · exact ⟨v_int (xk_zero _).symm, by first | rfl | exact v_int (by omega) | exact v_int (by simp) | exact v_int (by simp; omega), by first | rfl | exact v_int (by omega) | exact v_int (by simp) | exact v_int (by simp; omega), rfl, by first | rfl | exact v_int (by omega) | exact v_int (by simp) | exact v_int (by simp; omega), by first | rfl | exact v_int (by omega) | exact v_int (by simp) | exact v_int (by simp; omega), Mem.nil _ [], hst _ _ _ hI0 hM3.upd, rfl⟩
  · rintro ⟨k, wb, s⟩ f w6 ⟨e6_9, e6_17, e6_2, e6_3, e6_10, e6_16, hM6, hI, hr⟩ K7 h7
    obtain ⟨frm, rfl⟩ : ∃ frm, f = (upd (upd (upd (upd (upd (upd frm 9 (.int .u64 (xk key k))) 17 (.int .i64 (k : Nat))) 2 (.int .i64 (n : Nat))) 3 (.func (.func g) #[] caps.toArray)) 10 (.int .u64 (hY key))) 16 (.int .i64 hs)) := ⟨f, by rw [upd_self e6_9, upd_self e6_17, upd_self e6_2, upd_self e6_3, upd_self e6_10, upd_self e6_16]⟩
    clear e6_9 e6_17 e6_2 e6_3 e6_10 e6_16
    refine seq fun K8 h8 => ?_
    refine stp (v := .bool (decide (((k : Nat) : Int) < hs))) (o_bin rfl rfl rfl) ?_
    refine h8 _ _ ?_
    clear h8
    refine seq fun K9 h9 => ?_
    refine cndP rfl (fun c10 => ?_) (fun c10 => ?_)
    ·
      refine h9 _ _ ?_
      clear h9
      refine seq fun K11 h11 => ?_
      refine seq fun K12 h12 => ?_
      refine seq fun K13 h13 => ?_
      refine stp (v := .func (.func g) #[] caps.toArray) (o_mv rfl) ?_
      refine stp (v := .int .u64 (xk key k)) (o_mv rfl) ?_
      refine stp (v := .int .i64 (n : Nat)) (o_mv rfl) ?_
      refine stp (v := .int .i64 (8 * (n : Nat))) (o_bin rfl rfl (v_mul64 (by constructor <;> omega))) ?_
      refine stp (v := .int .u64 (8 * (n : Nat))) (o_conv rfl (v_same (by simp only [inK]; omega))) ?_
      refine stp (v := .int .u64 (bitN key k n : Nat)) (o_rem rfl rfl (by omega) ((v_rem (xk_bd _ _).1).trans (v_int (bitN_v hn)))) ?_
      refine m_callv rfl (by assumption) (hq s (bitN key k n) w6 hI (bitN_lt hn)) rfl fun v14 w14 ⟨hr14, hI2⟩ => ?_
      have hM14 : Mem w14 [] w14 [] := Mem.nil _ []
      subst hr14
      refine stp (v := .bool (!(q s (bitN key k n)))) (o_not rfl rfl) ?_
      refine h13 _ _ ?_
      clear h13
      refine cnd rfl (fun c15 => ?_) (fun c15 => ?_)
      ·
        refine seq fun K16 h16 => ?_
        refine stp (v := .bool false) (o_mv rfl) ?_
        refine h16 _ _ ?_
        clear h16
        refine ⟨(.bool false), rfl, ?_⟩
        rw [hr, rest_cons (by omega), runE_no (not_t (by assumption))]
        exact ⟨rfl, hI2⟩
      ·
        refine h12 _ _ ?_
        clear h12
        refine stp (v := .int .u64 (xk key k)) (o_mv rfl) ?_
        refine stp (v := .int .u64 (hY key)) (o_mv rfl) ?_
        refine stp (v := .int .u64 (((xk key k) + (hY key)) % 18446744073709551616)) (o_bin rfl rfl (v_u64 _)) ?_
        refine stp (v := .int .u64 (((xk key k) + (hY key)) % 18446744073709551616)) (o_mv rfl) ?_
        refine h11 _ _ ?_
        clear h11
        refine stp (v := .int .i64 ((k : Nat) + 1)) (o_bin rfl rfl (v_add64 (by constructor <;> omega))) ?_
        refine stp (v := .int .i64 ((k : Nat) + 1)) (o_mv rfl) ?_
        refine h7 (k + 1, w14, nx s (bitN key k n)) _ _ ⟨v_int (xk_succ _ _), by first | rfl | exact v_int (by omega) | exact v_int (by simp) | exact v_int (by simp; omega), by first | rfl | exact v_int (by omega) | exact v_int (by simp) | exact v_int (by simp; omega), rfl, by first | rfl | exact v_int (by omega) | exact v_int (by simp) | exact v_int (by simp; omega), by first | rfl | exact v_int (by omega) | exact v_int (by simp) | exact v_int (by simp; omega), Mem.nil _ [], hI2, by rw [hr, rest_cons (by omega), runE_yes (not_f (by assumption))]⟩ (by (try dsimp only); omega)
    ·
      refine h4 _ _ ?_
      clear h4
      refine seq fun K17 h17 => ?_
      refine stp (v := .bool true) (o_mv rfl) ?_
      refine h17 _ _ ?_
      clear h17
      refine ⟨(.bool true), rfl, ?_⟩
      rw [hr, rest_nil (hs_le (by assumption))]
      exact ⟨rfl, hI⟩

theorem shr_v8 {x : UInt8} {n : Nat} {z : Int} (hz : z = ((n % 8 : Nat) : Int)) : Value.int .u8 ((x.toNat : Int).fdiv (2 ^ min z.toNat IntKind.u8.bits)) = .int .u8 ((x.toNat / 2 ^ (n % 8) : Nat) : Int) := by
  subst hz; exact v_int (shrI_nat (k := .u8) (by simp only [IntKind.bits]; omega))
theorem and_v8 (x : UInt8) (n : Nat) : andI .u8 ((x.toNat / 2 ^ n : Nat) : Int) 1 = ((x.toNat / 2 ^ n % 2 : Nat) : Int) := by
  have h1 := x.toNat_lt
  have h2 := Nat.div_le_self x.toNat (2 ^ n)
  have := andI_nat (k := .u8) (a := x.toNat / 2 ^ n) (b := 1) (by simp only [IntKind.bits]; omega) (by decide) (by rw [Nat.and_one_is_mod]; simp only [inK]; generalize x.toNat / 2 ^ n = q at *; omega)
  rw [Nat.and_one_is_mod] at this
  exact this
theorem testB_v {d : List UInt8} {p : Nat} : binI .eql .u8 (((d.getD (p / 8) 0).toNat / 2 ^ (p % 8) % 2 : Nat) : Int) 1 = .bool (testB d p) := by
  unfold testB
  rw [Nat.testBit_eq_decide_div_mod_eq]
  show Value.bool (decide (((_ : Nat) : Int) = 1)) = _
  congr 1
  rw [decide_eq_decide]
  omega

/-- filter.Has$1 -/
theorem look_ok (p bf : Nat) (a : Bool) (h : Int) (v : Value) (d : List UInt8) (w : World) (hw : Own w ⟨bf, 24, [.bool a, .int .i64 h, v]⟩) (hd : RdE byteV w v d) (hp : p < 8 * d.length) (hl : d.length ≤ 1000000000) : Calls Tryd.prog 29 [.int .u64 (p : Int), .pointer (some ⟨bf, 0, none⟩)].toArray w (Rt fun r w' => r = .bool (testB d p) ∧ Upd [] w w') := by
  have hM0 : Mem w [] w [] := Mem.nil w []
  refine calls_vc mixed Tryd.func29 rfl C29 (by simp [Tryd.ntmps29]) ?_
  refine seq fun K1 h1 => ?_
  refine stp (v := .bool false) (o_mv rfl) ?_
  refine h1 _ _ ?_
  clear h1
  refine seq fun K2 h2 => ?_
  refine stp (v := .pointer (some ⟨bf, 2, none⟩)) (o_fa rfl rfl) ?_
  refine ld (v := v) rfl ((hw.upd hM0.upd (by simp)).cell 2) ?_
  refine stp (v := .int .u64 (p : Nat)) (o_mv rfl) ?_
  refine stp (v := .int .u64 ((p : Nat) / 8)) (o_quo rfl rfl (by omega) (v_quo (by omega) (by omega) (by simp only [inK]; omega))) ?_
  refine m_idxE 0 (j := (p / 8)) (hd.upd hM0.upd) rfl (v_int (by omega)) (by omega) fun b3 o3 hp3 => ?_
  refine ld (v := byteV (d.getD (p / 8) 0)) rfl (hp3) ?_
  refine stp (v := .int .u64 (p : Nat)) (o_mv rfl) ?_
  refine stp (v := .int .u64 ((p : Nat) % 8)) (o_rem rfl rfl (by omega) (v_rem (by omega))) ?_
  refine stp (v := .int .u8 ((d.getD (p / 8) 0).toNat / 2 ^ (p % 8) : Nat)) (o_shr rfl rfl (by omega) (shr_v8 (n := p) (by omega))) ?_
  refine stp (v := .int .u8 ((d.getD (p / 8) 0).toNat / 2 ^ (p % 8) % 2 : Nat)) (o_bin rfl rfl (v_int (and_v8 _ _))) ?_
  refine stp (v := .bool (testB d p)) (o_bin rfl rfl testB_v) ?_
  refine stp (v := .bool (testB d p)) (o_mv rfl) ?_
  refine h2 _ _ ?_
  clear h2
  refine ⟨(.bool (testB d p)), rfl, ?_⟩
  exact ⟨rfl, hM0.upd⟩
