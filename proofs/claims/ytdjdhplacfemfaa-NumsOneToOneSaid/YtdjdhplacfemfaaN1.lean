import Derived.Test.YtdjdhplacfemfaaE11
import Derived.Test.YtdjdhplacfemfaaM
namespace Go.Proofs.Ytdjdhplacfemfaa.E
open Go

/-! ## numbers as bytes -/
def put (v : Nat) : List UInt8 := if h : v < 128 then [v.toUInt8] else (v % 128 + 128).toUInt8 :: put (v / 128)
termination_by v
def putI (v : Int) : List UInt8 := if v < 0 then [] else put v.toNat
theorem put_lt {v : Nat} (h : v < 128) : put v = [v.toUInt8] := by rw [put]; simp [h]
theorem put_ge {v : Nat} (h : 128 ≤ v) : put v = (v % 128 + 128).toUInt8 :: put (v / 128) := by rw [put]; simp [Nat.not_lt.2 h]
theorem put_len (k : Nat) : ∀ v : Nat, v < 128 ^ (k + 1) → (put v).length ≤ k + 1 := by
  induction k with
  | zero => intro v h; rw [put_lt (by simpa using h)]; simp
  | succ k ih =>
    intro v h
    by_cases h1 : v < 128
    · rw [put_lt h1]; simp
    · rw [put_ge (by omega)]
      have : v / 128 < 128 ^ (k + 1) := by rw [Nat.pow_succ] at h; omega
      have := ih _ this
      simp; omega
theorem putI_len {v : Int} (h : v ≤ 9223372036854775807) : (putI v).length ≤ 9 := by
  unfold putI; split
  · simp
  · exact put_len 8 _ (by simp; omega)
theorem putI_ge {v : Int} (h : 128 ≤ v) : putI v = (v % 128 + 128).toNat.toUInt8 :: putI (v / 128) := by
  unfold putI
  rw [if_neg (by omega), if_neg (by omega), put_ge (by omega)]
  congr 2
  · omega
  · congr 1; omega
theorem putI_lt {v : Int} (h0 : 0 ≤ v) (h : v < 128) : putI v = [v.toNat.toUInt8] := by
  unfold putI
  rw [if_neg (by omega), put_lt (by omega)]
theorem put_pos (v : Nat) : 0 < (put v).length := by rw [put]; split <;> simp
theorem putI_pos {v : Int} (h : 0 ≤ v) : 0 < (putI v).length := by unfold putI; rw [if_neg (by omega)]; exact put_pos _
theorem byteV_of {n : Int} (h0 : 0 ≤ n) (h : n < 256) : Value.int .u8 n = byteV n.toNat.toUInt8 := by
  unfold byteV
  congr 1
  simp
  omega
theorem byteV_one (b : UInt8) : (byteV b).oneCell' = true := rfl
theorem Sl.snoc {t : TypeId} {v : Value} {p : List UInt8} {b : UInt8} {u : Value} {r : List Ent} (h : Sl 1 t v (p.length + 1) (p.map byteV ++ [u]) r) (hu : u = byteV b) : Sl 1 t v (p ++ [b]).length ((p ++ [b]).map byteV) r := by
  subst hu; simpa using h
theorem low_or8 : ∀ n : Fin 256, orI .u8 (n.val : Int) 128 = (n.val : Int) % 128 + 128 := by decide +kernel
/-- the low byte of a number, with the top bit -/
theorem low_or (v : Int) : orI .u8 (v % 256) 128 = v % 128 + 128 := by
  have h := low_or8 ⟨(v % 256).toNat, by omega⟩
  simp only [] at h
  rw [Int.toNat_of_nonneg (by omega)] at h
  rw [h]; omega

/-- nums.Put -/
theorem Put_ok (v : Int) (hv : inK .i64 v) (w : World) : Calls Try.prog 11 [.int .i64 v].toArray w (Rt fun r w' => ∃ rs, SlB 5 r (putI v) rs ∧ Mem w [] w' [rs]) := by
  have hM0 : Mem w [] w [] := Mem.nil w []
  simp only [inK] at hv
  refine calls_vc mixed Try.func11 rfl C11 (by simp [Try.ntmps11]) ?_
  refine seq fun K1 h1 => ?_
  refine stp (v := .slice none 0 0) (o_mv rfl) ?_
  refine h1 _ _ ?_
  clear h1
  refine seq fun K2 h2 => ?_
  refine seq fun K3 h3 => ?_
  refine stp (v := .int .i64 v) (o_mv rfl) ?_
  refine stp (v := .bool (decide (v < 0))) (o_bin rfl rfl rfl) ?_
  refine h3 _ _ ?_
  clear h3
  refine cndP rfl (fun c4 => ?_) (fun c4 => ?_)
  ·
    refine seq fun K5 h5 => ?_
    refine stp (v := .slice none 0 0) (o_mv rfl) ?_
    refine h5 _ _ ?_
    clear h5
    refine ⟨(.slice none 0 0), rfl, ?_⟩
    exact ⟨[], by unfold putI; rw [if_pos c4]; exact Sl.nil 1 5, hM0.addNil⟩
  ·
    refine h2 _ _ ?_
    clear h2
    refine seq fun K6 h6 => ?_
    refine stp (v := .slice none 0 0) (o_mv rfl) ?_
    refine h6 _ _ ?_
    clear h6
    refine seq fun K7 h7 => ?_
    refine lp (n := fun _ _ => False) (ι := (Int) × (List UInt8) × (Value) × (List Ent)) (fun ⟨v', p, r, rs⟩ f w' => f 0 = .int .i64 v' ∧ f 3 = r ∧ Mem w [] w' [rs] ∧ (SlB 5 r p rs) ∧ (0 ≤ v' ∧ v' ≤ 9223372036854775807) ∧ (p ++ putI v' = putI v) ∧ (p.length ≤ 9)) (fun ⟨v', p, r, rs⟩ => v'.toNat) (v, [], .slice none 0 0, []) ?_ ?_
    · exact ⟨by first | rfl | exact v_int (by omega) | exact v_int (by simp) | exact v_int (by simp; omega), rfl, hM0.addNil, Sl.nil 1 5, by omega, by simp, by simp⟩
    · rintro ⟨v', p, r, rs⟩ f w8 ⟨e8_0, e8_3, hM8, hs, hv1, hp, hl⟩ K9 h9
      obtain ⟨frm, rfl⟩ : ∃ frm, f = (upd (upd frm 0 (.int .i64 v')) 3 (r)) := ⟨f, by rw [upd_self e8_0, upd_self e8_3]⟩
      clear e8_0 e8_3
      refine seq fun K10 h10 => ?_
      refine seq fun K11 h11 => ?_
      refine stp (v := .int .i64 v') (o_mv rfl) ?_
      refine stp (v := .bool (decide (128 ≤ v'))) (o_bin rfl rfl rfl) ?_
      refine h11 _ _ ?_
      clear h11
      refine cndP rfl (fun c12 => ?_) (fun c12 => ?_)
      ·
        refine h10 _ _ ?_
        clear h10
        refine seq fun K13 h13 => ?_
        refine stp (v := r) (o_mv rfl) ?_
        refine stp (v := .int .i64 v') (o_mv rfl) ?_
        refine stp (v := .int .u8 (v' % 256)) (o_conv rfl (v_u8 _)) ?_
        refine stp (v := .int .u8 (v' % 128 + 128)) (o_bin rfl rfl (v_int (low_or v'))) ?_
        refine m_app1 (E := byteV) (q := (v' % 128 + 128).toNat.toUInt8) hM8 (i := 0) rfl hs rfl (by simp) (byteV_of (by omega) (by omega)) (by omega) (by omega) fun v14 w14 r14 u14 (hs14 : SlE byteV 5 v14 (p ++ [(v' % 128 + 128).toNat.toUInt8]) r14) (hM14 : Mem w [] w14 [r14]) => ?_
        refine stp (v := v14) (o_mv rfl) ?_
        refine h13 _ _ ?_
        clear h13
        refine stp (v := .int .i64 v') (o_mv rfl) ?_
        refine stp (v := .int .i64 (v' / 128)) (o_shr rfl rfl (by omega) (v_shr 7 (by decide))) ?_
        refine stp (v := .int .i64 (v' / 128)) (o_mv rfl) ?_
        refine h9 (v' / 128, p ++ [(v' % 128 + 128).toNat.toUInt8], v14, r14) _ _ ⟨by first | rfl | exact v_int (by omega) | exact v_int (by simp) | exact v_int (by simp; omega), rfl, hM14, hs14, by omega, by rw [← hp, putI_ge (v := v') (by omega), List.append_assoc]; rfl, by have h1 := putI_len hv.2; have h2 := putI_pos (v := v' / 128) (by omega); rw [← hp, putI_ge (v := v') (by omega)] at h1; simp at h1 ⊢; omega⟩ (by (try dsimp only); omega)
      ·
        refine h7 _ _ ?_
        clear h7
        refine seq fun K15 h15 => ?_
        refine stp (v := r) (o_mv rfl) ?_
        refine stp (v := .int .i64 v') (o_mv rfl) ?_
        refine stp (v := .int .u8 (v' % 256)) (o_conv rfl (v_u8 _)) ?_
        refine m_app1 (E := byteV) (q := v'.toNat.toUInt8) hM8 (i := 0) rfl hs rfl (by simp) (by rw [Int.emod_eq_of_lt (by omega) (by omega)]; exact byteV_of (by omega) (by omega)) (by omega) (by omega) fun v16 w16 r16 u16 (hs16 : SlE byteV 5 v16 (p ++ [v'.toNat.toUInt8]) r16) (hM16 : Mem w [] w16 [r16]) => ?_
        refine stp (v := v16) (o_mv rfl) ?_
        refine h15 _ _ ?_
        clear h15
        refine ⟨v16, rfl, ?_⟩
        exact ⟨_, by rw [← hp, putI_lt (by omega) (by omega)]; exact hs16, hM16⟩

def fixed (n v : Nat) : List UInt8 := (List.range n).map fun i => (v / 256 ^ i % 256).toUInt8
def fixedI (v n : Int) : List UInt8 := if n < 1 ∨ 8 < n then [] else fixed n.toNat v.toNat
theorem fixedI_none {v n : Int} (h : n < 1 ∨ 8 < n) : fixedI v n = [] := by unfold fixedI; rw [if_pos h]
theorem fixedI_some {v n : Int} (h : ¬ (n < 1 ∨ 8 < n)) : fixedI v n = fixed n.toNat v.toNat := by unfold fixedI; rw [if_neg h]
theorem fixed_length (n v : Nat) : (fixed n v).length = n := by simp [fixed]
theorem fixed_succ (n v : Nat) : fixed (n + 1) v = fixed n v ++ [(v / 256 ^ n % 256).toUInt8] := by simp [fixed, List.range_succ]
theorem fixed_set {n i v : Nat} (h : i < n) : (fixed i v ++ List.replicate (n - i) 0).set i (v / 256 ^ i % 256).toUInt8 = fixed (i + 1) v ++ List.replicate (n - (i + 1)) 0 := by
  rw [List.set_append_right _ _ (by rw [fixed_length]; exact Nat.le_refl _), fixed_length, Nat.sub_self, fixed_succ]
  obtain ⟨k, hk⟩ : ∃ k, n - i = k + 1 := ⟨n - i - 1, by omega⟩
  rw [hk, List.replicate_succ, List.set_cons_zero, show n - (i + 1) = k by omega]
  simp
/-- a byte out of the middle of a number -/
theorem shr_byte {v : Int} {i : Nat} (h0 : 0 ≤ v) (hi : i < 8) : Value.int .u8 (IntKind.u8.wrap (shrI .u64 v (8 * (i : Int)))) = byteV (v.toNat / 256 ^ i % 256).toUInt8 := by
  have e1 : shrI .u64 v (8 * (i : Int)) = ((v.toNat / 256 ^ i : Nat) : Int) := by
    unfold shrI
    have e : (8 * (i : Int)).toNat = 8 * i := by omega
    rw [e]
    have e2 : min (8 * i) IntKind.u64.bits = 8 * i := Nat.min_eq_left (by simp only [IntKind.bits]; omega)
    rw [e2, Int.fdiv_eq_ediv_of_nonneg _ (by exact Int.le_of_lt (Int.pow_pos (by omega)))]
    have e3 : (2 : Int) ^ (8 * i) = ((256 ^ i : Nat) : Int) := by rw [Int.pow_mul]; simp
    rw [e3]
    obtain ⟨m, rfl⟩ := Int.eq_ofNat_of_zero_le h0
    rfl
  rw [e1, wrap_u8]
  have e3 : ((v.toNat / 256 ^ i : Nat) : Int) % 256 = ((v.toNat / 256 ^ i % 256 : Nat) : Int) := by omega
  rw [e3]
  exact byteV_of (by omega) (by omega)
theorem byte_mod (m : Nat) : Value.int .u8 ((m : Int) % 256 % 256) = byteV (m % 256).toUInt8 := by
  have e3 : (m : Int) % 256 % 256 = ((m % 256 : Nat) : Int) := by omega
  rw [e3]
  exact byteV_of (by omega) (by omega)
theorem take_succ_eq {a b : List UInt8} {i : Nat} (h : a.take i = b.take i) (ha : i < a.length) (hb : i < b.length) (he : a.getD i 0 = b.getD i 0) : a.take (i + 1) = b.take (i + 1) := by
  rw [List.take_add_one, List.take_add_one, h, List.getElem?_eq_getElem ha, List.getElem?_eq_getElem hb]
  simp only [List.getD_eq_getElem?_getD, List.getElem?_eq_getElem ha, List.getElem?_eq_getElem hb, Option.getD_some] at he
  rw [he]
theorem getD_ne {a b : List UInt8} {i : Nat} (h : ¬ ((a.getD i 0).toNat : Int) = ((b.getD i 0).toNat : Int)) : a ≠ b := fun e => h (by rw [e])
theorem u8_eq {a b : UInt8} (h : (a.toNat : Int) = (b.toNat : Int)) : a = b := UInt8.toNat_inj.1 (by omega)

/-- nums.Fixed -/
theorem Fixed_ok (v n : Int) (hv : inK .u64 v) (hn : inK .i64 n) (w : World) : Calls Try.prog 12 [.int .u64 v, .int .i64 n].toArray w (Rt fun r w' => ∃ rs, SlB 5 r (fixedI v n) rs ∧ Mem w [] w' [rs]) := by
  have hM0 : Mem w [] w [] := Mem.nil w []
  simp only [inK] at hv hn
  refine calls_vc mixed Try.func12 rfl C12 (by simp [Try.ntmps12]) ?_
  refine seq fun K1 h1 => ?_
  refine stp (v := .slice none 0 0) (o_mv rfl) ?_
  refine h1 _ _ ?_
  clear h1
  refine seq fun K2 h2 => ?_
  refine seq fun K3 h3 => ?_
  refine stp (v := .int .i64 n) (o_mv rfl) ?_
  refine stp (v := .bool (decide (n < 1))) (o_bin rfl rfl rfl) ?_
  refine stp (v := .bool (decide (n < 1))) (o_mv rfl) ?_
  refine splitP rfl (fun c4 => ?_) (fun c4 => ?_)
  ·
    refine gno rfl (by simp) ?_
    refine gno rfl (by simp) ?_
    refine stp (v := .bool true) (o_pickT rfl rfl) ?_
    refine h3 _ _ ?_
    clear h3
    refine cndT rfl ?_
    refine seq fun K5 h5 => ?_
    refine stp (v := .slice none 0 0) (o_mv rfl) ?_
    refine h5 _ _ ?_
    clear h5
    refine ⟨(.slice none 0 0), rfl, ?_⟩
    exact ⟨[], by rw [fixedI_none (by omega)]; exact Sl.nil 1 5, hM0.addNil⟩
  ·
    refine stg rfl (v := .int .i64 n) (o_mv rfl) ?_
    refine stg rfl (v := .bool (decide (8 < n))) (o_bin rfl rfl rfl) ?_
    refine stp (v := .bool (decide (8 < n))) (o_pickF rfl rfl) ?_
    refine h3 _ _ ?_
    clear h3
    refine cndP rfl (fun c6 => ?_) (fun c6 => ?_)
    ·
      refine seq fun K7 h7 => ?_
      refine stp (v := .slice none 0 0) (o_mv rfl) ?_
      refine h7 _ _ ?_
      clear h7
      refine ⟨(.slice none 0 0), rfl, ?_⟩
      exact ⟨[], by rw [fixedI_none (by omega)]; exact Sl.nil 1 5, hM0.addNil⟩
    ·
      refine h2 _ _ ?_
      clear h2
      refine seq fun K8 h8 => ?_
      refine stp (v := .int .i64 n) (o_mv rfl) ?_
      refine m_mksE (E := byteV) (z := 0) (n := n.toNat) (c := n.toNat) rfl hM0 (v_int (by omega)) (v_int (by omega)) (by omega) (by omega) (by omega) fun v9 w9 r9 hs9 (hM9 : Mem w [] w9 [r9]) => ?_
      refine stp (v := v9) (o_mv rfl) ?_
      refine h8 _ _ ?_
      clear h8
      refine seq fun K10 h10 => ?_
      refine seq fun K11 h11 => ?_
      refine stp (v := v9) (o_mv rfl) ?_
      refine stp (v := .int .i64 ((List.replicate n.toNat 0).length : Nat)) (o_lenR (hs9.rd hM9 (i := 0) rfl) rfl rfl) ?_
      refine stp (v := .int .i64 0) (o_mv rfl) ?_
      refine h11 _ _ ?_
      clear h11
      refine lp (n := fun _ _ => False) (ι := (Nat) × (Value) × (List Ent)) (fun ⟨i, x, r⟩ f w' => f 0 = .int .u64 v ∧ f 5 = x ∧ f 16 = .int .i64 (n.toNat : Nat) ∧ f 17 = .int .i64 (i : Nat) ∧ Mem w [] w' [r] ∧ (SlB 5 x (fixed i v.toNat ++ List.replicate (n.toNat - i) 0) r) ∧ (i ≤ n.toNat)) (fun ⟨i, x, r⟩ => n.toNat - i) (0, v9, r9) ?_ ?_
      · exact ⟨by first | rfl | exact v_int (by omega) | exact v_int (by simp) | exact v_int (by simp; omega), rfl, by first | rfl | exact v_int (by omega) | exact v_int (by simp) | exact v_int (by simp; omega), by first | rfl | exact v_int (by omega) | exact v_int (by simp) | exact v_int (by simp; omega), hM9, by simpa [fixed] using hs9, by omega⟩
      · rintro ⟨i, x, r⟩ f w12 ⟨e12_0, e12_5, e12_16, e12_17, hM12, hs, hi⟩ K13 h13
        obtain ⟨frm, rfl⟩ : ∃ frm, f = (upd (upd (upd (upd frm 0 (.int .u64 v)) 5 (x)) 16 (.int .i64 (n.toNat : Nat))) 17 (.int .i64 (i : Nat))) := ⟨f, by rw [upd_self e12_0, upd_self e12_5, upd_self e12_16, upd_self e12_17]⟩
        clear e12_0 e12_5 e12_16 e12_17
        refine seq fun K14 h14 => ?_
        refine stp (v := .bool (decide (((i : Nat) : Int) < (n.toNat : Nat)))) (o_bin rfl rfl rfl) ?_
        refine h14 _ _ ?_
        clear h14
        refine seq fun K15 h15 => ?_
        refine cndP rfl (fun c16 => ?_) (fun c16 => ?_)
        ·
          refine h15 _ _ ?_
          clear h15
          refine seq fun K17 h17 => ?_
          refine seq fun K18 h18 => ?_
          refine stp (v := .int .i64 (i : Nat)) (o_mv rfl) ?_
          refine stp (v := .int .i64 (i : Nat)) (o_mv rfl) ?_
          refine h18 _ _ ?_
          clear h18
          refine stp (v := x) (o_mv rfl) ?_
          refine stp (v := .int .i64 (i : Nat)) (o_mv rfl) ?_
          refine stp (v := .int .u64 v) (o_mv rfl) ?_
          refine stp (v := .int .i64 (i : Nat)) (o_mv rfl) ?_
          refine stp (v := .int .i64 (8 * (i : Nat))) (o_bin rfl rfl (v_mul64 (by constructor <;> omega))) ?_
          refine stp (v := .int .u64 (shrI .u64 v (8 * (i : Nat)))) (o_shr rfl rfl (by omega) rfl) ?_
          refine stp (v := byteV ((v.toNat / 256 ^ i % 256).toUInt8)) (o_conv rfl (shr_byte (by omega) (by omega))) ?_
          refine m_set (E := byteV) (q := (v.toNat / 256 ^ i % 256).toUInt8) (j := i) hM12 (i := 0) rfl hs rfl rfl (by simp [fixed_length]; omega) (by simp) (rfl) fun w19 r19 u19 hs19 (hM19 : Mem w [] w19 [r19]) => ?_
          refine h17 _ _ ?_
          clear h17
          refine stp (v := .int .i64 ((i : Nat) + 1)) (o_bin rfl rfl (v_add64 (by constructor <;> omega))) ?_
          refine stp (v := .int .i64 ((i : Nat) + 1)) (o_mv rfl) ?_
          refine h13 (i + 1, x, r19) _ _ ⟨by first | rfl | exact v_int (by omega) | exact v_int (by simp) | exact v_int (by simp; omega), rfl, by first | rfl | exact v_int (by omega) | exact v_int (by simp) | exact v_int (by simp; omega), by first | rfl | exact v_int (by omega) | exact v_int (by simp) | exact v_int (by simp; omega), hM19, by rw [← fixed_set (by omega)]; exact hs19, by omega⟩ (by (try dsimp only); omega)
        ·
          refine h10 _ _ ?_
          clear h10
          refine seq fun K20 h20 => ?_
          refine stp (v := x) (o_mv rfl) ?_
          refine stp (v := x) (o_mv rfl) ?_
          refine h20 _ _ ?_
          clear h20
          refine ⟨x, rfl, ?_⟩
          have e : i = n.toNat := by omega
          subst e
          rw [Nat.sub_self, List.replicate_zero, List.append_nil] at hs
          exact ⟨_, by rw [fixedI_some (by omega)]; exact hs, hM12⟩

/-- winnowlaw2.same -/
theorem same_ok (x y : Value) (a b : List UInt8) (w : World) (hx : RdB w x a) (hy : RdB w y b) (hla : a.length ≤ 9223372036854775807) : Calls Try.prog 13 [x, y].toArray w (Rt fun r w' => r = .bool (decide (a = b)) ∧ Upd [] w w') := by
  have hM0 : Mem w [] w [] := Mem.nil w []
  refine calls_vc mixed Try.func13 rfl C13 (by simp [Try.ntmps13]) ?_
  refine seq fun K1 h1 => ?_
  refine stp (v := .bool false) (o_mv rfl) ?_
  refine h1 _ _ ?_
  clear h1
  refine seq fun K2 h2 => ?_
  refine seq fun K3 h3 => ?_
  refine stp (v := x) (o_mv rfl) ?_
  refine stp (v := .int .i64 (a.length : Nat)) (o_lenR (hx.upd hM0.upd) rfl rfl) ?_
  refine stp (v := y) (o_mv rfl) ?_
  refine stp (v := .int .i64 (b.length : Nat)) (o_lenR (hy.upd hM0.upd) rfl rfl) ?_
  refine stp (v := .bool (decide (¬ ((a.length : Nat) : Int) = (b.length : Nat)))) (o_bin rfl rfl v_neq) ?_
  refine h3 _ _ ?_
  clear h3
  refine cndP rfl (fun c4 => ?_) (fun c4 => ?_)
  ·
    refine seq fun K5 h5 => ?_
    refine stp (v := .bool false) (o_mv rfl) ?_
    refine h5 _ _ ?_
    clear h5
    refine ⟨(.bool false), rfl, ?_⟩
    exact ⟨by rw [decide_eq_false (fun e => c4 (by rw [e]))], hM0.upd⟩
  ·
    refine h2 _ _ ?_
    clear h2
    refine seq fun K6 h6 => ?_
    refine seq fun K7 h7 => ?_
    refine stp (v := .int .i64 0) (o_mv rfl) ?_
    refine h7 _ _ ?_
    clear h7
    refine lp (n := fun _ _ => False) (ι := (Nat)) (fun i f w' => f 0 = x ∧ f 1 = y ∧ f 5 = .int .i64 (i : Nat) ∧ Mem w [] w' [] ∧ (i ≤ a.length) ∧ (a.take i = b.take i)) (fun i => a.length - i) (0) ?_ ?_
    · exact ⟨rfl, rfl, by first | rfl | exact v_int (by omega) | exact v_int (by simp) | exact v_int (by simp; omega), hM0, by omega, by simp⟩
    · rintro i f w8 ⟨e8_0, e8_1, e8_5, hM8, hi, hp⟩ K9 h9
      obtain ⟨frm, rfl⟩ : ∃ frm, f = (upd (upd (upd frm 0 (x)) 1 (y)) 5 (.int .i64 (i : Nat))) := ⟨f, by rw [upd_self e8_0, upd_self e8_1, upd_self e8_5]⟩
      clear e8_0 e8_1 e8_5
      refine seq fun K10 h10 => ?_
      refine seq fun K11 h11 => ?_
      refine stp (v := .int .i64 (i : Nat)) (o_mv rfl) ?_
      refine stp (v := x) (o_mv rfl) ?_
      refine stp (v := .int .i64 (a.length : Nat)) (o_lenR (hx.upd hM8.upd) rfl rfl) ?_
      refine stp (v := .bool (decide (((i : Nat) : Int) < (a.length : Nat)))) (o_bin rfl rfl rfl) ?_
      refine h11 _ _ ?_
      clear h11
      refine cndP rfl (fun c12 => ?_) (fun c12 => ?_)
      ·
        refine h10 _ _ ?_
        clear h10
        refine seq fun K13 h13 => ?_
        refine seq fun K14 h14 => ?_
        intro wd e1 e2 e3 e4
        have hd := Upd.same e1 e2 e3 e4 []
        have hM15 := hM8.pure hd
        clear e1 e2 e3 e4
        refine ⟨none, ?_⟩
        refine dq (v := x) (o_mv rfl) ?_
        refine dq (v := .int .i64 (i : Nat)) (o_mv rfl) ?_
        refine dqp (m_idxE 0 (j := i) (hx.upd hM15.upd) rfl rfl (by omega) fun b16 o16 hp16 => ?_)
        show vd _ _ _ _ _ _ _
        refine dq (v := y) (o_mv rfl) ?_
        refine dq (v := .int .i64 (i : Nat)) (o_mv rfl) ?_
        refine dqp (m_idxE 0 (j := i) (hy.upd hM15.upd) rfl rfl (by omega) fun b17 o17 hp17 => ?_)
        show vd _ _ _ _ _ _ _
        refine dqld rfl (trivial) (v := byteV (a.getD i 0)) (hp16) ?_
        refine dl (ld (v := byteV (b.getD i 0)) rfl (hp17) ?_)
        refine ⟨rfl, ?_⟩
        refine dq (v := .bool (decide (¬ ((a.getD i 0).toNat : Int) = ((b.getD i 0).toNat : Int)))) (o_bin rfl rfl v_neq) ?_
        refine h14 _ _ ?_
        clear h14
        refine cndP rfl (fun c18 => ?_) (fun c18 => ?_)
        ·
          refine seq fun K19 h19 => ?_
          refine stp (v := .bool false) (o_mv rfl) ?_
          refine h19 _ _ ?_
          clear h19
          refine ⟨(.bool false), rfl, ?_⟩
          exact ⟨by rw [decide_eq_false (getD_ne c18)], hM15.upd⟩
        ·
          refine h13 _ _ ?_
          clear h13
          refine stp (v := .int .i64 (i : Nat)) (o_mv rfl) ?_
          refine stp (v := .int .i64 ((i : Nat) + 1)) (o_bin rfl rfl (v_add64 (by constructor <;> omega))) ?_
          refine stp (v := .int .i64 ((i : Nat) + 1)) (o_mv rfl) ?_
          refine h9 (i + 1) _ _ ⟨rfl, rfl, by first | rfl | exact v_int (by omega) | exact v_int (by simp) | exact v_int (by simp; omega), hM15, by omega, take_succ_eq hp (by omega) (by omega) (u8_eq (Decidable.not_not.1 c18))⟩ (by (try dsimp only); omega)
      ·
        refine h6 _ _ ?_
        clear h6
        refine seq fun K20 h20 => ?_
        refine stp (v := .bool true) (o_mv rfl) ?_
        refine h20 _ _ ?_
        clear h20
        refine ⟨(.bool true), rfl, ?_⟩
        exact ⟨by rw [decide_eq_true]; rw [← List.take_of_length_le (l := a) (i := i) (by omega), ← List.take_of_length_le (l := b) (i := i) (by omega), hp], hM8.upd⟩

/-- winnowref2.Put -/
theorem refPut_ok (v : Int) (hv : inK .i64 v) (w : World) : Calls Try.prog 14 [.int .i64 v].toArray w (Rt fun r w' => ∃ rs, SlB 5 r (putI v) rs ∧ Mem w [] w' [rs]) := by
  have hM0 : Mem w [] w [] := Mem.nil w []
  simp only [inK] at hv
  refine calls_vc mixed Try.func14 rfl C14 (by simp [Try.ntmps14]) ?_
  refine seq fun K1 h1 => ?_
  refine stp (v := .slice none 0 0) (o_mv rfl) ?_
  refine h1 _ _ ?_
  clear h1
  refine seq fun K2 h2 => ?_
  refine stp (v := .slice none 0 0) (o_mv rfl) ?_
  refine h2 _ _ ?_
  clear h2
  refine seq fun K3 h3 => ?_
  refine seq fun K4 h4 => ?_
  refine stp (v := .int .i64 v) (o_mv rfl) ?_
  refine stp (v := .bool (decide (v < 0))) (o_bin rfl rfl rfl) ?_
  refine h4 _ _ ?_
  clear h4
  refine cndP rfl (fun c5 => ?_) (fun c5 => ?_)
  ·
    refine seq fun K6 h6 => ?_
    refine stp (v := .slice none 0 0) (o_mv rfl) ?_
    refine stp (v := .slice none 0 0) (o_mv rfl) ?_
    refine h6 _ _ ?_
    clear h6
    refine ⟨(.slice none 0 0), rfl, ?_⟩
    exact ⟨[], by unfold putI; rw [if_pos (by omega)]; exact Sl.nil 1 5, hM0.addNil⟩
  ·
    refine h3 _ _ ?_
    clear h3
    refine seq fun K7 h7 => ?_
    refine lp (n := fun _ _ => False) (ι := (Int) × (List UInt8) × (Value) × (List Ent)) (fun ⟨v', p, r, rs⟩ f w' => f 0 = .int .i64 v' ∧ f 3 = r ∧ Mem w [] w' [rs] ∧ (SlB 5 r p rs) ∧ (0 ≤ v' ∧ v' ≤ 9223372036854775807) ∧ (p ++ putI v' = putI v) ∧ (p.length ≤ 9)) (fun ⟨v', p, r, rs⟩ => v'.toNat) (v, [], .slice none 0 0, []) ?_ ?_
    · exact ⟨by first | rfl | exact v_int (by omega) | exact v_int (by simp) | exact v_int (by simp; omega), rfl, hM0.addNil, Sl.nil 1 5, by omega, by simp, by simp⟩
    · rintro ⟨v', p, r, rs⟩ f w8 ⟨e8_0, e8_3, hM8, hs, hv1, hp, hl⟩ K9 h9
      obtain ⟨frm, rfl⟩ : ∃ frm, f = (upd (upd frm 0 (.int .i64 v')) 3 (r)) := ⟨f, by rw [upd_self e8_0, upd_self e8_3]⟩
      clear e8_0 e8_3
      refine seq fun K10 h10 => ?_
      refine seq fun K11 h11 => ?_
      refine stp (v := .int .i64 v') (o_mv rfl) ?_
      refine stp (v := .bool (decide (128 ≤ v'))) (o_bin rfl rfl rfl) ?_
      refine h11 _ _ ?_
      clear h11
      refine cndP rfl (fun c12 => ?_) (fun c12 => ?_)
      ·
        refine h10 _ _ ?_
        clear h10
        refine seq fun K13 h13 => ?_
        refine stp (v := r) (o_mv rfl) ?_
        refine stp (v := .int .i64 v') (o_mv rfl) ?_
        refine stp (v := .int .i64 (v' % 128)) (o_rem rfl rfl (by omega) (v_rem (by omega))) ?_
        refine stp (v := .int .i64 ((v' % 128) + 128)) (o_bin rfl rfl (v_add64 (by constructor <;> omega))) ?_
        refine stp (v := .int .u8 (((v' % 128) + 128) % 256)) (o_conv rfl (v_u8 _)) ?_
        refine m_app1 (E := byteV) (q := (v' % 128 + 128).toNat.toUInt8) hM8 (i := 0) rfl hs rfl (by simp) (by rw [show (v' % 128 + 128) % 256 = v' % 128 + 128 by omega]; exact byteV_of (by omega) (by omega)) (by omega) (by omega) fun v14 w14 r14 u14 (hs14 : SlE byteV 5 v14 (p ++ [(v' % 128 + 128).toNat.toUInt8]) r14) (hM14 : Mem w [] w14 [r14]) => ?_
        refine stp (v := v14) (o_mv rfl) ?_
        refine h13 _ _ ?_
        clear h13
        refine stp (v := .int .i64 v') (o_mv rfl) ?_
        refine stp (v := .int .i64 (v' / 128)) (o_quo rfl rfl (by omega) (v_quo (by omega) (by omega) (by simp only [inK]; omega))) ?_
        refine stp (v := .int .i64 (v' / 128)) (o_mv rfl) ?_
        refine h9 (v' / 128, p ++ [(v' % 128 + 128).toNat.toUInt8], v14, r14) _ _ ⟨by first | rfl | exact v_int (by omega) | exact v_int (by simp) | exact v_int (by simp; omega), rfl, hM14, hs14, by omega, by rw [← hp, putI_ge (v := v') (by omega), List.append_assoc]; rfl, by have h1 := putI_len hv.2; have h2 := putI_pos (v := v' / 128) (by omega); rw [← hp, putI_ge (v := v') (by omega)] at h1; simp at h1 ⊢; omega⟩ (by (try dsimp only); omega)
      ·
        refine h7 _ _ ?_
        clear h7
        refine seq fun K15 h15 => ?_
        refine stp (v := r) (o_mv rfl) ?_
        refine stp (v := .int .i64 v') (o_mv rfl) ?_
        refine stp (v := .int .u8 (v' % 256)) (o_conv rfl (v_u8 _)) ?_
        refine m_app1 (E := byteV) (q := v'.toNat.toUInt8) hM8 (i := 0) rfl hs rfl (by simp) (by rw [Int.emod_eq_of_lt (by omega) (by omega)]; exact byteV_of (by omega) (by omega)) (by omega) (by omega) fun v16 w16 r16 u16 (hs16 : SlE byteV 5 v16 (p ++ [v'.toNat.toUInt8]) r16) (hM16 : Mem w [] w16 [r16]) => ?_
        refine stp (v := v16) (o_mv rfl) ?_
        refine h15 _ _ ?_
        clear h15
        refine seq fun K17 h17 => ?_
        refine stp (v := v16) (o_mv rfl) ?_
        refine stp (v := v16) (o_mv rfl) ?_
        refine h17 _ _ ?_
        clear h17
        refine ⟨v16, rfl, ?_⟩
        exact ⟨_, by rw [← hp, putI_lt (by omega) (by omega)]; exact hs16, hM16⟩

/-- winnowref2.Fixed -/
theorem refFixed_ok (v n : Int) (hv : inK .u64 v) (hn : inK .i64 n) (w : World) : Calls Try.prog 15 [.int .u64 v, .int .i64 n].toArray w (Rt fun r w' => ∃ rs, SlB 5 r (fixedI v n) rs ∧ Mem w [] w' [rs]) := by
  have hM0 : Mem w [] w [] := Mem.nil w []
  simp only [inK] at hv hn
  refine calls_vc mixed Try.func15 rfl C15 (by simp [Try.ntmps15]) ?_
  refine seq fun K1 h1 => ?_
  refine stp (v := .slice none 0 0) (o_mv rfl) ?_
  refine h1 _ _ ?_
  clear h1
  refine seq fun K2 h2 => ?_
  refine stp (v := .slice none 0 0) (o_mv rfl) ?_
  refine h2 _ _ ?_
  clear h2
  refine seq fun K3 h3 => ?_
  refine seq fun K4 h4 => ?_
  refine stp (v := .int .i64 n) (o_mv rfl) ?_
  refine stp (v := .bool (decide (n < 1))) (o_bin rfl rfl rfl) ?_
  refine stp (v := .bool (decide (n < 1))) (o_mv rfl) ?_
  refine splitP rfl (fun c5 => ?_) (fun c5 => ?_)
  ·
    refine gno rfl (by simp) ?_
    refine gno rfl (by simp) ?_
    refine stp (v := .bool true) (o_pickT rfl rfl) ?_
    refine h4 _ _ ?_
    clear h4
    refine cndT rfl ?_
    refine seq fun K6 h6 => ?_
    refine stp (v := .slice none 0 0) (o_mv rfl) ?_
    refine stp (v := .slice none 0 0) (o_mv rfl) ?_
    refine h6 _ _ ?_
    clear h6
    refine ⟨(.slice none 0 0), rfl, ?_⟩
    exact ⟨[], by rw [fixedI_none (by omega)]; exact Sl.nil 1 5, hM0.addNil⟩
  ·
    refine stg rfl (v := .int .i64 n) (o_mv rfl) ?_
    refine stg rfl (v := .bool (decide (8 < n))) (o_bin rfl rfl rfl) ?_
    refine stp (v := .bool (decide (8 < n))) (o_pickF rfl rfl) ?_
    refine h4 _ _ ?_
    clear h4
    refine cndP rfl (fun c7 => ?_) (fun c7 => ?_)
    ·
      refine seq fun K8 h8 => ?_
      refine stp (v := .slice none 0 0) (o_mv rfl) ?_
      refine stp (v := .slice none 0 0) (o_mv rfl) ?_
      refine h8 _ _ ?_
      clear h8
      refine ⟨(.slice none 0 0), rfl, ?_⟩
      exact ⟨[], by rw [fixedI_none (by omega)]; exact Sl.nil 1 5, hM0.addNil⟩
    ·
      refine h3 _ _ ?_
      clear h3
      refine seq fun K9 h9 => ?_
      refine seq fun K10 h10 => ?_
      refine stp (v := .int .i64 0) (o_mv rfl) ?_
      refine h10 _ _ ?_
      clear h10
      refine lp (n := fun _ _ => False) (ι := (Nat) × (Int) × (Value) × (List Ent)) (fun ⟨i, v', x, r⟩ f w' => f 0 = .int .u64 v' ∧ f 1 = .int .i64 n ∧ f 5 = x ∧ f 6 = .int .i64 (i : Nat) ∧ Mem w [] w' [r] ∧ (SlB 5 x (fixed i v.toNat) r) ∧ (i ≤ n.toNat) ∧ (v' = ((v.toNat / 256 ^ i : Nat) : Int)) ∧ (0 ≤ v' ∧ v' ≤ 18446744073709551615)) (fun ⟨i, v', x, r⟩ => n.toNat - i) (0, v, .slice none 0 0, []) ?_ ?_
      · exact ⟨by first | rfl | exact v_int (by omega) | exact v_int (by simp) | exact v_int (by simp; omega), by first | rfl | exact v_int (by omega) | exact v_int (by simp) | exact v_int (by simp; omega), rfl, by first | rfl | exact v_int (by omega) | exact v_int (by simp) | exact v_int (by simp; omega), hM0.addNil, Sl.nil 1 5, by omega, by simp; omega, by omega⟩
      · rintro ⟨i, v', x, r⟩ f w11 ⟨e11_0, e11_1, e11_5, e11_6, hM11, hs, hi, hv1, hv2⟩ K12 h12
        obtain ⟨frm, rfl⟩ : ∃ frm, f = (upd (upd (upd (upd frm 0 (.int .u64 v')) 1 (.int .i64 n)) 5 (x)) 6 (.int .i64 (i : Nat))) := ⟨f, by rw [upd_self e11_0, upd_self e11_1, upd_self e11_5, upd_self e11_6]⟩
        clear e11_0 e11_1 e11_5 e11_6
        refine seq fun K13 h13 => ?_
        refine seq fun K14 h14 => ?_
        refine stp (v := .int .i64 (i : Nat)) (o_mv rfl) ?_
        refine stp (v := .int .i64 n) (o_mv rfl) ?_
        refine stp (v := .bool (decide (((i : Nat) : Int) < n))) (o_bin rfl rfl rfl) ?_
        refine h14 _ _ ?_
        clear h14
        refine cndP rfl (fun c15 => ?_) (fun c15 => ?_)
        ·
          refine h13 _ _ ?_
          clear h13
          refine seq fun K16 h16 => ?_
          refine seq fun K17 h17 => ?_
          refine stp (v := x) (o_mv rfl) ?_
          refine stp (v := .int .u64 v') (o_mv rfl) ?_
          refine stp (v := .int .u64 (v' % 256)) (o_rem rfl rfl (by omega) (v_rem (by omega))) ?_
          refine stp (v := .int .u8 ((v' % 256) % 256)) (o_conv rfl (v_u8 _)) ?_
          refine m_app1 (E := byteV) (q := (v.toNat / 256 ^ i % 256).toUInt8) hM11 (i := 0) rfl hs rfl (by simp) (by rw [hv1]; exact byte_mod _) (by rw [fixed_length]; omega) (by omega) fun v18 w18 r18 u18 (hs18 : SlE byteV 5 v18 ((fixed i v.toNat) ++ [(v.toNat / 256 ^ i % 256).toUInt8]) r18) (hM18 : Mem w [] w18 [r18]) => ?_
          refine stp (v := v18) (o_mv rfl) ?_
          refine h17 _ _ ?_
          clear h17
          refine stp (v := .int .u64 v') (o_mv rfl) ?_
          refine stp (v := .int .u64 (v' / 256)) (o_quo rfl rfl (by omega) (v_quo (by omega) (by omega) (by simp only [inK]; omega))) ?_
          refine stp (v := .int .u64 (v' / 256)) (o_mv rfl) ?_
          refine h16 _ _ ?_
          clear h16
          refine stp (v := .int .i64 (i : Nat)) (o_mv rfl) ?_
          refine stp (v := .int .i64 ((i : Nat) + 1)) (o_bin rfl rfl (v_add64 (by constructor <;> omega))) ?_
          refine stp (v := .int .i64 ((i : Nat) + 1)) (o_mv rfl) ?_
          refine h12 (i + 1, v' / 256, v18, r18) _ _ ⟨by first | rfl | exact v_int (by omega) | exact v_int (by simp) | exact v_int (by simp; omega), by first | rfl | exact v_int (by omega) | exact v_int (by simp) | exact v_int (by simp; omega), rfl, by first | rfl | exact v_int (by omega) | exact v_int (by simp) | exact v_int (by simp; omega), hM18, by rw [fixed_succ]; exact hs18, by omega, by rw [hv1, Nat.pow_succ, ← Nat.div_div_eq_div_mul]; rfl, by omega⟩ (by (try dsimp only); omega)
        ·
          refine h9 _ _ ?_
          clear h9
          refine seq fun K19 h19 => ?_
          refine stp (v := x) (o_mv rfl) ?_
          refine stp (v := x) (o_mv rfl) ?_
          refine h19 _ _ ?_
          clear h19
          refine ⟨x, rfl, ?_⟩
          have e : i = n.toNat := by omega
          subst e
          exact ⟨_, by rw [fixedI_some (by omega)]; exact hs, hM11⟩

theorem rep_set {n i : Nat} {q : UInt8} {l : List UInt8} (hn : l.length = n) (h : i < n) : (List.replicate i q ++ l.drop i).set i q = List.replicate (i + 1) q ++ l.drop (i + 1) := by
  rw [List.set_append_right _ _ (by simp), List.length_replicate, Nat.sub_self]
  obtain ⟨a, t, ht⟩ : ∃ a t, l.drop i = a :: t := by
    cases hd : l.drop i with
    | nil => have := congrArg List.length hd; simp at this; omega
    | cons a t => exact ⟨a, t, rfl⟩
  have h2 : l.drop (i + 1) = t := by rw [← List.drop_drop, ht]; rfl
  rw [ht, h2, List.replicate_succ']
  simp
theorem getD_rep {α : Type} {n i : Nat} {q z : α} (h : i < n) : (List.replicate n q).getD i z = q := by simp [List.getD_eq_getElem?_getD, h]
theorem getD_rep1 {α : Type} {n m i : Nat} {q p z : α} (h : i < n) : (List.replicate n q ++ List.replicate m p).getD i z = q := by simp [List.getD_eq_getElem?_getD, List.getElem?_append, h]
theorem getD_rep2 {α : Type} {n m i : Nat} {q p z : α} (h : n ≤ i) (h2 : i < n + m) : (List.replicate n q ++ List.replicate m p).getD i z = p := by
  rw [List.getD_eq_getElem?_getD, List.getElem?_append_right (by simpa using h)]; rw [← List.getD_eq_getElem?_getD, List.length_replicate]; exact getD_rep (by omega)

/-- winnowlaw2.fresh -/
theorem fresh_ok (va vb : Value) (la lb : List UInt8) (ra rb : List Ent) (w : World) (ha : SlB 5 va la ra) (hb : SlB 5 vb lb rb) (hr : Res w (ra ++ rb)) (hl : la.length + lb.length ≤ 70368744177664) : Calls Try.prog 16 [va, vb].toArray w (Rt fun r w' => r = .bool true ∧ Upd (ids (ra ++ rb)) w w') := by
  have hM0 : Mem w (ids (ra ++ rb)) w [ra, rb] := (Mem.start hr).keep (by simp)
  refine calls_vc mixed Try.func16 rfl C16 (by simp [Try.ntmps16]) ?_
  refine seq fun K1 h1 => ?_
  refine stp (v := .bool false) (o_mv rfl) ?_
  refine h1 _ _ ?_
  clear h1
  refine seq fun K2 h2 => ?_
  refine seq fun K3 h3 => ?_
  refine stp (v := .int .i64 0) (o_mv rfl) ?_
  refine h3 _ _ ?_
  clear h3
  refine lp (n := fun _ _ => False) (ι := (Nat) × (List Ent)) (fun ⟨i, r⟩ f w' => f 0 = va ∧ f 1 = vb ∧ f 5 = .int .i64 (i : Nat) ∧ Mem w (ids (ra ++ rb)) w' [r, rb] ∧ (SlB 5 va (List.replicate i 1 ++ la.drop i) r) ∧ (i ≤ la.length) ∧ ((List.replicate i 1 ++ la.drop i).length = la.length)) (fun ⟨i, r⟩ => la.length - i) (0, ra) ?_ ?_
  · exact ⟨rfl, rfl, by first | rfl | exact v_int (by omega) | exact v_int (by simp) | exact v_int (by simp; omega), hM0, by simpa using ha, by omega, by simp⟩
  · rintro ⟨i, r⟩ f w4 ⟨e4_0, e4_1, e4_5, hM4, hs, hi, hq⟩ K5 h5
    obtain ⟨frm, rfl⟩ : ∃ frm, f = (upd (upd (upd frm 0 (va)) 1 (vb)) 5 (.int .i64 (i : Nat))) := ⟨f, by rw [upd_self e4_0, upd_self e4_1, upd_self e4_5]⟩
    clear e4_0 e4_1 e4_5
    refine seq fun K6 h6 => ?_
    refine seq fun K7 h7 => ?_
    refine stp (v := .int .i64 (i : Nat)) (o_mv rfl) ?_
    refine stp (v := va) (o_mv rfl) ?_
    refine stp (v := .int .i64 ((List.replicate i 1 ++ la.drop i).length : Nat)) (o_lenR (hs.rd hM4 (i := 0) rfl) rfl rfl) ?_
    refine stp (v := .bool (decide (((i : Nat) : Int) < ((List.replicate i 1 ++ la.drop i).length : Nat)))) (o_bin rfl rfl rfl) ?_
    refine h7 _ _ ?_
    clear h7
    refine cndP rfl (fun c8 => ?_) (fun c8 => ?_)
    ·
      refine h6 _ _ ?_
      clear h6
      refine seq fun K9 h9 => ?_
      refine stp (v := va) (o_mv rfl) ?_
      refine stp (v := .int .i64 (i : Nat)) (o_mv rfl) ?_
      refine m_set (E := byteV) (q := 1) (j := i) hM4 (i := 0) rfl hs rfl rfl (by omega) (by simp) (rfl) fun w10 r10 u10 hs10 (hM10 : Mem w (ids (ra ++ rb)) w10 [r10, rb]) => ?_
      refine h9 _ _ ?_
      clear h9
      refine stp (v := .int .i64 (i : Nat)) (o_mv rfl) ?_
      refine stp (v := .int .i64 ((i : Nat) + 1)) (o_bin rfl rfl (v_add64 (by constructor <;> omega))) ?_
      refine stp (v := .int .i64 ((i : Nat) + 1)) (o_mv rfl) ?_
      refine h5 (i + 1, r10) _ _ ⟨rfl, rfl, by first | rfl | exact v_int (by omega) | exact v_int (by simp) | exact v_int (by simp; omega), hM10, by rw [← rep_set rfl (by omega)]; exact hs10, by omega, by simp; omega⟩ (by (try dsimp only); omega)
    ·
      refine h2 _ _ ?_
      clear h2
      refine seq fun K11 h11 => ?_
      refine seq fun K12 h12 => ?_
      refine stp (v := .int .i64 0) (o_mv rfl) ?_
      refine h12 _ _ ?_
      clear h12
      refine lp (n := fun _ _ => False) (ι := (Nat) × (List Ent)) (fun ⟨i, r2⟩ f w' => f 0 = va ∧ f 1 = vb ∧ f 6 = .int .i64 (i : Nat) ∧ Mem w (ids (ra ++ rb)) w' [r, r2] ∧ (SlB 5 va (List.replicate la.length (1 : UInt8)) r) ∧ (SlB 5 vb (List.replicate i 2 ++ lb.drop i) r2) ∧ (i ≤ lb.length) ∧ ((List.replicate i 2 ++ lb.drop i).length = lb.length)) (fun ⟨i, r2⟩ => lb.length - i) (0, rb) ?_ ?_
      · exact ⟨rfl, rfl, by first | rfl | exact v_int (by omega) | exact v_int (by simp) | exact v_int (by simp; omega), hM4, by (obtain rfl : i = la.length := by omega); simpa using hs, by simpa using hb, by omega, by simp⟩
      · rintro ⟨i, r2⟩ f w13 ⟨e13_0, e13_1, e13_6, hM13, hs, hs2, hi, hq⟩ K14 h14
        obtain ⟨frm, rfl⟩ : ∃ frm, f = (upd (upd (upd frm 0 (va)) 1 (vb)) 6 (.int .i64 (i : Nat))) := ⟨f, by rw [upd_self e13_0, upd_self e13_1, upd_self e13_6]⟩
        clear e13_0 e13_1 e13_6
        refine seq fun K15 h15 => ?_
        refine seq fun K16 h16 => ?_
        refine stp (v := .int .i64 (i : Nat)) (o_mv rfl) ?_
        refine stp (v := vb) (o_mv rfl) ?_
        refine stp (v := .int .i64 ((List.replicate i 2 ++ lb.drop i).length : Nat)) (o_lenR (hs2.rd hM13 (i := 1) rfl) rfl rfl) ?_
        refine stp (v := .bool (decide (((i : Nat) : Int) < ((List.replicate i 2 ++ lb.drop i).length : Nat)))) (o_bin rfl rfl rfl) ?_
        refine h16 _ _ ?_
        clear h16
        refine cndP rfl (fun c17 => ?_) (fun c17 => ?_)
        ·
          refine h15 _ _ ?_
          clear h15
          refine seq fun K18 h18 => ?_
          refine stp (v := vb) (o_mv rfl) ?_
          refine stp (v := .int .i64 (i : Nat)) (o_mv rfl) ?_
          refine m_set (E := byteV) (q := 2) (j := i) hM13 (i := 1) rfl hs2 rfl rfl (by omega) (by simp) (rfl) fun w19 r19 u19 hs19 (hM19 : Mem w (ids (ra ++ rb)) w19 [r, r19]) => ?_
          refine h18 _ _ ?_
          clear h18
          refine stp (v := .int .i64 (i : Nat)) (o_mv rfl) ?_
          refine stp (v := .int .i64 ((i : Nat) + 1)) (o_bin rfl rfl (v_add64 (by constructor <;> omega))) ?_
          refine stp (v := .int .i64 ((i : Nat) + 1)) (o_mv rfl) ?_
          refine h14 (i + 1, r19) _ _ ⟨rfl, rfl, by first | rfl | exact v_int (by omega) | exact v_int (by simp) | exact v_int (by simp; omega), hM19, hs, by rw [← rep_set rfl (by omega)]; exact hs19, by omega, by simp; omega⟩ (by (try dsimp only); omega)
        ·
          refine h11 _ _ ?_
          clear h11
          refine seq fun K20 h20 => ?_
          obtain rfl : i = lb.length := by omega
          have hs2' : SlB 5 vb (List.replicate lb.length (2 : UInt8)) r2 := by simpa using hs2
          refine stp (v := va) (o_mv rfl) ?_
          refine stp (v := va) (o_mv rfl) ?_
          refine h20 _ _ ?_
          clear h20
          refine seq fun K21 h21 => ?_
          refine stp (v := vb) (o_mv rfl) ?_
          refine stp (v := vb) (o_mv rfl) ?_
          refine h21 _ _ ?_
          clear h21
          refine seq fun K22 h22 => ?_
          refine seq fun K23 h23 => ?_
          refine stp (v := .int .i64 0) (o_mv rfl) ?_
          refine h23 _ _ ?_
          clear h23
          refine lp (n := fun _ _ => False) (ι := (Nat) × (Value) × (Value) × (List Ent) × (List Ent)) (fun ⟨i, x, y, r1, r2⟩ f w' => f 0 = va ∧ f 1 = vb ∧ f 7 = x ∧ f 8 = y ∧ f 9 = .int .i64 (i : Nat) ∧ Mem w (ids (ra ++ rb)) w' [r1, r2] ∧ (Gr byteV 5 va x (List.replicate la.length (1 : UInt8)) (List.replicate i 3) r1) ∧ (Gr byteV 5 vb y (List.replicate lb.length (2 : UInt8)) (List.replicate i 4) r2) ∧ (i ≤ 64)) (fun ⟨i, x, y, r1, r2⟩ => 64 - i) (0, va, vb, r, r2) ?_ ?_
          · exact ⟨rfl, rfl, rfl, rfl, by first | rfl | exact v_int (by omega) | exact v_int (by simp) | exact v_int (by simp; omega), hM13, Gr.zero hs, Gr.zero hs2', by omega⟩
          · rintro ⟨i, x, y, r1, r2⟩ f w24 ⟨e24_0, e24_1, e24_7, e24_8, e24_9, hM24, hg1, hg2, hi⟩ K25 h25
            obtain ⟨frm, rfl⟩ : ∃ frm, f = (upd (upd (upd (upd (upd frm 0 (va)) 1 (vb)) 7 (x)) 8 (y)) 9 (.int .i64 (i : Nat))) := ⟨f, by rw [upd_self e24_0, upd_self e24_1, upd_self e24_7, upd_self e24_8, upd_self e24_9]⟩
            clear e24_0 e24_1 e24_7 e24_8 e24_9
            refine seq fun K26 h26 => ?_
            refine seq fun K27 h27 => ?_
            refine stp (v := .int .i64 (i : Nat)) (o_mv rfl) ?_
            refine stp (v := .bool (decide (((i : Nat) : Int) < 64))) (o_bin rfl rfl rfl) ?_
            refine h27 _ _ ?_
            clear h27
            refine cndP rfl (fun c28 => ?_) (fun c28 => ?_)
            ·
              refine h26 _ _ ?_
              clear h26
              refine seq fun K29 h29 => ?_
              refine seq fun K30 h30 => ?_
              refine stp (v := x) (o_mv rfl) ?_
              refine m_grow1 (E := byteV) (q := 3) hM24 (i := 0) rfl hg1 rfl (by simp) (rfl) (by first | omega | (simp; omega)) (by omega) fun v31 w31 r31 u31 hs31 (hM31 : Mem w (ids (ra ++ rb)) w31 [r31, r2]) => ?_
              refine stp (v := v31) (o_mv rfl) ?_
              refine h30 _ _ ?_
              clear h30
              refine stp (v := y) (o_mv rfl) ?_
              refine m_grow1 (E := byteV) (q := 4) hM31 (i := 1) rfl hg2 rfl (by simp) (rfl) (by first | omega | (simp; omega)) (by omega) fun v32 w32 r32 u32 hs32 (hM32 : Mem w (ids (ra ++ rb)) w32 [r31, r32]) => ?_
              refine stp (v := v32) (o_mv rfl) ?_
              refine h29 _ _ ?_
              clear h29
              refine stp (v := .int .i64 (i : Nat)) (o_mv rfl) ?_
              refine stp (v := .int .i64 ((i : Nat) + 1)) (o_bin rfl rfl (v_add64 (by constructor <;> omega))) ?_
              refine stp (v := .int .i64 ((i : Nat) + 1)) (o_mv rfl) ?_
              refine h25 (i + 1, v31, v32, r31, r32) _ _ ⟨rfl, rfl, rfl, rfl, by first | rfl | exact v_int (by omega) | exact v_int (by simp) | exact v_int (by simp; omega), hM32, by rw [List.replicate_succ']; exact hs31, by rw [List.replicate_succ']; exact hs32, by omega⟩ (by (try dsimp only); omega)
            ·
              refine h22 _ _ ?_
              clear h22
              refine seq fun K33 h33 => ?_
              refine seq fun K34 h34 => ?_
              obtain rfl : i = 64 := by omega
              have e1 : (List.replicate la.length (1 : UInt8)).length = la.length := by simp
              have e2 : (List.replicate lb.length (2 : UInt8)).length = lb.length := by simp
              have e3 : (List.replicate la.length (1 : UInt8) ++ List.replicate 64 3).length = la.length + 64 := by simp
              have e4 : (List.replicate lb.length (2 : UInt8) ++ List.replicate 64 4).length = lb.length + 64 := by simp
              refine stp (v := .int .i64 0) (o_mv rfl) ?_
              refine h34 _ _ ?_
              clear h34
              refine lp (n := fun _ _ => False) (ι := (Nat)) (fun i f w' => f 0 = va ∧ f 1 = vb ∧ f 7 = x ∧ f 8 = y ∧ f 10 = .int .i64 (i : Nat) ∧ Mem w (ids (ra ++ rb)) w' [r1, r2] ∧ (i ≤ la.length + 64)) (fun i => la.length + 64 - i) (0) ?_ ?_
              · exact ⟨rfl, rfl, rfl, rfl, by first | rfl | exact v_int (by omega) | exact v_int (by simp) | exact v_int (by simp; omega), hM24, by omega⟩
              · rintro i f w35 ⟨e35_0, e35_1, e35_7, e35_8, e35_10, hM35, hi⟩ K36 h36
                obtain ⟨frm, rfl⟩ : ∃ frm, f = (upd (upd (upd (upd (upd frm 0 (va)) 1 (vb)) 7 (x)) 8 (y)) 10 (.int .i64 (i : Nat))) := ⟨f, by rw [upd_self e35_0, upd_self e35_1, upd_self e35_7, upd_self e35_8, upd_self e35_10]⟩
                clear e35_0 e35_1 e35_7 e35_8 e35_10
                refine seq fun K37 h37 => ?_
                refine seq fun K38 h38 => ?_
                refine stp (v := .int .i64 (i : Nat)) (o_mv rfl) ?_
                refine stp (v := x) (o_mv rfl) ?_
                refine stp (v := .int .i64 (((List.replicate la.length (1 : UInt8)) ++ (List.replicate 64 (3 : UInt8))).length : Nat)) (o_lenR (hg1.rdx hM35 (i := 0) rfl) rfl rfl) ?_
                refine stp (v := .bool (decide (((i : Nat) : Int) < (((List.replicate la.length (1 : UInt8)) ++ (List.replicate 64 (3 : UInt8))).length : Nat)))) (o_bin rfl rfl rfl) ?_
                refine h38 _ _ ?_
                clear h38
                refine cndP rfl (fun c39 => ?_) (fun c39 => ?_)
                ·
                  refine h37 _ _ ?_
                  clear h37
                  refine seq fun K40 h40 => ?_
                  refine seq fun K41 h41 => ?_
                  refine stp (v := .int .i64 (i : Nat)) (o_mv rfl) ?_
                  refine stp (v := va) (o_mv rfl) ?_
                  refine stp (v := .int .i64 ((List.replicate la.length (1 : UInt8)).length : Nat)) (o_lenR ((hg1.rda hM35 (i := 0) rfl)) rfl rfl) ?_
                  refine stp (v := .bool (decide (((i : Nat) : Int) < ((List.replicate la.length (1 : UInt8)).length : Nat)))) (o_bin rfl rfl rfl) ?_
                  refine stp (v := .bool (decide (((i : Nat) : Int) < ((List.replicate la.length (1 : UInt8)).length : Nat)))) (o_mv rfl) ?_
                  refine splitP rfl (fun c42 => ?_) (fun c42 => ?_)
                  ·
                    refine stg rfl (v := va) (o_mv rfl) ?_
                    refine stg rfl (v := .int .i64 (i : Nat)) (o_mv rfl) ?_
                    refine gyes rfl rfl (m_idxE 0 (j := i) ((hg1.rda hM35 (i := 0) rfl)) rfl rfl (by omega) fun b43 o43 hp43 => ?_)
                    refine gyesl rfl ?_
                    refine ld (v := byteV ((List.replicate la.length (1 : UInt8)).getD i 0)) rfl (hp43) ?_
                    refine stg rfl (v := .bool (decide (¬ (((List.replicate la.length (1 : UInt8)).getD i 0).toNat : Int) = 1))) (o_bin rfl rfl v_neq) ?_
                    refine stg rfl (v := .bool (decide (¬ (((List.replicate la.length (1 : UInt8)).getD i 0).toNat : Int) = 1))) (o_mv rfl) ?_
                    refine splitP rfl (fun c44 => absurd c44 (by rw [getD_rep (by omega)]; decide)) (fun c44 => ?_)
                    refine stg rfl (v := x) (o_mv rfl) ?_
                    refine stg rfl (v := .int .i64 (i : Nat)) (o_mv rfl) ?_
                    refine gyes rfl rfl (m_idxE 0 (j := i) (hg1.rdx hM35 (i := 0) rfl) rfl rfl (by omega) fun b45 o45 hp45 => ?_)
                    refine gyesl rfl ?_
                    refine ld (v := byteV (((List.replicate la.length (1 : UInt8)) ++ (List.replicate 64 (3 : UInt8))).getD i 0)) rfl (hp45) ?_
                    refine stg rfl (v := .bool (decide (¬ ((((List.replicate la.length (1 : UInt8)) ++ (List.replicate 64 (3 : UInt8))).getD i 0).toNat : Int) = 1))) (o_bin rfl rfl v_neq) ?_
                    refine stg rfl (v := .bool (decide (¬ ((((List.replicate la.length (1 : UInt8)) ++ (List.replicate 64 (3 : UInt8))).getD i 0).toNat : Int) = 1))) (o_pickF rfl rfl) ?_
                    refine stp (v := .bool (decide (¬ ((((List.replicate la.length (1 : UInt8)) ++ (List.replicate 64 (3 : UInt8))).getD i 0).toNat : Int) = 1))) (o_pickT rfl rfl) ?_
                    refine stp (v := .bool (decide (¬ ((((List.replicate la.length (1 : UInt8)) ++ (List.replicate 64 (3 : UInt8))).getD i 0).toNat : Int) = 1))) (o_mv rfl) ?_
                    refine splitP rfl (fun c46 => absurd c46 (by rw [getD_rep1 (by omega)]; decide)) (fun c46 => ?_)
                    refine stg rfl (v := .int .i64 (i : Nat)) (o_mv rfl) ?_
                    refine stg rfl (v := va) (o_mv rfl) ?_
                    refine stg rfl (v := .int .i64 ((List.replicate la.length (1 : UInt8)).length : Nat)) (o_lenR ((hg1.rda hM35 (i := 0) rfl)) rfl rfl) ?_
                    refine stg rfl (v := .bool (decide ((((List.replicate la.length (1 : UInt8)).length : Nat) : Int) ≤ ((i : Nat) : Int)))) (o_bin rfl rfl rfl) ?_
                    refine stg rfl (v := .bool (decide ((((List.replicate la.length (1 : UInt8)).length : Nat) : Int) ≤ ((i : Nat) : Int)))) (o_mv rfl) ?_
                    refine splitP rfl (fun c47 => absurd c47 (by omega)) (fun c47 => ?_)
                    refine gno rfl (by simp) ?_
                    refine gno rfl (by simp) ?_
                    refine gno rfl (by simp) ?_
                    refine gnol rfl (by simp) ?_
                    refine gno rfl (by simp) ?_
                    refine stg rfl (v := .bool false) (o_pickF rfl rfl) ?_
                    refine stp (v := .bool false) (o_pickF rfl rfl) ?_
                    refine h41 _ _ ?_
                    clear h41
                    refine cndF rfl ?_
                    refine h40 _ _ ?_
                    clear h40
                    refine stp (v := .int .i64 (i : Nat)) (o_mv rfl) ?_
                    refine stp (v := .int .i64 ((i : Nat) + 1)) (o_bin rfl rfl (v_add64 (by constructor <;> omega))) ?_
                    refine stp (v := .int .i64 ((i : Nat) + 1)) (o_mv rfl) ?_
                    refine h36 (i + 1) _ _ ⟨rfl, rfl, rfl, rfl, by first | rfl | exact v_int (by omega) | exact v_int (by simp) | exact v_int (by simp; omega), hM35, by omega⟩ (by (try dsimp only); omega)
                  ·
                    refine gno rfl (by simp) ?_
                    refine gno rfl (by simp) ?_
                    refine gno rfl (by simp) ?_
                    refine gnol rfl (by simp) ?_
                    refine gno rfl (by simp) ?_
                    refine gno rfl (by simp) ?_
                    refine splitU rfl ?_
                    refine gnou rfl ?_
                    refine gnou rfl ?_
                    refine gnou rfl ?_
                    refine gnolu rfl ?_
                    refine gnou rfl ?_
                    refine gno rfl (by simp) ?_
                    refine stp (v := .bool false) (o_pickF rfl rfl) ?_
                    refine stp (v := .bool false) (o_mv rfl) ?_
                    refine splitF rfl ?_
                    refine stg rfl (v := .int .i64 (i : Nat)) (o_mv rfl) ?_
                    refine stg rfl (v := va) (o_mv rfl) ?_
                    refine stg rfl (v := .int .i64 ((List.replicate la.length (1 : UInt8)).length : Nat)) (o_lenR ((hg1.rda hM35 (i := 0) rfl)) rfl rfl) ?_
                    refine stg rfl (v := .bool (decide ((((List.replicate la.length (1 : UInt8)).length : Nat) : Int) ≤ ((i : Nat) : Int)))) (o_bin rfl rfl rfl) ?_
                    refine stg rfl (v := .bool (decide ((((List.replicate la.length (1 : UInt8)).length : Nat) : Int) ≤ ((i : Nat) : Int)))) (o_mv rfl) ?_
                    refine splitP rfl (fun c48 => ?_) (fun c48 => (c48 (by omega)).elim)
                    refine stg rfl (v := x) (o_mv rfl) ?_
                    refine stg rfl (v := .int .i64 (i : Nat)) (o_mv rfl) ?_
                    refine gyes rfl rfl (m_idxE 0 (j := i) (hg1.rdx hM35 (i := 0) rfl) rfl rfl (by omega) fun b49 o49 hp49 => ?_)
                    refine gyesl rfl ?_
                    refine ld (v := byteV (((List.replicate la.length (1 : UInt8)) ++ (List.replicate 64 (3 : UInt8))).getD i 0)) rfl (hp49) ?_
                    refine stg rfl (v := .bool (decide (¬ ((((List.replicate la.length (1 : UInt8)) ++ (List.replicate 64 (3 : UInt8))).getD i 0).toNat : Int) = 3))) (o_bin rfl rfl v_neq) ?_
                    refine stg rfl (v := .bool (decide (¬ ((((List.replicate la.length (1 : UInt8)) ++ (List.replicate 64 (3 : UInt8))).getD i 0).toNat : Int) = 3))) (o_pickT rfl rfl) ?_
                    refine stp (v := .bool (decide (¬ ((((List.replicate la.length (1 : UInt8)) ++ (List.replicate 64 (3 : UInt8))).getD i 0).toNat : Int) = 3))) (o_pickF rfl rfl) ?_
                    refine h41 _ _ ?_
                    clear h41
                    refine cndP rfl (fun c50 => absurd c50 (by rw [getD_rep2 (by omega) (by omega)]; decide)) (fun c50 => ?_)
                    refine h40 _ _ ?_
                    clear h40
                    refine stp (v := .int .i64 (i : Nat)) (o_mv rfl) ?_
                    refine stp (v := .int .i64 ((i : Nat) + 1)) (o_bin rfl rfl (v_add64 (by constructor <;> omega))) ?_
                    refine stp (v := .int .i64 ((i : Nat) + 1)) (o_mv rfl) ?_
                    refine h36 (i + 1) _ _ ⟨rfl, rfl, rfl, rfl, by first | rfl | exact v_int (by omega) | exact v_int (by simp) | exact v_int (by simp; omega), hM35, by omega⟩ (by (try dsimp only); omega)
                ·
                  refine h33 _ _ ?_
                  clear h33
                  refine seq fun K51 h51 => ?_
                  refine seq fun K52 h52 => ?_
                  refine stp (v := .int .i64 0) (o_mv rfl) ?_
                  refine h52 _ _ ?_
                  clear h52
                  refine lp (n := fun _ _ => False) (ι := (Nat)) (fun i f w' => f 0 = va ∧ f 1 = vb ∧ f 7 = x ∧ f 8 = y ∧ f 11 = .int .i64 (i : Nat) ∧ Mem w (ids (ra ++ rb)) w' [r1, r2] ∧ (i ≤ lb.length + 64)) (fun i => lb.length + 64 - i) (0) ?_ ?_
                  · exact ⟨rfl, rfl, rfl, rfl, by first | rfl | exact v_int (by omega) | exact v_int (by simp) | exact v_int (by simp; omega), hM35, by omega⟩
                  · rintro i f w53 ⟨e53_0, e53_1, e53_7, e53_8, e53_11, hM53, hi⟩ K54 h54
                    obtain ⟨frm, rfl⟩ : ∃ frm, f = (upd (upd (upd (upd (upd frm 0 (va)) 1 (vb)) 7 (x)) 8 (y)) 11 (.int .i64 (i : Nat))) := ⟨f, by rw [upd_self e53_0, upd_self e53_1, upd_self e53_7, upd_self e53_8, upd_self e53_11]⟩
                    clear e53_0 e53_1 e53_7 e53_8 e53_11
                    refine seq fun K55 h55 => ?_
                    refine seq fun K56 h56 => ?_
                    refine stp (v := .int .i64 (i : Nat)) (o_mv rfl) ?_
                    refine stp (v := y) (o_mv rfl) ?_
                    refine stp (v := .int .i64 (((List.replicate lb.length (2 : UInt8)) ++ (List.replicate 64 (4 : UInt8))).length : Nat)) (o_lenR (hg2.rdx hM53 (i := 1) rfl) rfl rfl) ?_
                    refine stp (v := .bool (decide (((i : Nat) : Int) < (((List.replicate lb.length (2 : UInt8)) ++ (List.replicate 64 (4 : UInt8))).length : Nat)))) (o_bin rfl rfl rfl) ?_
                    refine h56 _ _ ?_
                    clear h56
                    refine cndP rfl (fun c57 => ?_) (fun c57 => ?_)
                    ·
                      refine h55 _ _ ?_
                      clear h55
                      refine seq fun K58 h58 => ?_
                      refine seq fun K59 h59 => ?_
                      refine stp (v := .int .i64 (i : Nat)) (o_mv rfl) ?_
                      refine stp (v := vb) (o_mv rfl) ?_
                      refine stp (v := .int .i64 ((List.replicate lb.length (2 : UInt8)).length : Nat)) (o_lenR ((hg2.rda hM53 (i := 1) rfl)) rfl rfl) ?_
                      refine stp (v := .bool (decide (((i : Nat) : Int) < ((List.replicate lb.length (2 : UInt8)).length : Nat)))) (o_bin rfl rfl rfl) ?_
                      refine stp (v := .bool (decide (((i : Nat) : Int) < ((List.replicate lb.length (2 : UInt8)).length : Nat)))) (o_mv rfl) ?_
                      refine splitP rfl (fun c60 => ?_) (fun c60 => ?_)
                      ·
                        refine stg rfl (v := vb) (o_mv rfl) ?_
                        refine stg rfl (v := .int .i64 (i : Nat)) (o_mv rfl) ?_
                        refine gyes rfl rfl (m_idxE 0 (j := i) ((hg2.rda hM53 (i := 1) rfl)) rfl rfl (by omega) fun b61 o61 hp61 => ?_)
                        refine gyesl rfl ?_
                        refine ld (v := byteV ((List.replicate lb.length (2 : UInt8)).getD i 0)) rfl (hp61) ?_
                        refine stg rfl (v := .bool (decide (¬ (((List.replicate lb.length (2 : UInt8)).getD i 0).toNat : Int) = 2))) (o_bin rfl rfl v_neq) ?_
                        refine stg rfl (v := .bool (decide (¬ (((List.replicate lb.length (2 : UInt8)).getD i 0).toNat : Int) = 2))) (o_mv rfl) ?_
                        refine splitP rfl (fun c62 => absurd c62 (by rw [getD_rep (by omega)]; decide)) (fun c62 => ?_)
                        refine stg rfl (v := y) (o_mv rfl) ?_
                        refine stg rfl (v := .int .i64 (i : Nat)) (o_mv rfl) ?_
                        refine gyes rfl rfl (m_idxE 0 (j := i) (hg2.rdx hM53 (i := 1) rfl) rfl rfl (by omega) fun b63 o63 hp63 => ?_)
                        refine gyesl rfl ?_
                        refine ld (v := byteV (((List.replicate lb.length (2 : UInt8)) ++ (List.replicate 64 (4 : UInt8))).getD i 0)) rfl (hp63) ?_
                        refine stg rfl (v := .bool (decide (¬ ((((List.replicate lb.length (2 : UInt8)) ++ (List.replicate 64 (4 : UInt8))).getD i 0).toNat : Int) = 2))) (o_bin rfl rfl v_neq) ?_
                        refine stg rfl (v := .bool (decide (¬ ((((List.replicate lb.length (2 : UInt8)) ++ (List.replicate 64 (4 : UInt8))).getD i 0).toNat : Int) = 2))) (o_pickF rfl rfl) ?_
                        refine stp (v := .bool (decide (¬ ((((List.replicate lb.length (2 : UInt8)) ++ (List.replicate 64 (4 : UInt8))).getD i 0).toNat : Int) = 2))) (o_pickT rfl rfl) ?_
                        refine stp (v := .bool (decide (¬ ((((List.replicate lb.length (2 : UInt8)) ++ (List.replicate 64 (4 : UInt8))).getD i 0).toNat : Int) = 2))) (o_mv rfl) ?_
                        refine splitP rfl (fun c64 => absurd c64 (by rw [getD_rep1 (by omega)]; decide)) (fun c64 => ?_)
                        refine stg rfl (v := .int .i64 (i : Nat)) (o_mv rfl) ?_
                        refine stg rfl (v := vb) (o_mv rfl) ?_
                        refine stg rfl (v := .int .i64 ((List.replicate lb.length (2 : UInt8)).length : Nat)) (o_lenR ((hg2.rda hM53 (i := 1) rfl)) rfl rfl) ?_
                        refine stg rfl (v := .bool (decide ((((List.replicate lb.length (2 : UInt8)).length : Nat) : Int) ≤ ((i : Nat) : Int)))) (o_bin rfl rfl rfl) ?_
                        refine stg rfl (v := .bool (decide ((((List.replicate lb.length (2 : UInt8)).length : Nat) : Int) ≤ ((i : Nat) : Int)))) (o_mv rfl) ?_
                        refine splitP rfl (fun c65 => absurd c65 (by omega)) (fun c65 => ?_)
                        refine gno rfl (by simp) ?_
                        refine gno rfl (by simp) ?_
                        refine gno rfl (by simp) ?_
                        refine gnol rfl (by simp) ?_
                        refine gno rfl (by simp) ?_
                        refine stg rfl (v := .bool false) (o_pickF rfl rfl) ?_
                        refine stp (v := .bool false) (o_pickF rfl rfl) ?_
                        refine h59 _ _ ?_
                        clear h59
                        refine cndF rfl ?_
                        refine h58 _ _ ?_
                        clear h58
                        refine stp (v := .int .i64 (i : Nat)) (o_mv rfl) ?_
                        refine stp (v := .int .i64 ((i : Nat) + 1)) (o_bin rfl rfl (v_add64 (by constructor <;> omega))) ?_
                        refine stp (v := .int .i64 ((i : Nat) + 1)) (o_mv rfl) ?_
                        refine h54 (i + 1) _ _ ⟨rfl, rfl, rfl, rfl, by first | rfl | exact v_int (by omega) | exact v_int (by simp) | exact v_int (by simp; omega), hM53, by omega⟩ (by (try dsimp only); omega)
                      ·
                        refine gno rfl (by simp) ?_
                        refine gno rfl (by simp) ?_
                        refine gno rfl (by simp) ?_
                        refine gnol rfl (by simp) ?_
                        refine gno rfl (by simp) ?_
                        refine gno rfl (by simp) ?_
                        refine splitU rfl ?_
                        refine gnou rfl ?_
                        refine gnou rfl ?_
                        refine gnou rfl ?_
                        refine gnolu rfl ?_
                        refine gnou rfl ?_
                        refine gno rfl (by simp) ?_
                        refine stp (v := .bool false) (o_pickF rfl rfl) ?_
                        refine stp (v := .bool false) (o_mv rfl) ?_
                        refine splitF rfl ?_
                        refine stg rfl (v := .int .i64 (i : Nat)) (o_mv rfl) ?_
                        refine stg rfl (v := vb) (o_mv rfl) ?_
                        refine stg rfl (v := .int .i64 ((List.replicate lb.length (2 : UInt8)).length : Nat)) (o_lenR ((hg2.rda hM53 (i := 1) rfl)) rfl rfl) ?_
                        refine stg rfl (v := .bool (decide ((((List.replicate lb.length (2 : UInt8)).length : Nat) : Int) ≤ ((i : Nat) : Int)))) (o_bin rfl rfl rfl) ?_
                        refine stg rfl (v := .bool (decide ((((List.replicate lb.length (2 : UInt8)).length : Nat) : Int) ≤ ((i : Nat) : Int)))) (o_mv rfl) ?_
                        refine splitP rfl (fun c66 => ?_) (fun c66 => (c66 (by omega)).elim)
                        refine stg rfl (v := y) (o_mv rfl) ?_
                        refine stg rfl (v := .int .i64 (i : Nat)) (o_mv rfl) ?_
                        refine gyes rfl rfl (m_idxE 0 (j := i) (hg2.rdx hM53 (i := 1) rfl) rfl rfl (by omega) fun b67 o67 hp67 => ?_)
                        refine gyesl rfl ?_
                        refine ld (v := byteV (((List.replicate lb.length (2 : UInt8)) ++ (List.replicate 64 (4 : UInt8))).getD i 0)) rfl (hp67) ?_
                        refine stg rfl (v := .bool (decide (¬ ((((List.replicate lb.length (2 : UInt8)) ++ (List.replicate 64 (4 : UInt8))).getD i 0).toNat : Int) = 4))) (o_bin rfl rfl v_neq) ?_
                        refine stg rfl (v := .bool (decide (¬ ((((List.replicate lb.length (2 : UInt8)) ++ (List.replicate 64 (4 : UInt8))).getD i 0).toNat : Int) = 4))) (o_pickT rfl rfl) ?_
                        refine stp (v := .bool (decide (¬ ((((List.replicate lb.length (2 : UInt8)) ++ (List.replicate 64 (4 : UInt8))).getD i 0).toNat : Int) = 4))) (o_pickF rfl rfl) ?_
                        refine h59 _ _ ?_
                        clear h59
                        refine cndP rfl (fun c68 => absurd c68 (by rw [getD_rep2 (by omega) (by omega)]; decide)) (fun c68 => ?_)
                        refine h58 _ _ ?_
                        clear h58
                        refine stp (v := .int .i64 (i : Nat)) (o_mv rfl) ?_
                        refine stp (v := .int .i64 ((i : Nat) + 1)) (o_bin rfl rfl (v_add64 (by constructor <;> omega))) ?_
                        refine stp (v := .int .i64 ((i : Nat) + 1)) (o_mv rfl) ?_
                        refine h54 (i + 1) _ _ ⟨rfl, rfl, rfl, rfl, by first | rfl | exact v_int (by omega) | exact v_int (by simp) | exact v_int (by simp; omega), hM53, by omega⟩ (by (try dsimp only); omega)
                    ·
                      refine h51 _ _ ?_
                      clear h51
                      refine seq fun K69 h69 => ?_
                      refine stp (v := .bool true) (o_mv rfl) ?_
                      refine h69 _ _ ?_
                      clear h69
                      refine ⟨(.bool true), rfl, ?_⟩
                      exact ⟨rfl, hM53.upd⟩

theorem fixed_len {n v : Nat} : (fixed n v).length = n := fixed_length n v
theorem fixedI_len {v n : Int} : (fixedI v n).length ≤ 8 := by
  unfold fixedI; split
  · simp
  · rw [fixed_length]; omega

/-- winnowlaw2.NumsPut -/
theorem NumsPut_ok (v n : Int) (hv : inK .i64 v) (hn : inK .i64 n) (w : World) : Calls Try.prog 3 [.int .i64 v, .int .i64 n].toArray w (Rt fun r w' => r = .bool true ∧ Upd [] w w') := by
  have hM0 : Mem w [] w [] := Mem.nil w []
  simp only [inK] at hv hn
  refine calls_vc mixed Try.func3 rfl C3 (by simp [Try.ntmps3]) ?_
  refine seq fun K1 h1 => ?_
  refine stp (v := .bool false) (o_mv rfl) ?_
  refine h1 _ _ ?_
  clear h1
  refine seq fun K2 h2 => ?_
  refine stp (v := .int .i64 v) (o_mv rfl) ?_
  refine m_call (Put_ok v (by simp only [inK]; omega) w) rfl fun v3 w3 ⟨rs3, hs3, hm3⟩ => ?_
  have hM3 : Mem w [] w3 [rs3] := hM0.add hm3
  have hn3 := putI_len (v := v) (by omega)
  refine stp (v := v3) (o_mv rfl) ?_
  refine h2 _ _ ?_
  clear h2
  refine seq fun K4 h4 => ?_
  refine stp (v := .int .i64 v) (o_mv rfl) ?_
  refine m_call (Put_ok v (by simp only [inK]; omega) w3) rfl fun v5 w5 ⟨rs5, hs5, hm5⟩ => ?_
  have hM5 : Mem w [] w5 [rs3, rs5] := hM3.add hm5
  have hn5 := putI_len (v := v) (by omega)
  refine stp (v := v5) (o_mv rfl) ?_
  refine h4 _ _ ?_
  clear h4
  refine seq fun K6 h6 => ?_
  refine stp (v := .int .i64 v) (o_mv rfl) ?_
  refine stp (v := .int .u64 (v % 18446744073709551616)) (o_conv rfl (v_u64 _)) ?_
  refine stp (v := .int .i64 n) (o_mv rfl) ?_
  refine m_call (Fixed_ok (v % 18446744073709551616) n (by simp only [inK]; omega) (by simp only [inK]; omega) w5) rfl fun v7 w7 ⟨rs7, hs7, hm7⟩ => ?_
  have hM7 : Mem w [] w7 [rs3, rs5, rs7] := hM5.add hm7
  have hn7 := fixedI_len (v := v % 18446744073709551616) (n := n)
  refine stp (v := v7) (o_mv rfl) ?_
  refine h6 _ _ ?_
  clear h6
  refine seq fun K8 h8 => ?_
  refine stp (v := .int .i64 v) (o_mv rfl) ?_
  refine stp (v := .int .u64 (v % 18446744073709551616)) (o_conv rfl (v_u64 _)) ?_
  refine stp (v := .int .i64 n) (o_mv rfl) ?_
  refine m_call (Fixed_ok (v % 18446744073709551616) n (by simp only [inK]; omega) (by simp only [inK]; omega) w7) rfl fun v9 w9 ⟨rs9, hs9, hm9⟩ => ?_
  have hM9 : Mem w [] w9 [rs3, rs5, rs7, rs9] := hM7.add hm9
  have hn9 := fixedI_len (v := v % 18446744073709551616) (n := n)
  refine stp (v := v9) (o_mv rfl) ?_
  refine h8 _ _ ?_
  clear h8
  refine seq fun K10 h10 => ?_
  refine seq fun K11 h11 => ?_
  refine stp (v := v3) (o_mv rfl) ?_
  refine stp (v := .int .i64 v) (o_mv rfl) ?_
  refine m_call (refPut_ok v (by simp only [inK]; omega) w9) rfl fun v12 w12 ⟨rs12, hs12, hm12⟩ => ?_
  have hM12 : Mem w [] w12 [rs3, rs5, rs7, rs9, rs12] := hM9.add hm12
  have hn12 := putI_len (v := v) (by omega)
  refine m_call (same_ok _ _ (putI v) (putI v) w12 (hs3.rd hM12 (i := 0) rfl) (hs12.rd hM12 (i := 4) rfl) (by first | omega | (simp; done) | (simp; omega))) rfl fun v13 w13 ⟨hr13, hu13⟩ => ?_
  have hM13 : Mem w [] w13 [rs3, rs5, rs7, rs9, rs12] := hM12.pure hu13
  obtain rfl : v13 = .bool true := hr13.trans (by simp)
  clear hr13
  refine stp (v := .bool false) (o_not rfl rfl) ?_
  refine stp (v := .bool false) (o_mv rfl) ?_
  refine splitF rfl ?_
  refine stg rfl (v := v5) (o_mv rfl) ?_
  refine stg rfl (v := v3) (o_mv rfl) ?_
  refine gyesl rfl ?_
  refine m_call (same_ok _ _ (putI v) (putI v) w13 (hs5.rd hM13 (i := 1) rfl) (hs3.rd hM13 (i := 0) rfl) (by first | omega | (simp; done) | (simp; omega))) rfl fun v14 w14 ⟨hr14, hu14⟩ => ?_
  have hM14 : Mem w [] w14 [rs3, rs5, rs7, rs9, rs12] := hM13.pure hu14
  obtain rfl : v14 = .bool true := hr14.trans (by simp)
  clear hr14
  refine stg rfl (v := .bool false) (o_not rfl rfl) ?_
  refine stp (v := .bool false) (o_pickF rfl rfl) ?_
  refine stp (v := .bool false) (o_mv rfl) ?_
  refine splitF rfl ?_
  refine stg rfl (v := v7) (o_mv rfl) ?_
  refine stg rfl (v := .int .i64 v) (o_mv rfl) ?_
  refine stg rfl (v := .int .u64 (v % 18446744073709551616)) (o_conv rfl (v_u64 _)) ?_
  refine stg rfl (v := .int .i64 n) (o_mv rfl) ?_
  refine gyesl rfl ?_
  refine m_call (refFixed_ok (v % 18446744073709551616) n (by simp only [inK]; omega) (by simp only [inK]; omega) w14) rfl fun v15 w15 ⟨rs15, hs15, hm15⟩ => ?_
  have hM15 : Mem w [] w15 [rs3, rs5, rs7, rs9, rs12, rs15] := hM14.add hm15
  have hn15 := fixedI_len (v := v % 18446744073709551616) (n := n)
  refine gyesl rfl ?_
  refine m_call (same_ok _ _ (fixedI (v % 18446744073709551616) n) (fixedI (v % 18446744073709551616) n) w15 (hs7.rd hM15 (i := 2) rfl) (hs15.rd hM15 (i := 5) rfl) (by first | omega | (simp; done) | (simp; omega))) rfl fun v16 w16 ⟨hr16, hu16⟩ => ?_
  have hM16 : Mem w [] w16 [rs3, rs5, rs7, rs9, rs12, rs15] := hM15.pure hu16
  obtain rfl : v16 = .bool true := hr16.trans (by simp)
  clear hr16
  refine stg rfl (v := .bool false) (o_not rfl rfl) ?_
  refine stp (v := .bool false) (o_pickF rfl rfl) ?_
  refine stp (v := .bool false) (o_mv rfl) ?_
  refine splitF rfl ?_
  refine stg rfl (v := v9) (o_mv rfl) ?_
  refine stg rfl (v := v7) (o_mv rfl) ?_
  refine gyesl rfl ?_
  refine m_call (same_ok _ _ (fixedI (v % 18446744073709551616) n) (fixedI (v % 18446744073709551616) n) w16 (hs9.rd hM16 (i := 3) rfl) (hs7.rd hM16 (i := 2) rfl) (by first | omega | (simp; done) | (simp; omega))) rfl fun v17 w17 ⟨hr17, hu17⟩ => ?_
  have hM17 : Mem w [] w17 [rs3, rs5, rs7, rs9, rs12, rs15] := hM16.pure hu17
  obtain rfl : v17 = .bool true := hr17.trans (by simp)
  clear hr17
  refine stg rfl (v := .bool false) (o_not rfl rfl) ?_
  refine stp (v := .bool false) (o_pickF rfl rfl) ?_
  refine h11 _ _ ?_
  clear h11
  refine cndF rfl ?_
  refine h10 _ _ ?_
  clear h10
  refine seq fun K18 h18 => ?_
  refine stp (v := v3) (o_mv rfl) ?_
  refine stp (v := v5) (o_mv rfl) ?_
  refine m_call (fresh_ok _ _ (putI v) (putI v) rs3 rs5 w17 hs3 hs5 (hM17.res2 0 1 rfl rfl (by decide)) (by first | omega | (simp; done) | (simp; omega))) rfl fun v19 w19 ⟨hr19, hu19⟩ => ?_
  have hM19 : Mem w [] w19 [[], [], rs7, rs9, rs12, rs15] := hM17.lentAt 0 1 rfl rfl (by decide) hu19
  subst hr19
  refine stp (v := .bool true) (o_mv rfl) ?_
  refine splitT rfl ?_
  refine stg rfl (v := v7) (o_mv rfl) ?_
  refine stg rfl (v := v9) (o_mv rfl) ?_
  refine gyesl rfl ?_
  refine m_call (fresh_ok _ _ (fixedI (v % 18446744073709551616) n) (fixedI (v % 18446744073709551616) n) rs7 rs9 w19 hs7 hs9 (hM19.res2 2 3 rfl rfl (by decide)) (by first | omega | (simp; done) | (simp; omega))) rfl fun v20 w20 ⟨hr20, hu20⟩ => ?_
  have hM20 : Mem w [] w20 [[], [], [], [], rs12, rs15] := hM19.lentAt 2 3 rfl rfl (by decide) hu20
  subst hr20
  refine stp (v := .bool true) (o_pickT rfl rfl) ?_
  refine stp (v := .bool true) (o_mv rfl) ?_
  refine h18 _ _ ?_
  clear h18
  refine ⟨(.bool true), rfl, ?_⟩
  exact ⟨rfl, hM20.upd⟩
