/- Numbers as bytes; cursors. -/
import Derived.Test.YthhmhmnhbababaaC1
namespace Go.Proofs.Ythhmhmnhbababaa.E
open Go

/-- nums.Put -/
theorem Put_ok (v : Int) (hv : inK .i64 v) (w : World) : Calls Try.prog 76 [.int .i64 v].toArray w (Rt fun r w' => ∃ rs, SlB 5 r (putI v) rs ∧ Mem w [] w' [rs]) := by
  have hM0 : Mem w [] w [] := Mem.nil w []
  simp only [inK] at hv
  refine calls_vc mixed Try.func76 rfl C76 (by simp [Try.ntmps76]) ?_
  refine seq fun K1 h1 => ?_
  refine stp (v := .slice none 0 0) (o_mv rfl) ?_
  refine h1 _ _ ?_
  clear h1
  refine seq fun K2 h2 => ?_
  refine seq fun K3 h3 => ?_
  refine stp (v := .int .i64 v) (o_mv rfl) ?_
  refine stp (v := .bool (decide (v < 0))) (o_bin rfl rfl rfl) ?_
  refine h3 _ _ ?_
  clear h3
  refine cndP rfl (fun c4 => ?_) (fun c4 => ?_)
  ·
    refine seq fun K5 h5 => ?_
    refine stp (v := .slice none 0 0) (o_mv rfl) ?_
    refine h5 _ _ ?_
    clear h5
    refine ⟨(.slice none 0 0), rfl, ?_⟩
    exact ⟨[], by unfold putI; rw [if_pos c4]; exact Sl.nil 1 5, hM0.addNil⟩
  ·
    refine h2 _ _ ?_
    clear h2
    refine seq fun K6 h6 => ?_
    refine stp (v := .slice none 0 0) (o_mv rfl) ?_
    refine h6 _ _ ?_
    clear h6
    refine seq fun K7 h7 => ?_
    refine lp (n := fun _ _ => False) (ι := (Int) × (List UInt8) × (Value) × (List Ent)) (fun ⟨v', p, r, rs⟩ f w' => f 0 = .int .i64 v' ∧ f 3 = r ∧ Mem w [] w' [rs] ∧ (SlB 5 r p rs) ∧ (0 ≤ v' ∧ v' ≤ 9223372036854775807) ∧ (p ++ putI v' = putI v) ∧ (p.length ≤ 9)) (fun ⟨v', p, r, rs⟩ => v'.toNat) (v, [], .slice none 0 0, []) ?_ ?_
    · exact ⟨by first | rfl | exact v_int (by omega) | exact v_int (by simp) | exact v_int (by simp; omega), rfl, hM0.addNil, Sl.nil 1 5, by omega, by simp, by simp⟩
    · rintro ⟨v', p, r, rs⟩ f w8 ⟨e8_0, e8_3, hM8, hs, hv1, hp, hl⟩ K9 h9
      obtain ⟨frm, rfl⟩ : ∃ frm, f = (upd (upd frm 0 (.int .i64 v')) 3 (r)) := ⟨f, by rw [upd_self e8_0, upd_self e8_3]⟩
      clear e8_0 e8_3
      refine seq fun K10 h10 => ?_
      refine seq fun K11 h11 => ?_
      refine stp (v := .int .i64 v') (o_mv rfl) ?_
      refine stp (v := .bool (decide ((128 : Int) ≤ v'))) (o_bin rfl rfl rfl) ?_
      refine h11 _ _ ?_
      clear h11
      refine cndP rfl (fun c12 => ?_) (fun c12 => ?_)
      ·
        refine h10 _ _ ?_
        clear h10
        refine seq fun K13 h13 => ?_
        refine stp (v := r) (o_mv rfl) ?_
        refine stp (v := .int .i64 v') (o_mv rfl) ?_
        refine stp (v := .int .u8 (v' % 256)) (o_conv rfl (v_u8 _)) ?_
        refine stp (v := .int .u8 (v' % 128 + 128)) (o_bin rfl rfl (v_int (low_or v'))) ?_
        refine m_app1 (E := byteV) (q := (v' % 128 + 128).toNat.toUInt8) hM8 (i := 0) rfl hs rfl (by simp) (byteV_of (by omega) (by omega)) (by omega) (by omega) fun v14 w14 r14 u14 (hs14 : SlE byteV 5 v14 (p ++ [(v' % 128 + 128).toNat.toUInt8]) r14) (hM14 : Mem w [] w14 [r14]) => ?_
        refine stp (v := v14) (o_mv rfl) ?_
        refine h13 _ _ ?_
        clear h13
        refine stp (v := .int .i64 v') (o_mv rfl) ?_
        refine stp (v := .int .i64 (v' / 128)) (o_shr rfl rfl (by omega) (v_shr 7 (by decide))) ?_
        refine stp (v := .int .i64 (v' / 128)) (o_mv rfl) ?_
        refine h9 (v' / 128, p ++ [(v' % 128 + 128).toNat.toUInt8], v14, r14) _ _ ⟨by first | rfl | exact v_int (by omega) | exact v_int (by simp) | exact v_int (by simp; omega), rfl, hM14, hs14, by omega, by rw [← hp, putI_ge (v := v') (by omega), List.append_assoc]; rfl, by have h1 := putI_len hv.2; have h2 := putI_pos (v := v' / 128) (by omega); rw [← hp, putI_ge (v := v') (by omega)] at h1; simp at h1 ⊢; omega⟩ (by (try dsimp only); omega)
      ·
        refine h7 _ _ ?_
        clear h7
        refine seq fun K15 h15 => ?_
        refine stp (v := r) (o_mv rfl) ?_
        refine stp (v := .int .i64 v') (o_mv rfl) ?_
        refine stp (v := .int .u8 (v' % 256)) (o_conv rfl (v_u8 _)) ?_
        refine m_app1 (E := byteV) (q := v'.toNat.toUInt8) hM8 (i := 0) rfl hs rfl (by simp) (by rw [Int.emod_eq_of_lt (by omega) (by omega)]; exact byteV_of (by omega) (by omega)) (by omega) (by omega) fun v16 w16 r16 u16 (hs16 : SlE byteV 5 v16 (p ++ [v'.toNat.toUInt8]) r16) (hM16 : Mem w [] w16 [r16]) => ?_
        refine stp (v := v16) (o_mv rfl) ?_
        refine h15 _ _ ?_
        clear h15
        refine ⟨v16, rfl, ?_⟩
        exact ⟨_, by rw [← hp, putI_lt (by omega) (by omega)]; exact hs16, hM16⟩

/-- winnowref2.Put -/
theorem refPut_ok (v : Int) (hv : inK .i64 v) (w : World) : Calls Try.prog 99 [.int .i64 v].toArray w (Rt fun r w' => ∃ rs, SlB 5 r (putI v) rs ∧ Mem w [] w' [rs]) := by
  have hM0 : Mem w [] w [] := Mem.nil w []
  simp only [inK] at hv
  refine calls_vc mixed Try.func99 rfl C99 (by simp [Try.ntmps99]) ?_
  refine seq fun K1 h1 => ?_
  refine stp (v := .slice none 0 0) (o_mv rfl) ?_
  refine h1 _ _ ?_
  clear h1
  refine seq fun K2 h2 => ?_
  refine stp (v := .slice none 0 0) (o_mv rfl) ?_
  refine h2 _ _ ?_
  clear h2
  refine seq fun K3 h3 => ?_
  refine seq fun K4 h4 => ?_
  refine stp (v := .int .i64 v) (o_mv rfl) ?_
  refine stp (v := .bool (decide (v < 0))) (o_bin rfl rfl rfl) ?_
  refine h4 _ _ ?_
  clear h4
  refine cndP rfl (fun c5 => ?_) (fun c5 => ?_)
  ·
    refine seq fun K6 h6 => ?_
    refine stp (v := .slice none 0 0) (o_mv rfl) ?_
    refine stp (v := .slice none 0 0) (o_mv rfl) ?_
    refine h6 _ _ ?_
    clear h6
    refine ⟨(.slice none 0 0), rfl, ?_⟩
    exact ⟨[], by unfold putI; rw [if_pos (by omega)]; exact Sl.nil 1 5, hM0.addNil⟩
  ·
    refine h3 _ _ ?_
    clear h3
    refine seq fun K7 h7 => ?_
    refine lp (n := fun _ _ => False) (ι := (Int) × (List UInt8) × (Value) × (List Ent)) (fun ⟨v', p, r, rs⟩ f w' => f 0 = .int .i64 v' ∧ f 3 = r ∧ Mem w [] w' [rs] ∧ (SlB 5 r p rs) ∧ (0 ≤ v' ∧ v' ≤ 9223372036854775807) ∧ (p ++ putI v' = putI v) ∧ (p.length ≤ 9)) (fun ⟨v', p, r, rs⟩ => v'.toNat) (v, [], .slice none 0 0, []) ?_ ?_
    · exact ⟨by first | rfl | exact v_int (by omega) | exact v_int (by simp) | exact v_int (by simp; omega), rfl, hM0.addNil, Sl.nil 1 5, by omega, by simp, by simp⟩
    · rintro ⟨v', p, r, rs⟩ f w8 ⟨e8_0, e8_3, hM8, hs, hv1, hp, hl⟩ K9 h9
      obtain ⟨frm, rfl⟩ : ∃ frm, f = (upd (upd frm 0 (.int .i64 v')) 3 (r)) := ⟨f, by rw [upd_self e8_0, upd_self e8_3]⟩
      clear e8_0 e8_3
      refine seq fun K10 h10 => ?_
      refine seq fun K11 h11 => ?_
      refine stp (v := .int .i64 v') (o_mv rfl) ?_
      refine stp (v := .bool (decide ((128 : Int) ≤ v'))) (o_bin rfl rfl rfl) ?_
      refine h11 _ _ ?_
      clear h11
      refine cndP rfl (fun c12 => ?_) (fun c12 => ?_)
      ·
        refine h10 _ _ ?_
        clear h10
        refine seq fun K13 h13 => ?_
        refine stp (v := r) (o_mv rfl) ?_
        refine stp (v := .int .i64 v') (o_mv rfl) ?_
        refine stp (v := .int .i64 (v' % 128)) (o_rem rfl rfl (by omega) (v_rem (by omega))) ?_
        refine stp (v := .int .i64 ((v' % 128) + 128)) (o_bin rfl rfl (v_add64 (by constructor <;> omega))) ?_
        refine stp (v := .int .u8 (((v' % 128) + 128) % 256)) (o_conv rfl (v_u8 _)) ?_
        refine m_app1 (E := byteV) (q := (v' % 128 + 128).toNat.toUInt8) hM8 (i := 0) rfl hs rfl (by simp) (by rw [show (v' % 128 + 128) % 256 = v' % 128 + 128 by omega]; exact byteV_of (by omega) (by omega)) (by omega) (by omega) fun v14 w14 r14 u14 (hs14 : SlE byteV 5 v14 (p ++ [(v' % 128 + 128).toNat.toUInt8]) r14) (hM14 : Mem w [] w14 [r14]) => ?_
        refine stp (v := v14) (o_mv rfl) ?_
        refine h13 _ _ ?_
        clear h13
        refine stp (v := .int .i64 v') (o_mv rfl) ?_
        refine stp (v := .int .i64 (v' / 128)) (o_quo rfl rfl (by omega) (v_quo (by omega) (by omega) (by simp only [inK]; omega))) ?_
        refine stp (v := .int .i64 (v' / 128)) (o_mv rfl) ?_
        refine h9 (v' / 128, p ++ [(v' % 128 + 128).toNat.toUInt8], v14, r14) _ _ ⟨by first | rfl | exact v_int (by omega) | exact v_int (by simp) | exact v_int (by simp; omega), rfl, hM14, hs14, by omega, by rw [← hp, putI_ge (v := v') (by omega), List.append_assoc]; rfl, by have h1 := putI_len hv.2; have h2 := putI_pos (v := v' / 128) (by omega); rw [← hp, putI_ge (v := v') (by omega)] at h1; simp at h1 ⊢; omega⟩ (by (try dsimp only); omega)
      ·
        refine h7 _ _ ?_
        clear h7
        refine seq fun K15 h15 => ?_
        refine stp (v := r) (o_mv rfl) ?_
        refine stp (v := .int .i64 v') (o_mv rfl) ?_
        refine stp (v := .int .u8 (v' % 256)) (o_conv rfl (v_u8 _)) ?_
        refine m_app1 (E := byteV) (q := v'.toNat.toUInt8) hM8 (i := 0) rfl hs rfl (by simp) (by rw [Int.emod_eq_of_lt (by omega) (by omega)]; exact byteV_of (by omega) (by omega)) (by omega) (by omega) fun v16 w16 r16 u16 (hs16 : SlE byteV 5 v16 (p ++ [v'.toNat.toUInt8]) r16) (hM16 : Mem w [] w16 [r16]) => ?_
        refine stp (v := v16) (o_mv rfl) ?_
        refine h15 _ _ ?_
        clear h15
        refine seq fun K17 h17 => ?_
        refine stp (v := v16) (o_mv rfl) ?_
        refine stp (v := v16) (o_mv rfl) ?_
        refine h17 _ _ ?_
        clear h17
        refine ⟨v16, rfl, ?_⟩
        exact ⟨_, by rw [← hp, putI_lt (by omega) (by omega)]; exact hs16, hM16⟩

/-- nums.Fixed -/
theorem Fixed_ok (v n : Int) (hv : inK .u64 v) (hn : inK .i64 n) (w : World) : Calls Try.prog 58 [.int .u64 v, .int .i64 n].toArray w (Rt fun r w' => ∃ rs, SlB 5 r (fixedI v n) rs ∧ Mem w [] w' [rs]) := by
  have hM0 : Mem w [] w [] := Mem.nil w []
  simp only [inK] at hv hn
  refine calls_vc mixed Try.func58 rfl C58 (by simp [Try.ntmps58]) ?_
  refine seq fun K1 h1 => ?_
  refine stp (v := .slice none 0 0) (o_mv rfl) ?_
  refine h1 _ _ ?_
  clear h1
  refine seq fun K2 h2 => ?_
  refine seq fun K3 h3 => ?_
  refine stp (v := .int .i64 n) (o_mv rfl) ?_
  refine stp (v := .bool (decide (n < 1))) (o_bin rfl rfl rfl) ?_
  refine stp (v := .bool (decide (n < 1))) (o_mv rfl) ?_
  refine splitP rfl (fun c4 => ?_) (fun c4 => ?_)
  ·
    refine gno rfl (by simp) ?_
    refine gno rfl (by simp) ?_
    refine stp (v := .bool true) (o_pickT rfl rfl) ?_
    refine h3 _ _ ?_
    clear h3
    refine cndT rfl ?_
    refine seq fun K5 h5 => ?_
    refine stp (v := .slice none 0 0) (o_mv rfl) ?_
    refine h5 _ _ ?_
    clear h5
    refine ⟨(.slice none 0 0), rfl, ?_⟩
    exact ⟨[], by rw [fixedI_none (by omega)]; exact Sl.nil 1 5, hM0.addNil⟩
  ·
    refine stg rfl (v := .int .i64 n) (o_mv rfl) ?_
    refine stg rfl (v := .bool (decide ((8 : Int) < n))) (o_bin rfl rfl rfl) ?_
    refine stp (v := .bool (decide ((8 : Int) < n))) (o_pickF rfl rfl) ?_
    refine h3 _ _ ?_
    clear h3
    refine cndP rfl (fun c6 => ?_) (fun c6 => ?_)
    ·
      refine seq fun K7 h7 => ?_
      refine stp (v := .slice none 0 0) (o_mv rfl) ?_
      refine h7 _ _ ?_
      clear h7
      refine ⟨(.slice none 0 0), rfl, ?_⟩
      exact ⟨[], by rw [fixedI_none (by omega)]; exact Sl.nil 1 5, hM0.addNil⟩
    ·
      refine h2 _ _ ?_
      clear h2
      refine seq fun K8 h8 => ?_
      refine stp (v := .int .i64 n) (o_mv rfl) ?_
      refine m_mksE (E := byteV) (z := 0) (n := n.toNat) (c := n.toNat) rfl hM0 (v_int (by omega)) (v_int (by omega)) (by omega) (by omega) (by omega) fun v9 w9 r9 hs9 (hM9 : Mem w [] w9 [r9]) => ?_
      refine stp (v := v9) (o_mv rfl) ?_
      refine h8 _ _ ?_
      clear h8
      refine seq fun K10 h10 => ?_
      refine seq fun K11 h11 => ?_
      refine stp (v := v9) (o_mv rfl) ?_
      refine stp (v := .int .i64 ((List.replicate n.toNat 0).length : Nat)) (o_lenR (hs9.rd hM9 (i := 0) rfl) rfl rfl) ?_
      refine stp (v := .int .i64 0) (o_mv rfl) ?_
      refine h11 _ _ ?_
      clear h11
      refine lp (n := fun _ _ => False) (ι := (Nat) × (Value) × (List Ent)) (fun ⟨i, x, r⟩ f w' => f 0 = .int .u64 v ∧ f 5 = x ∧ f 16 = .int .i64 (n.toNat : Nat) ∧ f 17 = .int .i64 (i : Nat) ∧ Mem w [] w' [r] ∧ (SlB 5 x (fixed i v.toNat ++ List.replicate (n.toNat - i) 0) r) ∧ (i ≤ n.toNat)) (fun ⟨i, x, r⟩ => n.toNat - i) (0, v9, r9) ?_ ?_
      · exact ⟨by first | rfl | exact v_int (by omega) | exact v_int (by simp) | exact v_int (by simp; omega), rfl, by first | rfl | exact v_int (by omega) | exact v_int (by simp) | exact v_int (by simp; omega), by first | rfl | exact v_int (by omega) | exact v_int (by simp) | exact v_int (by simp; omega), hM9, by simpa [fixed] using hs9, by omega⟩
      · rintro ⟨i, x, r⟩ f w12 ⟨e12_0, e12_5, e12_16, e12_17, hM12, hs, hi⟩ K13 h13
        obtain ⟨frm, rfl⟩ : ∃ frm, f = (upd (upd (upd (upd frm 0 (.int .u64 v)) 5 (x)) 16 (.int .i64 (n.toNat : Nat))) 17 (.int .i64 (i : Nat))) := ⟨f, by rw [upd_self e12_0, upd_self e12_5, upd_self e12_16, upd_self e12_17]⟩
        clear e12_0 e12_5 e12_16 e12_17
        refine seq fun K14 h14 => ?_
        refine stp (v := .bool (decide (((i : Nat) : Int) < (n.toNat : Nat)))) (o_bin rfl rfl rfl) ?_
        refine h14 _ _ ?_
        clear h14
        refine seq fun K15 h15 => ?_
        refine cndP rfl (fun c16 => ?_) (fun c16 => ?_)
        ·
          refine h15 _ _ ?_
          clear h15
          refine seq fun K17 h17 => ?_
          refine seq fun K18 h18 => ?_
          refine stp (v := .int .i64 (i : Nat)) (o_mv rfl) ?_
          refine stp (v := .int .i64 (i : Nat)) (o_mv rfl) ?_
          refine h18 _ _ ?_
          clear h18
          refine stp (v := x) (o_mv rfl) ?_
          refine stp (v := .int .i64 (i : Nat)) (o_mv rfl) ?_
          refine stp (v := .int .u64 v) (o_mv rfl) ?_
          refine stp (v := .int .i64 (i : Nat)) (o_mv rfl) ?_
          refine stp (v := .int .i64 (8 * (i : Nat))) (o_bin rfl rfl (v_mul64 (by constructor <;> omega))) ?_
          refine stp (v := .int .u64 (shrI .u64 v (8 * (i : Nat)))) (o_shr rfl rfl (by omega) rfl) ?_
          refine stp (v := byteV ((v.toNat / 256 ^ i % 256).toUInt8)) (o_conv rfl (shr_byte (by omega) (by omega))) ?_
          refine m_set (E := byteV) (q := (v.toNat / 256 ^ i % 256).toUInt8) (j := i) hM12 (i := 0) rfl hs rfl rfl (by simp [fixed_length]; omega) (by simp) (rfl) fun w19 r19 u19 he19 hs19 (hM19 : Mem w [] w19 [r19]) => ?_
          refine h17 _ _ ?_
          clear h17
          refine stp (v := .int .i64 ((i : Nat) + 1)) (o_bin rfl rfl (v_add64 (by constructor <;> omega))) ?_
          refine stp (v := .int .i64 ((i : Nat) + 1)) (o_mv rfl) ?_
          refine h13 (i + 1, x, r19) _ _ ⟨by first | rfl | exact v_int (by omega) | exact v_int (by simp) | exact v_int (by simp; omega), rfl, by first | rfl | exact v_int (by omega) | exact v_int (by simp) | exact v_int (by simp; omega), by first | rfl | exact v_int (by omega) | exact v_int (by simp) | exact v_int (by simp; omega), hM19, by rw [← fixed_set (by omega)]; exact hs19, by omega⟩ (by (try dsimp only); omega)
        ·
          refine h10 _ _ ?_
          clear h10
          refine seq fun K20 h20 => ?_
          refine stp (v := x) (o_mv rfl) ?_
          refine stp (v := x) (o_mv rfl) ?_
          refine h20 _ _ ?_
          clear h20
          refine ⟨x, rfl, ?_⟩
          have e : i = n.toNat := by omega
          subst e
          rw [Nat.sub_self, List.replicate_zero, List.append_nil] at hs
          exact ⟨_, by rw [fixedI_some (by omega)]; exact hs, hM12⟩

/-- winnowref2.Fixed -/
theorem refFixed_ok (v n : Int) (hv : inK .u64 v) (hn : inK .i64 n) (w : World) : Calls Try.prog 62 [.int .u64 v, .int .i64 n].toArray w (Rt fun r w' => ∃ rs, SlB 5 r (fixedI v n) rs ∧ Mem w [] w' [rs]) := by
  have hM0 : Mem w [] w [] := Mem.nil w []
  simp only [inK] at hv hn
  refine calls_vc mixed Try.func62 rfl C62 (by simp [Try.ntmps62]) ?_
  refine seq fun K1 h1 => ?_
  refine stp (v := .slice none 0 0) (o_mv rfl) ?_
  refine h1 _ _ ?_
  clear h1
  refine seq fun K2 h2 => ?_
  refine stp (v := .slice none 0 0) (o_mv rfl) ?_
  refine h2 _ _ ?_
  clear h2
  refine seq fun K3 h3 => ?_
  refine seq fun K4 h4 => ?_
  refine stp (v := .int .i64 n) (o_mv rfl) ?_
  refine stp (v := .bool (decide (n < 1))) (o_bin rfl rfl rfl) ?_
  refine stp (v := .bool (decide (n < 1))) (o_mv rfl) ?_
  refine splitP rfl (fun c5 => ?_) (fun c5 => ?_)
  ·
    refine gno rfl (by simp) ?_
    refine gno rfl (by simp) ?_
    refine stp (v := .bool true) (o_pickT rfl rfl) ?_
    refine h4 _ _ ?_
    clear h4
    refine cndT rfl ?_
    refine seq fun K6 h6 => ?_
    refine stp (v := .slice none 0 0) (o_mv rfl) ?_
    refine stp (v := .slice none 0 0) (o_mv rfl) ?_
    refine h6 _ _ ?_
    clear h6
    refine ⟨(.slice none 0 0), rfl, ?_⟩
    exact ⟨[], by rw [fixedI_none (by omega)]; exact Sl.nil 1 5, hM0.addNil⟩
  ·
    refine stg rfl (v := .int .i64 n) (o_mv rfl) ?_
    refine stg rfl (v := .bool (decide ((8 : Int) < n))) (o_bin rfl rfl rfl) ?_
    refine stp (v := .bool (decide ((8 : Int) < n))) (o_pickF rfl rfl) ?_
    refine h4 _ _ ?_
    clear h4
    refine cndP rfl (fun c7 => ?_) (fun c7 => ?_)
    ·
      refine seq fun K8 h8 => ?_
      refine stp (v := .slice none 0 0) (o_mv rfl) ?_
      refine stp (v := .slice none 0 0) (o_mv rfl) ?_
      refine h8 _ _ ?_
      clear h8
      refine ⟨(.slice none 0 0), rfl, ?_⟩
      exact ⟨[], by rw [fixedI_none (by omega)]; exact Sl.nil 1 5, hM0.addNil⟩
    ·
      refine h3 _ _ ?_
      clear h3
      refine seq fun K9 h9 => ?_
      refine seq fun K10 h10 => ?_
      refine stp (v := .int .i64 0) (o_mv rfl) ?_
      refine h10 _ _ ?_
      clear h10
      refine lp (n := fun _ _ => False) (ι := (Nat) × (Int) × (Value) × (List Ent)) (fun ⟨i, v', x, r⟩ f w' => f 0 = .int .u64 v' ∧ f 1 = .int .i64 n ∧ f 5 = x ∧ f 6 = .int .i64 (i : Nat) ∧ Mem w [] w' [r] ∧ (SlB 5 x (fixed i v.toNat) r) ∧ (i ≤ n.toNat) ∧ (v' = ((v.toNat / 256 ^ i : Nat) : Int)) ∧ (0 ≤ v' ∧ v' ≤ 18446744073709551615)) (fun ⟨i, v', x, r⟩ => n.toNat - i) (0, v, .slice none 0 0, []) ?_ ?_
      · exact ⟨by first | rfl | exact v_int (by omega) | exact v_int (by simp) | exact v_int (by simp; omega), by first | rfl | exact v_int (by omega) | exact v_int (by simp) | exact v_int (by simp; omega), rfl, by first | rfl | exact v_int (by omega) | exact v_int (by simp) | exact v_int (by simp; omega), hM0.addNil, Sl.nil 1 5, by omega, by simp; omega, by omega⟩
      · rintro ⟨i, v', x, r⟩ f w11 ⟨e11_0, e11_1, e11_5, e11_6, hM11, hs, hi, hv1, hv2⟩ K12 h12
        obtain ⟨frm, rfl⟩ : ∃ frm, f = (upd (upd (upd (upd frm 0 (.int .u64 v')) 1 (.int .i64 n)) 5 (x)) 6 (.int .i64 (i : Nat))) := ⟨f, by rw [upd_self e11_0, upd_self e11_1, upd_self e11_5, upd_self e11_6]⟩
        clear e11_0 e11_1 e11_5 e11_6
        refine seq fun K13 h13 => ?_
        refine seq fun K14 h14 => ?_
        refine stp (v := .int .i64 (i : Nat)) (o_mv rfl) ?_
        refine stp (v := .int .i64 n) (o_mv rfl) ?_
        refine stp (v := .bool (decide (((i : Nat) : Int) < n))) (o_bin rfl rfl rfl) ?_
        refine h14 _ _ ?_
        clear h14
        refine cndP rfl (fun c15 => ?_) (fun c15 => ?_)
        ·
          refine h13 _ _ ?_
          clear h13
          refine seq fun K16 h16 => ?_
          refine seq fun K17 h17 => ?_
          refine stp (v := x) (o_mv rfl) ?_
          refine stp (v := .int .u64 v') (o_mv rfl) ?_
          refine stp (v := .int .u64 (v' % 256)) (o_rem rfl rfl (by omega) (v_rem (by omega))) ?_
          refine stp (v := .int .u8 ((v' % 256) % 256)) (o_conv rfl (v_u8 _)) ?_
          refine m_app1 (E := byteV) (q := (v.toNat / 256 ^ i % 256).toUInt8) hM11 (i := 0) rfl hs rfl (by simp) (by rw [hv1]; exact byte_mod _) (by rw [fixed_length]; omega) (by omega) fun v18 w18 r18 u18 (hs18 : SlE byteV 5 v18 ((fixed i v.toNat) ++ [(v.toNat / 256 ^ i % 256).toUInt8]) r18) (hM18 : Mem w [] w18 [r18]) => ?_
          refine stp (v := v18) (o_mv rfl) ?_
          refine h17 _ _ ?_
          clear h17
          refine stp (v := .int .u64 v') (o_mv rfl) ?_
          refine stp (v := .int .u64 (v' / 256)) (o_quo rfl rfl (by omega) (v_quo (by omega) (by omega) (by simp only [inK]; omega))) ?_
          refine stp (v := .int .u64 (v' / 256)) (o_mv rfl) ?_
          refine h16 _ _ ?_
          clear h16
          refine stp (v := .int .i64 (i : Nat)) (o_mv rfl) ?_
          refine stp (v := .int .i64 ((i : Nat) + 1)) (o_bin rfl rfl (v_add64 (by constructor <;> omega))) ?_
          refine stp (v := .int .i64 ((i : Nat) + 1)) (o_mv rfl) ?_
          refine h12 (i + 1, v' / 256, v18, r18) _ _ ⟨by first | rfl | exact v_int (by omega) | exact v_int (by simp) | exact v_int (by simp; omega), by first | rfl | exact v_int (by omega) | exact v_int (by simp) | exact v_int (by simp; omega), rfl, by first | rfl | exact v_int (by omega) | exact v_int (by simp) | exact v_int (by simp; omega), hM18, by rw [fixed_succ]; exact hs18, by omega, by rw [hv1, Nat.pow_succ, ← Nat.div_div_eq_div_mul]; rfl, by omega⟩ (by (try dsimp only); omega)
        ·
          refine h9 _ _ ?_
          clear h9
          refine seq fun K19 h19 => ?_
          refine stp (v := x) (o_mv rfl) ?_
          refine stp (v := x) (o_mv rfl) ?_
          refine h19 _ _ ?_
          clear h19
          refine ⟨x, rfl, ?_⟩
          have e : i = n.toNat := by omega
          subst e
          exact ⟨_, by rw [fixedI_some (by omega)]; exact hs, hM11⟩

/-- A cursor that a call owns: its block, and its bytes. -/
def CurS (bc : Nat) (b : List UInt8) (a : Nat) (e : Int) (r : List Ent) : Prop := ∃ vb rb, r = ⟨bc, 133, [vb, .int .i64 (a : Nat), .int .i64 e]⟩ :: rb ∧ SlE byteV 5 vb b rb ∧ a ≤ b.length
def numE (l : List UInt8) (m : Int) : Int := if (get l).2.2 = 0 then (if m < ((get l).1 : Int) then 23 else 0) else (get l).2.2
def numV (l : List UInt8) (m : Int) : Int := if numE l m = 0 then (get l).1 else 0
def fixE (l : List UInt8) (n : Int) : Int := if n < 1 ∨ 8 < n then 23 else if (l.length : Int) < n then 20 else 0
def fixV (l : List UInt8) (n : Int) : Nat := if fixE l n = 0 then word (l.take n.toNat) else 0
def tkE (l : List UInt8) (n : Int) : Int := if n < 0 then 23 else if (l.length : Int) < n then 20 else 0
def tkV (l : List UInt8) (n : Int) : List UInt8 := if tkE l n = 0 then l.take n.toNat else []
theorem numE_get {l : List UInt8} {m : Int} (h : numE l m = 0) : (get l).2.2 = 0 := by unfold numE at h; split at h <;> omega
theorem CurS.le {bc : Nat} {b : List UInt8} {a : Nat} {e : Int} {r : List Ent} (h : CurS bc b a e r) : a ≤ b.length := by obtain ⟨_, _, _, _, h⟩ := h; exact h

theorem num_much {l : List UInt8} {m : Int} (h : (get l).2.2 = 0) (h2 : m < ((get l).1 : Int)) : numE l m = 23 ∧ numV l m = 0 := by
  have : numE l m = 23 := by unfold numE; rw [if_pos h, if_pos h2]
  exact ⟨this, by unfold numV; rw [if_neg (by omega)]⟩
theorem num_fine {l : List UInt8} {m : Int} (h : (get l).2.2 = 0) (h2 : ¬ m < ((get l).1 : Int)) : numE l m = (get l).2.2 ∧ numV l m = (get l).1 := by
  have : numE l m = 0 := by unfold numE; rw [if_pos h, if_neg h2]
  exact ⟨by omega, by unfold numV; rw [if_pos this]⟩
theorem num_bad {l : List UInt8} {m : Int} (h : ¬ (get l).2.2 = 0) : numE l m = (get l).2.2 ∧ numV l m = 0 := by
  have : numE l m = (get l).2.2 := by unfold numE; rw [if_neg h]
  exact ⟨this, by unfold numV; rw [if_neg (by omega)]⟩
def cNum (b : List UInt8) (a : Nat) (e m : Int) : Int := if e = 0 then numV (b.drop a) m else 0
def cNumA (b : List UInt8) (a : Nat) (e m : Int) : Nat := if e = 0 ∧ numE (b.drop a) m = 0 then a + (get (b.drop a)).2.1 else a
def cNumE (b : List UInt8) (a : Nat) (e m : Int) : Int := if e = 0 then numE (b.drop a) m else e

theorem fix_arg {l : List UInt8} {n : Int} (h : n < 1 ∨ 8 < n) : fixE l n = 23 ∧ fixV l n = 0 := by
  have : fixE l n = 23 := by unfold fixE; rw [if_pos h]
  exact ⟨this, by unfold fixV; rw [if_neg (by omega)]⟩
theorem fix_short {l : List UInt8} {n : Int} (h : ¬ (n < 1 ∨ 8 < n)) (h2 : (l.length : Int) < n) : fixE l n = 20 ∧ fixV l n = 0 := by
  have : fixE l n = 20 := by unfold fixE; rw [if_neg h, if_pos h2]
  exact ⟨this, by unfold fixV; rw [if_neg (by omega)]⟩
theorem fix_fine {l : List UInt8} {n : Int} (h : ¬ (n < 1 ∨ 8 < n)) (h2 : ¬ (l.length : Int) < n) : fixE l n = 0 ∧ fixV l n = word (l.take n.toNat) := by
  have : fixE l n = 0 := by unfold fixE; rw [if_neg h, if_neg h2]
  exact ⟨this, by unfold fixV; rw [if_pos this]⟩
def fixN (l : List UInt8) (n : Int) : Nat := if fixE l n = 0 then n.toNat else 0
def cFix (b : List UInt8) (a : Nat) (e n : Int) : Nat := if e = 0 then fixV (b.drop a) n else 0
def cFixA (b : List UInt8) (a : Nat) (e n : Int) : Nat := if e = 0 ∧ fixE (b.drop a) n = 0 then a + fixN (b.drop a) n else a
def cFixE (b : List UInt8) (a : Nat) (e n : Int) : Int := if e = 0 then fixE (b.drop a) n else e
theorem fixN_le {l : List UInt8} {n : Int} (h : fixE l n = 0) : fixN l n ≤ l.length := by
  unfold fixN; rw [if_pos h]; unfold fixE at h; split at h
  · omega
  · split at h <;> omega
theorem fixN_0 {l : List UInt8} {n : Int} (h : ¬ fixE l n = 0) : fixN l n = 0 := by unfold fixN; rw [if_neg h]
theorem fixN_n {l : List UInt8} {n : Int} (h : fixE l n = 0) : ((fixN l n : Nat) : Int) = n := by
  unfold fixN; rw [if_pos h]; unfold fixE at h; split at h <;> omega

theorem tk_arg {l : List UInt8} {n : Int} (h : n < 0) : tkE l n = 23 ∧ tkV l n = [] := by
  have : tkE l n = 23 := by unfold tkE; rw [if_pos h]
  exact ⟨this, by unfold tkV; rw [if_neg (by omega)]⟩
theorem tk_short {l : List UInt8} {n : Int} (h : ¬ n < 0) (h2 : (l.length : Int) < n) : tkE l n = 20 ∧ tkV l n = [] := by
  have : tkE l n = 20 := by unfold tkE; rw [if_neg h, if_pos h2]
  exact ⟨this, by unfold tkV; rw [if_neg (by omega)]⟩
theorem tk_fine {l : List UInt8} {n : Int} (h : ¬ n < 0) (h2 : ¬ (l.length : Int) < n) : tkE l n = 0 ∧ tkV l n = l.take n.toNat := by
  have : tkE l n = 0 := by unfold tkE; rw [if_neg h, if_neg h2]
  exact ⟨this, by unfold tkV; rw [if_pos this]⟩
def tkN (l : List UInt8) (n : Int) : Nat := if tkE l n = 0 then n.toNat else 0
def cTk (b : List UInt8) (a : Nat) (e n : Int) : List UInt8 := if e = 0 then tkV (b.drop a) n else []
def cTkA (b : List UInt8) (a : Nat) (e n : Int) : Nat := if e = 0 ∧ tkE (b.drop a) n = 0 then a + tkN (b.drop a) n else a
def cTkE (b : List UInt8) (a : Nat) (e n : Int) : Int := if e = 0 then tkE (b.drop a) n else e
theorem tkN_le {l : List UInt8} {n : Int} (h : tkE l n = 0) : tkN l n ≤ l.length := by
  unfold tkN; rw [if_pos h]; unfold tkE at h; split at h
  · omega
  · split at h <;> omega
theorem tkN_0 {l : List UInt8} {n : Int} (h : ¬ tkE l n = 0) : tkN l n = 0 := by unfold tkN; rw [if_neg h]
theorem tkN_n {l : List UInt8} {n : Int} (h : tkE l n = 0) : ((tkN l n : Nat) : Int) = n := by
  unfold tkN; rw [if_pos h]; unfold tkE at h; split at h <;> omega

/-- what a cursor tells at its end -/
def endE (b : List UInt8) (a : Nat) (e : Int) : Int := if ¬ e = 0 then e else if a < b.length then 22 else 0
def endA (b : List UInt8) (a : Nat) (e : Int) : Nat := if ¬ e = 0 then a else if a < b.length then a else 0

def restV (b : List UInt8) (a : Nat) (e : Int) : Int := if e = 0 then ((b.length - a : Nat) : Int) else 0

def txE (l : List UInt8) (m : Int) : Int := if ¬ (get l).2.2 = 0 then (get l).2.2 else if m < ((get l).1 : Int) then 23 else if (l.length : Int) - (get l).2.1 < ((get l).1 : Int) then 20 else 0
def txN (l : List UInt8) (m : Int) : Nat := if txE l m = 0 then (get l).2.1 + (get l).1 else 0
def txV (l : List UInt8) (m : Int) : List UInt8 := if txE l m = 0 then (l.drop (get l).2.1).take (get l).1 else []
def cTx (b : List UInt8) (a : Nat) (e m : Int) : List UInt8 := if e = 0 then txV (b.drop a) m else []
def cTxA (b : List UInt8) (a : Nat) (e m : Int) : Nat := if e = 0 ∧ txE (b.drop a) m = 0 then a + txN (b.drop a) m else a
def cTxE (b : List UInt8) (a : Nat) (e m : Int) : Int := if e = 0 then txE (b.drop a) m else e
theorem tx_bad {l : List UInt8} {m : Int} (h : ¬ (get l).2.2 = 0) : txE l m = (get l).2.2 ∧ txN l m = 0 ∧ txV l m = [] := by
  have e : txE l m = (get l).2.2 := by unfold txE; rw [if_pos h]
  exact ⟨e, by unfold txN; rw [if_neg (by omega)], by unfold txV; rw [if_neg (by omega)]⟩
theorem tx_much {l : List UInt8} {m : Int} (h : (get l).2.2 = 0) (h1 : m < ((get l).1 : Int)) : txE l m = 23 ∧ txN l m = 0 ∧ txV l m = [] := by
  have e : txE l m = 23 := by unfold txE; rw [if_neg (by omega), if_pos h1]
  exact ⟨e, by unfold txN; rw [if_neg (by omega)], by unfold txV; rw [if_neg (by omega)]⟩
theorem tx_short {l : List UInt8} {m : Int} (h : (get l).2.2 = 0) (h1 : ¬ m < ((get l).1 : Int)) (h2 : (l.length : Int) - (get l).2.1 < ((get l).1 : Int)) : txE l m = 20 ∧ txN l m = 0 ∧ txV l m = [] := by
  have e : txE l m = 20 := by unfold txE; rw [if_neg (by omega), if_neg h1, if_pos h2]
  exact ⟨e, by unfold txN; rw [if_neg (by omega)], by unfold txV; rw [if_neg (by omega)]⟩
theorem tx_fine {l : List UInt8} {m : Int} (h : (get l).2.2 = 0) (h1 : ¬ m < ((get l).1 : Int)) (h2 : ¬ (l.length : Int) - (get l).2.1 < ((get l).1 : Int)) : txE l m = 0 ∧ txN l m = (get l).2.1 + (get l).1 ∧ txV l m = (l.drop (get l).2.1).take (get l).1 := by
  have e : txE l m = 0 := by unfold txE; rw [if_neg (by omega), if_neg h1, if_neg h2]
  exact ⟨e, by unfold txN; rw [if_pos e], by unfold txV; rw [if_pos e]⟩
theorem txN_le {l : List UInt8} {m : Int} (h : txE l m = 0) : txN l m ≤ l.length := by
  by_cases c : (get l).2.2 = 0
  · have hg := (get_ok c).2.1
    by_cases c1 : m < ((get l).1 : Int)
    · rw [(tx_much c c1).1] at h; omega
    · by_cases c2 : (l.length : Int) - (get l).2.1 < ((get l).1 : Int)
      · rw [(tx_short c c1 c2).1] at h; omega
      · rw [(tx_fine c c1 c2).2.1]; omega
  · rw [(tx_bad (m := m) c).1] at h; exact absurd h c
