/- Damages: what a file is behind an entry; the law. -/
import Derived.Test.YtnkilhmkegmenaaF1
namespace Go.Proofs.Ytnkilhmkegmenaa.E
open Go
theorem bit_lt (m i k : Nat) : mb m i * 2 ^ (k % 8) < 256 := by
  have h2 : 2 ^ (k % 8) ≤ 128 := by
    calc 2 ^ (k % 8) ≤ 2 ^ 7 := Nat.pow_le_pow_right (by omega) (by omega)
      _ = 128 := by decide
  have h3 := mb_le m i
  have := Nat.mul_le_mul h3 h2
  omega
theorem bit_v {x : UInt8} {m i k : Nat} : xorI .u8 (x.toNat : Int) (((mb m i * 2 ^ (k % 8) : Nat)) : Int) = ((x ^^^ (mb m i * 2 ^ (k % 8)).toUInt8).toNat : Int) := by
  have h1 := bit_lt m i k
  have hx := x.toNat_lt
  have h4 : x.toNat ^^^ (mb m i * 2 ^ (k % 8)) < 2 ^ 8 := Nat.xor_lt_two_pow hx h1
  rw [xorI_nat (k := .u8) (by simpa [IntKind.bits] using hx) (by simpa [IntKind.bits] using h1) (by simp only [inK]; omega)]
  rw [UInt8.toNat_xor]
  congr 2
  simp; omega
theorem shr_v {m i : Nat} (hi : i < 32) : Value.int .u32 ((m : Int).fdiv (2 ^ min (i : Int).toNat IntKind.u32.bits)) = .int .u32 ((m / 2 ^ i : Nat) : Int) := v_int (shrI_nat (k := .u32) (by simp only [IntKind.bits]; omega))
theorem shl_v {m i k : Nat} {z : Int} (hz : z = ((k % 8 : Nat) : Int)) : Value.int .u8 (IntKind.u8.wrap (((mb m i : Nat) : Int) * 2 ^ min z.toNat IntKind.u8.bits)) = .int .u8 ((mb m i * 2 ^ (k % 8) : Nat) : Int) := by
  subst hz
  have h1 := bit_lt m i k
  exact v_int (shlI_nat (k := .u8) (by simp only [IntKind.bits]; omega) (by simp only [inK]; omega))
theorem and_bit {m i : Nat} (hm : m ≤ 4294967295) : andI .u32 ((m / 2 ^ i : Nat) : Int) 1 = ((mb m i : Nat) : Int) := by
  have h1 := Nat.div_le_self m (2 ^ i)
  have h2 : (0 : Int) ≤ ((m / 2 ^ i : Nat) : Int) := Int.natCast_nonneg _
  rw [and1 ⟨h2, by omega⟩]
  unfold mb
  rfl
theorem rem_bit {m i : Nat} : Value.int .u32 (Int.tmod ((m / 2 ^ i : Nat) : Int) 2) = .int .u32 ((mb m i : Nat) : Int) := (v_rem (Int.natCast_nonneg _)).trans rfl
theorem one_v {k : Nat} {z : Int} (hz : z = ((k % 8 : Nat) : Int)) : Value.int .u8 (IntKind.u8.wrap (1 * 2 ^ min z.toNat IntKind.u8.bits)) = .int .u8 ((1 * 2 ^ (k % 8) : Nat) : Int) := by
  have := shl_v (m := 1) (i := 0) hz
  simpa [mb] using this

/-- fault.Damage -/
theorem Damage_ok (x : Value) (b : List UInt8) (fl : Flt) (w : World) (hx : RdE byteV w x b) (hf : fl.ok) (hl : b.length ≤ 140737488351232) : Calls Try.prog 11 [x, .agg (fltC fl).toArray].toArray w (Rt fun r w' => ∃ rs, SlE byteV 5 r (damage b fl) rs ∧ Mem w [] w' [rs]) := by
  have hM0 : Mem w [] w [] := Mem.nil w []
  have hf0 := hf
  simp only [Flt.ok, inK] at hf
  refine calls_vc mixed Try.func11 rfl C11 (by simp [Try.ntmps11]) ?_
  refine seq fun K1 h1 => ?_
  refine m_bx (v := .agg ([.int .i64 fl.kind, .int .i64 fl.tk, .int .i64 fl.task, .int .i64 fl.att, .int .i64 fl.mom, .int .i64 fl.rd, .int .i64 fl.at_, .int .u32 fl.mask] : List Value).toArray) hM0 rfl rfl fun b2 w3 (hM3 : Mem w [] w3 [[⟨b2, 25, [.int .i64 fl.kind, .int .i64 fl.tk, .int .i64 fl.task, .int .i64 fl.att, .int .i64 fl.mom, .int .i64 fl.rd, .int .i64 fl.at_, .int .u32 fl.mask]⟩]]) => ?_
  refine stp (v := .slice none 0 0) (o_mv rfl) ?_
  refine h1 _ _ ?_
  clear h1
  refine seq fun K4 h4 => ?_
  refine m_bs hM3 rfl fun b5 w6 (hM6 : Mem w [] w6 [[⟨b2, 25, [.int .i64 fl.kind, .int .i64 fl.tk, .int .i64 fl.task, .int .i64 fl.att, .int .i64 fl.mom, .int .i64 fl.rd, .int .i64 fl.at_, .int .u32 fl.mask]⟩], [⟨b5, 5, []⟩]]) => ?_
  refine stp (v := x) (o_mv rfl) ?_
  have hs7 : SlE byteV 5 (.slice (some ⟨b5, 0, none⟩) 0 0) [] [⟨b5, 5, []⟩] := SlE.lit (l := []) rfl
  refine m_appE hM6 (i := 1) rfl hs7 rfl rfl (hx.upd hM6.upd) (by first | omega | (simp; omega)) (by omega) fun v8 w8 r8 (hs8 : SlE byteV 5 v8 (b) r8) (hM8 : Mem w [] w8 [[⟨b2, 25, [.int .i64 fl.kind, .int .i64 fl.tk, .int .i64 fl.task, .int .i64 fl.att, .int .i64 fl.mom, .int .i64 fl.rd, .int .i64 fl.at_, .int .u32 fl.mask]⟩], r8]) => ?_
  refine stp (v := v8) (o_mv rfl) ?_
  refine h4 _ _ ?_
  clear h4
  refine seq fun K9 h9 => ?_
  refine seq fun K10 h10 => ?_
  refine m_ldA (l := [.int .i64 fl.kind, .int .i64 fl.tk, .int .i64 fl.task, .int .i64 fl.att, .int .i64 fl.mom, .int .i64 fl.rd, .int .i64 fl.at_, .int .u32 fl.mask]) hM8 (i := 0) (j := 0) rfl rfl rfl rfl rfl ?_
  refine m_call (right_ok fl w8 (by first | assumption | omega)) rfl fun v11 w11 ⟨hr11, hu11⟩ => ?_
  have hM11 : Mem w [] w11 [[⟨b2, 25, [.int .i64 fl.kind, .int .i64 fl.tk, .int .i64 fl.task, .int .i64 fl.att, .int .i64 fl.mom, .int .i64 fl.rd, .int .i64 fl.at_, .int .u32 fl.mask]⟩], r8] := hM8.pure hu11
  subst hr11
  refine stp (v := .bool (decide (¬ (goodP fl)))) (o_not rfl v_not) ?_
  refine stp (v := .bool (decide (¬ (goodP fl)))) (o_mv rfl) ?_
  refine h10 _ _ ?_
  clear h10
  refine cndP rfl (fun c12 => ?_) (fun c12 => ?_)
  ·
    refine h9 _ _ ?_
    clear h9
    refine seq fun K13 h13 => ?_
    refine stp (v := v8) (o_mv rfl) ?_
    refine stp (v := v8) (o_mv rfl) ?_
    refine h13 _ _ ?_
    clear h13
    refine ⟨v8, rfl, ?_⟩
    exact ⟨_, by rw [damage_bad (by assumption)]; exact hs8, hM11.keep (by simp)⟩
  ·
    refine seq fun K14 h14 => ?_
    have hg : goodP fl := by first | assumption | exact Decidable.not_not.1 (by assumption)
    have hg1 := hg
    simp only [goodP, stopP, dmgP] at hg1
    refine stp (v := .pointer (some ⟨b2, 0, none⟩)) (o_fa rfl rfl) ?_
    refine m_ld (v := .int .i64 fl.kind) hM11 (i := 0) (j := 0) rfl rfl rfl rfl ?_
    refine stp (v := .bool (decide (fl.kind = 1))) (o_bin rfl rfl rfl) ?_
    refine stp (v := .bool (decide (fl.kind = 1))) (o_mv rfl) ?_
    refine splitP rfl (fun c15 => ?_) (fun c15 => ?_)
    ·
      refine stg rfl (v := v8) (o_mv rfl) ?_
      refine stg rfl (v := .int .i64 (b.length : Nat)) (o_lenR (hs8.rd hM11 (i := 1) rfl) rfl rfl) ?_
      refine stg rfl (v := .bool (decide ((0 : Int) < ((b.length : Nat) : Int)))) (o_bin rfl rfl rfl) ?_
      refine stp (v := .bool (decide ((0 : Int) < ((b.length : Nat) : Int)))) (o_pickT rfl rfl) ?_
      refine stp (v := .bool (decide ((0 : Int) < ((b.length : Nat) : Int)))) (o_mv rfl) ?_
      refine h14 _ _ ?_
      clear h14
      refine cndP rfl (fun c16 => ?_) (fun c16 => ?_)
      ·
        refine seq fun K17 h17 => ?_
        refine stp (v := v8) (o_mv rfl) ?_
        refine stp (v := .int .i64 (b.length : Nat)) (o_lenR (hs8.rd hM11 (i := 1) rfl) rfl rfl) ?_
        refine stp (v := .int .i64 (8 * (b.length : Nat))) (o_bin rfl rfl (v_mul64 (by constructor <;> omega))) ?_
        refine stp (v := .int .i64 (8 * (b.length : Nat))) (o_mv rfl) ?_
        refine h17 _ _ ?_
        clear h17
        refine seq fun K18 h18 => ?_
        refine stp (v := .pointer (some ⟨b2, 6, none⟩)) (o_fa rfl rfl) ?_
        refine m_ld (v := .int .i64 fl.at_) hM11 (i := 0) (j := 0) rfl rfl rfl rfl ?_
        refine stp (v := .int .i64 (8 * (b.length : Nat))) (o_mv rfl) ?_
        obtain ⟨p, hp⟩ : ∃ p : Nat, (fl.at_ % (8 * ((b.length : Nat) : Int))) = (p : Int) := ⟨(fl.at_ % (8 * ((b.length : Nat) : Int))).toNat, by have := Int.emod_nonneg fl.at_ (show (8 * ((b.length : Nat) : Int)) ≠ 0 by omega); omega⟩
        have hp2 : p < 8 * b.length := by have := Int.emod_lt_of_pos fl.at_ (show (0 : Int) < 8 * ((b.length : Nat) : Int) by omega); omega
        have hp3 : fl.at_.toNat % (8 * b.length) = p := by have h := Int.toNat_of_nonneg (show 0 ≤ fl.at_ by omega); rw [← h] at hp; exact_mod_cast hp
        obtain ⟨m, hm⟩ : ∃ m : Nat, fl.mask = (m : Int) := ⟨fl.mask.toNat, by omega⟩
        refine stp (v := .int .i64 (p : Nat)) (o_rem rfl rfl (by omega) ((v_rem (by omega)).trans (v_int hp))) ?_
        refine stp (v := .int .i64 (p : Nat)) (o_mv rfl) ?_
        refine h18 _ _ ?_
        clear h18
        refine seq fun K19 h19 => ?_
        refine stp (v := .int .i64 0) (o_mv rfl) ?_
        refine h19 _ _ ?_
        clear h19
        refine lp (n := fun _ _ => False) (ι := (Nat) × (Value) × (List Ent)) (fun ⟨i, y5_, r5_⟩ f w' => f 5 = y5_ ∧ f 8 = .int .i64 (i : Nat) ∧ f 3 = .pointer (some ⟨b2, 0, none⟩) ∧ f 6 = .int .i64 (8 * (b.length : Nat)) ∧ f 7 = .int .i64 (p : Nat) ∧ Mem w [] w' [[⟨b2, 25, [.int .i64 fl.kind, .int .i64 fl.tk, .int .i64 fl.task, .int .i64 fl.att, .int .i64 fl.mom, .int .i64 fl.rd, .int .i64 fl.at_, .int .u32 fl.mask]⟩], r5_] ∧ (i ≤ 32) ∧ ((flips b p m i).length = b.length) ∧ (SlE byteV 5 y5_ (flips b p m i) r5_)) (fun ⟨i, y5_, r5_⟩ => 32 - i) (0, v8, r8) ?_ ?_
        · exact ⟨rfl, by first | rfl | exact v_int (by omega) | exact v_int (by simp) | exact v_int (by simp; omega), rfl, by first | rfl | exact v_int (by omega) | exact v_int (by simp) | exact v_int (by simp; omega), by first | rfl | exact v_int (by omega) | exact v_int (by simp) | exact v_int (by simp; omega), hM11, by omega, rfl, by simpa [flips] using hs8⟩
        · rintro ⟨i, y5_, r5_⟩ f w20 ⟨e20_5, e20_8, e20_3, e20_6, e20_7, hM20, hi, hfl, hy5_⟩ K21 h21
          obtain ⟨frm, rfl⟩ : ∃ frm, f = (upd (upd (upd (upd (upd frm 5 (y5_)) 8 (.int .i64 (i : Nat))) 3 (.pointer (some ⟨b2, 0, none⟩))) 6 (.int .i64 (8 * (b.length : Nat)))) 7 (.int .i64 (p : Nat))) := ⟨f, by rw [upd_self e20_5, upd_self e20_8, upd_self e20_3, upd_self e20_6, upd_self e20_7]⟩
          clear e20_5 e20_8 e20_3 e20_6 e20_7
          refine seq fun K22 h22 => ?_
          refine seq fun K23 h23 => ?_
          refine stp (v := .int .i64 (i : Nat)) (o_mv rfl) ?_
          refine stp (v := .bool (decide (((i : Nat) : Int) < 32))) (o_bin rfl rfl rfl) ?_
          refine stp (v := .bool (decide (((i : Nat) : Int) < 32))) (o_mv rfl) ?_
          refine splitP rfl (fun c24 => ?_) (fun c24 => ?_)
          ·
            refine stg rfl (v := .int .i64 (p : Nat)) (o_mv rfl) ?_
            refine stg rfl (v := .int .i64 (i : Nat)) (o_mv rfl) ?_
            refine stg rfl (v := .int .i64 ((p : Nat) + (i : Nat))) (o_bin rfl rfl (v_add64 (by constructor <;> omega))) ?_
            refine stg rfl (v := .int .i64 (8 * (b.length : Nat))) (o_mv rfl) ?_
            refine stg rfl (v := .bool (decide (((p : Nat) + (i : Nat) : Int) < (8 * (b.length : Nat))))) (o_bin rfl rfl rfl) ?_
            refine stp (v := .bool (decide (((p : Nat) + (i : Nat) : Int) < (8 * (b.length : Nat))))) (o_pickT rfl rfl) ?_
            refine h23 _ _ ?_
            clear h23
            refine cndP rfl (fun c25 => ?_) (fun c25 => ?_)
            ·
              refine h22 _ _ ?_
              clear h22
              refine seq fun K26 h26 => ?_
              intro wd e1 e2 e3 e4
              have hd := Upd.same e1 e2 e3 e4 []
              have hM27 := hM20.pure hd
              clear e1 e2 e3 e4
              refine ⟨(some [b2]), ?_⟩
              show vd _ _ _ _ _ _ _
              refine dq (v := y5_) (o_mv rfl) ?_
              refine dq (v := .int .i64 (p : Nat)) (o_mv rfl) ?_
              refine dq (v := .int .i64 (i : Nat)) (o_mv rfl) ?_
              refine dq (v := .int .i64 ((p : Nat) + (i : Nat))) (o_bin rfl rfl (v_add64 (by constructor <;> omega))) ?_
              refine dq (v := .int .i64 (((p : Nat) + (i : Nat)) / 8)) (o_quo rfl rfl (by omega) (v_quo (by omega) (by omega) (by simp only [inK]; omega))) ?_
              refine dqp (m_idxE 0 (j := ((p + i) / 8)) (hy5_.rd hM27 (i := 1) rfl) rfl (v_int (by omega)) (by omega) fun b28 o28 hp28 => ?_)
              show vd _ _ _ _ _ _ _
              refine dq (v := .pointer (some ⟨b2, 7, none⟩)) (o_fa rfl rfl) ?_
              refine dq (v := .int .i64 (i : Nat)) (o_mv rfl) ?_
              refine dq (v := .int .i64 (p : Nat)) (o_mv rfl) ?_
              refine dq (v := .int .i64 (i : Nat)) (o_mv rfl) ?_
              refine dq (v := .int .i64 ((p : Nat) + (i : Nat))) (o_bin rfl rfl (v_add64 (by constructor <;> omega))) ?_
              refine dq (v := .int .i64 (((p : Nat) + (i : Nat)) % 8)) (o_rem rfl rfl (by omega) (v_rem (by omega))) ?_
              refine dqld rfl (by simp [isHeld]) (v := .int .u32 fl.mask) ((hM27.at (i := 0) (j := 0) rfl rfl).cell 7) ?_
              refine dq (v := .int .u32 (m / 2 ^ i : Nat)) (o_shr rfl rfl (by omega) (by rw [hm]; exact shr_v (by omega))) ?_
              refine dq (v := .int .u32 (mb m i : Nat)) (o_bin rfl rfl (v_int (and_bit (by omega)))) ?_
              refine dq (v := .int .u8 (mb m i : Nat)) (o_conv rfl (v_same (by simp only [inK]; have := mb_le m i; omega))) ?_
              refine dq (v := .int .u8 (mb m i * 2 ^ ((p + i) % 8) : Nat)) (o_shl rfl rfl (by omega) (shl_v (k := p + i) (by omega))) ?_
              refine dl (ld (v := byteV ((flips b p m i).getD ((p + i) / 8) 0)) rfl (hp28) ?_)
              refine ⟨(fun b hb => rfl), ?_⟩
              refine dq (v := .int .u8 (((flips b p m i).getD ((p + i) / 8) 0 ^^^ (mb m i * 2 ^ ((p + i) % 8)).toUInt8).toNat : Int)) (o_bin rfl rfl (v_int bit_v)) ?_
              refine dset (m_setU (E := byteV) (q := (flips b p m i).getD ((p + i) / 8) 0 ^^^ (mb m i * 2 ^ ((p + i) % 8)).toUInt8) (j := ((p + i) / 8)) hM27 (i := 1) rfl hy5_ rfl (v_int (by omega)) (by omega) (by simp) (rfl) fun w29 r29 u29 he29 hs29 (hM29 : Mem w [] w29 [[⟨b2, 25, [.int .i64 fl.kind, .int .i64 fl.tk, .int .i64 fl.task, .int .i64 fl.att, .int .i64 fl.mom, .int .i64 fl.rd, .int .i64 fl.at_, .int .u32 fl.mask]⟩], r29]) hup29 => ?_)
              have hh29 := held_upd (wr := wd) (bs := [b2]) hup29 (fun b hb => by
                simp only [List.mem_cons, List.not_mem_nil, or_false] at hb
                rw [hb]; exact ⟨(hM27.at (i := 0) (j := 0) rfl rfl).lt, hM27.apart (i := 0) (j := 0) (k := 1) rfl rfl rfl (by decide)⟩) (fun b hb => rfl)
              refine ⟨hh29, ?_⟩
              show vd _ _ _ _ _ _ _
              refine h26 _ _ ?_
              clear h26
              refine stp (v := .int .i64 (i : Nat)) (o_mv rfl) ?_
              refine stp (v := .int .i64 ((i : Nat) + 1)) (o_bin rfl rfl (v_add64 (by constructor <;> omega))) ?_
              refine stp (v := .int .i64 ((i : Nat) + 1)) (o_mv rfl) ?_
              refine h21 (i + 1, y5_, r29) _ _ ⟨rfl, by first | rfl | exact v_int (by omega) | exact v_int (by simp) | exact v_int (by simp; omega), rfl, by first | rfl | exact v_int (by omega) | exact v_int (by simp) | exact v_int (by simp; omega), by first | rfl | exact v_int (by omega) | exact v_int (by simp) | exact v_int (by simp; omega), hM29, by omega, flips_length _ _ _ _, by first | (rw [flips_in (by omega)]; exact hs29) | (rw [flips_skip (by omega)]; exact hs29)⟩ (by (try dsimp only); omega)
            ·
              refine h9 _ _ ?_
              clear h9
              refine seq fun K30 h30 => ?_
              refine stp (v := y5_) (o_mv rfl) ?_
              refine stp (v := y5_) (o_mv rfl) ?_
              refine h30 _ _ ?_
              clear h30
              refine ⟨y5_, rfl, ?_⟩
              have e : flips b p m 32 = flips b p m i := by rw [show 32 = i + (32 - i) by omega]; exact flips_end (by omega) _
              exact ⟨_, by rw [damage_flip hg (by omega) (by omega), hp3, hm, Int.toNat_natCast, e]; exact hy5_, hM20.keep (by simp)⟩
          ·
            refine gno rfl (by simp) ?_
            refine gno rfl (by simp) ?_
            refine gno rfl (by simp) ?_
            refine gno rfl (by simp) ?_
            refine gno rfl (by simp) ?_
            refine stp (v := .bool false) (o_pickF rfl rfl) ?_
            refine h23 _ _ ?_
            clear h23
            refine cndF rfl ?_
            refine h9 _ _ ?_
            clear h9
            refine seq fun K31 h31 => ?_
            refine stp (v := y5_) (o_mv rfl) ?_
            refine stp (v := y5_) (o_mv rfl) ?_
            refine h31 _ _ ?_
            clear h31
            refine ⟨y5_, rfl, ?_⟩
            have e : i = 32 := by omega
            subst e
            exact ⟨_, by rw [damage_flip hg (by omega) (by omega), hp3, hm, Int.toNat_natCast]; exact hy5_, hM20.keep (by simp)⟩
      ·
        refine seq fun K32 h32 => ?_
        refine stp (v := .pointer (some ⟨b2, 0, none⟩)) (o_fa rfl rfl) ?_
        refine m_ld (v := .int .i64 fl.kind) hM11 (i := 0) (j := 0) rfl rfl rfl rfl ?_
        refine stp (v := .bool (decide (fl.kind = 2))) (o_bin rfl rfl rfl) ?_
        refine stp (v := .bool (decide (fl.kind = 2))) (o_mv rfl) ?_
        refine splitP rfl (fun c33 => ?_) (fun c33 => ?_)
        ·
          refine stg rfl (v := .pointer (some ⟨b2, 6, none⟩)) (o_fa rfl rfl) ?_
          refine gyesl rfl ?_
          refine m_ld (v := .int .i64 fl.at_) hM11 (i := 0) (j := 0) rfl rfl rfl rfl ?_
          refine stg rfl (v := .bool (decide ((0 : Int) < fl.at_))) (o_bin rfl rfl rfl) ?_
          refine stp (v := .bool (decide ((0 : Int) < fl.at_))) (o_pickT rfl rfl) ?_
          refine stp (v := .bool (decide ((0 : Int) < fl.at_))) (o_mv rfl) ?_
          refine h32 _ _ ?_
          clear h32
          refine cndP rfl (fun c34 => ?_) (fun c34 => ?_)
          ·
            refine stp (v := v8) (o_mv rfl) ?_
            refine stp (v := .pointer (some ⟨b2, 6, none⟩)) (o_fa rfl rfl) ?_
            refine m_ld (v := .int .i64 fl.at_) hM11 (i := 0) (j := 0) rfl rfl rfl rfl ?_
            refine m_appz (E := byteV) 0 (m := fl.at_.toNat) rfl hM11 (i := 1) rfl hs8 rfl (v_int (by omega)) (by omega) (by omega) fun v35 w35 r35 (hs35 : SlE byteV 5 v35 (b ++ List.replicate fl.at_.toNat 0) r35) (hM35 : Mem w [] w35 [[⟨b2, 25, [.int .i64 fl.kind, .int .i64 fl.tk, .int .i64 fl.task, .int .i64 fl.att, .int .i64 fl.mom, .int .i64 fl.rd, .int .i64 fl.at_, .int .u32 fl.mask]⟩], r35]) => ?_
            refine stp (v := v35) (o_mv rfl) ?_
            refine h9 _ _ ?_
            clear h9
            refine seq fun K36 h36 => ?_
            refine stp (v := v35) (o_mv rfl) ?_
            refine stp (v := v35) (o_mv rfl) ?_
            refine h36 _ _ ?_
            clear h36
            refine ⟨v35, rfl, ?_⟩
            first | exact ⟨_, by rw [damage_more hg (by omega) (by omega)]; exact hs35, hM35.keep (by simp)⟩ | exact ⟨_, by rw [damage_less hg (by omega) (by omega)]; exact hs35, hM35.keep (by simp)⟩ | exact ⟨_, by rw [damage_stop (by omega) (by omega)]; exact hs35, hM35.keep (by simp)⟩ | (exfalso; omega) | exact ⟨_, by rw [damage_none (by omega) (by omega)]; exact hs35, hM35.keep (by simp)⟩
          ·
            refine seq fun K37 h37 => ?_
            refine stp (v := .pointer (some ⟨b2, 0, none⟩)) (o_fa rfl rfl) ?_
            refine m_ld (v := .int .i64 fl.kind) hM11 (i := 0) (j := 0) rfl rfl rfl rfl ?_
            refine stp (v := .bool (decide (fl.kind = 2))) (o_bin rfl rfl rfl) ?_
            refine stp (v := .bool (decide (fl.kind = 2))) (o_mv rfl) ?_
            refine h37 _ _ ?_
            clear h37
            refine cndP rfl (fun c38 => ?_) (fun c38 => ?_)
            ·
              refine stp (v := v8) (o_mv rfl) ?_
              refine stp (v := v8) (o_mv rfl) ?_
              refine stp (v := .int .i64 (b.length : Nat)) (o_lenR (hs8.rd hM11 (i := 1) rfl) rfl rfl) ?_
              refine stp (v := .pointer (some ⟨b2, 6, none⟩)) (o_fa rfl rfl) ?_
              refine m_ld (v := .int .i64 fl.at_) hM11 (i := 0) (j := 0) rfl rfl rfl rfl ?_
              refine stp (v := .int .i64 ((b.length : Nat) + fl.at_)) (o_bin rfl rfl (v_add64 (by constructor <;> omega))) ?_
              refine stp (v := .int .i64 (max ((b.length : Nat) + fl.at_ : Int) (0 : Int))) (o_mm rfl rfl rfl) ?_
              refine m_slcO ((b.length + fl.at_).toNat) (hs8) rfl (by omega) (⟨_, v_int (by omega)⟩) trivial fun u39 hu39 => ?_
              refine stp (v := u39) (o_mv rfl) ?_
              refine h9 _ _ ?_
              clear h9
              refine seq fun K40 h40 => ?_
              refine stp (v := u39) (o_mv rfl) ?_
              refine stp (v := u39) (o_mv rfl) ?_
              refine h40 _ _ ?_
              clear h40
              refine ⟨u39, rfl, ?_⟩
              first | exact ⟨_, by rw [damage_more hg (by omega) (by omega)]; exact hu39, hM11.keep (by simp)⟩ | exact ⟨_, by rw [damage_less hg (by omega) (by omega)]; exact hu39, hM11.keep (by simp)⟩ | exact ⟨_, by rw [damage_stop (by omega) (by omega)]; exact hu39, hM11.keep (by simp)⟩ | (exfalso; omega) | exact ⟨_, by rw [damage_none (by omega) (by omega)]; exact hu39, hM11.keep (by simp)⟩
            ·
              refine h9 _ _ ?_
              clear h9
              refine seq fun K41 h41 => ?_
              refine stp (v := v8) (o_mv rfl) ?_
              refine stp (v := v8) (o_mv rfl) ?_
              refine h41 _ _ ?_
              clear h41
              refine ⟨v8, rfl, ?_⟩
              first | exact ⟨_, by rw [damage_more hg (by omega) (by omega)]; exact hs8, hM11.keep (by simp)⟩ | exact ⟨_, by rw [damage_less hg (by omega) (by omega)]; exact hs8, hM11.keep (by simp)⟩ | exact ⟨_, by rw [damage_stop (by omega) (by omega)]; exact hs8, hM11.keep (by simp)⟩ | (exfalso; omega) | exact ⟨_, by rw [damage_none (by omega) (by omega)]; exact hs8, hM11.keep (by simp)⟩
        ·
          refine gno rfl (by simp) ?_
          refine gnol rfl (by simp) ?_
          refine gno rfl (by simp) ?_
          refine stp (v := .bool false) (o_pickF rfl rfl) ?_
          refine stp (v := .bool false) (o_mv rfl) ?_
          refine h32 _ _ ?_
          clear h32
          refine cndF rfl ?_
          refine seq fun K42 h42 => ?_
          refine stp (v := .pointer (some ⟨b2, 0, none⟩)) (o_fa rfl rfl) ?_
          refine m_ld (v := .int .i64 fl.kind) hM11 (i := 0) (j := 0) rfl rfl rfl rfl ?_
          refine stp (v := .bool (decide (fl.kind = 2))) (o_bin rfl rfl rfl) ?_
          refine stp (v := .bool (decide (fl.kind = 2))) (o_mv rfl) ?_
          refine h42 _ _ ?_
          clear h42
          refine cndP rfl (fun c43 => ?_) (fun c43 => ?_)
          ·
            refine stp (v := v8) (o_mv rfl) ?_
            refine stp (v := v8) (o_mv rfl) ?_
            refine stp (v := .int .i64 (b.length : Nat)) (o_lenR (hs8.rd hM11 (i := 1) rfl) rfl rfl) ?_
            refine stp (v := .pointer (some ⟨b2, 6, none⟩)) (o_fa rfl rfl) ?_
            refine m_ld (v := .int .i64 fl.at_) hM11 (i := 0) (j := 0) rfl rfl rfl rfl ?_
            refine stp (v := .int .i64 ((b.length : Nat) + fl.at_)) (o_bin rfl rfl (v_add64 (by constructor <;> omega))) ?_
            refine stp (v := .int .i64 (max ((b.length : Nat) + fl.at_ : Int) (0 : Int))) (o_mm rfl rfl rfl) ?_
            refine m_slcO ((b.length + fl.at_).toNat) (hs8) rfl (by omega) (⟨_, v_int (by omega)⟩) trivial fun u44 hu44 => ?_
            refine stp (v := u44) (o_mv rfl) ?_
            refine h9 _ _ ?_
            clear h9
            refine seq fun K45 h45 => ?_
            refine stp (v := u44) (o_mv rfl) ?_
            refine stp (v := u44) (o_mv rfl) ?_
            refine h45 _ _ ?_
            clear h45
            refine ⟨u44, rfl, ?_⟩
            first | exact ⟨_, by rw [damage_more hg (by omega) (by omega)]; exact hu44, hM11.keep (by simp)⟩ | exact ⟨_, by rw [damage_less hg (by omega) (by omega)]; exact hu44, hM11.keep (by simp)⟩ | exact ⟨_, by rw [damage_stop (by omega) (by omega)]; exact hu44, hM11.keep (by simp)⟩ | (exfalso; omega) | exact ⟨_, by rw [damage_none (by omega) (by omega)]; exact hu44, hM11.keep (by simp)⟩
          ·
            refine h9 _ _ ?_
            clear h9
            refine seq fun K46 h46 => ?_
            refine stp (v := v8) (o_mv rfl) ?_
            refine stp (v := v8) (o_mv rfl) ?_
            refine h46 _ _ ?_
            clear h46
            refine ⟨v8, rfl, ?_⟩
            first | exact ⟨_, by rw [damage_more hg (by omega) (by omega)]; exact hs8, hM11.keep (by simp)⟩ | exact ⟨_, by rw [damage_less hg (by omega) (by omega)]; exact hs8, hM11.keep (by simp)⟩ | exact ⟨_, by rw [damage_stop (by omega) (by omega)]; exact hs8, hM11.keep (by simp)⟩ | (exfalso; omega) | exact ⟨_, by rw [damage_none (by omega) (by omega)]; exact hs8, hM11.keep (by simp)⟩
    ·
      refine gno rfl (by simp) ?_
      refine gno rfl (by simp) ?_
      refine gno rfl (by simp) ?_
      refine stp (v := .bool false) (o_pickF rfl rfl) ?_
      refine stp (v := .bool false) (o_mv rfl) ?_
      refine h14 _ _ ?_
      clear h14
      refine cndF rfl ?_
      refine seq fun K47 h47 => ?_
      refine stp (v := .pointer (some ⟨b2, 0, none⟩)) (o_fa rfl rfl) ?_
      refine m_ld (v := .int .i64 fl.kind) hM11 (i := 0) (j := 0) rfl rfl rfl rfl ?_
      refine stp (v := .bool (decide (fl.kind = 2))) (o_bin rfl rfl rfl) ?_
      refine stp (v := .bool (decide (fl.kind = 2))) (o_mv rfl) ?_
      refine splitP rfl (fun c48 => ?_) (fun c48 => ?_)
      ·
        refine stg rfl (v := .pointer (some ⟨b2, 6, none⟩)) (o_fa rfl rfl) ?_
        refine gyesl rfl ?_
        refine m_ld (v := .int .i64 fl.at_) hM11 (i := 0) (j := 0) rfl rfl rfl rfl ?_
        refine stg rfl (v := .bool (decide ((0 : Int) < fl.at_))) (o_bin rfl rfl rfl) ?_
        refine stp (v := .bool (decide ((0 : Int) < fl.at_))) (o_pickT rfl rfl) ?_
        refine stp (v := .bool (decide ((0 : Int) < fl.at_))) (o_mv rfl) ?_
        refine h47 _ _ ?_
        clear h47
        refine cndP rfl (fun c49 => ?_) (fun c49 => ?_)
        ·
          refine stp (v := v8) (o_mv rfl) ?_
          refine stp (v := .pointer (some ⟨b2, 6, none⟩)) (o_fa rfl rfl) ?_
          refine m_ld (v := .int .i64 fl.at_) hM11 (i := 0) (j := 0) rfl rfl rfl rfl ?_
          refine m_appz (E := byteV) 0 (m := fl.at_.toNat) rfl hM11 (i := 1) rfl hs8 rfl (v_int (by omega)) (by omega) (by omega) fun v50 w50 r50 (hs50 : SlE byteV 5 v50 (b ++ List.replicate fl.at_.toNat 0) r50) (hM50 : Mem w [] w50 [[⟨b2, 25, [.int .i64 fl.kind, .int .i64 fl.tk, .int .i64 fl.task, .int .i64 fl.att, .int .i64 fl.mom, .int .i64 fl.rd, .int .i64 fl.at_, .int .u32 fl.mask]⟩], r50]) => ?_
          refine stp (v := v50) (o_mv rfl) ?_
          refine h9 _ _ ?_
          clear h9
          refine seq fun K51 h51 => ?_
          refine stp (v := v50) (o_mv rfl) ?_
          refine stp (v := v50) (o_mv rfl) ?_
          refine h51 _ _ ?_
          clear h51
          refine ⟨v50, rfl, ?_⟩
          first | exact ⟨_, by rw [damage_more hg (by omega) (by omega)]; exact hs50, hM50.keep (by simp)⟩ | exact ⟨_, by rw [damage_less hg (by omega) (by omega)]; exact hs50, hM50.keep (by simp)⟩ | exact ⟨_, by rw [damage_stop (by omega) (by omega)]; exact hs50, hM50.keep (by simp)⟩ | (exfalso; omega) | exact ⟨_, by rw [damage_none (by omega) (by omega)]; exact hs50, hM50.keep (by simp)⟩
        ·
          refine seq fun K52 h52 => ?_
          refine stp (v := .pointer (some ⟨b2, 0, none⟩)) (o_fa rfl rfl) ?_
          refine m_ld (v := .int .i64 fl.kind) hM11 (i := 0) (j := 0) rfl rfl rfl rfl ?_
          refine stp (v := .bool (decide (fl.kind = 2))) (o_bin rfl rfl rfl) ?_
          refine stp (v := .bool (decide (fl.kind = 2))) (o_mv rfl) ?_
          refine h52 _ _ ?_
          clear h52
          refine cndP rfl (fun c53 => ?_) (fun c53 => ?_)
          ·
            refine stp (v := v8) (o_mv rfl) ?_
            refine stp (v := v8) (o_mv rfl) ?_
            refine stp (v := .int .i64 (b.length : Nat)) (o_lenR (hs8.rd hM11 (i := 1) rfl) rfl rfl) ?_
            refine stp (v := .pointer (some ⟨b2, 6, none⟩)) (o_fa rfl rfl) ?_
            refine m_ld (v := .int .i64 fl.at_) hM11 (i := 0) (j := 0) rfl rfl rfl rfl ?_
            refine stp (v := .int .i64 ((b.length : Nat) + fl.at_)) (o_bin rfl rfl (v_add64 (by constructor <;> omega))) ?_
            refine stp (v := .int .i64 (max ((b.length : Nat) + fl.at_ : Int) (0 : Int))) (o_mm rfl rfl rfl) ?_
            refine m_slcO ((b.length + fl.at_).toNat) (hs8) rfl (by omega) (⟨_, v_int (by omega)⟩) trivial fun u54 hu54 => ?_
            refine stp (v := u54) (o_mv rfl) ?_
            refine h9 _ _ ?_
            clear h9
            refine seq fun K55 h55 => ?_
            refine stp (v := u54) (o_mv rfl) ?_
            refine stp (v := u54) (o_mv rfl) ?_
            refine h55 _ _ ?_
            clear h55
            refine ⟨u54, rfl, ?_⟩
            first | exact ⟨_, by rw [damage_more hg (by omega) (by omega)]; exact hu54, hM11.keep (by simp)⟩ | exact ⟨_, by rw [damage_less hg (by omega) (by omega)]; exact hu54, hM11.keep (by simp)⟩ | exact ⟨_, by rw [damage_stop (by omega) (by omega)]; exact hu54, hM11.keep (by simp)⟩ | (exfalso; omega) | exact ⟨_, by rw [damage_none (by omega) (by omega)]; exact hu54, hM11.keep (by simp)⟩
          ·
            refine h9 _ _ ?_
            clear h9
            refine seq fun K56 h56 => ?_
            refine stp (v := v8) (o_mv rfl) ?_
            refine stp (v := v8) (o_mv rfl) ?_
            refine h56 _ _ ?_
            clear h56
            refine ⟨v8, rfl, ?_⟩
            first | exact ⟨_, by rw [damage_more hg (by omega) (by omega)]; exact hs8, hM11.keep (by simp)⟩ | exact ⟨_, by rw [damage_less hg (by omega) (by omega)]; exact hs8, hM11.keep (by simp)⟩ | exact ⟨_, by rw [damage_stop (by omega) (by omega)]; exact hs8, hM11.keep (by simp)⟩ | (exfalso; omega) | exact ⟨_, by rw [damage_none (by omega) (by omega)]; exact hs8, hM11.keep (by simp)⟩
      ·
        refine gno rfl (by simp) ?_
        refine gnol rfl (by simp) ?_
        refine gno rfl (by simp) ?_
        refine stp (v := .bool false) (o_pickF rfl rfl) ?_
        refine stp (v := .bool false) (o_mv rfl) ?_
        refine h47 _ _ ?_
        clear h47
        refine cndF rfl ?_
        refine seq fun K57 h57 => ?_
        refine stp (v := .pointer (some ⟨b2, 0, none⟩)) (o_fa rfl rfl) ?_
        refine m_ld (v := .int .i64 fl.kind) hM11 (i := 0) (j := 0) rfl rfl rfl rfl ?_
        refine stp (v := .bool (decide (fl.kind = 2))) (o_bin rfl rfl rfl) ?_
        refine stp (v := .bool (decide (fl.kind = 2))) (o_mv rfl) ?_
        refine h57 _ _ ?_
        clear h57
        refine cndP rfl (fun c58 => ?_) (fun c58 => ?_)
        ·
          refine stp (v := v8) (o_mv rfl) ?_
          refine stp (v := v8) (o_mv rfl) ?_
          refine stp (v := .int .i64 (b.length : Nat)) (o_lenR (hs8.rd hM11 (i := 1) rfl) rfl rfl) ?_
          refine stp (v := .pointer (some ⟨b2, 6, none⟩)) (o_fa rfl rfl) ?_
          refine m_ld (v := .int .i64 fl.at_) hM11 (i := 0) (j := 0) rfl rfl rfl rfl ?_
          refine stp (v := .int .i64 ((b.length : Nat) + fl.at_)) (o_bin rfl rfl (v_add64 (by constructor <;> omega))) ?_
          refine stp (v := .int .i64 (max ((b.length : Nat) + fl.at_ : Int) (0 : Int))) (o_mm rfl rfl rfl) ?_
          refine m_slcO ((b.length + fl.at_).toNat) (hs8) rfl (by omega) (⟨_, v_int (by omega)⟩) trivial fun u59 hu59 => ?_
          refine stp (v := u59) (o_mv rfl) ?_
          refine h9 _ _ ?_
          clear h9
          refine seq fun K60 h60 => ?_
          refine stp (v := u59) (o_mv rfl) ?_
          refine stp (v := u59) (o_mv rfl) ?_
          refine h60 _ _ ?_
          clear h60
          refine ⟨u59, rfl, ?_⟩
          first | exact ⟨_, by rw [damage_more hg (by omega) (by omega)]; exact hu59, hM11.keep (by simp)⟩ | exact ⟨_, by rw [damage_less hg (by omega) (by omega)]; exact hu59, hM11.keep (by simp)⟩ | exact ⟨_, by rw [damage_stop (by omega) (by omega)]; exact hu59, hM11.keep (by simp)⟩ | (exfalso; omega) | exact ⟨_, by rw [damage_none (by omega) (by omega)]; exact hu59, hM11.keep (by simp)⟩
        ·
          refine h9 _ _ ?_
          clear h9
          refine seq fun K61 h61 => ?_
          refine stp (v := v8) (o_mv rfl) ?_
          refine stp (v := v8) (o_mv rfl) ?_
          refine h61 _ _ ?_
          clear h61
          refine ⟨v8, rfl, ?_⟩
          first | exact ⟨_, by rw [damage_more hg (by omega) (by omega)]; exact hs8, hM11.keep (by simp)⟩ | exact ⟨_, by rw [damage_less hg (by omega) (by omega)]; exact hs8, hM11.keep (by simp)⟩ | exact ⟨_, by rw [damage_stop (by omega) (by omega)]; exact hs8, hM11.keep (by simp)⟩ | (exfalso; omega) | exact ⟨_, by rw [damage_none (by omega) (by omega)]; exact hs8, hM11.keep (by simp)⟩

/-- winnowref16.Damage -/
theorem refDamage_ok (x : Value) (b : List UInt8) (fl : Flt) (w : World) (hx : RdE byteV w x b) (hf : fl.ok) (hl : b.length ≤ 140737488351232) : Calls Try.prog 13 [x, .agg (fltC fl).toArray].toArray w (Rt fun r w' => ∃ rs, SlE byteV 5 r (damage b fl) rs ∧ Mem w [] w' [rs]) := by
  have hM0 : Mem w [] w [] := Mem.nil w []
  have hf0 := hf
  simp only [Flt.ok, inK] at hf
  refine calls_vc mixed Try.func13 rfl C13 (by simp [Try.ntmps13]) ?_
  refine seq fun K1 h1 => ?_
  refine m_bx (v := .agg ([.int .i64 fl.kind, .int .i64 fl.tk, .int .i64 fl.task, .int .i64 fl.att, .int .i64 fl.mom, .int .i64 fl.rd, .int .i64 fl.at_, .int .u32 fl.mask] : List Value).toArray) hM0 rfl rfl fun b2 w3 (hM3 : Mem w [] w3 [[⟨b2, 25, [.int .i64 fl.kind, .int .i64 fl.tk, .int .i64 fl.task, .int .i64 fl.att, .int .i64 fl.mom, .int .i64 fl.rd, .int .i64 fl.at_, .int .u32 fl.mask]⟩]]) => ?_
  refine stp (v := .slice none 0 0) (o_mv rfl) ?_
  refine h1 _ _ ?_
  clear h1
  refine seq fun K4 h4 => ?_
  refine m_bs hM3 rfl fun b5 w6 (hM6 : Mem w [] w6 [[⟨b2, 25, [.int .i64 fl.kind, .int .i64 fl.tk, .int .i64 fl.task, .int .i64 fl.att, .int .i64 fl.mom, .int .i64 fl.rd, .int .i64 fl.at_, .int .u32 fl.mask]⟩], [⟨b5, 5, []⟩]]) => ?_
  refine stp (v := x) (o_mv rfl) ?_
  have hs7 : SlE byteV 5 (.slice (some ⟨b5, 0, none⟩) 0 0) [] [⟨b5, 5, []⟩] := SlE.lit (l := []) rfl
  refine m_appE hM6 (i := 1) rfl hs7 rfl rfl (hx.upd hM6.upd) (by first | omega | (simp; omega)) (by omega) fun v8 w8 r8 (hs8 : SlE byteV 5 v8 (b) r8) (hM8 : Mem w [] w8 [[⟨b2, 25, [.int .i64 fl.kind, .int .i64 fl.tk, .int .i64 fl.task, .int .i64 fl.att, .int .i64 fl.mom, .int .i64 fl.rd, .int .i64 fl.at_, .int .u32 fl.mask]⟩], r8]) => ?_
  refine stp (v := v8) (o_mv rfl) ?_
  refine h4 _ _ ?_
  clear h4
  refine seq fun K9 h9 => ?_
  refine seq fun K10 h10 => ?_
  refine m_ldA (l := [.int .i64 fl.kind, .int .i64 fl.tk, .int .i64 fl.task, .int .i64 fl.att, .int .i64 fl.mom, .int .i64 fl.rd, .int .i64 fl.at_, .int .u32 fl.mask]) hM8 (i := 0) (j := 0) rfl rfl rfl rfl rfl ?_
  refine m_call (refgood_ok fl w8 (by first | assumption | omega)) rfl fun v11 w11 ⟨hr11, hu11⟩ => ?_
  have hM11 : Mem w [] w11 [[⟨b2, 25, [.int .i64 fl.kind, .int .i64 fl.tk, .int .i64 fl.task, .int .i64 fl.att, .int .i64 fl.mom, .int .i64 fl.rd, .int .i64 fl.at_, .int .u32 fl.mask]⟩], r8] := hM8.pure hu11
  subst hr11
  refine stp (v := .bool (decide (¬ (goodP fl)))) (o_not rfl v_not) ?_
  refine stp (v := .bool (decide (¬ (goodP fl)))) (o_mv rfl) ?_
  refine splitP rfl (fun c12 => ?_) (fun c12 => ?_)
  ·
    refine gno rfl (by simp) ?_
    refine gnol rfl (by simp) ?_
    refine gno rfl (by simp) ?_
    refine stp (v := .bool true) (o_pickT rfl rfl) ?_
    refine h10 _ _ ?_
    clear h10
    refine cndT rfl ?_
    refine seq fun K13 h13 => ?_
    refine stp (v := v8) (o_mv rfl) ?_
    refine stp (v := v8) (o_mv rfl) ?_
    refine h13 _ _ ?_
    clear h13
    refine ⟨v8, rfl, ?_⟩
    first | exact ⟨_, by rw [damage_bad (by assumption)]; exact hs8, hM11.keep (by simp)⟩ | exact ⟨_, by rw [damage_stop (by omega) (by omega)]; exact hs8, hM11.keep (by simp)⟩
  ·
    refine stg rfl (v := .pointer (some ⟨b2, 0, none⟩)) (o_fa rfl rfl) ?_
    refine gyesl rfl ?_
    refine m_ld (v := .int .i64 fl.kind) hM11 (i := 0) (j := 0) rfl rfl rfl rfl ?_
    refine stg rfl (v := .bool (decide (fl.kind = 0))) (o_bin rfl rfl rfl) ?_
    refine stp (v := .bool (decide (fl.kind = 0))) (o_pickF rfl rfl) ?_
    refine h10 _ _ ?_
    clear h10
    refine cndP rfl (fun c14 => ?_) (fun c14 => ?_)
    ·
      refine seq fun K15 h15 => ?_
      refine stp (v := v8) (o_mv rfl) ?_
      refine stp (v := v8) (o_mv rfl) ?_
      refine h15 _ _ ?_
      clear h15
      refine ⟨v8, rfl, ?_⟩
      first | exact ⟨_, by rw [damage_bad (by assumption)]; exact hs8, hM11.keep (by simp)⟩ | exact ⟨_, by rw [damage_stop (by omega) (by omega)]; exact hs8, hM11.keep (by simp)⟩
    ·
      refine h9 _ _ ?_
      clear h9
      refine seq fun K16 h16 => ?_
      refine seq fun K17 h17 => ?_
      have hg : goodP fl := by first | assumption | exact Decidable.not_not.1 (by assumption)
      have hg1 := hg
      simp only [goodP, stopP, dmgP] at hg1
      refine stp (v := .pointer (some ⟨b2, 0, none⟩)) (o_fa rfl rfl) ?_
      refine m_ld (v := .int .i64 fl.kind) hM11 (i := 0) (j := 0) rfl rfl rfl rfl ?_
      refine stp (v := .bool (decide (fl.kind = 2))) (o_bin rfl rfl rfl) ?_
      refine h17 _ _ ?_
      clear h17
      refine cndP rfl (fun c18 => ?_) (fun c18 => ?_)
      ·
        refine seq fun K19 h19 => ?_
        refine seq fun K20 h20 => ?_
        refine stp (v := .pointer (some ⟨b2, 6, none⟩)) (o_fa rfl rfl) ?_
        refine m_ld (v := .int .i64 fl.at_) hM11 (i := 0) (j := 0) rfl rfl rfl rfl ?_
        refine stp (v := .bool (decide ((0 : Int) ≤ fl.at_))) (o_bin rfl rfl rfl) ?_
        refine h20 _ _ ?_
        clear h20
        refine cndP rfl (fun c21 => ?_) (fun c21 => ?_)
        ·
          refine seq fun K22 h22 => ?_
          refine stp (v := v8) (o_mv rfl) ?_
          refine stp (v := .pointer (some ⟨b2, 6, none⟩)) (o_fa rfl rfl) ?_
          refine m_ld (v := .int .i64 fl.at_) hM11 (i := 0) (j := 0) rfl rfl rfl rfl ?_
          refine m_appz (E := byteV) 0 (m := fl.at_.toNat) rfl hM11 (i := 1) rfl hs8 rfl (v_int (by omega)) (by omega) (by omega) fun v23 w23 r23 (hs23 : SlE byteV 5 v23 (b ++ List.replicate fl.at_.toNat 0) r23) (hM23 : Mem w [] w23 [[⟨b2, 25, [.int .i64 fl.kind, .int .i64 fl.tk, .int .i64 fl.task, .int .i64 fl.att, .int .i64 fl.mom, .int .i64 fl.rd, .int .i64 fl.at_, .int .u32 fl.mask]⟩], r23]) => ?_
          refine stp (v := v23) (o_mv rfl) ?_
          refine h22 _ _ ?_
          clear h22
          refine ⟨v23, rfl, ?_⟩
          exact ⟨_, by rw [damage_more hg (by omega) (by omega)]; exact hs23, hM23.keep (by simp)⟩
        ·
          refine h19 _ _ ?_
          clear h19
          refine seq fun K24 h24 => ?_
          refine seq fun K25 h25 => ?_
          refine stp (v := .pointer (some ⟨b2, 6, none⟩)) (o_fa rfl rfl) ?_
          refine m_ld (v := .int .i64 fl.at_) hM11 (i := 0) (j := 0) rfl rfl rfl rfl ?_
          refine stp (v := .int .i64 (0 - fl.at_)) (o_neg rfl (v_same (by simp only [inK]; omega))) ?_
          refine stp (v := v8) (o_mv rfl) ?_
          refine stp (v := .int .i64 (b.length : Nat)) (o_lenR (hs8.rd hM11 (i := 1) rfl) rfl rfl) ?_
          refine stp (v := .bool (decide ((b.length : Nat) ≤ (0 - fl.at_)))) (o_bin rfl rfl rfl) ?_
          refine h25 _ _ ?_
          clear h25
          refine cndP rfl (fun c26 => ?_) (fun c26 => ?_)
          ·
            refine seq fun K27 h27 => ?_
            refine stp (v := .slice none 0 0) (o_mv rfl) ?_
            refine h27 _ _ ?_
            clear h27
            refine ⟨(.slice none 0 0), rfl, ?_⟩
            exact ⟨_, by rw [damage_less hg (by omega) (by omega), show (b.length + fl.at_).toNat = 0 by omega]; exact Sl.nil 1 5, hM11.addNil.keep (by simp)⟩
          ·
            refine h24 _ _ ?_
            clear h24
            refine seq fun K28 h28 => ?_
            refine stp (v := v8) (o_mv rfl) ?_
            refine stp (v := v8) (o_mv rfl) ?_
            refine stp (v := .int .i64 (b.length : Nat)) (o_lenR (hs8.rd hM11 (i := 1) rfl) rfl rfl) ?_
            refine stp (v := .pointer (some ⟨b2, 6, none⟩)) (o_fa rfl rfl) ?_
            refine m_ld (v := .int .i64 fl.at_) hM11 (i := 0) (j := 0) rfl rfl rfl rfl ?_
            refine stp (v := .int .i64 ((b.length : Nat) + fl.at_)) (o_bin rfl rfl (v_add64 (by constructor <;> omega))) ?_
            refine m_slcO ((b.length + fl.at_).toNat) (hs8) rfl (by omega) (⟨_, v_int (by omega)⟩) trivial fun u29 hu29 => ?_
            refine stp (v := u29) (o_mv rfl) ?_
            refine h28 _ _ ?_
            clear h28
            refine ⟨u29, rfl, ?_⟩
            exact ⟨_, by rw [damage_less hg (by omega) (by omega)]; exact hu29, hM11.keep (by simp)⟩
      ·
        refine h16 _ _ ?_
        clear h16
        refine seq fun K30 h30 => ?_
        refine seq fun K31 h31 => ?_
        refine stp (v := v8) (o_mv rfl) ?_
        refine stp (v := .int .i64 (b.length : Nat)) (o_lenR (hs8.rd hM11 (i := 1) rfl) rfl rfl) ?_
        refine stp (v := .bool (decide (((b.length : Nat) : Int) = 0))) (o_bin rfl rfl rfl) ?_
        refine h31 _ _ ?_
        clear h31
        refine cndP rfl (fun c32 => ?_) (fun c32 => ?_)
        ·
          refine seq fun K33 h33 => ?_
          refine stp (v := v8) (o_mv rfl) ?_
          refine stp (v := v8) (o_mv rfl) ?_
          refine h33 _ _ ?_
          clear h33
          refine ⟨v8, rfl, ?_⟩
          exact ⟨_, by rw [damage_none (by omega) (by omega)]; exact hs8, hM11.keep (by simp)⟩
        ·
          refine h30 _ _ ?_
          clear h30
          refine seq fun K34 h34 => ?_
          obtain ⟨p, hp⟩ : ∃ p : Nat, (fl.at_ % (8 * ((b.length : Nat) : Int))) = (p : Int) := ⟨(fl.at_ % (8 * ((b.length : Nat) : Int))).toNat, by have := Int.emod_nonneg fl.at_ (show (8 * ((b.length : Nat) : Int)) ≠ 0 by omega); omega⟩
          have hp2 : p < 8 * b.length := by have := Int.emod_lt_of_pos fl.at_ (show (0 : Int) < 8 * ((b.length : Nat) : Int) by omega); omega
          have hp3 : fl.at_.toNat % (8 * b.length) = p := by have h := Int.toNat_of_nonneg (show 0 ≤ fl.at_ by omega); rw [← h] at hp; exact_mod_cast hp
          obtain ⟨m, hm⟩ : ∃ m : Nat, fl.mask = (m : Int) := ⟨fl.mask.toNat, by omega⟩
          refine stp (v := .pointer (some ⟨b2, 6, none⟩)) (o_fa rfl rfl) ?_
          refine m_ld (v := .int .i64 fl.at_) hM11 (i := 0) (j := 0) rfl rfl rfl rfl ?_
          refine stp (v := v8) (o_mv rfl) ?_
          refine stp (v := .int .i64 (b.length : Nat)) (o_lenR (hs8.rd hM11 (i := 1) rfl) rfl rfl) ?_
          refine stp (v := .int .i64 (8 * (b.length : Nat))) (o_bin rfl rfl (v_mul64 (by constructor <;> omega))) ?_
          refine stp (v := .int .i64 (p : Nat)) (o_rem rfl rfl (by omega) ((v_rem (by omega)).trans (v_int hp))) ?_
          refine stp (v := .int .i64 (p : Nat)) (o_mv rfl) ?_
          refine h34 _ _ ?_
          clear h34
          refine seq fun K35 h35 => ?_
          refine seq fun K36 h36 => ?_
          refine stp (v := .int .i64 0) (o_mv rfl) ?_
          refine h36 _ _ ?_
          clear h36
          refine lp (n := fun _ _ => False) (ι := (Nat) × (Value) × (List Ent)) (fun ⟨i, y5_, r5_⟩ f w' => f 5 = y5_ ∧ f 7 = .int .i64 (i : Nat) ∧ f 3 = .pointer (some ⟨b2, 0, none⟩) ∧ f 6 = .int .i64 (p : Nat) ∧ Mem w [] w' [[⟨b2, 25, [.int .i64 fl.kind, .int .i64 fl.tk, .int .i64 fl.task, .int .i64 fl.att, .int .i64 fl.mom, .int .i64 fl.rd, .int .i64 fl.at_, .int .u32 fl.mask]⟩], r5_] ∧ (i ≤ 32) ∧ ((flips b p m i).length = b.length) ∧ (SlE byteV 5 y5_ (flips b p m i) r5_)) (fun ⟨i, y5_, r5_⟩ => 32 - i) (0, v8, r8) ?_ ?_
          · exact ⟨rfl, by first | rfl | exact v_int (by omega) | exact v_int (by simp) | exact v_int (by simp; omega), rfl, by first | rfl | exact v_int (by omega) | exact v_int (by simp) | exact v_int (by simp; omega), hM11, by omega, rfl, by simpa [flips] using hs8⟩
          · rintro ⟨i, y5_, r5_⟩ f w37 ⟨e37_5, e37_7, e37_3, e37_6, hM37, hi, hfl, hy5_⟩ K38 h38
            obtain ⟨frm, rfl⟩ : ∃ frm, f = (upd (upd (upd (upd frm 5 (y5_)) 7 (.int .i64 (i : Nat))) 3 (.pointer (some ⟨b2, 0, none⟩))) 6 (.int .i64 (p : Nat))) := ⟨f, by rw [upd_self e37_5, upd_self e37_7, upd_self e37_3, upd_self e37_6]⟩
            clear e37_5 e37_7 e37_3 e37_6
            refine seq fun K39 h39 => ?_
            refine seq fun K40 h40 => ?_
            refine stp (v := .int .i64 (i : Nat)) (o_mv rfl) ?_
            refine stp (v := .bool (decide (((i : Nat) : Int) < 32))) (o_bin rfl rfl rfl) ?_
            refine h40 _ _ ?_
            clear h40
            refine cndP rfl (fun c41 => ?_) (fun c41 => ?_)
            ·
              refine h39 _ _ ?_
              clear h39
              refine seq fun K42 h42 => ?_
              refine seq fun K43 h43 => ?_
              refine stp (v := .pointer (some ⟨b2, 7, none⟩)) (o_fa rfl rfl) ?_
              refine m_ld (v := .int .u32 fl.mask) hM37 (i := 0) (j := 0) rfl rfl rfl rfl ?_
              refine stp (v := .int .i64 (i : Nat)) (o_mv rfl) ?_
              refine stp (v := .int .u32 (m / 2 ^ i : Nat)) (o_shr rfl rfl (by omega) (by rw [hm]; exact shr_v (by omega))) ?_
              refine stp (v := .int .u32 (mb m i : Nat)) (o_rem rfl rfl (by omega) (rem_bit)) ?_
              refine stp (v := .bool (decide (((mb m i : Nat) : Int) = 1))) (o_bin rfl rfl rfl) ?_
              refine stp (v := .bool (decide (((mb m i : Nat) : Int) = 1))) (o_mv rfl) ?_
              refine splitP rfl (fun c44 => ?_) (fun c44 => ?_)
              ·
                refine stg rfl (v := .int .i64 (p : Nat)) (o_mv rfl) ?_
                refine stg rfl (v := .int .i64 (i : Nat)) (o_mv rfl) ?_
                refine stg rfl (v := .int .i64 ((p : Nat) + (i : Nat))) (o_bin rfl rfl (v_add64 (by constructor <;> omega))) ?_
                refine stg rfl (v := y5_) (o_mv rfl) ?_
                refine stg rfl (v := .int .i64 ((flips b p m i).length : Nat)) (o_lenR (hy5_.rd hM37 (i := 1) rfl) rfl rfl) ?_
                refine stg rfl (v := .int .i64 (8 * ((flips b p m i).length : Nat))) (o_bin rfl rfl (v_mul64 (by constructor <;> omega))) ?_
                refine stg rfl (v := .bool (decide (((p : Nat) + (i : Nat) : Int) < (8 * ((flips b p m i).length : Nat))))) (o_bin rfl rfl rfl) ?_
                refine stp (v := .bool (decide (((p : Nat) + (i : Nat) : Int) < (8 * ((flips b p m i).length : Nat))))) (o_pickT rfl rfl) ?_
                refine h43 _ _ ?_
                clear h43
                refine cndP rfl (fun c45 => ?_) (fun c45 => ?_)
                ·
                  intro wd e1 e2 e3 e4
                  have hd := Upd.same e1 e2 e3 e4 []
                  have hM46 := hM37.pure hd
                  clear e1 e2 e3 e4
                  refine ⟨(some []), ?_⟩
                  show vd _ _ _ _ _ _ _
                  refine dq (v := y5_) (o_mv rfl) ?_
                  refine dq (v := .int .i64 (p : Nat)) (o_mv rfl) ?_
                  refine dq (v := .int .i64 (i : Nat)) (o_mv rfl) ?_
                  refine dq (v := .int .i64 ((p : Nat) + (i : Nat))) (o_bin rfl rfl (v_add64 (by constructor <;> omega))) ?_
                  refine dq (v := .int .i64 (((p : Nat) + (i : Nat)) / 8)) (o_quo rfl rfl (by omega) (v_quo (by omega) (by omega) (by simp only [inK]; omega))) ?_
                  refine dq (v := y5_) (o_mv rfl) ?_
                  refine dq (v := .int .i64 (p : Nat)) (o_mv rfl) ?_
                  refine dq (v := .int .i64 (i : Nat)) (o_mv rfl) ?_
                  refine dq (v := .int .i64 ((p : Nat) + (i : Nat))) (o_bin rfl rfl (v_add64 (by constructor <;> omega))) ?_
                  refine dq (v := .int .i64 (((p : Nat) + (i : Nat)) / 8)) (o_quo rfl rfl (by omega) (v_quo (by omega) (by omega) (by simp only [inK]; omega))) ?_
                  refine dqp (m_idxE 0 (j := ((p + i) / 8)) (hy5_.rd hM46 (i := 1) rfl) rfl (v_int (by omega)) (by omega) fun b47 o47 hp47 => ?_)
                  show vd _ _ _ _ _ _ _
                  refine dq (v := .int .i64 (p : Nat)) (o_mv rfl) ?_
                  refine dq (v := .int .i64 (i : Nat)) (o_mv rfl) ?_
                  refine dq (v := .int .i64 ((p : Nat) + (i : Nat))) (o_bin rfl rfl (v_add64 (by constructor <;> omega))) ?_
                  refine dq (v := .int .i64 (((p : Nat) + (i : Nat)) % 8)) (o_rem rfl rfl (by omega) (v_rem (by omega))) ?_
                  refine dq (v := .int .u8 (mb m i * 2 ^ ((p + i) % 8) : Nat)) (o_shl rfl rfl (by omega) (by rw [show mb m i = 1 by omega]; exact one_v (k := p + i) (by omega))) ?_
                  refine dl (ld (v := byteV ((flips b p m i).getD ((p + i) / 8) 0)) rfl (hp47) ?_)
                  refine ⟨(fun b hb => by cases hb), ?_⟩
                  refine dq (v := .int .u8 (((flips b p m i).getD ((p + i) / 8) 0 ^^^ (mb m i * 2 ^ ((p + i) % 8)).toUInt8).toNat : Int)) (o_bin rfl rfl (v_int bit_v)) ?_
                  refine dset (m_setU (E := byteV) (q := (flips b p m i).getD ((p + i) / 8) 0 ^^^ (mb m i * 2 ^ ((p + i) % 8)).toUInt8) (j := ((p + i) / 8)) hM46 (i := 1) rfl hy5_ rfl (v_int (by omega)) (by omega) (by simp) (rfl) fun w48 r48 u48 he48 hs48 (hM48 : Mem w [] w48 [[⟨b2, 25, [.int .i64 fl.kind, .int .i64 fl.tk, .int .i64 fl.task, .int .i64 fl.att, .int .i64 fl.mom, .int .i64 fl.rd, .int .i64 fl.at_, .int .u32 fl.mask]⟩], r48]) hup48 => ?_)
                  refine ⟨(fun b hb => by cases hb), ?_⟩
                  show vd _ _ _ _ _ _ _
                  refine h42 _ _ ?_
                  clear h42
                  refine stp (v := .int .i64 (i : Nat)) (o_mv rfl) ?_
                  refine stp (v := .int .i64 ((i : Nat) + 1)) (o_bin rfl rfl (v_add64 (by constructor <;> omega))) ?_
                  refine stp (v := .int .i64 ((i : Nat) + 1)) (o_mv rfl) ?_
                  refine h38 (i + 1, y5_, r48) _ _ ⟨rfl, by first | rfl | exact v_int (by omega) | exact v_int (by simp) | exact v_int (by simp; omega), rfl, by first | rfl | exact v_int (by omega) | exact v_int (by simp) | exact v_int (by simp; omega), hM48, by omega, flips_length _ _ _ _, by first | (rw [flips_in (by omega)]; exact hs48) | (rw [flips_skip (by omega)]; exact hs48)⟩ (by (try dsimp only); omega)
                ·
                  refine h42 _ _ ?_
                  clear h42
                  refine stp (v := .int .i64 (i : Nat)) (o_mv rfl) ?_
                  refine stp (v := .int .i64 ((i : Nat) + 1)) (o_bin rfl rfl (v_add64 (by constructor <;> omega))) ?_
                  refine stp (v := .int .i64 ((i : Nat) + 1)) (o_mv rfl) ?_
                  refine h38 (i + 1, y5_, r5_) _ _ ⟨rfl, by first | rfl | exact v_int (by omega) | exact v_int (by simp) | exact v_int (by simp; omega), rfl, by first | rfl | exact v_int (by omega) | exact v_int (by simp) | exact v_int (by simp; omega), hM37, by omega, flips_length _ _ _ _, by first | (rw [flips_in (by omega)]; exact hy5_) | (rw [flips_skip (by omega)]; exact hy5_)⟩ (by (try dsimp only); omega)
              ·
                refine gno rfl (by simp) ?_
                refine gno rfl (by simp) ?_
                refine gno rfl (by simp) ?_
                refine gno rfl (by simp) ?_
                refine gno rfl (by simp) ?_
                refine gno rfl (by simp) ?_
                refine gno rfl (by simp) ?_
                refine stp (v := .bool false) (o_pickF rfl rfl) ?_
                refine h43 _ _ ?_
                clear h43
                refine cndF rfl ?_
                refine h42 _ _ ?_
                clear h42
                refine stp (v := .int .i64 (i : Nat)) (o_mv rfl) ?_
                refine stp (v := .int .i64 ((i : Nat) + 1)) (o_bin rfl rfl (v_add64 (by constructor <;> omega))) ?_
                refine stp (v := .int .i64 ((i : Nat) + 1)) (o_mv rfl) ?_
                refine h38 (i + 1, y5_, r5_) _ _ ⟨rfl, by first | rfl | exact v_int (by omega) | exact v_int (by simp) | exact v_int (by simp; omega), rfl, by first | rfl | exact v_int (by omega) | exact v_int (by simp) | exact v_int (by simp; omega), hM37, by omega, flips_length _ _ _ _, by first | (rw [flips_in (by omega)]; exact hy5_) | (rw [flips_skip (by omega)]; exact hy5_)⟩ (by (try dsimp only); omega)
            ·
              refine h35 _ _ ?_
              clear h35
              refine seq fun K49 h49 => ?_
              refine stp (v := y5_) (o_mv rfl) ?_
              refine stp (v := y5_) (o_mv rfl) ?_
              refine h49 _ _ ?_
              clear h49
              refine ⟨y5_, rfl, ?_⟩
              have e : i = 32 := by omega
              subst e
              exact ⟨_, by rw [damage_flip hg (by omega) (by omega), hp3, hm, Int.toNat_natCast]; exact hy5_, hM37.keep (by simp)⟩
