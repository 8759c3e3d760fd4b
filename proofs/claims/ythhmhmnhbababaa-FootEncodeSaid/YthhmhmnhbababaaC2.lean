/- Tiles; trailers. -/
import Derived.Test.YthhmhmnhbababaaC1
namespace Go.Proofs.Ythhmhmnhbababaa.E
open Go
theorem four_own (s b : Nat) : SlE byteV 5 (.slice (some ⟨b, 0, none⟩) 4 4) (fixed 4 s) [⟨b, 5, (fixed 4 s).map byteV⟩] := ⟨by simp [fixed_length], .inr ⟨b, 4, [], by rw [fixed_length], by simp, by simp [fixed_length], by simp [fixed_length]⟩⟩
/-- which trails may be -/
def mayT (bl pg : Int) : Prop := (0 ≤ bl ∧ bl ≤ 268435456) ∧ (1 ≤ pg ∧ pg ≤ 16793600) ∧ (pg % 4100 = 0 ∨ 5 ≤ pg % 4100)
instance (a b : Int) : Decidable (mayT a b) := by unfold mayT; infer_instance
def magic : List UInt8 := [119, 110, 119, 49]
/-- what the last bytes of a file tell: blocks, pages, the error -/
def trailF (b : List UInt8) (size : Int) : Int × Int × Int :=
  if ¬ b.length = 24 then (0, 0, 81) else if ¬ (openF b).2 = 0 then (0, 0, 81) else if ¬ (openF b).1.take 4 = magic then (0, 0, 81)
  else if ¬ mayT (word (((openF b).1.drop 4).take 8) : Nat) (word (((openF b).1.drop 12).take 8) : Nat) then (0, 0, 81)
  else if ((word (((openF b).1.drop 4).take 8) : Nat) : Int) + (word (((openF b).1.drop 12).take 8) : Nat) + 24 = size then ((word (((openF b).1.drop 4).take 8) : Nat), (word (((openF b).1.drop 12).take 8) : Nat), 0) else (0, 0, 82)

/-- crc.Sum -/
theorem Sum_ok (x : Value) (b : List UInt8) (w : World) (hx : RdE byteV w x b) (hl : b.length ≤ 140737488355328) : Calls Try.prog 71 [x].toArray w (Rt fun r w' => r = .int .u32 ((crcN 0 b : Nat) : Int) ∧ Upd [] w w') := by
  have hM0 : Mem w [] w [] := Mem.nil w []
  refine calls_vc mixed Try.func71 rfl C71 (by simp [Try.ntmps71]) ?_
  refine seq fun K1 h1 => ?_
  refine stp (v := .int .u32 0) (o_mv rfl) ?_
  refine h1 _ _ ?_
  clear h1
  refine seq fun K2 h2 => ?_
  refine stp (v := x) (o_mv rfl) ?_
  refine m_call (Extend_ok 0 (by omega) _ b w (hx.upd hM0.upd) (by first | omega | (simp; done) | (simp; omega))) rfl fun v3 w3 ⟨hr3, hu3⟩ => ?_
  have hM3 : Mem w [] w3 [] := hM0.pure hu3
  subst hr3
  refine stp (v := .int .u32 (crcN 0 b : Nat)) (o_mv rfl) ?_
  refine h2 _ _ ?_
  clear h2
  refine ⟨(.int .u32 (crcN 0 b : Nat)), rfl, ?_⟩
  exact ⟨rfl, hM3.upd⟩

/-- winnowref1.Sum -/
theorem refSum_ok (x : Value) (b : List UInt8) (w : World) (hx : RdE byteV w x b) (hl : b.length ≤ 140737488355328) : Calls Try.prog 82 [x].toArray w (Rt fun r w' => r = .int .u32 ((crcN 0 b : Nat) : Int) ∧ Upd [] w w') := by
  have hM0 : Mem w [] w [] := Mem.nil w []
  refine calls_vc mixed Try.func82 rfl C82 (by simp [Try.ntmps82]) ?_
  refine seq fun K1 h1 => ?_
  refine stp (v := .int .u32 0) (o_mv rfl) ?_
  refine h1 _ _ ?_
  clear h1
  refine seq fun K2 h2 => ?_
  refine stp (v := x) (o_mv rfl) ?_
  refine m_call (refExtend_ok 0 (by omega) _ b w (hx.upd hM0.upd) (by first | omega | (simp; done) | (simp; omega))) rfl fun v3 w3 ⟨hr3, hu3⟩ => ?_
  have hM3 : Mem w [] w3 [] := hM0.pure hu3
  subst hr3
  refine stp (v := .int .u32 (crcN 0 b : Nat)) (o_mv rfl) ?_
  refine h2 _ _ ?_
  clear h2
  refine ⟨(.int .u32 (crcN 0 b : Nat)), rfl, ?_⟩
  exact ⟨rfl, hM3.upd⟩

/-- crc.four -/
theorem four_ok (s : Nat) (_hs : s < 4294967296) (w : World) : Calls Try.prog 70 [.int .u32 (s : Nat)].toArray w (Rt fun r w' => ∃ rs, SlE byteV 5 r (fixed 4 s) rs ∧ Mem w [] w' [rs]) := by
  have hM0 : Mem w [] w [] := Mem.nil w []
  refine calls_vc mixed Try.func70 rfl C70 (by simp [Try.ntmps70]) ?_
  refine seq fun K1 h1 => ?_
  refine stp (v := .slice none 0 0) (o_mv rfl) ?_
  refine h1 _ _ ?_
  clear h1
  refine seq fun K2 h2 => ?_
  refine stp (v := .int .u32 (s : Nat)) (o_mv rfl) ?_
  refine stp (v := byteV ((s % 256).toUInt8)) (o_conv rfl (byte4 _)) ?_
  refine stp (v := .int .u32 (s : Nat)) (o_mv rfl) ?_
  refine stp (v := .int .u32 (s / 256 : Nat)) (o_shr rfl rfl (by omega) (shr32 (j := 8) (by omega) rfl)) ?_
  refine stp (v := byteV (((s / 256) % 256).toUInt8)) (o_conv rfl (byte4 _)) ?_
  refine stp (v := .int .u32 (s : Nat)) (o_mv rfl) ?_
  refine stp (v := .int .u32 (s / 65536 : Nat)) (o_shr rfl rfl (by omega) (shr32 (j := 16) (by omega) rfl)) ?_
  refine stp (v := byteV (((s / 65536) % 256).toUInt8)) (o_conv rfl (byte4 _)) ?_
  refine stp (v := .int .u32 (s : Nat)) (o_mv rfl) ?_
  refine stp (v := .int .u32 (s / 16777216 : Nat)) (o_shr rfl rfl (by omega) (shr32 (j := 24) (by omega) rfl)) ?_
  refine stp (v := byteV (((s / 16777216) % 256).toUInt8)) (o_conv rfl (byte4 _)) ?_
  refine m_bs hM0 rfl fun b3 w4 (hM4 : Mem w [] w4 [[⟨b3, 5, [byteV ((s % 256).toUInt8), byteV (((s / 256) % 256).toUInt8), byteV (((s / 65536) % 256).toUInt8), byteV (((s / 16777216) % 256).toUInt8)]⟩]]) => ?_
  refine stp (v := .slice (some ⟨b3, 0, none⟩) 4 4) (o_mv rfl) ?_
  refine h2 _ _ ?_
  clear h2
  refine ⟨(.slice (some ⟨b3, 0, none⟩) 4 4), rfl, ?_⟩
  rw [fixed4]
  exact ⟨_, ⟨by simp, .inr ⟨_, 4, [], rfl, rfl, by simp, by simp⟩⟩, hM4⟩

/-- winnowref1.Seal -/
theorem Seal_ok (x : Value) (b : List UInt8) (w : World) (hx : RdE byteV w x b) (hl : b.length ≤ 140737488355328) : Calls Try.prog 61 [x].toArray w (Rt fun r w' => ∃ rs, SlE byteV 5 r (sealF b) rs ∧ Mem w [] w' [rs]) := by
  have hM0 : Mem w [] w [] := Mem.nil w []
  refine calls_vc mixed Try.func61 rfl C61 (by simp [Try.ntmps61]) ?_
  refine seq fun K1 h1 => ?_
  refine stp (v := .slice none 0 0) (o_mv rfl) ?_
  refine h1 _ _ ?_
  clear h1
  refine seq fun K2 h2 => ?_
  refine m_bs hM0 rfl fun b3 w4 (hM4 : Mem w [] w4 [[⟨b3, 5, []⟩]]) => ?_
  refine stp (v := x) (o_mv rfl) ?_
  have hs5 : SlE byteV 5 (.slice (some ⟨b3, 0, none⟩) 0 0) [] [⟨b3, 5, []⟩] := SlE.lit (l := []) rfl
  refine m_appE hM4 (i := 0) rfl hs5 rfl rfl (hx.upd hM4.upd) (by first | omega | (simp; omega)) (by omega) fun v6 w6 r6 (hs6 : SlE byteV 5 v6 (b) r6) (hM6 : Mem w [] w6 [r6]) => ?_
  refine stp (v := v6) (o_mv rfl) ?_
  refine h2 _ _ ?_
  clear h2
  refine seq fun K7 h7 => ?_
  refine stp (v := x) (o_mv rfl) ?_
  refine m_call (refSum_ok _ b w6 (hx.upd hM6.upd) (by first | omega | (simp; done) | (simp; omega))) rfl fun v8 w8 ⟨hr8, hu8⟩ => ?_
  have hM8 : Mem w [] w8 [r6] := hM6.pure hu8
  subst hr8
  have hcl8 := crcN_lt 0 b
  refine stp (v := .int .u32 (crcN 0 b : Nat)) (o_mv rfl) ?_
  refine h7 _ _ ?_
  clear h7
  refine seq fun K9 h9 => ?_
  refine stp (v := v6) (o_mv rfl) ?_
  refine stp (v := .int .u32 (crcN 0 b : Nat)) (o_mv rfl) ?_
  refine stp (v := byteV (((crcN 0 b) % 256).toUInt8)) (o_conv rfl (byte4 _)) ?_
  refine stp (v := .int .u32 (crcN 0 b : Nat)) (o_mv rfl) ?_
  refine stp (v := .int .u32 ((crcN 0 b) / 256 : Nat)) (o_shr rfl rfl (by omega) (shr32 (j := 8) (by omega) rfl)) ?_
  refine stp (v := byteV ((((crcN 0 b) / 256) % 256).toUInt8)) (o_conv rfl (byte4 _)) ?_
  refine stp (v := .int .u32 (crcN 0 b : Nat)) (o_mv rfl) ?_
  refine stp (v := .int .u32 ((crcN 0 b) / 65536 : Nat)) (o_shr rfl rfl (by omega) (shr32 (j := 16) (by omega) rfl)) ?_
  refine stp (v := byteV ((((crcN 0 b) / 65536) % 256).toUInt8)) (o_conv rfl (byte4 _)) ?_
  refine stp (v := .int .u32 (crcN 0 b : Nat)) (o_mv rfl) ?_
  refine stp (v := .int .u32 ((crcN 0 b) / 16777216 : Nat)) (o_shr rfl rfl (by omega) (shr32 (j := 24) (by omega) rfl)) ?_
  refine stp (v := byteV ((((crcN 0 b) / 16777216) % 256).toUInt8)) (o_conv rfl (byte4 _)) ?_
  refine m_bs hM8 rfl fun b10 w11 (hM11 : Mem w [] w11 [r6, [⟨b10, 5, [byteV (((crcN 0 b) % 256).toUInt8), byteV ((((crcN 0 b) / 256) % 256).toUInt8), byteV ((((crcN 0 b) / 65536) % 256).toUInt8), byteV ((((crcN 0 b) / 16777216) % 256).toUInt8)]⟩]]) => ?_
  refine m_appE hM11 (i := 0) rfl hs6 rfl rfl (own_rdE (E := byteV) (l := [((crcN 0 b) % 256).toUInt8, (((crcN 0 b) / 256) % 256).toUInt8, (((crcN 0 b) / 65536) % 256).toUInt8, (((crcN 0 b) / 16777216) % 256).toUInt8]) (hM11.at (i := 1) (j := 0) rfl rfl) rfl) (by first | omega | (simp; omega)) (by omega) fun v12 w12 r12 (hs12 : SlE byteV 5 v12 (b ++ ([((crcN 0 b) % 256).toUInt8, (((crcN 0 b) / 256) % 256).toUInt8, (((crcN 0 b) / 65536) % 256).toUInt8, (((crcN 0 b) / 16777216) % 256).toUInt8])) r12) (hM12 : Mem w [] w12 [r12, [⟨b10, 5, [byteV (((crcN 0 b) % 256).toUInt8), byteV ((((crcN 0 b) / 256) % 256).toUInt8), byteV ((((crcN 0 b) / 65536) % 256).toUInt8), byteV ((((crcN 0 b) / 16777216) % 256).toUInt8)]⟩]]) => ?_
  refine stp (v := v12) (o_mv rfl) ?_
  refine h9 _ _ ?_
  clear h9
  refine ⟨v12, rfl, ?_⟩
  exact ⟨_, by unfold sealF; rw [fixed4]; simpa using hs12, hM12.keep (by simp)⟩
