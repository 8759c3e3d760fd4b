/- Tiles; trailers. -/
import Derived.Test.YthhmhmnhbababaaC1
import Derived.Test.YthhmhmnhbababaaE23
namespace Go.Proofs.Ythhmhmnhbababaa.E
open Go
theorem four_own (s b : Nat) : SlE byteV 5 (.slice (some ⟨b, 0, none⟩) 4 4) (fixed 4 s) [⟨b, 5, (fixed 4 s).map byteV⟩] := ⟨by simp [fixed_length], .inr ⟨b, 4, [], by rw [fixed_length], by simp, by simp [fixed_length], by simp [fixed_length]⟩⟩
def mayT (bl pg : Int) : Prop := (0 ≤ bl ∧ bl ≤ 268435456) ∧ (1 ≤ pg ∧ pg ≤ 16793600) ∧ (pg % 4100 = 0 ∨ 5 ≤ pg % 4100)
instance (a b : Int) : Decidable (mayT a b) := by unfold mayT; infer_instance
def magic : List UInt8 := [119, 110, 119, 49]
def trailF (b : List UInt8) (size : Int) : Int × Int × Int :=
 if ¬ b.length = 24 then (0, 0, 81) else if ¬ (openF b).2 = 0 then (0, 0, 81) else if ¬ (openF b).1.take 4 = magic then (0, 0, 81)
 else if ¬ mayT (word (((openF b).1.drop 4).take 8) : Nat) (word (((openF b).1.drop 12).take 8) : Nat) then (0, 0, 81)
 else if ((word (((openF b).1.drop 4).take 8) : Nat) : Int) + (word (((openF b).1.drop 12).take 8) : Nat) + 24 = size then ((word (((openF b).1.drop 4).take 8) : Nat), (word (((openF b).1.drop 12).take 8) : Nat), 0) else (0, 0, 82)
theorem Sum_ok (x : Value) (b : List UInt8) (w : World) (hx : RdE byteV w x b) (hl : b.length ≤ 140737488355328) : Calls Try.prog 71 [x].toArray w (Rt fun r w' => r = .int .u32 ((crcN 0 b : Nat) : Int) ∧ Upd [] w w') := by
 have hM0 : Mem w [] w [] := Mem.nil w []
 refine calls_vc mixed Try.func71 rfl C71 (by simp [Try.ntmps71]) <| seq fun _ h1 => mv <| h1 _ _ <| seq fun _ h2 => mv <| m_call (Extend_ok 0 (by omega) _ b w (hx.upd hM0.upd) (by first | omega | (simp; done) | (simp; omega))) rfl fun v3 w3 ⟨hr3, hu3⟩ => ?_
 have hM3 : Mem w [] w3 [] := hM0.pure hu3
 subst hr3
 refine mv <| h2 _ _ <| ⟨(.int .u32 (crcN 0 b : Nat)), rfl, ⟨rfl, hM3.upd⟩⟩
theorem refSum_ok (x : Value) (b : List UInt8) (w : World) (hx : RdE byteV w x b) (hl : b.length ≤ 140737488355328) : Calls Try.prog 82 [x].toArray w (Rt fun r w' => r = .int .u32 ((crcN 0 b : Nat) : Int) ∧ Upd [] w w') := by
 have hM0 : Mem w [] w [] := Mem.nil w []
 refine calls_vc mixed Try.func82 rfl C82 (by simp [Try.ntmps82]) <| seq fun _ h1 => mv <| h1 _ _ <| seq fun _ h2 => mv <| m_call (refExtend_ok 0 (by omega) _ b w (hx.upd hM0.upd) (by first | omega | (simp; done) | (simp; omega))) rfl fun v3 w3 ⟨hr3, hu3⟩ => ?_
 have hM3 : Mem w [] w3 [] := hM0.pure hu3
 subst hr3
 refine mv <| h2 _ _ <| ⟨(.int .u32 (crcN 0 b : Nat)), rfl, ⟨rfl, hM3.upd⟩⟩
theorem four_ok (s : Nat) (_hs : s < 4294967296) (w : World) : Calls Try.prog 70 [.int .u32 (s : Nat)].toArray w (Rt fun r w' => ∃ rs, SlE byteV 5 r (fixed 4 s) rs ∧ Mem w [] w' [rs]) := by
 have hM0 : Mem w [] w [] := Mem.nil w []
 refine calls_vc mixed Try.func70 rfl C70 (by simp [Try.ntmps70]) <| seq fun _ h1 => mv <| h1 _ _ <| seq fun _ h2 => mv <| stp (v := byteV ((s % 256).toUInt8)) (o_conv rfl (byte4 _)) <| mv <| stp (v := .int .u32 (s / 256 : Nat)) (o_shr rfl rfl (by omega) (shr32 (j := 8) (by omega) rfl)) <| stp (v := byteV (((s / 256) % 256).toUInt8)) (o_conv rfl (byte4 _)) <| mv <| stp (v := .int .u32 (s / 65536 : Nat)) (o_shr rfl rfl (by omega) (shr32 (j := 16) (by omega) rfl)) <| stp (v := byteV (((s / 65536) % 256).toUInt8)) (o_conv rfl (byte4 _)) <| mv ?_
 refine stp (v := .int .u32 (s / 16777216 : Nat)) (o_shr rfl rfl (by omega) (shr32 (j := 24) (by omega) rfl)) <| stp (v := byteV (((s / 16777216) % 256).toUInt8)) (o_conv rfl (byte4 _)) <| m_bs hM0 rfl fun b3 w4 (hM4 : Mem w [] w4 [[⟨b3, 5, [byteV ((s % 256).toUInt8), byteV (((s / 256) % 256).toUInt8), byteV (((s / 65536) % 256).toUInt8), byteV (((s / 16777216) % 256).toUInt8)]⟩]]) => mv <| h2 _ _ <| ⟨(.slice (some ⟨b3, 0, none⟩) 4 4), rfl, ?_⟩
 rw [fixed4]
 exact ⟨_, ⟨by simp, .inr ⟨_, 4, [], rfl, rfl, by simp, by simp⟩⟩, hM4⟩
theorem Open_ok (x : Value) (b : List UInt8) (w : World) (hx : RdE byteV w x b) (hl : b.length ≤ 140737488355328) : Calls Try.prog 49 [x].toArray w (Rt fun r w' => ∃ v rs, r = .tuple #[v, .int .i64 (openF b).2] ∧ SlE byteV 5 v (openF b).1 rs ∧ Mem w [] w' [rs]) := by
 have hM0 : Mem w [] w [] := Mem.nil w []
 refine calls_vc mixed Try.func49 rfl C49 (by simp [Try.ntmps49]) <| seq fun _ h1 => mv <| mv <| h1 _ _ <| seq fun _ h2 => mv <| stp (v := .int .i64 (b.length : Nat)) (o_lenR (hx.upd hM0.upd) rfl rfl) <| stp (v := .int .i64 ((b.length : Nat) - 4)) (o_bin rfl rfl (v_sub64 (by omega))) <| mv <| h2 _ _ <| seq fun _ h3 => seq fun _ h4 => mv ?_
 refine bn rfl rfl <| h4 _ _ <| cndP rfl (fun c5 => ?_) (fun c5 => ?_)
 ·refine seq fun _ h6 => mv <| mv <| h6 _ _ <| ⟨(.tuple [.slice none 0 0, .int .i64 11].toArray), rfl, ?_⟩
  have je := open_short (b := b) (by omega)
  exact ⟨_, [], by rw [je], by rw [je]; exact Sl.nil 1 5, (hM0.addNil).keep (by simp)⟩
 refine h3 _ _ <| seq fun _ h7 => seq fun _ h8 => ?_
 intro wd e1 e2 e3 e4
 have hd := Upd.same e1 e2 e3 e4 []
 have hM9 := hM0.pure hd
 clear e1 e2 e3 e4
 refine ⟨(some []), ?_⟩
 show vd _ _ _ _ _ _ _
 refine dmv <| dmv <| dqp (m_slcE 0 (b.length - 4) (hx) rfl (by omega) (by omega) ⟨_, v_int (by omega)⟩ rfl fun u10 hu10 => ?_)
 show vd _ _ _ _ _ _ _
 refine dmv <| dmv <| dqp (m_slcE (b.length - 4) b.length (hx) rfl (by omega) (by omega) rfl ⟨_, v_int (by omega)⟩ fun u11 hu11 => ?_)
 show vd _ _ _ _ _ _ _
 show _ ∧ _
 refine ⟨?_, ?_⟩
 ·show vd _ _ _ _ _ _ _
  refine dl (m_call (Sum_ok _ ((b.take (b.length - 4)).drop 0) wd ((hu10.upd hM9.upd)) (by first | omega | (simp; done) | (simp; omega))) rfl fun v12 w12 ⟨hr12, hu12⟩ => ?_)
  have hM12 : Mem w [] w12 [] := hM9.pure hu12
  subst hr12
  have hcl12 := crcN_lt 0 ((b.take (b.length - 4)).drop 0)
  refine ⟨(fun b hb => by cases hb), ?_⟩
  show _ ∧ _
  refine ⟨?_, ?_⟩
  ·show vd _ _ _ _ _ _ _
   refine dl (m_call (four_ok (crcN 0 ((b.take (b.length - 4)).drop 0)) (by first | assumption | exact crcN_lt _ _ | omega) w12) rfl fun v13 w13 ⟨rs13, hs13, hm13⟩ => ?_)
   have hM13 : Mem w [] w13 [rs13] := hM12.add hm13
   refine ⟨(fun b hb => by cases hb), ?_⟩
   show _ ∧ _
   refine ⟨?_, ?_⟩
   ·show vd _ _ _ _ _ _ _
    refine dl (m_b2s rfl (hs13.rd hM13 (i := 0) rfl) <| ⟨(fun b hb => by cases hb), dl (m_b2s rfl ((hu11.upd hM13.upd)) <| ⟨(fun b hb => by cases hb), dq (v := .bool (decide (¬ (fixed 4 (crcN 0 ((b.take (b.length - 4)).drop 0))) = ((b.take b.length).drop (b.length - 4))))) (o_sne rfl rfl rfl) <| h8 _ _ <| cndP rfl (fun hsT => ?_) (fun hsF => ?_)⟩)⟩)
    ·refine seq fun _ h15 => mv <| mv <| h15 _ _ <| ⟨(.tuple [.slice none 0 0, .int .i64 10].toArray), rfl, ?_⟩
     have je := open_sum (b := b) (by omega) (by simpa using hsT)
     exact ⟨_, [], by rw [je], by rw [je]; exact Sl.nil 1 5, (hM13.addNil).keep (by simp)⟩
    refine h7 _ _ <| seq fun _ h16 => m_bs hM13 rfl fun b17 w18 (hM18 : Mem w [] w18 [rs13, [⟨b17, 5, []⟩]]) => mv <| mv <| m_slcE 0 (b.length - 4) (hx) rfl (by omega) (by omega) ⟨_, v_int (by omega)⟩ rfl fun u19 hu19 => ?_
    have hs20 : SlE byteV 5 (.slice (some ⟨b17, 0, none⟩) 0 0) [] [⟨b17, 5, []⟩] := SlE.lit (l := []) rfl
    refine m_appE hM18 (i := 1) rfl hs20 rfl rfl ((hu19.upd hM18.upd)) (by first | omega | (simp; omega)) (by omega) fun v21 w21 r21 (hs21 : SlE byteV 5 v21 ((b.take (b.length - 4)).drop 0) r21) (hM21 : Mem w [] w21 [rs13, r21]) => mv <| mv <| h16 _ _ <| ⟨(.tuple [v21, .int .i64 0].toArray), rfl, ?_⟩
    have je := open_ok (b := b) (by omega) (by simpa using hsF)
    exact ⟨_, _, by rw [je], by rw [je]; simpa using hs21, hM21.keep (by simp)⟩
   show vd _ _ _ _ _ _ _
   refine dl (m_b2s rfl ((hu11.upd hM13.upd)) <| ⟨(fun b hb => by cases hb), dl (m_b2s rfl (hs13.rd hM13 (i := 0) rfl) <| ⟨(fun b hb => by cases hb), dq (v := .bool (decide (¬ (fixed 4 (crcN 0 ((b.take (b.length - 4)).drop 0))) = ((b.take b.length).drop (b.length - 4))))) (o_sne rfl rfl rfl) <| h8 _ _ <| cndP rfl (fun hsT => ?_) (fun hsF => ?_)⟩)⟩)
   ·refine seq fun _ h23 => mv <| mv <| h23 _ _ <| ⟨(.tuple [.slice none 0 0, .int .i64 10].toArray), rfl, ?_⟩
    have je := open_sum (b := b) (by omega) (by simpa using hsT)
    exact ⟨_, [], by rw [je], by rw [je]; exact Sl.nil 1 5, (hM13.addNil).keep (by simp)⟩
   refine h7 _ _ <| seq fun _ h24 => m_bs hM13 rfl fun b25 w26 (hM26 : Mem w [] w26 [rs13, [⟨b25, 5, []⟩]]) => mv <| mv <| m_slcE 0 (b.length - 4) (hx) rfl (by omega) (by omega) ⟨_, v_int (by omega)⟩ rfl fun u27 hu27 => ?_
   have hs28 : SlE byteV 5 (.slice (some ⟨b25, 0, none⟩) 0 0) [] [⟨b25, 5, []⟩] := SlE.lit (l := []) rfl
   refine m_appE hM26 (i := 1) rfl hs28 rfl rfl ((hu27.upd hM26.upd)) (by first | omega | (simp; omega)) (by omega) fun v29 w29 r29 (hs29 : SlE byteV 5 v29 ((b.take (b.length - 4)).drop 0) r29) (hM29 : Mem w [] w29 [rs13, r29]) => mv <| mv <| h24 _ _ <| ⟨(.tuple [v29, .int .i64 0].toArray), rfl, ?_⟩
   have je := open_ok (b := b) (by omega) (by simpa using hsF)
   exact ⟨_, _, by rw [je], by rw [je]; simpa using hs29, hM29.keep (by simp)⟩
  show vd _ _ _ _ _ _ _
  refine dl (m_b2s rfl ((hu11.upd hM12.upd)) <| ⟨(fun b hb => by cases hb), dl (m_call (four_ok (crcN 0 ((b.take (b.length - 4)).drop 0)) (by first | assumption | exact crcN_lt _ _ | omega) w12) rfl fun v30 w30 ⟨rs30, hs30, hm30⟩ => ?_)⟩)
  have hM30 : Mem w [] w30 [rs30] := hM12.add hm30
  refine ⟨(fun b hb => by cases hb), dl (m_b2s rfl (hs30.rd hM30 (i := 0) rfl) <| ⟨(fun b hb => by cases hb), dq (v := .bool (decide (¬ (fixed 4 (crcN 0 ((b.take (b.length - 4)).drop 0))) = ((b.take b.length).drop (b.length - 4))))) (o_sne rfl rfl rfl) <| h8 _ _ <| cndP rfl (fun hsT => ?_) (fun hsF => ?_)⟩)⟩
  ·refine seq fun _ h32 => mv <| mv <| h32 _ _ <| ⟨(.tuple [.slice none 0 0, .int .i64 10].toArray), rfl, ?_⟩
   have je := open_sum (b := b) (by omega) (by simpa using hsT)
   exact ⟨_, [], by rw [je], by rw [je]; exact Sl.nil 1 5, (hM30.addNil).keep (by simp)⟩
  refine h7 _ _ <| seq fun _ h33 => m_bs hM30 rfl fun b34 w35 (hM35 : Mem w [] w35 [rs30, [⟨b34, 5, []⟩]]) => mv <| mv <| m_slcE 0 (b.length - 4) (hx) rfl (by omega) (by omega) ⟨_, v_int (by omega)⟩ rfl fun u36 hu36 => ?_
  have hs37 : SlE byteV 5 (.slice (some ⟨b34, 0, none⟩) 0 0) [] [⟨b34, 5, []⟩] := SlE.lit (l := []) rfl
  refine m_appE hM35 (i := 1) rfl hs37 rfl rfl ((hu36.upd hM35.upd)) (by first | omega | (simp; omega)) (by omega) fun v38 w38 r38 (hs38 : SlE byteV 5 v38 ((b.take (b.length - 4)).drop 0) r38) (hM38 : Mem w [] w38 [rs30, r38]) => mv <| mv <| h33 _ _ <| ⟨(.tuple [v38, .int .i64 0].toArray), rfl, ?_⟩
  have je := open_ok (b := b) (by omega) (by simpa using hsF)
  exact ⟨_, _, by rw [je], by rw [je]; simpa using hs38, hM38.keep (by simp)⟩
 show vd _ _ _ _ _ _ _
 refine dl (m_b2s rfl ((hu11.upd hM9.upd)) <| ⟨(fun b hb => by cases hb), dl (m_call (Sum_ok _ ((b.take (b.length - 4)).drop 0) wd ((hu10.upd hM9.upd)) (by first | omega | (simp; done) | (simp; omega))) rfl fun v39 w39 ⟨hr39, hu39⟩ => ?_)⟩)
 have hM39 : Mem w [] w39 [] := hM9.pure hu39
 subst hr39
 have hcl39 := crcN_lt 0 ((b.take (b.length - 4)).drop 0)
 refine ⟨(fun b hb => by cases hb), dl (m_call (four_ok (crcN 0 ((b.take (b.length - 4)).drop 0)) (by first | assumption | exact crcN_lt _ _ | omega) w39) rfl fun v40 w40 ⟨rs40, hs40, hm40⟩ => ?_)⟩
 have hM40 : Mem w [] w40 [rs40] := hM39.add hm40
 refine ⟨(fun b hb => by cases hb), dl (m_b2s rfl (hs40.rd hM40 (i := 0) rfl) <| ⟨(fun b hb => by cases hb), dq (v := .bool (decide (¬ (fixed 4 (crcN 0 ((b.take (b.length - 4)).drop 0))) = ((b.take b.length).drop (b.length - 4))))) (o_sne rfl rfl rfl) <| h8 _ _ <| cndP rfl (fun hsT => ?_) (fun hsF => ?_)⟩)⟩
 ·refine seq fun _ h42 => mv <| mv <| h42 _ _ <| ⟨(.tuple [.slice none 0 0, .int .i64 10].toArray), rfl, ?_⟩
  have je := open_sum (b := b) (by omega) (by simpa using hsT)
  exact ⟨_, [], by rw [je], by rw [je]; exact Sl.nil 1 5, (hM40.addNil).keep (by simp)⟩
 refine h7 _ _ <| seq fun _ h43 => m_bs hM40 rfl fun b44 w45 (hM45 : Mem w [] w45 [rs40, [⟨b44, 5, []⟩]]) => mv <| mv <| m_slcE 0 (b.length - 4) (hx) rfl (by omega) (by omega) ⟨_, v_int (by omega)⟩ rfl fun u46 hu46 => ?_
 have hs47 : SlE byteV 5 (.slice (some ⟨b44, 0, none⟩) 0 0) [] [⟨b44, 5, []⟩] := SlE.lit (l := []) rfl
 refine m_appE hM45 (i := 1) rfl hs47 rfl rfl ((hu46.upd hM45.upd)) (by first | omega | (simp; omega)) (by omega) fun v48 w48 r48 (hs48 : SlE byteV 5 v48 ((b.take (b.length - 4)).drop 0) r48) (hM48 : Mem w [] w48 [rs40, r48]) => mv <| mv <| h43 _ _ <| ⟨(.tuple [v48, .int .i64 0].toArray), rfl, ?_⟩
 have je := open_ok (b := b) (by omega) (by simpa using hsF)
 exact ⟨_, _, by rw [je], by rw [je]; simpa using hs48, hM48.keep (by simp)⟩
theorem Seal_ok (x : Value) (b : List UInt8) (w : World) (hx : RdE byteV w x b) (hl : b.length ≤ 140737488355328) : Calls Try.prog 61 [x].toArray w (Rt fun r w' => ∃ rs, SlE byteV 5 r (sealF b) rs ∧ Mem w [] w' [rs]) := by
 have hM0 : Mem w [] w [] := Mem.nil w []
 refine calls_vc mixed Try.func61 rfl C61 (by simp [Try.ntmps61]) <| seq fun _ h1 => mv <| h1 _ _ <| seq fun _ h2 => m_bs hM0 rfl fun b3 w4 (hM4 : Mem w [] w4 [[⟨b3, 5, []⟩]]) => mv ?_
 have hs5 : SlE byteV 5 (.slice (some ⟨b3, 0, none⟩) 0 0) [] [⟨b3, 5, []⟩] := SlE.lit (l := []) rfl
 refine m_appE hM4 (i := 0) rfl hs5 rfl rfl (hx.upd hM4.upd) (by first | omega | (simp; omega)) (by omega) fun v6 w6 r6 (hs6 : SlE byteV 5 v6 (b) r6) (hM6 : Mem w [] w6 [r6]) => mv <| h2 _ _ <| seq fun _ h7 => mv <| m_call (refSum_ok _ b w6 (hx.upd hM6.upd) (by first | omega | (simp; done) | (simp; omega))) rfl fun v8 w8 ⟨hr8, hu8⟩ => ?_
 have hM8 : Mem w [] w8 [r6] := hM6.pure hu8
 subst hr8
 have hcl8 := crcN_lt 0 b
 refine mv <| h7 _ _ <| seq fun _ h9 => mv <| mv <| stp (v := byteV (((crcN 0 b) % 256).toUInt8)) (o_conv rfl (byte4 _)) <| mv <| stp (v := .int .u32 ((crcN 0 b) / 256 : Nat)) (o_shr rfl rfl (by omega) (shr32 (j := 8) (by omega) rfl)) <| stp (v := byteV ((((crcN 0 b) / 256) % 256).toUInt8)) (o_conv rfl (byte4 _)) <| mv <| stp (v := .int .u32 ((crcN 0 b) / 65536 : Nat)) (o_shr rfl rfl (by omega) (shr32 (j := 16) (by omega) rfl)) <| stp (v := byteV ((((crcN 0 b) / 65536) % 256).toUInt8)) (o_conv rfl (byte4 _)) <| mv <| stp (v := .int .u32 ((crcN 0 b) / 16777216 : Nat)) (o_shr rfl rfl (by omega) (shr32 (j := 24) (by omega) rfl)) ?_
 refine stp (v := byteV ((((crcN 0 b) / 16777216) % 256).toUInt8)) (o_conv rfl (byte4 _)) <| m_bs hM8 rfl fun b10 w11 (hM11 : Mem w [] w11 [r6, [⟨b10, 5, [byteV (((crcN 0 b) % 256).toUInt8), byteV ((((crcN 0 b) / 256) % 256).toUInt8), byteV ((((crcN 0 b) / 65536) % 256).toUInt8), byteV ((((crcN 0 b) / 16777216) % 256).toUInt8)]⟩]]) => m_appE hM11 (i := 0) rfl hs6 rfl rfl (own_rdE (E := byteV) (l := [((crcN 0 b) % 256).toUInt8, (((crcN 0 b) / 256) % 256).toUInt8, (((crcN 0 b) / 65536) % 256).toUInt8, (((crcN 0 b) / 16777216) % 256).toUInt8]) (hM11.at (i := 1) (j := 0) rfl rfl) rfl) (by first | omega | (simp; omega)) (by omega) fun v12 w12 r12 (hs12 : SlE byteV 5 v12 (b ++ ([((crcN 0 b) % 256).toUInt8, (((crcN 0 b) / 256) % 256).toUInt8, (((crcN 0 b) / 65536) % 256).toUInt8, (((crcN 0 b) / 16777216) % 256).toUInt8])) r12) (hM12 : Mem w [] w12 [r12, [⟨b10, 5, [byteV (((crcN 0 b) % 256).toUInt8), byteV ((((crcN 0 b) / 256) % 256).toUInt8), byteV ((((crcN 0 b) / 65536) % 256).toUInt8), byteV ((((crcN 0 b) / 16777216) % 256).toUInt8)]⟩]]) => mv <| h9 _ _ <| ⟨v12, rfl, ⟨_, by unfold sealF; rw [fixed4]; simpa using hs12, hM12.keep (by simp)⟩⟩
theorem same1_ok (x y : Value) (a b : List UInt8) (w : World) (hx : RdE byteV w x a) (hy : RdE byteV w y b) (hla : a.length ≤ 9223372036854775807) : Calls Try.prog 73 [x, y].toArray w (Rt fun r w' => r = .bool (decide (a = b)) ∧ Upd [] w w') := by
 have hM0 : Mem w [] w [] := Mem.nil w []
 refine calls_vc mixed Try.func73 rfl C73 (by simp [Try.ntmps73]) <| seq fun _ h1 => mv <| h1 _ _ <| seq fun _ h2 => seq fun _ h3 => mv <| stp (v := .int .i64 (a.length : Nat)) (o_lenR (hx.upd hM0.upd) rfl rfl) <| mv <| stp (v := .int .i64 (b.length : Nat)) (o_lenR (hy.upd hM0.upd) rfl rfl) <| bneq rfl rfl <| h3 _ _ <| cndP rfl (fun c4 => ?_) (fun c4 => ?_)
 ·refine seq fun _ h5 => mv <| h5 _ _ <| ⟨(.bool false), rfl, ⟨by rw [decide_eq_false (fun e => c4 (by rw [e]))], hM0.upd⟩⟩
 refine h2 _ _ <| seq fun _ h6 => seq fun _ h7 => mv <| h7 _ _ <| lp (n := fun _ _ => False) (ι := (Nat)) (fun i f w' => f 0 = x ∧ f 1 = y ∧ f 5 = .int .i64 (i : Nat) ∧ Mem w [] w' [] ∧ (i ≤ a.length) ∧ (a.take i = b.take i)) (fun i => a.length - i) (0) ?_ ?_
 ·exact ⟨rfl, rfl, vi, hM0, by omega, by simp⟩
 rintro i f w8 ⟨e8_0, e8_1, e8_5, hM8, hi, hp⟩ K9 h9
 obtain ⟨frm, rfl⟩ := re3 e8_0 e8_1 e8_5
 refine seq fun _ h10 => seq fun _ h11 => mv <| mv <| stp (v := .int .i64 (a.length : Nat)) (o_lenR (hx.upd hM8.upd) rfl rfl) <| bn rfl rfl <| h11 _ _ <| cndP rfl (fun c12 => ?_) (fun c12 => ?_)
 ·refine h10 _ _ <| seq fun _ h13 => seq fun _ h14 => ?_
  intro wd e1 e2 e3 e4
  have hd := Upd.same e1 e2 e3 e4 []
  have hM15 := hM8.pure hd
  clear e1 e2 e3 e4
  refine ⟨none, ?_⟩
  show vd _ _ _ _ _ _ _
  refine dmv <| dmv <| dqp (m_idxE 0 (j := i) (hx.upd hM15.upd) rfl rfl (by omega) fun b16 o16 hp16 => ?_)
  show vd _ _ _ _ _ _ _
  refine dmv <| dmv <| dqp (m_idxE 0 (j := i) (hy.upd hM15.upd) rfl rfl (by omega) fun b17 o17 hp17 => ?_)
  show vd _ _ _ _ _ _ _
  refine dqld rfl (trivial) (v := byteV (b.getD i 0)) (hp17) <| dl (ld (v := byteV (a.getD i 0)) rfl (hp16) <| ⟨rfl, dq (v := .bool (decide (¬ ((a.getD i 0).toNat : Int) = ((b.getD i 0).toNat : Int)))) (o_bin rfl rfl v_neq) <| h14 _ _ <| cndP rfl (fun c18 => ?_) (fun c18 => ?_)⟩)
  ·refine seq fun _ h19 => mv <| h19 _ _ <| ⟨(.bool false), rfl, ⟨by rw [decide_eq_false (ne_atG 0 i (nat_neG (by assumption)))], hM15.upd⟩⟩
  refine h13 _ _ <| mv <| stp (v := .int .i64 ((i : Nat) + 1)) (o_bin rfl rfl (v_add64 (by omega))) <| mv <| h9 (i + 1) _ _ ⟨rfl, rfl, vi, hM15, by omega, take_eqG 0 hp (by omega) (by omega) (u8_eq (by omega))⟩ (by (try dsimp only); omega)
 refine h6 _ _ <| seq fun _ h20 => mv <| h20 _ _ <| ⟨(.bool true), rfl, ⟨by rw [decide_eq_true]; rw [← List.take_of_length_le (l := a) (i := i) (by omega), ← List.take_of_length_le (l := b) (i := i) (by omega), hp], hM8.upd⟩⟩
theorem refOpen_ok (x : Value) (b : List UInt8) (w : World) (hx : RdE byteV w x b) (hl : b.length ≤ 140737488355328) : Calls Try.prog 52 [x].toArray w (Rt fun r w' => ∃ v rs, r = .tuple #[v, .int .i64 (openF b).2] ∧ SlE byteV 5 v (openF b).1 rs ∧ Mem w [] w' [rs]) := by
 have hM0 : Mem w [] w [] := Mem.nil w []
 refine calls_vc mixed Try.func52 rfl C52 (by simp [Try.ntmps52]) <| seq fun _ h1 => mv <| mv <| h1 _ _ <| seq fun _ h2 => seq fun _ h3 => mv <| stp (v := .int .i64 (b.length : Nat)) (o_lenR (hx.upd hM0.upd) rfl rfl) <| bn rfl rfl <| h3 _ _ <| cndP rfl (fun c4 => ?_) (fun c4 => ?_)
 ·refine seq fun _ h5 => mv <| mv <| h5 _ _ <| ⟨(.tuple [.slice none 0 0, .int .i64 11].toArray), rfl, ?_⟩
  have je := open_short (b := b) (by omega)
  exact ⟨_, [], by rw [je], by rw [je]; exact Sl.nil 1 5, (hM0.addNil).keep (by simp)⟩
 refine h2 _ _ <| seq fun _ h6 => m_bs hM0 rfl fun b7 w8 (hM8 : Mem w [] w8 [[⟨b7, 5, []⟩]]) => mv <| mv <| stp (v := .int .i64 (b.length : Nat)) (o_lenR (hx.upd hM8.upd) rfl rfl) <| stp (v := .int .i64 ((b.length : Nat) - 4)) (o_bin rfl rfl (v_sub64 (by omega))) <| m_slcE 0 (b.length - 4) (hx) rfl (by omega) (by omega) ⟨_, v_int (by omega)⟩ rfl fun u9 hu9 => ?_
 have hs10 : SlE byteV 5 (.slice (some ⟨b7, 0, none⟩) 0 0) [] [⟨b7, 5, []⟩] := SlE.lit (l := []) rfl
 refine m_appE hM8 (i := 0) rfl hs10 rfl rfl ((hu9.upd hM8.upd)) (by first | omega | (simp; omega)) (by omega) fun v11 w11 r11 (hs11 : SlE byteV 5 v11 ((b.take (b.length - 4)).drop 0) r11) (hM11 : Mem w [] w11 [r11]) => mv <| h6 _ _ <| seq fun _ h12 => mv <| m_call (Seal_ok _ ((b.take (b.length - 4)).drop 0) w11 (hs11.rd hM11 (i := 0) rfl) (by first | omega | (simp; done) | (simp; omega))) rfl fun v13 w13 ⟨rs13, hs13, hm13⟩ => ?_
 have hM13 : Mem w [] w13 [r11, rs13] := hM11.add hm13
 have hcq13 : (sealF ((b.take (b.length - 4)).drop 0)).length ≤ 140737488355332 := by unfold sealF; rw [List.length_append, fixed_length]; simp only [List.length_drop, List.length_take]; omega
 refine mv <| h12 _ _ <| seq fun _ h14 => seq fun _ h15 => mv <| mv <| m_call (same1_ok _ _ (sealF ((b.take (b.length - 4)).drop 0)) b w13 (hs13.rd hM13 (i := 1) rfl) (hx.upd hM13.upd) (by first | omega | (simp; done) | (simp; omega))) rfl fun v16 w16 ⟨hr16, hu16⟩ => ?_
 have hM16 : Mem w [] w16 [r11, rs13] := hM13.pure hu16
 subst hr16
 refine stp (v := .bool (decide (¬ ((sealF ((b.take (b.length - 4)).drop 0)) = b)))) (o_not rfl v_not) <| h15 _ _ <| cndP rfl (fun hsT => ?_) (fun hsF => ?_)
 ·refine seq fun _ h18 => mv <| mv <| h18 _ _ <| ⟨(.tuple [.slice none 0 0, .int .i64 10].toArray), rfl, ?_⟩
  have je := open_sum (b := b) (by omega) (fun q => hsT (by simpa using (seal_eq (b := b) (by omega)).2 q))
  exact ⟨_, [], by rw [je], by rw [je]; exact Sl.nil 1 5, (hM16.addNil).keep (by simp)⟩
 refine h14 _ _ <| seq fun _ h19 => mv <| mv <| mv <| h19 _ _ <| ⟨(.tuple [v11, .int .i64 0].toArray), rfl, ?_⟩
 have je := open_ok (b := b) (by omega) ((seal_eq (by omega)).1 (by simpa using hsF))
 exact ⟨_, _, by rw [je], by rw [je]; simpa using hs11, hM16.keep (by simp)⟩
