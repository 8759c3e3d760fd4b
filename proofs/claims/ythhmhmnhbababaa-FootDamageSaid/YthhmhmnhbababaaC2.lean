/- Tiles; trailers. -/
import Derived.Test.YthhmhmnhbababaaC1
namespace Go.Proofs.Ythhmhmnhbababaa.E
open Go
theorem four_own (s b : Nat) : SlE byteV 5 (.slice (some ⟨b, 0, none⟩) 4 4) (fixed 4 s) [⟨b, 5, (fixed 4 s).map byteV⟩] := ⟨by simp [fixed_length], .inr ⟨b, 4, [], by rw [fixed_length], by simp, by simp [fixed_length], by simp [fixed_length]⟩⟩
/-- which trails may be -/
def mayT (bl pg : Int) : Prop := (0 ≤ bl ∧ bl ≤ 268435456) ∧ (1 ≤ pg ∧ pg ≤ 16793600) ∧ (pg % 4100 = 0 ∨ 5 ≤ pg % 4100)
instance (a b : Int) : Decidable (mayT a b) := by unfold mayT; infer_instance
def magic : List UInt8 := [119, 110, 119, 49]
/-- what the last bytes of a file tell: blocks, pages, the error -/
def trailF (b : List UInt8) (size : Int) : Int × Int × Int :=
  if ¬ b.length = 24 then (0, 0, 81) else if ¬ (openF b).2 = 0 then (0, 0, 81) else if ¬ (openF b).1.take 4 = magic then (0, 0, 81)
  else if ¬ mayT (word (((openF b).1.drop 4).take 8) : Nat) (word (((openF b).1.drop 12).take 8) : Nat) then (0, 0, 81)
  else if ((word (((openF b).1.drop 4).take 8) : Nat) : Int) + (word (((openF b).1.drop 12).take 8) : Nat) + 24 = size then ((word (((openF b).1.drop 4).take 8) : Nat), (word (((openF b).1.drop 12).take 8) : Nat), 0) else (0, 0, 82)

/-- crc.Sum -/
theorem Sum_ok (x : Value) (b : List UInt8) (w : World) (hx : RdE byteV w x b) (hl : b.length ≤ 140737488355328) : Calls Try.prog 71 [x].toArray w (Rt fun r w' => r = .int .u32 ((crcN 0 b : Nat) : Int) ∧ Upd [] w w') := by
  have hM0 : Mem w [] w [] := Mem.nil w []
  refine calls_vc mixed Try.func71 rfl C71 (by simp [Try.ntmps71]) ?_
  refine seq fun K1 h1 => ?_
  refine stp (v := .int .u32 0) (o_mv rfl) ?_
  refine h1 _ _ ?_
  clear h1
  refine seq fun K2 h2 => ?_
  refine stp (v := x) (o_mv rfl) ?_
  refine m_call (Extend_ok 0 (by omega) _ b w (hx.upd hM0.upd) (by first | omega | (simp; done) | (simp; omega))) rfl fun v3 w3 ⟨hr3, hu3⟩ => ?_
  have hM3 : Mem w [] w3 [] := hM0.pure hu3
  subst hr3
  refine stp (v := .int .u32 (crcN 0 b : Nat)) (o_mv rfl) ?_
  refine h2 _ _ ?_
  clear h2
  refine ⟨(.int .u32 (crcN 0 b : Nat)), rfl, ?_⟩
  exact ⟨rfl, hM3.upd⟩

/-- crc.four -/
theorem four_ok (s : Nat) (_hs : s < 4294967296) (w : World) : Calls Try.prog 70 [.int .u32 (s : Nat)].toArray w (Rt fun r w' => ∃ rs, SlE byteV 5 r (fixed 4 s) rs ∧ Mem w [] w' [rs]) := by
  have hM0 : Mem w [] w [] := Mem.nil w []
  refine calls_vc mixed Try.func70 rfl C70 (by simp [Try.ntmps70]) ?_
  refine seq fun K1 h1 => ?_
  refine stp (v := .slice none 0 0) (o_mv rfl) ?_
  refine h1 _ _ ?_
  clear h1
  refine seq fun K2 h2 => ?_
  refine stp (v := .int .u32 (s : Nat)) (o_mv rfl) ?_
  refine stp (v := byteV ((s % 256).toUInt8)) (o_conv rfl (byte4 _)) ?_
  refine stp (v := .int .u32 (s : Nat)) (o_mv rfl) ?_
  refine stp (v := .int .u32 (s / 256 : Nat)) (o_shr rfl rfl (by omega) (shr32 (j := 8) (by omega) rfl)) ?_
  refine stp (v := byteV (((s / 256) % 256).toUInt8)) (o_conv rfl (byte4 _)) ?_
  refine stp (v := .int .u32 (s : Nat)) (o_mv rfl) ?_
  refine stp (v := .int .u32 (s / 65536 : Nat)) (o_shr rfl rfl (by omega) (shr32 (j := 16) (by omega) rfl)) ?_
  refine stp (v := byteV (((s / 65536) % 256).toUInt8)) (o_conv rfl (byte4 _)) ?_
  refine stp (v := .int .u32 (s : Nat)) (o_mv rfl) ?_
  refine stp (v := .int .u32 (s / 16777216 : Nat)) (o_shr rfl rfl (by omega) (shr32 (j := 24) (by omega) rfl)) ?_
  refine stp (v := byteV (((s / 16777216) % 256).toUInt8)) (o_conv rfl (byte4 _)) ?_
  refine m_bs hM0 rfl fun b3 w4 (hM4 : Mem w [] w4 [[⟨b3, 5, [byteV ((s % 256).toUInt8), byteV (((s / 256) % 256).toUInt8), byteV (((s / 65536) % 256).toUInt8), byteV (((s / 16777216) % 256).toUInt8)]⟩]]) => ?_
  refine stp (v := .slice (some ⟨b3, 0, none⟩) 4 4) (o_mv rfl) ?_
  refine h2 _ _ ?_
  clear h2
  refine ⟨(.slice (some ⟨b3, 0, none⟩) 4 4), rfl, ?_⟩
  rw [fixed4]
  exact ⟨_, ⟨by simp, .inr ⟨_, 4, [], rfl, rfl, by simp, by simp⟩⟩, hM4⟩

/-- crc.Open -/
theorem Open_ok (x : Value) (b : List UInt8) (w : World) (hx : RdE byteV w x b) (hl : b.length ≤ 140737488355328) : Calls Try.prog 49 [x].toArray w (Rt fun r w' => ∃ v rs, r = .tuple #[v, .int .i64 (openF b).2] ∧ SlE byteV 5 v (openF b).1 rs ∧ Mem w [] w' [rs]) := by
  have hM0 : Mem w [] w [] := Mem.nil w []
  refine calls_vc mixed Try.func49 rfl C49 (by simp [Try.ntmps49]) ?_
  refine seq fun K1 h1 => ?_
  refine stp (v := .slice none 0 0) (o_mv rfl) ?_
  refine stp (v := .int .i64 0) (o_mv rfl) ?_
  refine h1 _ _ ?_
  clear h1
  refine seq fun K2 h2 => ?_
  refine stp (v := x) (o_mv rfl) ?_
  refine stp (v := .int .i64 (b.length : Nat)) (o_lenR (hx.upd hM0.upd) rfl rfl) ?_
  refine stp (v := .int .i64 ((b.length : Nat) - 4)) (o_bin rfl rfl (v_sub64 (by constructor <;> omega))) ?_
  refine stp (v := .int .i64 ((b.length : Nat) - 4)) (o_mv rfl) ?_
  refine h2 _ _ ?_
  clear h2
  refine seq fun K3 h3 => ?_
  refine seq fun K4 h4 => ?_
  refine stp (v := .int .i64 ((b.length : Nat) - 4)) (o_mv rfl) ?_
  refine stp (v := .bool (decide (((b.length : Nat) - 4 : Int) < 0))) (o_bin rfl rfl rfl) ?_
  refine h4 _ _ ?_
  clear h4
  refine cndP rfl (fun c5 => ?_) (fun c5 => ?_)
  ·
    refine seq fun K6 h6 => ?_
    refine stp (v := .slice none 0 0) (o_mv rfl) ?_
    refine stp (v := .int .i64 11) (o_mv rfl) ?_
    refine h6 _ _ ?_
    clear h6
    refine ⟨(.tuple [.slice none 0 0, .int .i64 11].toArray), rfl, ?_⟩
    have je := open_short (b := b) (by omega)
    exact ⟨_, [], by rw [je], by rw [je]; exact Sl.nil 1 5, (hM0.addNil).keep (by simp)⟩
  ·
    refine h3 _ _ ?_
    clear h3
    refine seq fun K7 h7 => ?_
    refine seq fun K8 h8 => ?_
    intro wd e1 e2 e3 e4
    have hd := Upd.same e1 e2 e3 e4 []
    have hM9 := hM0.pure hd
    clear e1 e2 e3 e4
    refine ⟨(some []), ?_⟩
    show vd _ _ _ _ _ _ _
    refine dq (v := x) (o_mv rfl) ?_
    refine dq (v := .int .i64 ((b.length : Nat) - 4)) (o_mv rfl) ?_
    refine dqp (m_slcE 0 (b.length - 4) (hx) rfl (by omega) (by omega) ⟨_, v_int (by omega)⟩ rfl fun u10 hu10 => ?_)
    show vd _ _ _ _ _ _ _
    refine dq (v := x) (o_mv rfl) ?_
    refine dq (v := .int .i64 ((b.length : Nat) - 4)) (o_mv rfl) ?_
    refine dqp (m_slcE (b.length - 4) b.length (hx) rfl (by omega) (by omega) rfl ⟨_, v_int (by omega)⟩ fun u11 hu11 => ?_)
    show vd _ _ _ _ _ _ _
    show _ ∧ _
    refine ⟨?_, ?_⟩
    ·
      show vd _ _ _ _ _ _ _
      refine dl (m_call (Sum_ok _ ((b.take (b.length - 4)).drop 0) wd ((hu10.upd hM9.upd)) (by first | omega | (simp; done) | (simp; omega))) rfl fun v12 w12 ⟨hr12, hu12⟩ => ?_)
      have hM12 : Mem w [] w12 [] := hM9.pure hu12
      subst hr12
      have hcl12 := crcN_lt 0 ((b.take (b.length - 4)).drop 0)
      refine ⟨(fun b hb => by cases hb), ?_⟩
      show _ ∧ _
      refine ⟨?_, ?_⟩
      ·
        show vd _ _ _ _ _ _ _
        refine dl (m_call (four_ok (crcN 0 ((b.take (b.length - 4)).drop 0)) (by first | assumption | exact crcN_lt _ _ | omega) w12) rfl fun v13 w13 ⟨rs13, hs13, hm13⟩ => ?_)
        have hM13 : Mem w [] w13 [rs13] := hM12.add hm13
        refine ⟨(fun b hb => by cases hb), ?_⟩
        show _ ∧ _
        refine ⟨?_, ?_⟩
        ·
          show vd _ _ _ _ _ _ _
          refine dl (m_b2s rfl (hs13.rd hM13 (i := 0) rfl) ?_)
          refine ⟨(fun b hb => by cases hb), ?_⟩
          refine dl (m_b2s rfl ((hu11.upd hM13.upd)) ?_)
          refine ⟨(fun b hb => by cases hb), ?_⟩
          refine dq (v := .bool (decide (¬ (fixed 4 (crcN 0 ((b.take (b.length - 4)).drop 0))) = ((b.take b.length).drop (b.length - 4))))) (o_sne rfl rfl rfl) ?_
          refine h8 _ _ ?_
          clear h8
          refine cndP rfl (fun hsT => ?_) (fun hsF => ?_)
          ·
            refine seq fun K15 h15 => ?_
            refine stp (v := .slice none 0 0) (o_mv rfl) ?_
            refine stp (v := .int .i64 10) (o_mv rfl) ?_
            refine h15 _ _ ?_
            clear h15
            refine ⟨(.tuple [.slice none 0 0, .int .i64 10].toArray), rfl, ?_⟩
            have je := open_sum (b := b) (by omega) (by simpa using hsT)
            exact ⟨_, [], by rw [je], by rw [je]; exact Sl.nil 1 5, (hM13.addNil).keep (by simp)⟩
          ·
            refine h7 _ _ ?_
            clear h7
            refine seq fun K16 h16 => ?_
            refine m_bs hM13 rfl fun b17 w18 (hM18 : Mem w [] w18 [rs13, [⟨b17, 5, []⟩]]) => ?_
            refine stp (v := x) (o_mv rfl) ?_
            refine stp (v := .int .i64 ((b.length : Nat) - 4)) (o_mv rfl) ?_
            refine m_slcE 0 (b.length - 4) (hx) rfl (by omega) (by omega) ⟨_, v_int (by omega)⟩ rfl fun u19 hu19 => ?_
            have hs20 : SlE byteV 5 (.slice (some ⟨b17, 0, none⟩) 0 0) [] [⟨b17, 5, []⟩] := SlE.lit (l := []) rfl
            refine m_appE hM18 (i := 1) rfl hs20 rfl rfl ((hu19.upd hM18.upd)) (by first | omega | (simp; omega)) (by omega) fun v21 w21 r21 (hs21 : SlE byteV 5 v21 ((b.take (b.length - 4)).drop 0) r21) (hM21 : Mem w [] w21 [rs13, r21]) => ?_
            refine stp (v := v21) (o_mv rfl) ?_
            refine stp (v := .int .i64 0) (o_mv rfl) ?_
            refine h16 _ _ ?_
            clear h16
            refine ⟨(.tuple [v21, .int .i64 0].toArray), rfl, ?_⟩
            have je := open_ok (b := b) (by omega) (by simpa using hsF)
            exact ⟨_, _, by rw [je], by rw [je]; simpa using hs21, hM21.keep (by simp)⟩
        ·
          show vd _ _ _ _ _ _ _
          refine dl (m_b2s rfl ((hu11.upd hM13.upd)) ?_)
          refine ⟨(fun b hb => by cases hb), ?_⟩
          refine dl (m_b2s rfl (hs13.rd hM13 (i := 0) rfl) ?_)
          refine ⟨(fun b hb => by cases hb), ?_⟩
          refine dq (v := .bool (decide (¬ (fixed 4 (crcN 0 ((b.take (b.length - 4)).drop 0))) = ((b.take b.length).drop (b.length - 4))))) (o_sne rfl rfl rfl) ?_
          refine h8 _ _ ?_
          clear h8
          refine cndP rfl (fun hsT => ?_) (fun hsF => ?_)
          ·
            refine seq fun K23 h23 => ?_
            refine stp (v := .slice none 0 0) (o_mv rfl) ?_
            refine stp (v := .int .i64 10) (o_mv rfl) ?_
            refine h23 _ _ ?_
            clear h23
            refine ⟨(.tuple [.slice none 0 0, .int .i64 10].toArray), rfl, ?_⟩
            have je := open_sum (b := b) (by omega) (by simpa using hsT)
            exact ⟨_, [], by rw [je], by rw [je]; exact Sl.nil 1 5, (hM13.addNil).keep (by simp)⟩
          ·
            refine h7 _ _ ?_
            clear h7
            refine seq fun K24 h24 => ?_
            refine m_bs hM13 rfl fun b25 w26 (hM26 : Mem w [] w26 [rs13, [⟨b25, 5, []⟩]]) => ?_
            refine stp (v := x) (o_mv rfl) ?_
            refine stp (v := .int .i64 ((b.length : Nat) - 4)) (o_mv rfl) ?_
            refine m_slcE 0 (b.length - 4) (hx) rfl (by omega) (by omega) ⟨_, v_int (by omega)⟩ rfl fun u27 hu27 => ?_
            have hs28 : SlE byteV 5 (.slice (some ⟨b25, 0, none⟩) 0 0) [] [⟨b25, 5, []⟩] := SlE.lit (l := []) rfl
            refine m_appE hM26 (i := 1) rfl hs28 rfl rfl ((hu27.upd hM26.upd)) (by first | omega | (simp; omega)) (by omega) fun v29 w29 r29 (hs29 : SlE byteV 5 v29 ((b.take (b.length - 4)).drop 0) r29) (hM29 : Mem w [] w29 [rs13, r29]) => ?_
            refine stp (v := v29) (o_mv rfl) ?_
            refine stp (v := .int .i64 0) (o_mv rfl) ?_
            refine h24 _ _ ?_
            clear h24
            refine ⟨(.tuple [v29, .int .i64 0].toArray), rfl, ?_⟩
            have je := open_ok (b := b) (by omega) (by simpa using hsF)
            exact ⟨_, _, by rw [je], by rw [je]; simpa using hs29, hM29.keep (by simp)⟩
      ·
        show vd _ _ _ _ _ _ _
        refine dl (m_b2s rfl ((hu11.upd hM12.upd)) ?_)
        refine ⟨(fun b hb => by cases hb), ?_⟩
        refine dl (m_call (four_ok (crcN 0 ((b.take (b.length - 4)).drop 0)) (by first | assumption | exact crcN_lt _ _ | omega) w12) rfl fun v30 w30 ⟨rs30, hs30, hm30⟩ => ?_)
        have hM30 : Mem w [] w30 [rs30] := hM12.add hm30
        refine ⟨(fun b hb => by cases hb), ?_⟩
        refine dl (m_b2s rfl (hs30.rd hM30 (i := 0) rfl) ?_)
        refine ⟨(fun b hb => by cases hb), ?_⟩
        refine dq (v := .bool (decide (¬ (fixed 4 (crcN 0 ((b.take (b.length - 4)).drop 0))) = ((b.take b.length).drop (b.length - 4))))) (o_sne rfl rfl rfl) ?_
        refine h8 _ _ ?_
        clear h8
        refine cndP rfl (fun hsT => ?_) (fun hsF => ?_)
        ·
          refine seq fun K32 h32 => ?_
          refine stp (v := .slice none 0 0) (o_mv rfl) ?_
          refine stp (v := .int .i64 10) (o_mv rfl) ?_
          refine h32 _ _ ?_
          clear h32
          refine ⟨(.tuple [.slice none 0 0, .int .i64 10].toArray), rfl, ?_⟩
          have je := open_sum (b := b) (by omega) (by simpa using hsT)
          exact ⟨_, [], by rw [je], by rw [je]; exact Sl.nil 1 5, (hM30.addNil).keep (by simp)⟩
        ·
          refine h7 _ _ ?_
          clear h7
          refine seq fun K33 h33 => ?_
          refine m_bs hM30 rfl fun b34 w35 (hM35 : Mem w [] w35 [rs30, [⟨b34, 5, []⟩]]) => ?_
          refine stp (v := x) (o_mv rfl) ?_
          refine stp (v := .int .i64 ((b.length : Nat) - 4)) (o_mv rfl) ?_
          refine m_slcE 0 (b.length - 4) (hx) rfl (by omega) (by omega) ⟨_, v_int (by omega)⟩ rfl fun u36 hu36 => ?_
          have hs37 : SlE byteV 5 (.slice (some ⟨b34, 0, none⟩) 0 0) [] [⟨b34, 5, []⟩] := SlE.lit (l := []) rfl
          refine m_appE hM35 (i := 1) rfl hs37 rfl rfl ((hu36.upd hM35.upd)) (by first | omega | (simp; omega)) (by omega) fun v38 w38 r38 (hs38 : SlE byteV 5 v38 ((b.take (b.length - 4)).drop 0) r38) (hM38 : Mem w [] w38 [rs30, r38]) => ?_
          refine stp (v := v38) (o_mv rfl) ?_
          refine stp (v := .int .i64 0) (o_mv rfl) ?_
          refine h33 _ _ ?_
          clear h33
          refine ⟨(.tuple [v38, .int .i64 0].toArray), rfl, ?_⟩
          have je := open_ok (b := b) (by omega) (by simpa using hsF)
          exact ⟨_, _, by rw [je], by rw [je]; simpa using hs38, hM38.keep (by simp)⟩
    ·
      show vd _ _ _ _ _ _ _
      refine dl (m_b2s rfl ((hu11.upd hM9.upd)) ?_)
      refine ⟨(fun b hb => by cases hb), ?_⟩
      refine dl (m_call (Sum_ok _ ((b.take (b.length - 4)).drop 0) wd ((hu10.upd hM9.upd)) (by first | omega | (simp; done) | (simp; omega))) rfl fun v39 w39 ⟨hr39, hu39⟩ => ?_)
      have hM39 : Mem w [] w39 [] := hM9.pure hu39
      subst hr39
      have hcl39 := crcN_lt 0 ((b.take (b.length - 4)).drop 0)
      refine ⟨(fun b hb => by cases hb), ?_⟩
      refine dl (m_call (four_ok (crcN 0 ((b.take (b.length - 4)).drop 0)) (by first | assumption | exact crcN_lt _ _ | omega) w39) rfl fun v40 w40 ⟨rs40, hs40, hm40⟩ => ?_)
      have hM40 : Mem w [] w40 [rs40] := hM39.add hm40
      refine ⟨(fun b hb => by cases hb), ?_⟩
      refine dl (m_b2s rfl (hs40.rd hM40 (i := 0) rfl) ?_)
      refine ⟨(fun b hb => by cases hb), ?_⟩
      refine dq (v := .bool (decide (¬ (fixed 4 (crcN 0 ((b.take (b.length - 4)).drop 0))) = ((b.take b.length).drop (b.length - 4))))) (o_sne rfl rfl rfl) ?_
      refine h8 _ _ ?_
      clear h8
      refine cndP rfl (fun hsT => ?_) (fun hsF => ?_)
      ·
        refine seq fun K42 h42 => ?_
        refine stp (v := .slice none 0 0) (o_mv rfl) ?_
        refine stp (v := .int .i64 10) (o_mv rfl) ?_
        refine h42 _ _ ?_
        clear h42
        refine ⟨(.tuple [.slice none 0 0, .int .i64 10].toArray), rfl, ?_⟩
        have je := open_sum (b := b) (by omega) (by simpa using hsT)
        exact ⟨_, [], by rw [je], by rw [je]; exact Sl.nil 1 5, (hM40.addNil).keep (by simp)⟩
      ·
        refine h7 _ _ ?_
        clear h7
        refine seq fun K43 h43 => ?_
        refine m_bs hM40 rfl fun b44 w45 (hM45 : Mem w [] w45 [rs40, [⟨b44, 5, []⟩]]) => ?_
        refine stp (v := x) (o_mv rfl) ?_
        refine stp (v := .int .i64 ((b.length : Nat) - 4)) (o_mv rfl) ?_
        refine m_slcE 0 (b.length - 4) (hx) rfl (by omega) (by omega) ⟨_, v_int (by omega)⟩ rfl fun u46 hu46 => ?_
        have hs47 : SlE byteV 5 (.slice (some ⟨b44, 0, none⟩) 0 0) [] [⟨b44, 5, []⟩] := SlE.lit (l := []) rfl
        refine m_appE hM45 (i := 1) rfl hs47 rfl rfl ((hu46.upd hM45.upd)) (by first | omega | (simp; omega)) (by omega) fun v48 w48 r48 (hs48 : SlE byteV 5 v48 ((b.take (b.length - 4)).drop 0) r48) (hM48 : Mem w [] w48 [rs40, r48]) => ?_
        refine stp (v := v48) (o_mv rfl) ?_
        refine stp (v := .int .i64 0) (o_mv rfl) ?_
        refine h43 _ _ ?_
        clear h43
        refine ⟨(.tuple [v48, .int .i64 0].toArray), rfl, ?_⟩
        have je := open_ok (b := b) (by omega) (by simpa using hsF)
        exact ⟨_, _, by rw [je], by rw [je]; simpa using hs48, hM48.keep (by simp)⟩
