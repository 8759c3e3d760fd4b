/- Entries as bytes, and back: the walks. -/
import Derived.Test.YtnkilhmkegmenaaF9
namespace Go.Proofs.Ytnkilhmkegmenaa.E
open Go
theorem decR_succ (b : List UInt8) (n : Nat) (s : Nat × Int) : (decR b (n + 1) s).1 = (decR b n s).1 ++ [entD b (decR b n s).2] := rfl
theorem decV_yes {b : List UInt8} (h : endE b (decS b).2.1 (decS b).2.2 = 0) (c : check (decS b).1 = 0) : decV b = ((decS b).1, 0) := by unfold decV; rw [if_pos ⟨h, c⟩]
theorem decV_not {b : List UInt8} (h : ¬ (endE b (decS b).2.1 (decS b).2.2 = 0 ∧ check (decS b).1 = 0)) : decV b = ([], 160) := by unfold decV; rw [if_neg h]
theorem decS_of {b : List UInt8} {i : Nat} (h : (i : Int) = nmV b 256 (0, 0)) : decR b i (nm b 256 (0, 0)) = decS b := by unfold decS decN; rw [← h, Int.toNat_natCast]

theorem NumS_ok (bc : Nat) (b : List UInt8) (s : Nat × Int) (m : Int) (r0 : List Ent) (w : World) (hc : CurS bc b s.1 s.2 r0) (hr : Res w r0) (hl : b.length ≤ 140737488355328) : Calls Try.prog 47 [.pointer (some ⟨bc, 0, none⟩), .int .i64 m].toArray w (Rt fun r w' => r = .int .i64 (nmV b m s) ∧ ∃ r', CurS bc b (nm b m s).1 (nm b m s).2 r' ∧ Mem w (ids r0) w' [r']) :=
  Num_ok bc b s.1 s.2 m r0 w hc hr hl

theorem FixS_ok (bc : Nat) (b : List UInt8) (s : Nat × Int) (m : Int) (r0 : List Ent) (w : World) (hc : CurS bc b s.1 s.2 r0) (hr : Res w r0) (hl : b.length ≤ 140737488355328) : Calls Try.prog 48 [.pointer (some ⟨bc, 0, none⟩), .int .i64 m].toArray w (Rt fun r w' => r = .int .u64 ((fxV b m s : Nat) : Int) ∧ ∃ r', CurS bc b (fx b m s).1 (fx b m s).2 r' ∧ Mem w (ids r0) w' [r']) :=
  cFixed_ok bc b s.1 s.2 m r0 w hc hr hl

attribute [local irreducible] fxV fx nmV nm

attribute [local irreducible] vr in
set_option maxHeartbeats 4000000 in
/-- fault.Decode -/
theorem Decode_ok (x : Value) (b : List UInt8) (w : World) (hx : RdE byteV w x b) (hl : b.length ≤ 140737488351232) : Calls Try.prog 33 [x].toArray w (Rt fun r w' => ∃ v rs, r = .tuple #[v, .int .i64 (decV b).2] ∧ SlS fltC 8 25 v (decV b).1 rs ∧ Mem w [] w' [rs]) := by
  have hM0 : Mem w [] w [] := Mem.nil w []
  have hnb := nmV_bd (b := b) (m := 256) (s := (0, 0)) (by omega)
  refine calls_vc mixed Try.func33 rfl C33 (by simp [Try.ntmps33]) ?_
  refine seq fun K1 h1 => ?_
  refine stp (v := .slice none 0 0) (o_mv rfl) ?_
  refine stp (v := .int .i64 0) (o_mv rfl) ?_
  refine vnil ?_
  refine h1 _ _ ?_
  clear h1
  refine seq fun K2 h2 => ?_
  refine stp (v := x) (o_mv rfl) ?_
  refine m_call (NewCursor_ok _ b w (hx.upd hM0.upd) (by first | omega | (simp; done) | (simp; omega))) rfl fun v3 w3 ⟨bc3, rs3, hr3, hc3, hm3⟩ => ?_
  have hM3 : Mem w [] w3 [rs3] := hM0.add hm3
  subst hr3
  refine stp (v := .pointer (some ⟨bc3, 0, none⟩)) (o_mv rfl) ?_
  refine vnil ?_
  refine h2 _ _ ?_
  clear h2
  refine seq fun K4 h4 => ?_
  refine stp (v := .slice none 0 0) (o_mv rfl) ?_
  refine vnil ?_
  refine h4 _ _ ?_
  clear h4
  refine seq fun K5 h5 => ?_
  refine seq fun K6 h6 => ?_
  refine stp (v := .pointer (some ⟨bc3, 0, none⟩)) (o_mv rfl) ?_
  refine m_call (NumS_ok _ b (0, 0) 256 rs3 w3 hc3 (hM3.res (i := 0) rfl) (by first | omega | (simp; done) | (simp; omega))) rfl fun v7 w7 ⟨hr7, r'7, hd7, hm7⟩ => ?_
  have hM7 : Mem w [] w7 [r'7] := hM3.step 0 rfl hm7
  have hb7 := nmV_bd (b := b) (m := 256) (s := (0, 0)) (by omega)
  obtain ⟨V7, hV7⟩ : ∃ V, V = nmV b 256 (0, 0) := ⟨_, rfl⟩
  obtain ⟨s7_, hS7⟩ : ∃ z, z = nm b 256 (0, 0) := ⟨_, rfl⟩
  rw [← hV7] at hr7 hb7
  rw [← hS7] at hd7
  subst hr7
  refine stp (v := .int .i64 0) (o_mv rfl) ?_
  refine vnil ?_
  refine h6 _ _ ?_
  clear h6
  have hM8 : Mem w [] w7 [r'7, []] := hM7.addNil
  have hs8 : SlS fltC 8 25 (.slice none 0 0) [] [] := Sl.nil 8 25
  refine lp (n := fun _ _ => False) (ι := (Nat) × (List Ent) × (Value) × (List Ent)) (fun ⟨i, rc, y5_, r5_⟩ f w' => f 4 = .pointer (some ⟨bc3, 0, none⟩) ∧ f 5 = y5_ ∧ f 10 = .int .i64 (i : Nat) ∧ f 9 = .int .i64 V7 ∧ Mem w [] w' [rc, r5_] ∧ (CurS bc3 b (decR b i (nm b 256 (0, 0))).2.1 (decR b i (nm b 256 (0, 0))).2.2 rc) ∧ ((i : Int) ≤ V7) ∧ (SlS fltC 8 25 y5_ ((decR b i (nm b 256 (0, 0))).1) r5_)) (fun ⟨i, rc, y5_, r5_⟩ => V7.toNat - i) (0, r'7, ((.slice none 0 0)), ([])) ?_ ?_
  · exact ⟨rfl, rfl, by first | rfl | exact v_int (by omega) | exact v_int (by simp) | exact v_int (by simp; omega), by first | rfl | exact v_int (by omega) | exact v_int (by simp) | exact v_int (by simp; omega), hM8, by rw [hS7] at hd7; exact hd7, by omega, by first | exact hs8 | simpa using hs8⟩
  · rintro ⟨i, rc, y5_, r5_⟩ f w9 ⟨e9_4, e9_5, e9_10, e9_9, hM9, hcl, hi, hy5_⟩ K10 h10
    obtain ⟨frm, rfl⟩ : ∃ frm, f = (upd (upd (upd (upd frm 4 (.pointer (some ⟨bc3, 0, none⟩))) 5 (y5_)) 10 (.int .i64 (i : Nat))) 9 (.int .i64 V7)) := ⟨f, by rw [upd_self e9_4, upd_self e9_5, upd_self e9_10, upd_self e9_9]⟩
    clear e9_4 e9_5 e9_10 e9_9
    refine seq fun K11 h11 => ?_
    refine stp (v := .bool (decide (((i : Nat) : Int) < V7))) (o_bin rfl rfl rfl) ?_
    refine vnil ?_
    refine h11 _ _ ?_
    clear h11
    refine seq fun K12 h12 => ?_
    refine cndP rfl (fun c13 => ?_) (fun c13 => ?_)
    ·
      refine h12 _ _ ?_
      clear h12
      refine seq fun K14 h14 => ?_
      have hdl := decR_length b i (nm b 256 (0, 0))
      refine stp (v := y5_) (o_mv rfl) ?_
      refine stp (v := .pointer (some ⟨bc3, 0, none⟩)) (o_mv rfl) ?_
      refine m_call (FixS_ok _ b (decR b i (nm b 256 (0, 0))).2 1 rc w9 hcl (hM9.res (i := 0) rfl) (by first | omega | (simp; done) | (simp; omega))) rfl fun v15 w15 ⟨hr15, r'15, hd15, hm15⟩ => ?_
      have hM15 : Mem w [] w15 [r'15, r5_] := hM9.step 0 rfl hm15
      have hb15 := fx1_lt (b := b) (s := (decR b i (nm b 256 (0, 0))).2)
      obtain ⟨V15, hV15⟩ : ∃ V, V = fxV b 1 ((decR b i (nm b 256 (0, 0))).2) := ⟨_, rfl⟩
      obtain ⟨s15_, hS15⟩ : ∃ z, z = fx b 1 ((decR b i (nm b 256 (0, 0))).2) := ⟨_, rfl⟩
      rw [← hV15] at hr15 hb15
      rw [← hS15] at hd15
      subst hr15
      refine stp (v := .int .i64 (V15 : Nat)) (o_conv rfl (v_same (by simp only [inK]; omega))) ?_
      refine stp (v := .pointer (some ⟨bc3, 0, none⟩)) (o_mv rfl) ?_
      refine m_call (FixS_ok _ b s15_ 1 r'15 w15 hd15 (hM15.res (i := 0) rfl) (by first | omega | (simp; done) | (simp; omega))) rfl fun v16 w16 ⟨hr16, r'16, hd16, hm16⟩ => ?_
      have hM16 : Mem w [] w16 [r'16, r5_] := hM15.step 0 rfl hm16
      have hb16 := fx1_lt (b := b) (s := s15_)
      obtain ⟨V16, hV16⟩ : ∃ V, V = fxV b 1 s15_ := ⟨_, rfl⟩
      obtain ⟨s16_, hS16⟩ : ∃ z, z = fx b 1 s15_ := ⟨_, rfl⟩
      rw [← hV16] at hr16 hb16
      rw [← hS16] at hd16
      subst hr16
      refine stp (v := .int .i64 (V16 : Nat)) (o_conv rfl (v_same (by simp only [inK]; omega))) ?_
      refine stp (v := .pointer (some ⟨bc3, 0, none⟩)) (o_mv rfl) ?_
      refine m_call (NumS_ok _ b s16_ 65535 r'16 w16 hd16 (hM16.res (i := 0) rfl) (by first | omega | (simp; done) | (simp; omega))) rfl fun v17 w17 ⟨hr17, r'17, hd17, hm17⟩ => ?_
      have hM17 : Mem w [] w17 [r'17, r5_] := hM16.step 0 rfl hm17
      have hb17 := nmV_bd (b := b) (m := 65535) (s := s16_) (by omega)
      obtain ⟨V17, hV17⟩ : ∃ V, V = nmV b 65535 s16_ := ⟨_, rfl⟩
      obtain ⟨s17_, hS17⟩ : ∃ z, z = nm b 65535 s16_ := ⟨_, rfl⟩
      rw [← hV17] at hr17 hb17
      rw [← hS17] at hd17
      subst hr17
      refine stp (v := .pointer (some ⟨bc3, 0, none⟩)) (o_mv rfl) ?_
      refine m_call (NumS_ok _ b s17_ 16 r'17 w17 hd17 (hM17.res (i := 0) rfl) (by first | omega | (simp; done) | (simp; omega))) rfl fun v18 w18 ⟨hr18, r'18, hd18, hm18⟩ => ?_
      have hM18 : Mem w [] w18 [r'18, r5_] := hM17.step 0 rfl hm18
      have hb18 := nmV_bd (b := b) (m := 16) (s := s17_) (by omega)
      obtain ⟨V18, hV18⟩ : ∃ V, V = nmV b 16 s17_ := ⟨_, rfl⟩
      obtain ⟨s18_, hS18⟩ : ∃ z, z = nm b 16 s17_ := ⟨_, rfl⟩
      rw [← hV18] at hr18 hb18
      rw [← hS18] at hd18
      subst hr18
      refine stp (v := .pointer (some ⟨bc3, 0, none⟩)) (o_mv rfl) ?_
      refine m_call (FixS_ok _ b s18_ 1 r'18 w18 hd18 (hM18.res (i := 0) rfl) (by first | omega | (simp; done) | (simp; omega))) rfl fun v19 w19 ⟨hr19, r'19, hd19, hm19⟩ => ?_
      have hM19 : Mem w [] w19 [r'19, r5_] := hM18.step 0 rfl hm19
      have hb19 := fx1_lt (b := b) (s := s18_)
      obtain ⟨V19, hV19⟩ : ∃ V, V = fxV b 1 s18_ := ⟨_, rfl⟩
      obtain ⟨s19_, hS19⟩ : ∃ z, z = fx b 1 s18_ := ⟨_, rfl⟩
      rw [← hV19] at hr19 hb19
      rw [← hS19] at hd19
      subst hr19
      refine stp (v := .int .i64 (V19 : Nat)) (o_conv rfl (v_same (by simp only [inK]; omega))) ?_
      refine stp (v := .pointer (some ⟨bc3, 0, none⟩)) (o_mv rfl) ?_
      refine m_call (NumS_ok _ b s19_ 65535 r'19 w19 hd19 (hM19.res (i := 0) rfl) (by first | omega | (simp; done) | (simp; omega))) rfl fun v20 w20 ⟨hr20, r'20, hd20, hm20⟩ => ?_
      have hM20 : Mem w [] w20 [r'20, r5_] := hM19.step 0 rfl hm20
      have hb20 := nmV_bd (b := b) (m := 65535) (s := s19_) (by omega)
      obtain ⟨V20, hV20⟩ : ∃ V, V = nmV b 65535 s19_ := ⟨_, rfl⟩
      obtain ⟨s20_, hS20⟩ : ∃ z, z = nm b 65535 s19_ := ⟨_, rfl⟩
      rw [← hV20] at hr20 hb20
      rw [← hS20] at hd20
      subst hr20
      refine stp (v := .pointer (some ⟨bc3, 0, none⟩)) (o_mv rfl) ?_
      refine m_call (FixS_ok _ b s20_ 8 r'20 w20 hd20 (hM20.res (i := 0) rfl) (by first | omega | (simp; done) | (simp; omega))) rfl fun v21 w21 ⟨hr21, r'21, hd21, hm21⟩ => ?_
      have hM21 : Mem w [] w21 [r'21, r5_] := hM20.step 0 rfl hm21
      have hb21 := fx8_lt (b := b) (s := s20_)
      obtain ⟨V21, hV21⟩ : ∃ V, V = fxV b 8 s20_ := ⟨_, rfl⟩
      obtain ⟨s21_, hS21⟩ : ∃ z, z = fx b 8 s20_ := ⟨_, rfl⟩
      rw [← hV21] at hr21 hb21
      rw [← hS21] at hd21
      subst hr21
      refine stp (v := .int .i64 (IntKind.i64.wrap (V21 : Nat))) (o_conv rfl (rfl)) ?_
      refine stp (v := .pointer (some ⟨bc3, 0, none⟩)) (o_mv rfl) ?_
      refine m_call (FixS_ok _ b s21_ 4 r'21 w21 hd21 (hM21.res (i := 0) rfl) (by first | omega | (simp; done) | (simp; omega))) rfl fun v22 w22 ⟨hr22, r'22, hd22, hm22⟩ => ?_
      have hM22 : Mem w [] w22 [r'22, r5_] := hM21.step 0 rfl hm22
      have hb22 := fx4_lt (b := b) (s := s21_)
      obtain ⟨V22, hV22⟩ : ∃ V, V = fxV b 4 s21_ := ⟨_, rfl⟩
      obtain ⟨s22_, hS22⟩ : ∃ z, z = fx b 4 s21_ := ⟨_, rfl⟩
      rw [← hV22] at hr22 hb22
      rw [← hS22] at hd22
      subst hr22
      refine stp (v := .int .u32 (IntKind.u32.wrap (V22 : Nat))) (o_conv rfl (rfl)) ?_
      refine stp (v := .agg ([.int .i64 (V15 : Nat), .int .i64 (V16 : Nat), .int .i64 V17, .int .i64 V18, .int .i64 (V19 : Nat), .int .i64 V20, .int .i64 (IntKind.i64.wrap (V21 : Nat)), .int .u32 (IntKind.u32.wrap (V22 : Nat))] : List Value).toArray) (o_bld2 (vs := [(0, 1, .int .i64 (V15 : Nat)), (1, 1, .int .i64 (V16 : Nat)), (2, 1, .int .i64 V17), (3, 1, .int .i64 V18), (4, 1, .int .i64 (V19 : Nat)), (5, 1, .int .i64 V20), (6, 1, .int .i64 (IntKind.i64.wrap (V21 : Nat))), (7, 1, .int .u32 (IntKind.u32.wrap (V22 : Nat)))]) rfl (by simp [fillC, Value.cells]) rfl) ?_
      refine m_app1S (enc := fltC) (q := (⟨(V15 : Nat), (V16 : Nat), V17, V18, (V19 : Nat), V20, IntKind.i64.wrap (V21 : Nat), IntKind.u32.wrap (V22 : Nat)⟩ : Flt)) hM22 (i := 1) rfl hy5_ rfl (by simp) (rfl) rfl (by first | omega | (simp; omega)) (by omega) fun v23 w23 r23 u23 (hs23 : SlS fltC 8 25 v23 (((decR b i (nm b 256 (0, 0))).1) ++ [(⟨(V15 : Nat), (V16 : Nat), V17, V18, (V19 : Nat), V20, IntKind.i64.wrap (V21 : Nat), IntKind.u32.wrap (V22 : Nat)⟩ : Flt)]) r23) (hM23 : Mem w [] w23 [r'22, r23]) => ?_
      refine stp (v := v23) (o_mv rfl) ?_
      refine vnil ?_
      refine h14 _ _ ?_
      clear h14
      refine stp (v := .int .i64 ((i : Nat) + 1)) (o_bin rfl rfl (v_add64 (by constructor <;> omega))) ?_
      refine stp (v := .int .i64 ((i : Nat) + 1)) (o_mv rfl) ?_
      refine vnil ?_
      refine h10 (i + 1, r'22, v23, r23) _ _ ⟨rfl, rfl, by first | rfl | exact v_int (by omega) | exact v_int (by simp) | exact v_int (by simp; omega), by first | rfl | exact v_int (by omega) | exact v_int (by simp) | exact v_int (by simp; omega), hM23, by subst_vars; exact hd22, by omega, by subst_vars; rw [decR_succ]; exact hs23⟩ (by (try dsimp only); omega)
    ·
      refine h5 _ _ ?_
      clear h5
      refine seq fun K24 h24 => ?_
      refine seq fun K25 h25 => ?_
      refine stp (v := .pointer (some ⟨bc3, 0, none⟩)) (o_mv rfl) ?_
      refine m_call (End_ok _ b (decR b i (nm b 256 (0, 0))).2.1 (decR b i (nm b 256 (0, 0))).2.2 rc w9 hcl (hM9.res (i := 0) rfl)) rfl fun v26 w26 ⟨hr26, hm26⟩ => ?_
      have hM26 : Mem w [] w26 [rc, r5_] := hM9.step 0 rfl hm26
      subst hr26
      refine stp (v := .int .i64 (endE b (decR b i (nm b 256 (0, 0))).2.1 (decR b i (nm b 256 (0, 0))).2.2)) (o_fld rfl rfl) ?_
      refine stp (v := .bool (decide (¬ (endE b (decR b i (nm b 256 (0, 0))).2.1 (decR b i (nm b 256 (0, 0))).2.2) = 0))) (o_bin rfl rfl v_neq) ?_
      refine stp (v := .bool (decide (¬ (endE b (decR b i (nm b 256 (0, 0))).2.1 (decR b i (nm b 256 (0, 0))).2.2) = 0))) (o_mv rfl) ?_
      refine splitP rfl (fun c27 => ?_) (fun c27 => ?_)
      ·
        refine gno rfl (by simp) ?_
        refine gnol rfl (by simp) ?_
        refine gno rfl (by simp) ?_
        refine stp (v := .bool true) (o_pickT rfl rfl) ?_
        refine vnil ?_
        refine h25 _ _ ?_
        clear h25
        refine cndT rfl ?_
        refine seq fun K28 h28 => ?_
        refine stp (v := .slice none 0 0) (o_mv rfl) ?_
        refine stp (v := .int .i64 160) (o_mv rfl) ?_
        refine vnil ?_
        refine h28 _ _ ?_
        clear h28
        refine ⟨(.tuple [.slice none 0 0, .int .i64 160].toArray), rfl, ?_⟩
        rw [decS_of (by omega)] at *
        have e := decV_not (b := b) (fun k => by have := k.1; omega)
        exact ⟨_, _, by rw [e], by rw [e]; exact Sl.nil 8 25, (hM26.addNil).keep (by simp)⟩
      ·
        refine stg rfl (v := y5_) (o_mv rfl) ?_
        refine gyesl rfl ?_
        refine m_call (Check_ok _ ((decR b i (nm b 256 (0, 0))).1) w26 (hy5_.rd hM26 (i := 1) rfl) (by first | exact hok | exact decR_ok _ _ _ | assumption) (by first | omega | (rw [decR_length]; omega) | (simp; omega))) rfl fun v29 w29 ⟨hr29, hu29⟩ => ?_
        have hM29 : Mem w [] w29 [rc, r5_] := hM26.pure hu29
        subst hr29
        refine stg rfl (v := .bool (decide (¬ (check ((decR b i (nm b 256 (0, 0))).1)) = 0))) (o_bin rfl rfl v_neq) ?_
        refine stp (v := .bool (decide (¬ (check ((decR b i (nm b 256 (0, 0))).1)) = 0))) (o_pickF rfl rfl) ?_
        refine vnil ?_
        refine h25 _ _ ?_
        clear h25
        refine cndP rfl (fun c30 => ?_) (fun c30 => ?_)
        ·
          refine seq fun K31 h31 => ?_
          refine stp (v := .slice none 0 0) (o_mv rfl) ?_
          refine stp (v := .int .i64 160) (o_mv rfl) ?_
          refine vnil ?_
          refine h31 _ _ ?_
          clear h31
          refine ⟨(.tuple [.slice none 0 0, .int .i64 160].toArray), rfl, ?_⟩
          rw [decS_of (by omega)] at *
          have e := decV_not (b := b) (fun k => by have := k.2; omega)
          exact ⟨_, _, by rw [e], by rw [e]; exact Sl.nil 8 25, (hM29.addNil).keep (by simp)⟩
        ·
          refine h24 _ _ ?_
          clear h24
          refine seq fun K32 h32 => ?_
          refine stp (v := y5_) (o_mv rfl) ?_
          refine stp (v := y5_) (o_mv rfl) ?_
          refine stp (v := .int .i64 0) (o_mv rfl) ?_
          refine vnil ?_
          refine h32 _ _ ?_
          clear h32
          refine ⟨(.tuple [y5_, .int .i64 0].toArray), rfl, ?_⟩
          rw [decS_of (by omega)] at *
          have e := decV_yes (b := b) (by omega) (by omega)
          exact ⟨_, _, by rw [e], by rw [e]; exact hy5_, (hM29.drop 0).keep (by simp)⟩
