/- Part 8 of the proof of what the last of these files says. -/
import Derived.Test.YtifnmbmijljhfaaPBt7
namespace Go.Proofs.Ytifnmbmijljhfaa.E
open Go
theorem Add_0 (bb R M : Nat) (raw : List UInt8) (st : List Int) (last : List UInt8) (n : Nat) (k v : List UInt8) (r0 : List Ent) (w : World) (hn : n = 0) (hB : BldS bb R M raw st last n r0) (hr : Res w r0) (hR : 1 ≤ R ∧ R ≤ 64) (hMl : M ≤ 65536) (hl : raw.length ≤ 65536 ∧ n ≤ 65536 ∧ st.length ≤ 65536 ∧ last.length ≤ 1024) (hk : k.length ≤ 140737488355328) (hv : v.length ≤ 140737488355328) : Calls Try.prog 20 [.pointer (some ⟨bb, 0, none⟩), .string (str k), .string (str v)].toArray w (Rt fun r w' => ∃ r', r = .int .i64 (addE R M raw last n k v) ∧ (¬ addE R M raw last n k v = 0 → BldS bb R M raw st last n r') ∧ (addE R M raw last n k v = 0 → BldS bb R M (raw ++ wrB (ahd R n last) k v) (if n % R = 0 then st ++ [(raw.length : Int)] else st) k (n + 1) r') ∧ Mem w (ids r0) w' [r']) := by
 obtain ⟨vr, vs, rr, rs, rfl, hvr, hvs⟩ := hB
 have hM0 : Mem w (ids (⟨bb, 98, [.int .i64 (R : Nat), .int .i64 (M : Nat), vr, vs, .string (str last), .int .i64 (n : Nat)]⟩ :: (rr ++ rs))) w [[⟨bb, 98, [.int .i64 (R : Nat), .int .i64 (M : Nat), vr, vs, .string (str last), .int .i64 (n : Nat)]⟩], rr, rs] := (Mem.start hr).keep (by simp)
 have hs : n % R = 0 := by rw [hn]; exact Nat.zero_mod R
 have ha : ahd R n last = [] := by unfold ahd; rw [if_pos hs]
 refine calls_vc mixed Try.func20 rfl C20 (by simp [Try.ntmps20]) <| seq fun _ h1 => mv <| h1 _ _ <| seq fun _ h2 => seq fun _ h3 => mv <| stp (v := .bool false) (o_isnil rfl rfl) <| h3 _ _ <| cndF rfl <| h2 _ _ <| seq fun _ h4 => seq fun _ h5 => mv ?_
 refine stp (v := .int .i64 (k.length : Nat)) (o_lens rfl rfl) <| bn rfl rfl <| mv <| splitP rfl (fun c6 => ?_) (fun c6 => ?_)
 ·refine gx rfl <| gx rfl <| gx rfl <| pkT rfl <| h5 _ _ <| cndT rfl <| seq fun _ h7 => mv <| h7 _ _ <| ⟨(.int .i64 2), rfl, ?_⟩
  have he : addE R M raw last n k v = 2 := by unfold addE; rw [if_pos (by omega)]
  rw [he]
  exact ⟨_, rfl, fun _ => ⟨_, _, _, _, rfl, hvr, hvs⟩, fun h => absurd h (by omega), hM0.keep (by simp)⟩
 refine gmv rfl <| stg rfl (v := .int .i64 (v.length : Nat)) (o_lens rfl rfl) <| gbn rfl rfl rfl <| pkF rfl <| h5 _ _ <| cndP rfl (fun c8 => ?_) (fun c8 => ?_)
 ·refine seq fun _ h9 => mv <| h9 _ _ <| ⟨(.int .i64 2), rfl, ?_⟩
  have he : addE R M raw last n k v = 2 := by unfold addE; rw [if_pos (by omega)]
  rw [he]
  exact ⟨_, rfl, fun _ => ⟨_, _, _, _, rfl, hvr, hvs⟩, fun h => absurd h (by omega), hM0.keep (by simp)⟩
 refine h4 _ _ <| seq fun _ h10 => seq fun _ h11 => mv <| nilchk rfl <| fa rfl <| m_ld (v := .int .i64 (n : Nat)) hM0 (i := 0) (j := 0) rfl rfl rfl rfl <| bn rfl rfl <| mv <| splitP rfl (fun c12 => absurd c12 (by omega)) (fun c12 => gx rfl <| gx rfl <| gx rfl <| gx rfl <| gxl rfl <| gxl rfl <| gx rfl <| pkF rfl <| h11 _ _ <| cndF rfl <| h10 _ _ <| seq fun _ h13 => ?_)
 intro wd e1 e2 e3 e4
 have hd := Upd.same e1 e2 e3 e4 []
 have hM14 := hM0.pure hd
 clear e1 e2 e3 e4
 refine ⟨none, ?_⟩
 show vd _ _ _ _ _ _ _
 refine dmv <| dq (v := .pointer (some ⟨bb, 0, none⟩)) (o_nilchk rfl rfl) <| dfa rfl <| dl (m_ld (v := .int .i64 (R : Nat)) hM14 (i := 0) (j := 0) rfl rfl rfl rfl <| ⟨rfl, dbn rfl rfl <| dmv <| dsplitP rfl (fun c15 => ?_) (fun c15 => (c15 (by omega)).elim)⟩)
 refine dgmv rfl <| dqg rfl (v := .pointer (some ⟨bb, 0, none⟩)) (o_nilchk rfl rfl) <| dgfa rfl rfl <| dgmv rfl <| dqg rfl (v := .pointer (some ⟨bb, 0, none⟩)) (o_nilchk rfl rfl) <| dgfa rfl rfl <| dqgyes rfl rfl <| dqld rfl (trivial) (v := .int .i64 (R : Nat)) ((hM14.at (i := 0) (j := 0) rfl rfl).cell 0) <| dgyesl rfl <| dl (m_ld (v := .int .i64 (n : Nat)) hM14 (i := 0) (j := 0) rfl rfl rfl rfl <| ⟨rfl, dqg rfl (v := .int .i64 (n % R : Nat)) (o_rem rfl rfl (by omega) ((v_rem (Int.natCast_nonneg _)).trans rfl)) <| dgbn rfl rfl rfl <| dpkT rfl <| dmv <| h13 _ _ <| seq fun _ h16 => mv <| nilchk rfl <| fa rfl <| m_ld (v := .string (str last)) hM14 (i := 0) (j := 0) rfl rfl rfl rfl <| mv <| h16 _ _ <| seq fun _ h17 => seq fun _ h18 => mv <| h18 _ _ <| cndP rfl (fun c19 => ?_) (fun c19 => (c19 (by omega)).elim)⟩)
 refine mv <| h17 _ _ <| seq fun _ h20 => mv <| mv <| mv <| m_call (written_ok ([]) k v wd (by first | assumption | omega | (simp; done)) (by omega) (by omega)) rfl fun v21 w21 ⟨rs21, hs21, hm21⟩ => ?_
 have hM21 : Mem w (ids (⟨bb, 98, [.int .i64 (R : Nat), .int .i64 (M : Nat), vr, vs, .string (str last), .int .i64 (n : Nat)]⟩ :: (rr ++ rs))) w21 [[⟨bb, 98, [.int .i64 (R : Nat), .int .i64 (M : Nat), vr, vs, .string (str last), .int .i64 (n : Nat)]⟩], rr, rs, rs21] := hM14.add hm21
 have hwl21 := wrB_len (a := ([])) (k := k) (v := v) (by omega) (by omega)
 refine mv <| h20 _ _ <| seq fun _ h22 => seq fun _ h23 => ?_
 intro wd e1 e2 e3 e4
 have hd := Upd.same e1 e2 e3 e4 []
 have hM24 := hM21.pure hd
 clear e1 e2 e3 e4
 refine ⟨(some [bb]), ?_⟩
 show vd _ _ _ _ _ _ _
 refine dmv <| dq (v := .pointer (some ⟨bb, 0, none⟩)) (o_nilchk rfl rfl) <| dfa rfl <| dl (m_ld (v := .int .i64 (n : Nat)) hM24 (i := 0) (j := 0) rfl rfl rfl rfl <| ⟨(fun b hb => rfl), dbn rfl rfl <| dmv <| dsplitP rfl (fun c25 => absurd c25 (by omega)) (fun c25 => dx rfl <| dx rfl <| dx rfl <| dx rfl <| dx rfl <| dx rfl <| dx rfl <| dx rfl <| dx rfl <| dx rfl <| dx rfl <| dx rfl <| dxq rfl <| dxq rfl <| dx rfl <| dxl rfl <| dx rfl <| dx rfl <| dxl rfl <| dx rfl <| dpkF rfl <| h23 _ _ <| cndF rfl <| h22 _ _ <| seq fun _ h26 => seq fun _ h27 => mv <| h27 _ _ <| cndP rfl (fun c28 => ?_) (fun c28 => (c28 (by omega)).elim))⟩)
 intro wd e1 e2 e3 e4
 have hd := Upd.same e1 e2 e3 e4 []
 have hM29 := hM24.pure hd
 clear e1 e2 e3 e4
 refine ⟨(some []), ?_⟩
 show vd _ _ _ _ _ _ _
 refine dmv <| dmv <| dq (v := .pointer (some ⟨bb, 0, none⟩)) (o_nilchk rfl rfl) <| dfa rfl <| dmv <| dq (v := .pointer (some ⟨bb, 0, none⟩)) (o_nilchk rfl rfl) <| dfa rfl ?_
 show _ ∧ _
 refine ⟨?_, ?_⟩
 ·show vd _ _ _ _ _ _ _
  refine dl (m_ld (v := vs) hM29 (i := 0) (j := 0) rfl rfl rfl rfl <| ⟨(fun b hb => by cases hb), dl (m_ld (v := vr) hM29 (i := 0) (j := 0) rfl rfl rfl rfl <| ⟨(fun b hb => by cases hb), dq (v := .int .i64 (raw.length : Nat)) (o_lenR (hvr.rd hM29 (i := 1) rfl) rfl rfl) <| dl (m_bs hM29 rfl fun b30 w31 (hM31 : Mem w (ids (⟨bb, 98, [.int .i64 (R : Nat), .int .i64 (M : Nat), vr, vs, .string (str last), .int .i64 (n : Nat)]⟩ :: (rr ++ rs))) w31 [[⟨bb, 98, [.int .i64 (R : Nat), .int .i64 (M : Nat), vr, vs, .string (str last), .int .i64 (n : Nat)]⟩], rr, rs, rs21, [⟨b30, 3, [.int .i64 (raw.length : Nat)]⟩]]) => ⟨(fun b hb => by cases hb), dl (m_appE hM31 (i := 2) rfl hvs rfl rfl (own_rdE (E := i64V) (l := [(((raw.length : Nat)) : Int)]) (hM31.at (i := 4) (j := 0) rfl rfl) rfl) (by first | omega | (simp; omega)) (by omega) fun v32 w32 r32 (hs32 : SlE i64V 3 v32 (st ++ ([(((raw.length : Nat)) : Int)])) r32) (hM32 : Mem w (ids (⟨bb, 98, [.int .i64 (R : Nat), .int .i64 (M : Nat), vr, vs, .string (str last), .int .i64 (n : Nat)]⟩ :: (rr ++ rs))) w32 [[⟨bb, 98, [.int .i64 (R : Nat), .int .i64 (M : Nat), vr, vs, .string (str last), .int .i64 (n : Nat)]⟩], rr, r32, rs21, [⟨b30, 3, [.int .i64 (raw.length : Nat)]⟩]]) => ⟨(fun b hb => by cases hb), dq (v := .pointer (some ⟨bb, 0, none⟩)) (o_nilchk rfl rfl) <| dfa rfl <| dl (m_st (v := v32) hM32 (i := 0) rfl rfl rfl (Sl.one hs32) (by simp) fun w33 (hM33 : Mem w (ids (⟨bb, 98, [.int .i64 (R : Nat), .int .i64 (M : Nat), vr, vs, .string (str last), .int .i64 (n : Nat)]⟩ :: (rr ++ rs))) w33 [[⟨bb, 98, [.int .i64 (R : Nat), .int .i64 (M : Nat), vr, v32, .string (str last), .int .i64 (n : Nat)]⟩], rr, r32, rs21, [⟨b30, 3, [.int .i64 (raw.length : Nat)]⟩]]) => ⟨(fun b hb => by cases hb), h26 _ _ ?_⟩)⟩)⟩)⟩)⟩)
  refine seq fun _ h34 => mv <| mv <| nilchk rfl <| fa rfl <| m_ld (v := vr) hM33 (i := 0) (j := 0) rfl rfl rfl rfl <| mv <| m_appE hM33 (i := 1) rfl hvr rfl rfl (hs21.rd hM33 (i := 3) rfl) (by first | omega | (simp; omega)) (by omega) fun v35 w35 r35 (hs35 : SlE byteV 5 v35 (raw ++ (wrB ([]) k v)) r35) (hM35 : Mem w (ids (⟨bb, 98, [.int .i64 (R : Nat), .int .i64 (M : Nat), vr, vs, .string (str last), .int .i64 (n : Nat)]⟩ :: (rr ++ rs))) w35 [[⟨bb, 98, [.int .i64 (R : Nat), .int .i64 (M : Nat), vr, v32, .string (str last), .int .i64 (n : Nat)]⟩], r35, r32, rs21, [⟨b30, 3, [.int .i64 (raw.length : Nat)]⟩]]) => nilchk rfl <| fa rfl <| m_st (v := v35) hM35 (i := 0) rfl rfl rfl (Sl.one hs35) (by simp) fun w36 (hM36 : Mem w (ids (⟨bb, 98, [.int .i64 (R : Nat), .int .i64 (M : Nat), vr, vs, .string (str last), .int .i64 (n : Nat)]⟩ :: (rr ++ rs))) w36 [[⟨bb, 98, [.int .i64 (R : Nat), .int .i64 (M : Nat), v35, v32, .string (str last), .int .i64 (n : Nat)]⟩], r35, r32, rs21, [⟨b30, 3, [.int .i64 (raw.length : Nat)]⟩]]) => h34 _ _ <| seq fun _ h37 => mv ?_
  refine mv <| nilchk rfl <| fa rfl <| m_st (v := .string (str k)) hM36 (i := 0) rfl rfl rfl rfl (by simp) fun w38 (hM38 : Mem w (ids (⟨bb, 98, [.int .i64 (R : Nat), .int .i64 (M : Nat), vr, vs, .string (str last), .int .i64 (n : Nat)]⟩ :: (rr ++ rs))) w38 [[⟨bb, 98, [.int .i64 (R : Nat), .int .i64 (M : Nat), v35, v32, .string (str k), .int .i64 (n : Nat)]⟩], r35, r32, rs21, [⟨b30, 3, [.int .i64 (raw.length : Nat)]⟩]]) => h37 _ _ <| seq fun _ h39 => mv <| nilchk rfl <| fa rfl <| m_ld (v := .int .i64 (n : Nat)) hM38 (i := 0) (j := 0) rfl rfl rfl rfl <| stp (v := .int .i64 ((n : Nat) + 1)) (o_bin rfl rfl (v_add64 (by omega))) <| nilchk rfl <| fa rfl <| m_st (v := .int .i64 ((n : Nat) + 1)) hM38 (i := 0) rfl rfl rfl rfl (by simp) fun w40 (hM40 : Mem w (ids (⟨bb, 98, [.int .i64 (R : Nat), .int .i64 (M : Nat), vr, vs, .string (str last), .int .i64 (n : Nat)]⟩ :: (rr ++ rs))) w40 [[⟨bb, 98, [.int .i64 (R : Nat), .int .i64 (M : Nat), v35, v32, .string (str k), .int .i64 ((n : Nat) + 1)]⟩], r35, r32, rs21, [⟨b30, 3, [.int .i64 (raw.length : Nat)]⟩]]) => ?_
  refine h39 _ _ <| seq fun _ h41 => mv <| h41 _ _ <| ⟨(.int .i64 0), rfl, ?_⟩
  have he : addE R M raw last n k v = 0 := by unfold addE; rw [if_neg (by omega), if_neg (by omega), if_neg (by first | omega | (rw [ha]; omega))]
  rw [he, ha, if_pos hs]
  exact ⟨_, rfl, fun h => absurd rfl h, fun _ => ⟨_, _, _, _, rfl, by assumption, by assumption⟩, hM40.keep (by simp)⟩
 show vd _ _ _ _ _ _ _
 refine dl (m_ld (v := vr) hM29 (i := 0) (j := 0) rfl rfl rfl rfl <| ⟨(fun b hb => by cases hb), dq (v := .int .i64 (raw.length : Nat)) (o_lenR (hvr.rd hM29 (i := 1) rfl) rfl rfl) ?_⟩)
 show _ ∧ _
 refine ⟨?_, ?_⟩
 ·show vd _ _ _ _ _ _ _
  refine dl (m_ld (v := vs) hM29 (i := 0) (j := 0) rfl rfl rfl rfl <| ⟨(fun b hb => by cases hb), dl (m_bs hM29 rfl fun b42 w43 (hM43 : Mem w (ids (⟨bb, 98, [.int .i64 (R : Nat), .int .i64 (M : Nat), vr, vs, .string (str last), .int .i64 (n : Nat)]⟩ :: (rr ++ rs))) w43 [[⟨bb, 98, [.int .i64 (R : Nat), .int .i64 (M : Nat), vr, vs, .string (str last), .int .i64 (n : Nat)]⟩], rr, rs, rs21, [⟨b42, 3, [.int .i64 (raw.length : Nat)]⟩]]) => ⟨(fun b hb => by cases hb), dl (m_appE hM43 (i := 2) rfl hvs rfl rfl (own_rdE (E := i64V) (l := [(((raw.length : Nat)) : Int)]) (hM43.at (i := 4) (j := 0) rfl rfl) rfl) (by first | omega | (simp; omega)) (by omega) fun v44 w44 r44 (hs44 : SlE i64V 3 v44 (st ++ ([(((raw.length : Nat)) : Int)])) r44) (hM44 : Mem w (ids (⟨bb, 98, [.int .i64 (R : Nat), .int .i64 (M : Nat), vr, vs, .string (str last), .int .i64 (n : Nat)]⟩ :: (rr ++ rs))) w44 [[⟨bb, 98, [.int .i64 (R : Nat), .int .i64 (M : Nat), vr, vs, .string (str last), .int .i64 (n : Nat)]⟩], rr, r44, rs21, [⟨b42, 3, [.int .i64 (raw.length : Nat)]⟩]]) => ⟨(fun b hb => by cases hb), dq (v := .pointer (some ⟨bb, 0, none⟩)) (o_nilchk rfl rfl) <| dfa rfl <| dl (m_st (v := v44) hM44 (i := 0) rfl rfl rfl (Sl.one hs44) (by simp) fun w45 (hM45 : Mem w (ids (⟨bb, 98, [.int .i64 (R : Nat), .int .i64 (M : Nat), vr, vs, .string (str last), .int .i64 (n : Nat)]⟩ :: (rr ++ rs))) w45 [[⟨bb, 98, [.int .i64 (R : Nat), .int .i64 (M : Nat), vr, v44, .string (str last), .int .i64 (n : Nat)]⟩], rr, r44, rs21, [⟨b42, 3, [.int .i64 (raw.length : Nat)]⟩]]) => ⟨(fun b hb => by cases hb), h26 _ _ <| seq fun _ h46 => mv <| mv ?_⟩)⟩)⟩)⟩)
  refine nilchk rfl <| fa rfl <| m_ld (v := vr) hM45 (i := 0) (j := 0) rfl rfl rfl rfl <| mv <| m_appE hM45 (i := 1) rfl hvr rfl rfl (hs21.rd hM45 (i := 3) rfl) (by first | omega | (simp; omega)) (by omega) fun v47 w47 r47 (hs47 : SlE byteV 5 v47 (raw ++ (wrB ([]) k v)) r47) (hM47 : Mem w (ids (⟨bb, 98, [.int .i64 (R : Nat), .int .i64 (M : Nat), vr, vs, .string (str last), .int .i64 (n : Nat)]⟩ :: (rr ++ rs))) w47 [[⟨bb, 98, [.int .i64 (R : Nat), .int .i64 (M : Nat), vr, v44, .string (str last), .int .i64 (n : Nat)]⟩], r47, r44, rs21, [⟨b42, 3, [.int .i64 (raw.length : Nat)]⟩]]) => nilchk rfl <| fa rfl <| m_st (v := v47) hM47 (i := 0) rfl rfl rfl (Sl.one hs47) (by simp) fun w48 (hM48 : Mem w (ids (⟨bb, 98, [.int .i64 (R : Nat), .int .i64 (M : Nat), vr, vs, .string (str last), .int .i64 (n : Nat)]⟩ :: (rr ++ rs))) w48 [[⟨bb, 98, [.int .i64 (R : Nat), .int .i64 (M : Nat), v47, v44, .string (str last), .int .i64 (n : Nat)]⟩], r47, r44, rs21, [⟨b42, 3, [.int .i64 (raw.length : Nat)]⟩]]) => h46 _ _ <| seq fun _ h49 => mv <| mv <| nilchk rfl <| fa rfl ?_
  refine m_st (v := .string (str k)) hM48 (i := 0) rfl rfl rfl rfl (by simp) fun w50 (hM50 : Mem w (ids (⟨bb, 98, [.int .i64 (R : Nat), .int .i64 (M : Nat), vr, vs, .string (str last), .int .i64 (n : Nat)]⟩ :: (rr ++ rs))) w50 [[⟨bb, 98, [.int .i64 (R : Nat), .int .i64 (M : Nat), v47, v44, .string (str k), .int .i64 (n : Nat)]⟩], r47, r44, rs21, [⟨b42, 3, [.int .i64 (raw.length : Nat)]⟩]]) => h49 _ _ <| seq fun _ h51 => mv <| nilchk rfl <| fa rfl <| m_ld (v := .int .i64 (n : Nat)) hM50 (i := 0) (j := 0) rfl rfl rfl rfl <| stp (v := .int .i64 ((n : Nat) + 1)) (o_bin rfl rfl (v_add64 (by omega))) <| nilchk rfl <| fa rfl <| m_st (v := .int .i64 ((n : Nat) + 1)) hM50 (i := 0) rfl rfl rfl rfl (by simp) fun w52 (hM52 : Mem w (ids (⟨bb, 98, [.int .i64 (R : Nat), .int .i64 (M : Nat), vr, vs, .string (str last), .int .i64 (n : Nat)]⟩ :: (rr ++ rs))) w52 [[⟨bb, 98, [.int .i64 (R : Nat), .int .i64 (M : Nat), v47, v44, .string (str k), .int .i64 ((n : Nat) + 1)]⟩], r47, r44, rs21, [⟨b42, 3, [.int .i64 (raw.length : Nat)]⟩]]) => h51 _ _ <| seq fun _ h53 => mv ?_
  refine h53 _ _ <| ⟨(.int .i64 0), rfl, ?_⟩
  have he : addE R M raw last n k v = 0 := by unfold addE; rw [if_neg (by omega), if_neg (by omega), if_neg (by first | omega | (rw [ha]; omega))]
  rw [he, ha, if_pos hs]
  exact ⟨_, rfl, fun h => absurd rfl h, fun _ => ⟨_, _, _, _, rfl, by assumption, by assumption⟩, hM52.keep (by simp)⟩
 show vd _ _ _ _ _ _ _
 refine dl (m_bs hM29 rfl fun b54 w55 (hM55 : Mem w (ids (⟨bb, 98, [.int .i64 (R : Nat), .int .i64 (M : Nat), vr, vs, .string (str last), .int .i64 (n : Nat)]⟩ :: (rr ++ rs))) w55 [[⟨bb, 98, [.int .i64 (R : Nat), .int .i64 (M : Nat), vr, vs, .string (str last), .int .i64 (n : Nat)]⟩], rr, rs, rs21, [⟨b54, 3, [.int .i64 (raw.length : Nat)]⟩]]) => ⟨(fun b hb => by cases hb), dl (m_ld (v := vs) hM55 (i := 0) (j := 0) rfl rfl rfl rfl <| ⟨(fun b hb => by cases hb), dl (m_appE hM55 (i := 2) rfl hvs rfl rfl (own_rdE (E := i64V) (l := [(((raw.length : Nat)) : Int)]) (hM55.at (i := 4) (j := 0) rfl rfl) rfl) (by first | omega | (simp; omega)) (by omega) fun v56 w56 r56 (hs56 : SlE i64V 3 v56 (st ++ ([(((raw.length : Nat)) : Int)])) r56) (hM56 : Mem w (ids (⟨bb, 98, [.int .i64 (R : Nat), .int .i64 (M : Nat), vr, vs, .string (str last), .int .i64 (n : Nat)]⟩ :: (rr ++ rs))) w56 [[⟨bb, 98, [.int .i64 (R : Nat), .int .i64 (M : Nat), vr, vs, .string (str last), .int .i64 (n : Nat)]⟩], rr, r56, rs21, [⟨b54, 3, [.int .i64 (raw.length : Nat)]⟩]]) => ⟨(fun b hb => by cases hb), dq (v := .pointer (some ⟨bb, 0, none⟩)) (o_nilchk rfl rfl) <| dfa rfl <| dl (m_st (v := v56) hM56 (i := 0) rfl rfl rfl (Sl.one hs56) (by simp) fun w57 (hM57 : Mem w (ids (⟨bb, 98, [.int .i64 (R : Nat), .int .i64 (M : Nat), vr, vs, .string (str last), .int .i64 (n : Nat)]⟩ :: (rr ++ rs))) w57 [[⟨bb, 98, [.int .i64 (R : Nat), .int .i64 (M : Nat), vr, v56, .string (str last), .int .i64 (n : Nat)]⟩], rr, r56, rs21, [⟨b54, 3, [.int .i64 (raw.length : Nat)]⟩]]) => ⟨(fun b hb => by cases hb), h26 _ _ <| seq fun _ h58 => mv <| mv <| nilchk rfl <| fa rfl <| m_ld (v := vr) hM57 (i := 0) (j := 0) rfl rfl rfl rfl <| mv <| m_appE hM57 (i := 1) rfl hvr rfl rfl (hs21.rd hM57 (i := 3) rfl) (by first | omega | (simp; omega)) (by omega) fun v59 w59 r59 (hs59 : SlE byteV 5 v59 (raw ++ (wrB ([]) k v)) r59) (hM59 : Mem w (ids (⟨bb, 98, [.int .i64 (R : Nat), .int .i64 (M : Nat), vr, vs, .string (str last), .int .i64 (n : Nat)]⟩ :: (rr ++ rs))) w59 [[⟨bb, 98, [.int .i64 (R : Nat), .int .i64 (M : Nat), vr, v56, .string (str last), .int .i64 (n : Nat)]⟩], r59, r56, rs21, [⟨b54, 3, [.int .i64 (raw.length : Nat)]⟩]]) => nilchk rfl <| fa rfl <| m_st (v := v59) hM59 (i := 0) rfl rfl rfl (Sl.one hs59) (by simp) fun w60 (hM60 : Mem w (ids (⟨bb, 98, [.int .i64 (R : Nat), .int .i64 (M : Nat), vr, vs, .string (str last), .int .i64 (n : Nat)]⟩ :: (rr ++ rs))) w60 [[⟨bb, 98, [.int .i64 (R : Nat), .int .i64 (M : Nat), v59, v56, .string (str last), .int .i64 (n : Nat)]⟩], r59, r56, rs21, [⟨b54, 3, [.int .i64 (raw.length : Nat)]⟩]]) => h58 _ _ <| seq fun _ h61 => mv <| mv <| nilchk rfl <| fa rfl <| m_st (v := .string (str k)) hM60 (i := 0) rfl rfl rfl rfl (by simp) fun w62 (hM62 : Mem w (ids (⟨bb, 98, [.int .i64 (R : Nat), .int .i64 (M : Nat), vr, vs, .string (str last), .int .i64 (n : Nat)]⟩ :: (rr ++ rs))) w62 [[⟨bb, 98, [.int .i64 (R : Nat), .int .i64 (M : Nat), v59, v56, .string (str k), .int .i64 (n : Nat)]⟩], r59, r56, rs21, [⟨b54, 3, [.int .i64 (raw.length : Nat)]⟩]]) => h61 _ _ <| seq fun _ h63 => mv <| nilchk rfl <| fa rfl <| m_ld (v := .int .i64 (n : Nat)) hM62 (i := 0) (j := 0) rfl rfl rfl rfl <| stp (v := .int .i64 ((n : Nat) + 1)) (o_bin rfl rfl (v_add64 (by omega))) <| nilchk rfl <| fa rfl <| m_st (v := .int .i64 ((n : Nat) + 1)) hM62 (i := 0) rfl rfl rfl rfl (by simp) fun w64 (hM64 : Mem w (ids (⟨bb, 98, [.int .i64 (R : Nat), .int .i64 (M : Nat), vr, vs, .string (str last), .int .i64 (n : Nat)]⟩ :: (rr ++ rs))) w64 [[⟨bb, 98, [.int .i64 (R : Nat), .int .i64 (M : Nat), v59, v56, .string (str k), .int .i64 ((n : Nat) + 1)]⟩], r59, r56, rs21, [⟨b54, 3, [.int .i64 (raw.length : Nat)]⟩]]) => h63 _ _ <| seq fun _ h65 => mv <| h65 _ _ <| ⟨(.int .i64 0), rfl, ?_⟩⟩)⟩)⟩)⟩)
 have he : addE R M raw last n k v = 0 := by unfold addE; rw [if_neg (by omega), if_neg (by omega), if_neg (by first | omega | (rw [ha]; omega))]
 rw [he, ha, if_pos hs]
 exact ⟨_, rfl, fun h => absurd rfl h, fun _ => ⟨_, _, _, _, rfl, by assumption, by assumption⟩, hM64.keep (by simp)⟩
theorem Add_1 (bb R M : Nat) (raw : List UInt8) (st : List Int) (last : List UInt8) (n : Nat) (k v : List UInt8) (r0 : List Ent) (w : World) (hn : 0 < n) (hs : n % R = 0) (hB : BldS bb R M raw st last n r0) (hr : Res w r0) (hR : 1 ≤ R ∧ R ≤ 64) (hMl : M ≤ 65536) (hl : raw.length ≤ 65536 ∧ n ≤ 65536 ∧ st.length ≤ 65536 ∧ last.length ≤ 1024) (hk : k.length ≤ 140737488355328) (hv : v.length ≤ 140737488355328) : Calls Try.prog 20 [.pointer (some ⟨bb, 0, none⟩), .string (str k), .string (str v)].toArray w (Rt fun r w' => ∃ r', r = .int .i64 (addE R M raw last n k v) ∧ (¬ addE R M raw last n k v = 0 → BldS bb R M raw st last n r') ∧ (addE R M raw last n k v = 0 → BldS bb R M (raw ++ wrB (ahd R n last) k v) (if n % R = 0 then st ++ [(raw.length : Int)] else st) k (n + 1) r') ∧ Mem w (ids r0) w' [r']) := by
 obtain ⟨vr, vs, rr, rs, rfl, hvr, hvs⟩ := hB
 have hM0 : Mem w (ids (⟨bb, 98, [.int .i64 (R : Nat), .int .i64 (M : Nat), vr, vs, .string (str last), .int .i64 (n : Nat)]⟩ :: (rr ++ rs))) w [[⟨bb, 98, [.int .i64 (R : Nat), .int .i64 (M : Nat), vr, vs, .string (str last), .int .i64 (n : Nat)]⟩], rr, rs] := (Mem.start hr).keep (by simp)
 have ha : ahd R n last = [] := by unfold ahd; rw [if_pos hs]
 refine calls_vc mixed Try.func20 rfl C20 (by simp [Try.ntmps20]) <| seq fun _ h1 => mv <| h1 _ _ <| seq fun _ h2 => seq fun _ h3 => mv <| stp (v := .bool false) (o_isnil rfl rfl) <| h3 _ _ <| cndF rfl <| h2 _ _ <| seq fun _ h4 => seq fun _ h5 => mv ?_
 refine stp (v := .int .i64 (k.length : Nat)) (o_lens rfl rfl) <| bn rfl rfl <| mv <| splitP rfl (fun c6 => ?_) (fun c6 => ?_)
 ·refine gx rfl <| gx rfl <| gx rfl <| pkT rfl <| h5 _ _ <| cndT rfl <| seq fun _ h7 => mv <| h7 _ _ <| ⟨(.int .i64 2), rfl, ?_⟩
  have he : addE R M raw last n k v = 2 := by unfold addE; rw [if_pos (by omega)]
  rw [he]
  exact ⟨_, rfl, fun _ => ⟨_, _, _, _, rfl, hvr, hvs⟩, fun h => absurd h (by omega), hM0.keep (by simp)⟩
 refine gmv rfl <| stg rfl (v := .int .i64 (v.length : Nat)) (o_lens rfl rfl) <| gbn rfl rfl rfl <| pkF rfl <| h5 _ _ <| cndP rfl (fun c8 => ?_) (fun c8 => ?_)
 ·refine seq fun _ h9 => mv <| h9 _ _ <| ⟨(.int .i64 2), rfl, ?_⟩
  have he : addE R M raw last n k v = 2 := by unfold addE; rw [if_pos (by omega)]
  rw [he]
  exact ⟨_, rfl, fun _ => ⟨_, _, _, _, rfl, hvr, hvs⟩, fun h => absurd h (by omega), hM0.keep (by simp)⟩
 refine h4 _ _ <| seq fun _ h10 => seq fun _ h11 => mv <| nilchk rfl <| fa rfl <| m_ld (v := .int .i64 (n : Nat)) hM0 (i := 0) (j := 0) rfl rfl rfl rfl <| bn rfl rfl <| mv <| splitP rfl (fun c12 => ?_) (fun c12 => (c12 (by omega)).elim)
 refine gmv rfl <| gmv rfl <| stg rfl (v := .pointer (some ⟨bb, 0, none⟩)) (o_nilchk rfl rfl) <| gfa rfl rfl <| gyesl rfl <| m_ld (v := .string (str last)) hM0 (i := 0) (j := 0) rfl rfl rfl rfl <| gyesl rfl <| m_call (Compare_ok k last w (by first | omega | (simp; done) | (simp; omega)) (by first | omega | (simp; done) | (simp; omega))) rfl fun v13 w13 ⟨hr13, hu13⟩ => ?_
 have hM13 : Mem w (ids (⟨bb, 98, [.int .i64 (R : Nat), .int .i64 (M : Nat), vr, vs, .string (str last), .int .i64 (n : Nat)]⟩ :: (rr ++ rs))) w13 [[⟨bb, 98, [.int .i64 (R : Nat), .int .i64 (M : Nat), vr, vs, .string (str last), .int .i64 (n : Nat)]⟩], rr, rs] := hM0.pure hu13
 subst hr13
 refine gbn rfl rfl rfl <| pkT rfl <| h11 _ _ <| cndP rfl (fun c14 => ?_) (fun c14 => ?_)
 ·refine seq fun _ h15 => mv <| h15 _ _ <| ⟨(.int .i64 61), rfl, ?_⟩
  have he : addE R M raw last n k v = 61 := by unfold addE; rw [if_neg (by omega), if_pos (by omega)]
  rw [he]
  exact ⟨_, rfl, fun _ => ⟨_, _, _, _, rfl, hvr, hvs⟩, fun h => absurd h (by omega), hM13.keep (by simp)⟩
 refine h10 _ _ <| seq fun _ h16 => ?_
 intro wd e1 e2 e3 e4
 have hd := Upd.same e1 e2 e3 e4 []
 have hM17 := hM13.pure hd
 clear e1 e2 e3 e4
 refine ⟨none, ?_⟩
 show vd _ _ _ _ _ _ _
 refine dmv <| dq (v := .pointer (some ⟨bb, 0, none⟩)) (o_nilchk rfl rfl) <| dfa rfl <| dl (m_ld (v := .int .i64 (R : Nat)) hM17 (i := 0) (j := 0) rfl rfl rfl rfl <| ⟨rfl, dbn rfl rfl <| dmv <| dsplitP rfl (fun c18 => ?_) (fun c18 => (c18 (by omega)).elim)⟩)
 refine dgmv rfl <| dqg rfl (v := .pointer (some ⟨bb, 0, none⟩)) (o_nilchk rfl rfl) <| dgfa rfl rfl <| dgmv rfl <| dqg rfl (v := .pointer (some ⟨bb, 0, none⟩)) (o_nilchk rfl rfl) <| dgfa rfl rfl <| dqgyes rfl rfl <| dqld rfl (trivial) (v := .int .i64 (R : Nat)) ((hM17.at (i := 0) (j := 0) rfl rfl).cell 0) <| dgyesl rfl <| dl (m_ld (v := .int .i64 (n : Nat)) hM17 (i := 0) (j := 0) rfl rfl rfl rfl <| ⟨rfl, dqg rfl (v := .int .i64 (n % R : Nat)) (o_rem rfl rfl (by omega) ((v_rem (Int.natCast_nonneg _)).trans rfl)) <| dgbn rfl rfl rfl <| dpkT rfl <| dmv <| h16 _ _ <| seq fun _ h19 => mv <| nilchk rfl <| fa rfl <| m_ld (v := .string (str last)) hM17 (i := 0) (j := 0) rfl rfl rfl rfl <| mv <| h19 _ _ <| seq fun _ h20 => seq fun _ h21 => mv <| h21 _ _ <| cndP rfl (fun c22 => ?_) (fun c22 => (c22 (by omega)).elim)⟩)
 refine mv <| h20 _ _ <| seq fun _ h23 => mv <| mv <| mv <| m_call (written_ok ([]) k v wd (by first | assumption | omega | (simp; done)) (by omega) (by omega)) rfl fun v24 w24 ⟨rs24, hs24, hm24⟩ => ?_
 have hM24 : Mem w (ids (⟨bb, 98, [.int .i64 (R : Nat), .int .i64 (M : Nat), vr, vs, .string (str last), .int .i64 (n : Nat)]⟩ :: (rr ++ rs))) w24 [[⟨bb, 98, [.int .i64 (R : Nat), .int .i64 (M : Nat), vr, vs, .string (str last), .int .i64 (n : Nat)]⟩], rr, rs, rs24] := hM17.add hm24
 have hwl24 := wrB_len (a := ([])) (k := k) (v := v) (by omega) (by omega)
 refine mv <| h23 _ _ <| seq fun _ h25 => seq fun _ h26 => ?_
 intro wd e1 e2 e3 e4
 have hd := Upd.same e1 e2 e3 e4 []
 have hM27 := hM24.pure hd
 clear e1 e2 e3 e4
 refine ⟨(some [bb]), ?_⟩
 show vd _ _ _ _ _ _ _
 refine dmv <| dq (v := .pointer (some ⟨bb, 0, none⟩)) (o_nilchk rfl rfl) <| dfa rfl <| dl (m_ld (v := .int .i64 (n : Nat)) hM27 (i := 0) (j := 0) rfl rfl rfl rfl <| ⟨(fun b hb => rfl), dbn rfl rfl <| dmv <| dsplitP rfl (fun c28 => ?_) (fun c28 => (c28 (by omega)).elim)⟩)
 refine dgmv rfl <| dgmv rfl <| dqg rfl (v := .pointer (some ⟨bb, 0, none⟩)) (o_nilchk rfl rfl) <| dgfa rfl rfl <| dgmv rfl <| dqg rfl (v := .int .i64 ((wrB ([]) k v).length : Nat)) (o_lenR (hs24.rd hM27 (i := 3) rfl) rfl rfl) <| dgmv rfl <| dqg rfl (v := .pointer (some ⟨bb, 0, none⟩)) (o_nilchk rfl rfl) <| dgfa rfl rfl <| dgmv rfl <| dqg rfl (v := .pointer (some ⟨bb, 0, none⟩)) (o_nilchk rfl rfl) <| dgfa rfl rfl <| dqgyes rfl rfl <| dqld rfl (by simp [isHeld]) (v := .int .i64 (M : Nat)) ((hM27.at (i := 0) (j := 0) rfl rfl).cell 1) <| dqgyes rfl rfl <| dqld rfl (by simp [isHeld]) (v := .int .i64 (n : Nat)) ((hM27.at (i := 0) (j := 0) rfl rfl).cell 5) <| dqg rfl (v := .int .i64 (n + 1 : Nat)) (o_bin rfl rfl ((v_add64 (by omega)).trans (v_int (by omega)))) <| dgyesl rfl <| dl (m_ld (v := vr) hM27 (i := 0) (j := 0) rfl rfl rfl rfl <| ⟨(fun b hb => rfl), dqg rfl (v := .int .i64 (raw.length : Nat)) (o_lenR (hvr.rd hM27 (i := 1) rfl) rfl rfl) <| dqg rfl (v := .int .i64 (raw.length + (wrB [] k v).length : Nat)) (o_bin rfl rfl ((v_add64 (by omega)).trans (v_int (by omega)))) <| dgyesl rfl <| dl (m_call (size_ok bb R _ (raw.length + (wrB [] k v).length : Nat) (n + 1) wd (hM27.at (i := 0) (j := 0) rfl rfl) hR (by omega) (by omega)) rfl fun v29 w29 ⟨hr29, hu29⟩ => ?_)⟩)
 have hM29 : Mem w (ids (⟨bb, 98, [.int .i64 (R : Nat), .int .i64 (M : Nat), vr, vs, .string (str last), .int .i64 (n : Nat)]⟩ :: (rr ++ rs))) w29 [[⟨bb, 98, [.int .i64 (R : Nat), .int .i64 (M : Nat), vr, vs, .string (str last), .int .i64 (n : Nat)]⟩], rr, rs, rs24] := hM27.pure hu29
 subst hr29
 have hh29 := held_upd (wr := wd) (bs := [bb]) hu29 (fun b hb => by
  simp only [List.mem_cons, List.not_mem_nil, or_false] at hb
  rw [hb]; exact ⟨(hM27.at (i := 0) (j := 0) rfl rfl).lt, by simp⟩) (fun b hb => rfl)
 refine ⟨hh29, dgbn rfl rfl rfl <| dpkT rfl <| h26 _ _ <| cndP rfl (fun c30 => ?_) (fun c30 => ?_)⟩
 ·refine seq fun _ h31 => mv <| h31 _ _ <| ⟨(.int .i64 62), rfl, ?_⟩
  have he : addE R M raw last n k v = 62 := by unfold addE; rw [if_neg (by omega), if_neg (by omega), if_pos (by rw [ha]; omega)]
  rw [he]
  exact ⟨_, rfl, fun _ => ⟨_, _, _, _, rfl, hvr, hvs⟩, fun h => absurd h (by omega), hM29.keep (by simp)⟩
 refine h25 _ _ <| seq fun _ h32 => seq fun _ h33 => mv <| h33 _ _ <| cndP rfl (fun c34 => ?_) (fun c34 => (c34 (by omega)).elim)
 intro wd e1 e2 e3 e4
 have hd := Upd.same e1 e2 e3 e4 []
 have hM35 := hM29.pure hd
 clear e1 e2 e3 e4
 refine ⟨(some []), ?_⟩
 show vd _ _ _ _ _ _ _
 refine dmv <| dmv <| dq (v := .pointer (some ⟨bb, 0, none⟩)) (o_nilchk rfl rfl) <| dfa rfl <| dmv <| dq (v := .pointer (some ⟨bb, 0, none⟩)) (o_nilchk rfl rfl) <| dfa rfl ?_
 show _ ∧ _
 refine ⟨?_, ?_⟩
 ·show vd _ _ _ _ _ _ _
  refine dl (m_ld (v := vs) hM35 (i := 0) (j := 0) rfl rfl rfl rfl <| ⟨(fun b hb => by cases hb), dl (m_ld (v := vr) hM35 (i := 0) (j := 0) rfl rfl rfl rfl <| ⟨(fun b hb => by cases hb), dq (v := .int .i64 (raw.length : Nat)) (o_lenR (hvr.rd hM35 (i := 1) rfl) rfl rfl) <| dl (m_bs hM35 rfl fun b36 w37 (hM37 : Mem w (ids (⟨bb, 98, [.int .i64 (R : Nat), .int .i64 (M : Nat), vr, vs, .string (str last), .int .i64 (n : Nat)]⟩ :: (rr ++ rs))) w37 [[⟨bb, 98, [.int .i64 (R : Nat), .int .i64 (M : Nat), vr, vs, .string (str last), .int .i64 (n : Nat)]⟩], rr, rs, rs24, [⟨b36, 3, [.int .i64 (raw.length : Nat)]⟩]]) => ⟨(fun b hb => by cases hb), dl (m_appE hM37 (i := 2) rfl hvs rfl rfl (own_rdE (E := i64V) (l := [(((raw.length : Nat)) : Int)]) (hM37.at (i := 4) (j := 0) rfl rfl) rfl) (by first | omega | (simp; omega)) (by omega) fun v38 w38 r38 (hs38 : SlE i64V 3 v38 (st ++ ([(((raw.length : Nat)) : Int)])) r38) (hM38 : Mem w (ids (⟨bb, 98, [.int .i64 (R : Nat), .int .i64 (M : Nat), vr, vs, .string (str last), .int .i64 (n : Nat)]⟩ :: (rr ++ rs))) w38 [[⟨bb, 98, [.int .i64 (R : Nat), .int .i64 (M : Nat), vr, vs, .string (str last), .int .i64 (n : Nat)]⟩], rr, r38, rs24, [⟨b36, 3, [.int .i64 (raw.length : Nat)]⟩]]) => ⟨(fun b hb => by cases hb), dq (v := .pointer (some ⟨bb, 0, none⟩)) (o_nilchk rfl rfl) <| dfa rfl <| dl (m_st (v := v38) hM38 (i := 0) rfl rfl rfl (Sl.one hs38) (by simp) fun w39 (hM39 : Mem w (ids (⟨bb, 98, [.int .i64 (R : Nat), .int .i64 (M : Nat), vr, vs, .string (str last), .int .i64 (n : Nat)]⟩ :: (rr ++ rs))) w39 [[⟨bb, 98, [.int .i64 (R : Nat), .int .i64 (M : Nat), vr, v38, .string (str last), .int .i64 (n : Nat)]⟩], rr, r38, rs24, [⟨b36, 3, [.int .i64 (raw.length : Nat)]⟩]]) => ⟨(fun b hb => by cases hb), h32 _ _ ?_⟩)⟩)⟩)⟩)⟩)
  refine seq fun _ h40 => mv <| mv <| nilchk rfl <| fa rfl <| m_ld (v := vr) hM39 (i := 0) (j := 0) rfl rfl rfl rfl <| mv <| m_appE hM39 (i := 1) rfl hvr rfl rfl (hs24.rd hM39 (i := 3) rfl) (by first | omega | (simp; omega)) (by omega) fun v41 w41 r41 (hs41 : SlE byteV 5 v41 (raw ++ (wrB ([]) k v)) r41) (hM41 : Mem w (ids (⟨bb, 98, [.int .i64 (R : Nat), .int .i64 (M : Nat), vr, vs, .string (str last), .int .i64 (n : Nat)]⟩ :: (rr ++ rs))) w41 [[⟨bb, 98, [.int .i64 (R : Nat), .int .i64 (M : Nat), vr, v38, .string (str last), .int .i64 (n : Nat)]⟩], r41, r38, rs24, [⟨b36, 3, [.int .i64 (raw.length : Nat)]⟩]]) => nilchk rfl <| fa rfl <| m_st (v := v41) hM41 (i := 0) rfl rfl rfl (Sl.one hs41) (by simp) fun w42 (hM42 : Mem w (ids (⟨bb, 98, [.int .i64 (R : Nat), .int .i64 (M : Nat), vr, vs, .string (str last), .int .i64 (n : Nat)]⟩ :: (rr ++ rs))) w42 [[⟨bb, 98, [.int .i64 (R : Nat), .int .i64 (M : Nat), v41, v38, .string (str last), .int .i64 (n : Nat)]⟩], r41, r38, rs24, [⟨b36, 3, [.int .i64 (raw.length : Nat)]⟩]]) => h40 _ _ <| seq fun _ h43 => mv ?_
  refine mv <| nilchk rfl <| fa rfl <| m_st (v := .string (str k)) hM42 (i := 0) rfl rfl rfl rfl (by simp) fun w44 (hM44 : Mem w (ids (⟨bb, 98, [.int .i64 (R : Nat), .int .i64 (M : Nat), vr, vs, .string (str last), .int .i64 (n : Nat)]⟩ :: (rr ++ rs))) w44 [[⟨bb, 98, [.int .i64 (R : Nat), .int .i64 (M : Nat), v41, v38, .string (str k), .int .i64 (n : Nat)]⟩], r41, r38, rs24, [⟨b36, 3, [.int .i64 (raw.length : Nat)]⟩]]) => h43 _ _ <| seq fun _ h45 => mv <| nilchk rfl <| fa rfl <| m_ld (v := .int .i64 (n : Nat)) hM44 (i := 0) (j := 0) rfl rfl rfl rfl <| stp (v := .int .i64 ((n : Nat) + 1)) (o_bin rfl rfl (v_add64 (by omega))) <| nilchk rfl <| fa rfl <| m_st (v := .int .i64 ((n : Nat) + 1)) hM44 (i := 0) rfl rfl rfl rfl (by simp) fun w46 (hM46 : Mem w (ids (⟨bb, 98, [.int .i64 (R : Nat), .int .i64 (M : Nat), vr, vs, .string (str last), .int .i64 (n : Nat)]⟩ :: (rr ++ rs))) w46 [[⟨bb, 98, [.int .i64 (R : Nat), .int .i64 (M : Nat), v41, v38, .string (str k), .int .i64 ((n : Nat) + 1)]⟩], r41, r38, rs24, [⟨b36, 3, [.int .i64 (raw.length : Nat)]⟩]]) => ?_
  refine h45 _ _ <| seq fun _ h47 => mv <| h47 _ _ <| ⟨(.int .i64 0), rfl, ?_⟩
  have he : addE R M raw last n k v = 0 := by unfold addE; rw [if_neg (by omega), if_neg (by omega), if_neg (by first | omega | (rw [ha]; omega))]
  rw [he, ha, if_pos hs]
  exact ⟨_, rfl, fun h => absurd rfl h, fun _ => ⟨_, _, _, _, rfl, by assumption, by assumption⟩, hM46.keep (by simp)⟩
 show vd _ _ _ _ _ _ _
 refine dl (m_ld (v := vr) hM35 (i := 0) (j := 0) rfl rfl rfl rfl <| ⟨(fun b hb => by cases hb), dq (v := .int .i64 (raw.length : Nat)) (o_lenR (hvr.rd hM35 (i := 1) rfl) rfl rfl) ?_⟩)
 show _ ∧ _
 refine ⟨?_, ?_⟩
 ·show vd _ _ _ _ _ _ _
  refine dl (m_ld (v := vs) hM35 (i := 0) (j := 0) rfl rfl rfl rfl <| ⟨(fun b hb => by cases hb), dl (m_bs hM35 rfl fun b48 w49 (hM49 : Mem w (ids (⟨bb, 98, [.int .i64 (R : Nat), .int .i64 (M : Nat), vr, vs, .string (str last), .int .i64 (n : Nat)]⟩ :: (rr ++ rs))) w49 [[⟨bb, 98, [.int .i64 (R : Nat), .int .i64 (M : Nat), vr, vs, .string (str last), .int .i64 (n : Nat)]⟩], rr, rs, rs24, [⟨b48, 3, [.int .i64 (raw.length : Nat)]⟩]]) => ⟨(fun b hb => by cases hb), dl (m_appE hM49 (i := 2) rfl hvs rfl rfl (own_rdE (E := i64V) (l := [(((raw.length : Nat)) : Int)]) (hM49.at (i := 4) (j := 0) rfl rfl) rfl) (by first | omega | (simp; omega)) (by omega) fun v50 w50 r50 (hs50 : SlE i64V 3 v50 (st ++ ([(((raw.length : Nat)) : Int)])) r50) (hM50 : Mem w (ids (⟨bb, 98, [.int .i64 (R : Nat), .int .i64 (M : Nat), vr, vs, .string (str last), .int .i64 (n : Nat)]⟩ :: (rr ++ rs))) w50 [[⟨bb, 98, [.int .i64 (R : Nat), .int .i64 (M : Nat), vr, vs, .string (str last), .int .i64 (n : Nat)]⟩], rr, r50, rs24, [⟨b48, 3, [.int .i64 (raw.length : Nat)]⟩]]) => ⟨(fun b hb => by cases hb), dq (v := .pointer (some ⟨bb, 0, none⟩)) (o_nilchk rfl rfl) <| dfa rfl <| dl (m_st (v := v50) hM50 (i := 0) rfl rfl rfl (Sl.one hs50) (by simp) fun w51 (hM51 : Mem w (ids (⟨bb, 98, [.int .i64 (R : Nat), .int .i64 (M : Nat), vr, vs, .string (str last), .int .i64 (n : Nat)]⟩ :: (rr ++ rs))) w51 [[⟨bb, 98, [.int .i64 (R : Nat), .int .i64 (M : Nat), vr, v50, .string (str last), .int .i64 (n : Nat)]⟩], rr, r50, rs24, [⟨b48, 3, [.int .i64 (raw.length : Nat)]⟩]]) => ⟨(fun b hb => by cases hb), h32 _ _ <| seq fun _ h52 => mv <| mv ?_⟩)⟩)⟩)⟩)
  refine nilchk rfl <| fa rfl <| m_ld (v := vr) hM51 (i := 0) (j := 0) rfl rfl rfl rfl <| mv <| m_appE hM51 (i := 1) rfl hvr rfl rfl (hs24.rd hM51 (i := 3) rfl) (by first | omega | (simp; omega)) (by omega) fun v53 w53 r53 (hs53 : SlE byteV 5 v53 (raw ++ (wrB ([]) k v)) r53) (hM53 : Mem w (ids (⟨bb, 98, [.int .i64 (R : Nat), .int .i64 (M : Nat), vr, vs, .string (str last), .int .i64 (n : Nat)]⟩ :: (rr ++ rs))) w53 [[⟨bb, 98, [.int .i64 (R : Nat), .int .i64 (M : Nat), vr, v50, .string (str last), .int .i64 (n : Nat)]⟩], r53, r50, rs24, [⟨b48, 3, [.int .i64 (raw.length : Nat)]⟩]]) => nilchk rfl <| fa rfl <| m_st (v := v53) hM53 (i := 0) rfl rfl rfl (Sl.one hs53) (by simp) fun w54 (hM54 : Mem w (ids (⟨bb, 98, [.int .i64 (R : Nat), .int .i64 (M : Nat), vr, vs, .string (str last), .int .i64 (n : Nat)]⟩ :: (rr ++ rs))) w54 [[⟨bb, 98, [.int .i64 (R : Nat), .int .i64 (M : Nat), v53, v50, .string (str last), .int .i64 (n : Nat)]⟩], r53, r50, rs24, [⟨b48, 3, [.int .i64 (raw.length : Nat)]⟩]]) => h52 _ _ <| seq fun _ h55 => mv <| mv <| nilchk rfl <| fa rfl ?_
  refine m_st (v := .string (str k)) hM54 (i := 0) rfl rfl rfl rfl (by simp) fun w56 (hM56 : Mem w (ids (⟨bb, 98, [.int .i64 (R : Nat), .int .i64 (M : Nat), vr, vs, .string (str last), .int .i64 (n : Nat)]⟩ :: (rr ++ rs))) w56 [[⟨bb, 98, [.int .i64 (R : Nat), .int .i64 (M : Nat), v53, v50, .string (str k), .int .i64 (n : Nat)]⟩], r53, r50, rs24, [⟨b48, 3, [.int .i64 (raw.length : Nat)]⟩]]) => h55 _ _ <| seq fun _ h57 => mv <| nilchk rfl <| fa rfl <| m_ld (v := .int .i64 (n : Nat)) hM56 (i := 0) (j := 0) rfl rfl rfl rfl <| stp (v := .int .i64 ((n : Nat) + 1)) (o_bin rfl rfl (v_add64 (by omega))) <| nilchk rfl <| fa rfl <| m_st (v := .int .i64 ((n : Nat) + 1)) hM56 (i := 0) rfl rfl rfl rfl (by simp) fun w58 (hM58 : Mem w (ids (⟨bb, 98, [.int .i64 (R : Nat), .int .i64 (M : Nat), vr, vs, .string (str last), .int .i64 (n : Nat)]⟩ :: (rr ++ rs))) w58 [[⟨bb, 98, [.int .i64 (R : Nat), .int .i64 (M : Nat), v53, v50, .string (str k), .int .i64 ((n : Nat) + 1)]⟩], r53, r50, rs24, [⟨b48, 3, [.int .i64 (raw.length : Nat)]⟩]]) => h57 _ _ <| seq fun _ h59 => mv ?_
  refine h59 _ _ <| ⟨(.int .i64 0), rfl, ?_⟩
  have he : addE R M raw last n k v = 0 := by unfold addE; rw [if_neg (by omega), if_neg (by omega), if_neg (by first | omega | (rw [ha]; omega))]
  rw [he, ha, if_pos hs]
  exact ⟨_, rfl, fun h => absurd rfl h, fun _ => ⟨_, _, _, _, rfl, by assumption, by assumption⟩, hM58.keep (by simp)⟩
 show vd _ _ _ _ _ _ _
 refine dl (m_bs hM35 rfl fun b60 w61 (hM61 : Mem w (ids (⟨bb, 98, [.int .i64 (R : Nat), .int .i64 (M : Nat), vr, vs, .string (str last), .int .i64 (n : Nat)]⟩ :: (rr ++ rs))) w61 [[⟨bb, 98, [.int .i64 (R : Nat), .int .i64 (M : Nat), vr, vs, .string (str last), .int .i64 (n : Nat)]⟩], rr, rs, rs24, [⟨b60, 3, [.int .i64 (raw.length : Nat)]⟩]]) => ⟨(fun b hb => by cases hb), dl (m_ld (v := vs) hM61 (i := 0) (j := 0) rfl rfl rfl rfl <| ⟨(fun b hb => by cases hb), dl (m_appE hM61 (i := 2) rfl hvs rfl rfl (own_rdE (E := i64V) (l := [(((raw.length : Nat)) : Int)]) (hM61.at (i := 4) (j := 0) rfl rfl) rfl) (by first | omega | (simp; omega)) (by omega) fun v62 w62 r62 (hs62 : SlE i64V 3 v62 (st ++ ([(((raw.length : Nat)) : Int)])) r62) (hM62 : Mem w (ids (⟨bb, 98, [.int .i64 (R : Nat), .int .i64 (M : Nat), vr, vs, .string (str last), .int .i64 (n : Nat)]⟩ :: (rr ++ rs))) w62 [[⟨bb, 98, [.int .i64 (R : Nat), .int .i64 (M : Nat), vr, vs, .string (str last), .int .i64 (n : Nat)]⟩], rr, r62, rs24, [⟨b60, 3, [.int .i64 (raw.length : Nat)]⟩]]) => ⟨(fun b hb => by cases hb), dq (v := .pointer (some ⟨bb, 0, none⟩)) (o_nilchk rfl rfl) <| dfa rfl <| dl (m_st (v := v62) hM62 (i := 0) rfl rfl rfl (Sl.one hs62) (by simp) fun w63 (hM63 : Mem w (ids (⟨bb, 98, [.int .i64 (R : Nat), .int .i64 (M : Nat), vr, vs, .string (str last), .int .i64 (n : Nat)]⟩ :: (rr ++ rs))) w63 [[⟨bb, 98, [.int .i64 (R : Nat), .int .i64 (M : Nat), vr, v62, .string (str last), .int .i64 (n : Nat)]⟩], rr, r62, rs24, [⟨b60, 3, [.int .i64 (raw.length : Nat)]⟩]]) => ⟨(fun b hb => by cases hb), h32 _ _ <| seq fun _ h64 => mv <| mv <| nilchk rfl <| fa rfl <| m_ld (v := vr) hM63 (i := 0) (j := 0) rfl rfl rfl rfl <| mv <| m_appE hM63 (i := 1) rfl hvr rfl rfl (hs24.rd hM63 (i := 3) rfl) (by first | omega | (simp; omega)) (by omega) fun v65 w65 r65 (hs65 : SlE byteV 5 v65 (raw ++ (wrB ([]) k v)) r65) (hM65 : Mem w (ids (⟨bb, 98, [.int .i64 (R : Nat), .int .i64 (M : Nat), vr, vs, .string (str last), .int .i64 (n : Nat)]⟩ :: (rr ++ rs))) w65 [[⟨bb, 98, [.int .i64 (R : Nat), .int .i64 (M : Nat), vr, v62, .string (str last), .int .i64 (n : Nat)]⟩], r65, r62, rs24, [⟨b60, 3, [.int .i64 (raw.length : Nat)]⟩]]) => nilchk rfl <| fa rfl <| m_st (v := v65) hM65 (i := 0) rfl rfl rfl (Sl.one hs65) (by simp) fun w66 (hM66 : Mem w (ids (⟨bb, 98, [.int .i64 (R : Nat), .int .i64 (M : Nat), vr, vs, .string (str last), .int .i64 (n : Nat)]⟩ :: (rr ++ rs))) w66 [[⟨bb, 98, [.int .i64 (R : Nat), .int .i64 (M : Nat), v65, v62, .string (str last), .int .i64 (n : Nat)]⟩], r65, r62, rs24, [⟨b60, 3, [.int .i64 (raw.length : Nat)]⟩]]) => h64 _ _ <| seq fun _ h67 => mv <| mv <| nilchk rfl <| fa rfl <| m_st (v := .string (str k)) hM66 (i := 0) rfl rfl rfl rfl (by simp) fun w68 (hM68 : Mem w (ids (⟨bb, 98, [.int .i64 (R : Nat), .int .i64 (M : Nat), vr, vs, .string (str last), .int .i64 (n : Nat)]⟩ :: (rr ++ rs))) w68 [[⟨bb, 98, [.int .i64 (R : Nat), .int .i64 (M : Nat), v65, v62, .string (str k), .int .i64 (n : Nat)]⟩], r65, r62, rs24, [⟨b60, 3, [.int .i64 (raw.length : Nat)]⟩]]) => h67 _ _ <| seq fun _ h69 => mv <| nilchk rfl <| fa rfl <| m_ld (v := .int .i64 (n : Nat)) hM68 (i := 0) (j := 0) rfl rfl rfl rfl <| stp (v := .int .i64 ((n : Nat) + 1)) (o_bin rfl rfl (v_add64 (by omega))) <| nilchk rfl <| fa rfl <| m_st (v := .int .i64 ((n : Nat) + 1)) hM68 (i := 0) rfl rfl rfl rfl (by simp) fun w70 (hM70 : Mem w (ids (⟨bb, 98, [.int .i64 (R : Nat), .int .i64 (M : Nat), vr, vs, .string (str last), .int .i64 (n : Nat)]⟩ :: (rr ++ rs))) w70 [[⟨bb, 98, [.int .i64 (R : Nat), .int .i64 (M : Nat), v65, v62, .string (str k), .int .i64 ((n : Nat) + 1)]⟩], r65, r62, rs24, [⟨b60, 3, [.int .i64 (raw.length : Nat)]⟩]]) => h69 _ _ <| seq fun _ h71 => mv <| h71 _ _ <| ⟨(.int .i64 0), rfl, ?_⟩⟩)⟩)⟩)⟩)
 have he : addE R M raw last n k v = 0 := by unfold addE; rw [if_neg (by omega), if_neg (by omega), if_neg (by first | omega | (rw [ha]; omega))]
 rw [he, ha, if_pos hs]
 exact ⟨_, rfl, fun h => absurd rfl h, fun _ => ⟨_, _, _, _, rfl, by assumption, by assumption⟩, hM70.keep (by simp)⟩
theorem Add_2 (bb R M : Nat) (raw : List UInt8) (st : List Int) (last : List UInt8) (n : Nat) (k v : List UInt8) (r0 : List Ent) (w : World) (hn : 0 < n) (hs : ¬ n % R = 0) (hB : BldS bb R M raw st last n r0) (hr : Res w r0) (hR : 1 ≤ R ∧ R ≤ 64) (hMl : M ≤ 65536) (hl : raw.length ≤ 65536 ∧ n ≤ 65536 ∧ st.length ≤ 65536 ∧ last.length ≤ 1024) (hk : k.length ≤ 140737488355328) (hv : v.length ≤ 140737488355328) : Calls Try.prog 20 [.pointer (some ⟨bb, 0, none⟩), .string (str k), .string (str v)].toArray w (Rt fun r w' => ∃ r', r = .int .i64 (addE R M raw last n k v) ∧ (¬ addE R M raw last n k v = 0 → BldS bb R M raw st last n r') ∧ (addE R M raw last n k v = 0 → BldS bb R M (raw ++ wrB (ahd R n last) k v) (if n % R = 0 then st ++ [(raw.length : Int)] else st) k (n + 1) r') ∧ Mem w (ids r0) w' [r']) := by
 obtain ⟨vr, vs, rr, rs, rfl, hvr, hvs⟩ := hB
 have hM0 : Mem w (ids (⟨bb, 98, [.int .i64 (R : Nat), .int .i64 (M : Nat), vr, vs, .string (str last), .int .i64 (n : Nat)]⟩ :: (rr ++ rs))) w [[⟨bb, 98, [.int .i64 (R : Nat), .int .i64 (M : Nat), vr, vs, .string (str last), .int .i64 (n : Nat)]⟩], rr, rs] := (Mem.start hr).keep (by simp)
 have ha : ahd R n last = last := by unfold ahd; rw [if_neg hs]
 refine calls_vc mixed Try.func20 rfl C20 (by simp [Try.ntmps20]) <| seq fun _ h1 => mv <| h1 _ _ <| seq fun _ h2 => seq fun _ h3 => mv <| stp (v := .bool false) (o_isnil rfl rfl) <| h3 _ _ <| cndF rfl <| h2 _ _ <| seq fun _ h4 => seq fun _ h5 => mv ?_
 refine stp (v := .int .i64 (k.length : Nat)) (o_lens rfl rfl) <| bn rfl rfl <| mv <| splitP rfl (fun c6 => ?_) (fun c6 => ?_)
 ·refine gx rfl <| gx rfl <| gx rfl <| pkT rfl <| h5 _ _ <| cndT rfl <| seq fun _ h7 => mv <| h7 _ _ <| ⟨(.int .i64 2), rfl, ?_⟩
  have he : addE R M raw last n k v = 2 := by unfold addE; rw [if_pos (by omega)]
  rw [he]
  exact ⟨_, rfl, fun _ => ⟨_, _, _, _, rfl, hvr, hvs⟩, fun h => absurd h (by omega), hM0.keep (by simp)⟩
 refine gmv rfl <| stg rfl (v := .int .i64 (v.length : Nat)) (o_lens rfl rfl) <| gbn rfl rfl rfl <| pkF rfl <| h5 _ _ <| cndP rfl (fun c8 => ?_) (fun c8 => ?_)
 ·refine seq fun _ h9 => mv <| h9 _ _ <| ⟨(.int .i64 2), rfl, ?_⟩
  have he : addE R M raw last n k v = 2 := by unfold addE; rw [if_pos (by omega)]
  rw [he]
  exact ⟨_, rfl, fun _ => ⟨_, _, _, _, rfl, hvr, hvs⟩, fun h => absurd h (by omega), hM0.keep (by simp)⟩
 refine h4 _ _ <| seq fun _ h10 => seq fun _ h11 => mv <| nilchk rfl <| fa rfl <| m_ld (v := .int .i64 (n : Nat)) hM0 (i := 0) (j := 0) rfl rfl rfl rfl <| bn rfl rfl <| mv <| splitP rfl (fun c12 => ?_) (fun c12 => (c12 (by omega)).elim)
 refine gmv rfl <| gmv rfl <| stg rfl (v := .pointer (some ⟨bb, 0, none⟩)) (o_nilchk rfl rfl) <| gfa rfl rfl <| gyesl rfl <| m_ld (v := .string (str last)) hM0 (i := 0) (j := 0) rfl rfl rfl rfl <| gyesl rfl <| m_call (Compare_ok k last w (by first | omega | (simp; done) | (simp; omega)) (by first | omega | (simp; done) | (simp; omega))) rfl fun v13 w13 ⟨hr13, hu13⟩ => ?_
 have hM13 : Mem w (ids (⟨bb, 98, [.int .i64 (R : Nat), .int .i64 (M : Nat), vr, vs, .string (str last), .int .i64 (n : Nat)]⟩ :: (rr ++ rs))) w13 [[⟨bb, 98, [.int .i64 (R : Nat), .int .i64 (M : Nat), vr, vs, .string (str last), .int .i64 (n : Nat)]⟩], rr, rs] := hM0.pure hu13
 subst hr13
 refine gbn rfl rfl rfl <| pkT rfl <| h11 _ _ <| cndP rfl (fun c14 => ?_) (fun c14 => ?_)
 ·refine seq fun _ h15 => mv <| h15 _ _ <| ⟨(.int .i64 61), rfl, ?_⟩
  have he : addE R M raw last n k v = 61 := by unfold addE; rw [if_neg (by omega), if_pos (by omega)]
  rw [he]
  exact ⟨_, rfl, fun _ => ⟨_, _, _, _, rfl, hvr, hvs⟩, fun h => absurd h (by omega), hM13.keep (by simp)⟩
 refine h10 _ _ <| seq fun _ h16 => ?_
 intro wd e1 e2 e3 e4
 have hd := Upd.same e1 e2 e3 e4 []
 have hM17 := hM13.pure hd
 clear e1 e2 e3 e4
 refine ⟨none, ?_⟩
 show vd _ _ _ _ _ _ _
 refine dmv <| dq (v := .pointer (some ⟨bb, 0, none⟩)) (o_nilchk rfl rfl) <| dfa rfl <| dl (m_ld (v := .int .i64 (R : Nat)) hM17 (i := 0) (j := 0) rfl rfl rfl rfl <| ⟨rfl, dbn rfl rfl <| dmv <| dsplitP rfl (fun c18 => ?_) (fun c18 => (c18 (by omega)).elim)⟩)
 refine dgmv rfl <| dqg rfl (v := .pointer (some ⟨bb, 0, none⟩)) (o_nilchk rfl rfl) <| dgfa rfl rfl <| dgmv rfl <| dqg rfl (v := .pointer (some ⟨bb, 0, none⟩)) (o_nilchk rfl rfl) <| dgfa rfl rfl <| dqgyes rfl rfl <| dqld rfl (trivial) (v := .int .i64 (R : Nat)) ((hM17.at (i := 0) (j := 0) rfl rfl).cell 0) <| dgyesl rfl <| dl (m_ld (v := .int .i64 (n : Nat)) hM17 (i := 0) (j := 0) rfl rfl rfl rfl <| ⟨rfl, dqg rfl (v := .int .i64 (n % R : Nat)) (o_rem rfl rfl (by omega) ((v_rem (Int.natCast_nonneg _)).trans rfl)) <| dgbn rfl rfl rfl <| dpkT rfl <| dmv <| h16 _ _ <| seq fun _ h19 => mv <| nilchk rfl <| fa rfl <| m_ld (v := .string (str last)) hM17 (i := 0) (j := 0) rfl rfl rfl rfl <| mv <| h19 _ _ <| seq fun _ h20 => seq fun _ h21 => mv <| h21 _ _ <| cndP rfl (fun c22 => absurd c22 (by omega)) (fun c22 => h20 _ _ <| seq fun _ h23 => mv <| mv <| mv <| m_call (written_ok last k v wd (by first | assumption | omega | (simp; done)) (by omega) (by omega)) rfl fun v24 w24 ⟨rs24, hs24, hm24⟩ => ?_)⟩)
 have hM24 : Mem w (ids (⟨bb, 98, [.int .i64 (R : Nat), .int .i64 (M : Nat), vr, vs, .string (str last), .int .i64 (n : Nat)]⟩ :: (rr ++ rs))) w24 [[⟨bb, 98, [.int .i64 (R : Nat), .int .i64 (M : Nat), vr, vs, .string (str last), .int .i64 (n : Nat)]⟩], rr, rs, rs24] := hM17.add hm24
 have hwl24 := wrB_len (a := last) (k := k) (v := v) (by omega) (by omega)
 refine mv <| h23 _ _ <| seq fun _ h25 => seq fun _ h26 => ?_
 intro wd e1 e2 e3 e4
 have hd := Upd.same e1 e2 e3 e4 []
 have hM27 := hM24.pure hd
 clear e1 e2 e3 e4
 refine ⟨(some [bb]), ?_⟩
 show vd _ _ _ _ _ _ _
 refine dmv <| dq (v := .pointer (some ⟨bb, 0, none⟩)) (o_nilchk rfl rfl) <| dfa rfl <| dl (m_ld (v := .int .i64 (n : Nat)) hM27 (i := 0) (j := 0) rfl rfl rfl rfl <| ⟨(fun b hb => rfl), dbn rfl rfl <| dmv <| dsplitP rfl (fun c28 => ?_) (fun c28 => (c28 (by omega)).elim)⟩)
 refine dgmv rfl <| dgmv rfl <| dqg rfl (v := .pointer (some ⟨bb, 0, none⟩)) (o_nilchk rfl rfl) <| dgfa rfl rfl <| dgmv rfl <| dqg rfl (v := .int .i64 ((wrB last k v).length : Nat)) (o_lenR (hs24.rd hM27 (i := 3) rfl) rfl rfl) <| dgmv rfl <| dqg rfl (v := .pointer (some ⟨bb, 0, none⟩)) (o_nilchk rfl rfl) <| dgfa rfl rfl <| dgmv rfl <| dqg rfl (v := .pointer (some ⟨bb, 0, none⟩)) (o_nilchk rfl rfl) <| dgfa rfl rfl <| dqgyes rfl rfl <| dqld rfl (by simp [isHeld]) (v := .int .i64 (M : Nat)) ((hM27.at (i := 0) (j := 0) rfl rfl).cell 1) <| dqgyes rfl rfl <| dqld rfl (by simp [isHeld]) (v := .int .i64 (n : Nat)) ((hM27.at (i := 0) (j := 0) rfl rfl).cell 5) <| dqg rfl (v := .int .i64 (n + 1 : Nat)) (o_bin rfl rfl ((v_add64 (by omega)).trans (v_int (by omega)))) <| dgyesl rfl <| dl (m_ld (v := vr) hM27 (i := 0) (j := 0) rfl rfl rfl rfl <| ⟨(fun b hb => rfl), dqg rfl (v := .int .i64 (raw.length : Nat)) (o_lenR (hvr.rd hM27 (i := 1) rfl) rfl rfl) <| dqg rfl (v := .int .i64 (raw.length + (wrB last k v).length : Nat)) (o_bin rfl rfl ((v_add64 (by omega)).trans (v_int (by omega)))) <| dgyesl rfl <| dl (m_call (size_ok bb R _ (raw.length + (wrB last k v).length : Nat) (n + 1) wd (hM27.at (i := 0) (j := 0) rfl rfl) hR (by omega) (by omega)) rfl fun v29 w29 ⟨hr29, hu29⟩ => ?_)⟩)
 have hM29 : Mem w (ids (⟨bb, 98, [.int .i64 (R : Nat), .int .i64 (M : Nat), vr, vs, .string (str last), .int .i64 (n : Nat)]⟩ :: (rr ++ rs))) w29 [[⟨bb, 98, [.int .i64 (R : Nat), .int .i64 (M : Nat), vr, vs, .string (str last), .int .i64 (n : Nat)]⟩], rr, rs, rs24] := hM27.pure hu29
 subst hr29
 have hh29 := held_upd (wr := wd) (bs := [bb]) hu29 (fun b hb => by
  simp only [List.mem_cons, List.not_mem_nil, or_false] at hb
  rw [hb]; exact ⟨(hM27.at (i := 0) (j := 0) rfl rfl).lt, by simp⟩) (fun b hb => rfl)
 refine ⟨hh29, dgbn rfl rfl rfl <| dpkT rfl <| h26 _ _ <| cndP rfl (fun c30 => ?_) (fun c30 => ?_)⟩
 ·refine seq fun _ h31 => mv <| h31 _ _ <| ⟨(.int .i64 62), rfl, ?_⟩
  have he : addE R M raw last n k v = 62 := by unfold addE; rw [if_neg (by omega), if_neg (by omega), if_pos (by rw [ha]; omega)]
  rw [he]
  exact ⟨_, rfl, fun _ => ⟨_, _, _, _, rfl, hvr, hvs⟩, fun h => absurd h (by omega), hM29.keep (by simp)⟩
 refine h25 _ _ <| seq fun _ h32 => seq fun _ h33 => mv <| h33 _ _ <| cndP rfl (fun c34 => absurd c34 (by omega)) (fun c34 => h32 _ _ <| seq fun _ h35 => mv <| mv <| nilchk rfl <| fa rfl <| m_ld (v := vr) hM29 (i := 0) (j := 0) rfl rfl rfl rfl <| mv <| m_appE hM29 (i := 1) rfl hvr rfl rfl (hs24.rd hM29 (i := 3) rfl) (by first | omega | (simp; omega)) (by omega) fun v36 w36 r36 (hs36 : SlE byteV 5 v36 (raw ++ (wrB last k v)) r36) (hM36 : Mem w (ids (⟨bb, 98, [.int .i64 (R : Nat), .int .i64 (M : Nat), vr, vs, .string (str last), .int .i64 (n : Nat)]⟩ :: (rr ++ rs))) w36 [[⟨bb, 98, [.int .i64 (R : Nat), .int .i64 (M : Nat), vr, vs, .string (str last), .int .i64 (n : Nat)]⟩], r36, rs, rs24]) => nilchk rfl <| fa rfl <| m_st (v := v36) hM36 (i := 0) rfl rfl rfl (Sl.one hs36) (by simp) fun w37 (hM37 : Mem w (ids (⟨bb, 98, [.int .i64 (R : Nat), .int .i64 (M : Nat), vr, vs, .string (str last), .int .i64 (n : Nat)]⟩ :: (rr ++ rs))) w37 [[⟨bb, 98, [.int .i64 (R : Nat), .int .i64 (M : Nat), v36, vs, .string (str last), .int .i64 (n : Nat)]⟩], r36, rs, rs24]) => h35 _ _ <| seq fun _ h38 => mv <| mv <| nilchk rfl <| fa rfl <| m_st (v := .string (str k)) hM37 (i := 0) rfl rfl rfl rfl (by simp) fun w39 (hM39 : Mem w (ids (⟨bb, 98, [.int .i64 (R : Nat), .int .i64 (M : Nat), vr, vs, .string (str last), .int .i64 (n : Nat)]⟩ :: (rr ++ rs))) w39 [[⟨bb, 98, [.int .i64 (R : Nat), .int .i64 (M : Nat), v36, vs, .string (str k), .int .i64 (n : Nat)]⟩], r36, rs, rs24]) => h38 _ _ <| seq fun _ h40 => mv <| nilchk rfl <| fa rfl <| m_ld (v := .int .i64 (n : Nat)) hM39 (i := 0) (j := 0) rfl rfl rfl rfl <| stp (v := .int .i64 ((n : Nat) + 1)) (o_bin rfl rfl (v_add64 (by omega))) <| nilchk rfl <| fa rfl <| m_st (v := .int .i64 ((n : Nat) + 1)) hM39 (i := 0) rfl rfl rfl rfl (by simp) fun w41 (hM41 : Mem w (ids (⟨bb, 98, [.int .i64 (R : Nat), .int .i64 (M : Nat), vr, vs, .string (str last), .int .i64 (n : Nat)]⟩ :: (rr ++ rs))) w41 [[⟨bb, 98, [.int .i64 (R : Nat), .int .i64 (M : Nat), v36, vs, .string (str k), .int .i64 ((n : Nat) + 1)]⟩], r36, rs, rs24]) => h40 _ _ <| seq fun _ h42 => mv <| h42 _ _ <| ⟨(.int .i64 0), rfl, ?_⟩)
 have he : addE R M raw last n k v = 0 := by unfold addE; rw [if_neg (by omega), if_neg (by omega), if_neg (by first | omega | (rw [ha]; omega))]
 rw [he, ha, if_neg hs]
 exact ⟨_, rfl, fun h => absurd rfl h, fun _ => ⟨_, _, _, _, rfl, by assumption, by assumption⟩, hM41.keep (by simp)⟩
theorem Add_ok (bb R M : Nat) (raw : List UInt8) (st : List Int) (last : List UInt8) (n : Nat) (k v : List UInt8) (r0 : List Ent) (w : World) (hB : BldS bb R M raw st last n r0) (hr : Res w r0) (hR : 1 ≤ R ∧ R ≤ 64) (hMl : M ≤ 65536) (hl : raw.length ≤ 65536 ∧ n ≤ 65536 ∧ st.length ≤ 65536 ∧ last.length ≤ 1024) (hk : k.length ≤ 140737488355328) (hv : v.length ≤ 140737488355328) : Calls Try.prog 20 [.pointer (some ⟨bb, 0, none⟩), .string (str k), .string (str v)].toArray w (Rt fun r w' => ∃ r', r = .int .i64 (addE R M raw last n k v) ∧ (¬ addE R M raw last n k v = 0 → BldS bb R M raw st last n r') ∧ (addE R M raw last n k v = 0 → BldS bb R M (raw ++ wrB (ahd R n last) k v) (if n % R = 0 then st ++ [(raw.length : Int)] else st) k (n + 1) r') ∧ Mem w (ids r0) w' [r']) := by
 by_cases hn : n = 0
 ·exact Add_0 bb R M raw st last n k v r0 w hn hB hr hR hMl hl hk hv
 by_cases hs : n % R = 0
 ·exact Add_1 bb R M raw st last n k v r0 w (by omega) hs hB hr hR hMl hl hk hv
 exact Add_2 bb R M raw st last n k v r0 w (by omega) hs hB hr hR hMl hl hk hv
end Go.Proofs.Ytifnmbmijljhfaa.E
namespace Go.Proofs.Ytifnmbmijljhfaa.E.Lz
open Go
structure Tk where
 ad : Option Addr
 ln : Nat
 cp : Nat
 bs : List UInt8
 d : Int
 n : Int
abbrev Tk.lit (t : Tk) : Value := .slice t.ad t.ln t.cp
def tokC (t : Tk) : List Value := [.slice t.ad t.ln t.cp, .int .i64 t.d, .int .i64 t.n]
instance : Enc tokC 3 := ⟨fun _ => rfl, by omega, fun c => by intro v hv; simp only [tokC, List.mem_cons, List.not_mem_nil, or_false] at hv; rcases hv with rfl | rfl | rfl <;> rfl⟩
abbrev Pk := List UInt8 × Int × Int
abbrev Tk.p (t : Tk) : Pk := (t.bs, t.d, t.n)
def Tk.ok (w : World) (t : Tk) : Prop := RdE byteV w t.lit t.bs ∧ inK .i64 t.d ∧ inK .i64 t.n ∧ t.bs.length ≤ 140737488351232
def agn (text : List UInt8) (d : Nat) : Nat → List UInt8
 | 0 => text
 | k + 1 => agn text d k ++ [(agn text d k).getD ((agn text d k).length - d) 0]
theorem agn_len (text : List UInt8) (d : Nat) : ∀ k, (agn text d k).length = text.length + k
 | 0 => rfl
 | k + 1 => by rw [agn, List.length_append, agn_len text d k]; rfl
def noneT (t : Pk) : Prop := t.2.1 = 0 ∧ t.2.2 = 0
instance (t : Pk) : Decidable (noneT t) := by unfold noneT; infer_instance
def okT (t : Pk) (m : Int) (last : Bool) : Prop := if noneT t then last = true ∧ 0 < t.1.length else 4 ≤ t.2.2 ∧ t.2.2 ≤ 259 ∧ 1 ≤ t.2.1 ∧ t.2.1 ≤ 32768 ∧ t.2.1 ≤ m
instance (t : Pk) (m : Int) (last : Bool) : Decidable (okT t m last) := by unfold okT; infer_instance
theorem okT_none {t : Pk} {m : Int} {last : Bool} (h : noneT t) : okT t m last ↔ last = true ∧ 0 < t.1.length := by unfold okT; rw [if_pos h]
theorem okT_some {t : Pk} {m : Int} {last : Bool} (h : ¬ noneT t) : okT t m last ↔ 4 ≤ t.2.2 ∧ t.2.2 ≤ 259 ∧ 1 ≤ t.2.1 ∧ t.2.1 ≤ 32768 ∧ t.2.1 ≤ m := by unfold okT; rw [if_neg h]
theorem okT_bd {t : Pk} {m : Int} {last : Bool} (h : okT t m last) : 0 ≤ t.2.2 ∧ t.2.2 ≤ 259 ∧ 0 ≤ t.2.1 ∧ t.2.1 ≤ 32768 ∧ (0 < t.2.2 → 1 ≤ t.2.1 ∧ t.2.1 ≤ m) ∧ (t.2.2 = 0 ↔ noneT t) ∧ (t.2.2 = 0 → 0 < t.1.length) ∧ (¬ t.2.2 = 0 → 4 ≤ t.2.2) := by
 by_cases c : noneT t
 ·rw [okT_none c] at h
  unfold noneT at c ⊢; omega
 rw [okT_some c] at h
 refine ⟨by omega, by omega, by omega, by omega, fun _ => by omega, ⟨fun h => by omega, fun h => absurd h c⟩, by omega, by omega⟩
def expG : List Pk → List UInt8 → List UInt8 × Int
 | [], text => (text, 0)
 | t :: ts, text => if ¬ okT t (text.length + t.1.length : Nat) (decide (ts = [])) then ([], 31) else if 65536 < ((text.length + t.1.length : Nat) : Int) + t.2.2 then ([], 2) else expG ts (agn (text ++ t.1) t.2.1.toNat t.2.2.toNat)
def expF (ts : List Pk) : List UInt8 × Int := expG ts []
def tokB (t : Pk) : List UInt8 := putI (t.1.length : Nat) ++ t.1 ++ (if noneT t then [] else putI (t.2.2 - 4) ++ putI t.2.1)
def toksB (ts : List Pk) : List UInt8 := ts.flatMap tokB
theorem bool_iff {p q : Prop} [Decidable p] [Decidable q] (h : p ↔ q) : Value.bool (decide p) = .bool (decide q) := by rw [decide_eq_decide.2 h]
theorem bool_no {q : Prop} [Decidable q] (h : ¬ q) : Value.bool false = .bool (decide q) := by rw [decide_eq_false h]
theorem okK_none {t : Tk} {m : Int} {last : Bool} (h : noneT t.p) : okT t.p m last ↔ last = true ∧ 0 < t.bs.length := okT_none h
theorem okK_some {t : Tk} {m : Int} {last : Bool} (h : ¬ noneT t.p) : okT t.p m last ↔ 4 ≤ t.n ∧ t.n ≤ 259 ∧ 1 ≤ t.d ∧ t.d ≤ 32768 ∧ t.d ≤ m := okT_some h
theorem noneK {t : Tk} : noneT t.p ↔ t.d = 0 ∧ t.n = 0 := Iff.rfl
theorem okK_bd {t : Tk} {m : Int} {last : Bool} (h : okT t.p m last) : 0 ≤ t.n ∧ t.n ≤ 259 ∧ 0 ≤ t.d ∧ t.d ≤ 32768 ∧ (0 < t.n → 1 ≤ t.d ∧ t.d ≤ m) ∧ (t.n = 0 ↔ noneT t.p) ∧ (t.n = 0 → 0 < t.bs.length) ∧ (¬ t.n = 0 → 4 ≤ t.n) := okT_bd h
theorem tokB_none {t : Tk} (h : noneT t.p) : tokB t.p = putI (t.bs.length : Nat) ++ t.bs := by unfold tokB; rw [if_pos h, List.append_nil]
theorem tokB_some {t : Tk} (h : ¬ noneT t.p) : tokB t.p = putI (t.bs.length : Nat) ++ t.bs ++ putI (t.n - 4) ++ putI t.d := by unfold tokB; rw [if_neg h, List.append_assoc (putI _ ++ _)]
end Go.Proofs.Ytifnmbmijljhfaa.E.Lz
namespace Go.Proofs.Ytifnmbmijljhfaa.E.Lz
open Go
theorem none_ok (t : Tk) (w : World) : Calls Try.prog 57 [.agg (tokC t).toArray].toArray w (Rt fun r w' => r = .bool (decide (noneT t.p)) ∧ Upd [] w w') := by
 have hM0 : Mem w [] w [] := Mem.nil w []
 refine calls_vc mixed Try.func57 rfl C57 (by simp [Try.ntmps57]) <| seq fun _ h1 => m_bx (v := .agg ([t.lit, .int .i64 t.d, .int .i64 t.n] : List Value).toArray) hM0 rfl rfl fun b2 w3 (hM3 : Mem w [] w3 [[⟨b2, 65, [t.lit, .int .i64 t.d, .int .i64 t.n]⟩]]) => mv <| h1 _ _ <| seq fun _ h4 => fa rfl <| m_ld (v := .int .i64 t.d) hM3 (i := 0) (j := 0) rfl rfl rfl rfl <| bn rfl rfl <| mv <| splitP rfl (fun c5 => ?_) (fun c5 => ?_)
 ·refine gfa rfl rfl <| gyesl rfl <| m_ld (v := .int .i64 t.n) hM3 (i := 0) (j := 0) rfl rfl rfl rfl <| gbn rfl rfl rfl <| pkT rfl <| mv <| h4 _ _ <| ⟨(.bool (decide (t.n = 0))), rfl, ⟨bool_iff (by rw [noneK]; omega), hM3.upd⟩⟩
 refine gx rfl <| gxl rfl <| gx rfl <| pkF rfl <| mv <| h4 _ _ <| ⟨(.bool false), rfl, ⟨bool_no (by rw [noneK]; omega), hM3.upd⟩⟩
theorem right_ok (t : Tk) (m : Int) (last : Bool) (w : World) (ht : RdE byteV w t.lit t.bs) (hm : 0 ≤ m ∧ m ≤ 9223372036854775807) : Calls Try.prog 56 [.agg (tokC t).toArray, .int .i64 m, .bool last].toArray w (Rt fun r w' => r = .bool (decide (okT t.p m last)) ∧ Upd [] w w') := by
 have hM0 : Mem w [] w [] := Mem.nil w []
 refine calls_vc mixed Try.func56 rfl C56 (by simp [Try.ntmps56]) <| seq fun _ h1 => m_bx (v := .agg ([t.lit, .int .i64 ((t).d), .int .i64 ((t).n)] : List Value).toArray) hM0 rfl rfl fun b2 w3 (hM3 : Mem w [] w3 [[⟨b2, 65, [t.lit, .int .i64 ((t).d), .int .i64 ((t).n)]⟩]]) => mv <| h1 _ _ <| seq fun _ h4 => seq fun _ h5 => m_ldA (l := [t.lit, .int .i64 ((t).d), .int .i64 ((t).n)]) hM3 (i := 0) (j := 0) rfl rfl rfl rfl rfl <| m_call (none_ok t w3) rfl fun v6 w6 ⟨hr6, hu6⟩ => ?_
 have hM6 : Mem w [] w6 [[⟨b2, 65, [t.lit, .int .i64 ((t).d), .int .i64 ((t).n)]⟩]] := hM3.pure hu6
 subst hr6
 refine h5 _ _ <| cndP rfl (fun c7 => ?_) (fun c7 => ?_)
 ·refine seq fun _ h8 => mv <| mv <| split rfl (fun c9 => ?_) (fun c9 => ?_)
  ·refine gfa rfl rfl <| gyesl rfl <| m_ld (v := t.lit) hM6 (i := 0) (j := 0) rfl rfl rfl rfl <| stg rfl (v := .int .i64 (t.bs.length : Nat)) (o_lenR (ht.upd hM6.upd) rfl rfl) <| gbn rfl rfl rfl <| pkT rfl <| mv <| h8 _ _ <| ⟨(.bool (decide ((0 : Int) < ((t.bs.length : Nat) : Int)))), rfl, ⟨bool_iff (by rw [okK_none (by first | assumption | (rw [noneK]; omega))]; exact ⟨fun h => ⟨by assumption, by omega⟩, fun h => by have := h.2; omega⟩), hM6.upd⟩⟩
  refine gx rfl <| gxl rfl <| gx rfl <| gx rfl <| pkF rfl <| mv <| h8 _ _ <| ⟨(.bool false), rfl, ⟨bool_no (by rw [okK_none (by first | assumption | (rw [noneK]; omega))]; intro h; exact absurd h.1 (by simp [*])), hM6.upd⟩⟩
 refine h4 _ _ <| seq fun _ h10 => fa rfl <| m_ld (v := .int .i64 ((t).n)) hM6 (i := 0) (j := 0) rfl rfl rfl rfl <| bn rfl rfl <| mv <| splitP rfl (fun c11 => ?_) (fun c11 => ?_)
 ·refine gfa rfl rfl <| gyesl rfl <| m_ld (v := .int .i64 ((t).n)) hM6 (i := 0) (j := 0) rfl rfl rfl rfl <| gbn rfl rfl rfl <| pkT rfl <| mv <| splitP rfl (fun c12 => ?_) (fun c12 => ?_)
  ·refine gfa rfl rfl <| gyesl rfl <| m_ld (v := .int .i64 ((t).d)) hM6 (i := 0) (j := 0) rfl rfl rfl rfl <| gbn rfl rfl rfl <| pkT rfl <| mv <| splitP rfl (fun c13 => ?_) (fun c13 => ?_)
   ·refine gfa rfl rfl <| gyesl rfl <| m_ld (v := .int .i64 ((t).d)) hM6 (i := 0) (j := 0) rfl rfl rfl rfl <| gmv rfl <| stg rfl (v := .int .i64 (min (32768 : Int) (m : Int))) (o_mm rfl rfl rfl) <| gbn rfl rfl rfl <| pkT rfl <| mv <| h10 _ _ <| ⟨(.bool (decide (((t).d) ≤ (min (32768 : Int) (m : Int))))), rfl, ⟨bool_iff (by rw [okK_some (by first | assumption | (rw [noneK]; omega))]; omega), hM6.upd⟩⟩
   refine gx rfl <| gxl rfl <| gx rfl <| gx rfl <| gx rfl <| pkF rfl <| mv <| h10 _ _ <| ⟨(.bool false), rfl, ⟨bool_no (by rw [okK_some (by first | assumption | (rw [noneK]; omega))]; omega), hM6.upd⟩⟩
  refine gx rfl <| gxl rfl <| gx rfl <| pkF rfl <| mv <| splitF rfl <| gx rfl <| gxl rfl <| gx rfl <| gx rfl <| gx rfl <| pkF rfl <| mv <| h10 _ _ <| ⟨(.bool false), rfl, ⟨bool_no (by rw [okK_some (by first | assumption | (rw [noneK]; omega))]; omega), hM6.upd⟩⟩
 refine gx rfl <| gxl rfl <| gx rfl <| pkF rfl <| mv <| splitF rfl <| gx rfl <| gxl rfl <| gx rfl <| pkF rfl <| mv <| splitF rfl <| gx rfl <| gxl rfl <| gx rfl <| gx rfl <| gx rfl <| pkF rfl <| mv <| h10 _ _ <| ⟨(.bool false), rfl, ⟨bool_no (by rw [okK_some (by first | assumption | (rw [noneK]; omega))]; omega), hM6.upd⟩⟩
theorem again_ok (x : Value) (l : List UInt8) (d n : Int) (r0 : List Ent) (w : World) (hs0 : SlE byteV 5 x l r0) (hr : Res w r0) (hl : l.length ≤ 140737488355328) (hn : n ≤ 259) (hd : 0 < n → 1 ≤ d ∧ d ≤ (l.length : Nat)) : Calls Try.prog 32 [x, .int .i64 d, .int .i64 n].toArray w (Rt fun r w' => ∃ r', SlE byteV 5 r (agn l d.toNat n.toNat) r' ∧ Mem w (ids r0) w' [r']) := by
 have hM0 : Mem w (ids r0) w [r0] := Mem.start hr
 refine calls_vc mixed Try.func32 rfl C32 (by simp [Try.ntmps32]) <| seq fun _ h1 => mv <| h1 _ _ <| seq fun _ h2 => seq fun _ h3 => mv <| mv <| h3 _ _ <| lp (n := fun _ _ => False) (ι := (Nat) × (Value) × (List Ent)) (fun ⟨k, y0_, r0_⟩ f w' => f 0 = y0_ ∧ f 8 = .int .i64 (k : Nat) ∧ f 1 = .int .i64 d ∧ f 7 = .int .i64 n ∧ Mem w (ids r0) w' [r0_] ∧ (k ≤ n.toNat) ∧ ((agn l d.toNat k).length = l.length + k) ∧ (SlE byteV 5 y0_ (agn l d.toNat k) r0_)) (fun ⟨k, y0_, r0_⟩ => n.toNat - k) (0, x, r0) ?_ ?_
 ·exact ⟨rfl, vi, vi, vi, hM0, by omega, agn_len _ _ _, by first | exact hs0 | simpa using hs0⟩
 rintro ⟨k, y0_, r0_⟩ f w4 ⟨e4_0, e4_8, e4_1, e4_7, hM4, hk, hq, hy0_⟩ K5 h5
 obtain ⟨frm, rfl⟩ := re4 e4_0 e4_8 e4_1 e4_7
 refine seq fun _ h6 => bn rfl rfl <| h6 _ _ <| seq fun _ h7 => cndP rfl (fun c8 => ?_) (fun c8 => ?_)
 ·refine h7 _ _ <| seq fun _ h9 => mv <| mv <| mv <| stp (v := .int .i64 ((agn l d.toNat k).length : Nat)) (o_lenR (hy0_.rd hM4 (i := 0) rfl) rfl rfl) <| mv <| stp (v := .int .i64 (((agn l d.toNat k).length : Nat) - d)) (o_bin rfl rfl (v_sub64 (by omega))) <| m_idxE 0 (j := ((agn l d.toNat k).length - d.toNat)) (hy0_.rd hM4 (i := 0) rfl) rfl (v_int (by omega)) (by omega) fun b10 o10 hp10 => ld (v := byteV ((agn l d.toNat k).getD ((agn l d.toNat k).length - d.toNat) 0)) rfl (hp10) <| m_app1 (E := byteV) (q := (agn l d.toNat k).getD ((agn l d.toNat k).length - d.toNat) 0) hM4 (i := 0) rfl hy0_ rfl (by simp) (rfl) (by omega) (by omega) fun v11 w11 r11 u11 (hs11 : SlE byteV 5 v11 ((agn l d.toNat k) ++ [(agn l d.toNat k).getD ((agn l d.toNat k).length - d.toNat) 0]) r11) (hM11 : Mem w (ids r0) w11 [r11]) => mv <| h9 _ _ <| stp (v := .int .i64 ((k : Nat) + 1)) (o_bin rfl rfl (v_add64 (by omega))) ?_
  refine mv <| h5 (k + 1, v11, r11) _ _ ⟨rfl, vi, vi, vi, hM11, by omega, agn_len _ _ _, by rw [agn]; exact hs11⟩ (by (try dsimp only); omega)
 refine h2 _ _ <| seq fun _ h12 => mv <| mv <| h12 _ _ <| ⟨y0_, rfl, ?_⟩
 obtain rfl : k = n.toNat := by omega
 exact ⟨_, hy0_, hM4⟩
theorem bytes_ok (t : Tk) (w : World) (ht : RdE byteV w t.lit t.bs) (hl : t.bs.length ≤ 140737488355328) (hn : -9223372036854775808 ≤ t.n - 4 ∧ t.n ≤ 9223372036854775807) (hd : -9223372036854775808 ≤ t.d ∧ t.d ≤ 9223372036854775807) : Calls Try.prog 40 [.agg (tokC t).toArray].toArray w (Rt fun r w' => ∃ rs, SlE byteV 5 r (tokB t.p) rs ∧ Mem w [] w' [rs]) := by
 have hM0 : Mem w [] w [] := Mem.nil w []
 refine calls_vc mixed Try.func40 rfl C40 (by simp [Try.ntmps40]) <| seq fun _ h1 => m_bx (v := .agg ([t.lit, .int .i64 ((t).d), .int .i64 ((t).n)] : List Value).toArray) hM0 rfl rfl fun b2 w3 (hM3 : Mem w [] w3 [[⟨b2, 65, [t.lit, .int .i64 ((t).d), .int .i64 ((t).n)]⟩]]) => mv <| h1 _ _ <| seq fun _ h4 => ?_
 intro wd e1 e2 e3 e4
 have hd := Upd.same e1 e2 e3 e4 []
 have hM5 := hM3.pure hd
 clear e1 e2 e3 e4
 refine ⟨(some [b2]), ?_⟩
 show vd _ _ _ _ _ _ _
 refine dfa rfl <| dfa rfl <| dqld rfl (by simp [isHeld]) (v := t.lit) ((hM5.at (i := 0) (j := 0) rfl rfl).cell 0) <| dl (m_ld (v := t.lit) hM5 (i := 0) (j := 0) rfl rfl rfl rfl <| ⟨(fun b hb => rfl), dq (v := .int .i64 (t.bs.length : Nat)) (o_lenR (ht.upd hM5.upd) rfl rfl) <| dl (m_call (Put_ok (t.bs.length : Nat) (by simp only [inK]; omega) wd) rfl fun v6 w6 ⟨rs6, hs6, hm6⟩ => ?_)⟩)
 have hM6 : Mem w [] w6 [[⟨b2, 65, [t.lit, .int .i64 ((t).d), .int .i64 ((t).n)]⟩], rs6] := hM5.add hm6
 have hn6 := putI_len (v := (t.bs.length : Nat)) (by omega)
 have hh6 := held_upd (wr := wd) (bs := [b2]) hm6.upd (fun b hb => by
  simp only [List.mem_cons, List.not_mem_nil, or_false] at hb
  rw [hb]; exact ⟨(hM5.at (i := 0) (j := 0) rfl rfl).lt, by simp⟩) (fun b hb => rfl)
 refine ⟨hh6, dl (m_appEU hM6 (i := 1) rfl hs6 rfl rfl (ht.upd hM6.upd) (by first | omega | (simp; omega)) (by omega) fun v7 w7 r7 (hs7 : SlE byteV 5 v7 ((putI (t.bs.length : Nat)) ++ t.bs) r7) hup7 (hM7 : Mem w [] w7 [[⟨b2, 65, [t.lit, .int .i64 ((t).d), .int .i64 ((t).n)]⟩], r7]) => ?_)⟩
 have hh7 := held_upd (wr := wd) (bs := [b2]) hup7 (fun b hb => by
  simp only [List.mem_cons, List.not_mem_nil, or_false] at hb
  rw [hb]; exact ⟨(hM6.at (i := 0) (j := 0) rfl rfl).lt, hM6.apart (i := 0) (j := 0) (k := 1) rfl rfl rfl (by decide)⟩) hh6
 refine ⟨hh7, dmv <| h4 _ _ <| seq fun _ h8 => seq fun _ h9 => m_ldA (l := [t.lit, .int .i64 ((t).d), .int .i64 ((t).n)]) hM7 (i := 0) (j := 0) rfl rfl rfl rfl rfl <| m_call (none_ok t w7) rfl fun v10 w10 ⟨hr10, hu10⟩ => ?_⟩
 have hM10 : Mem w [] w10 [[⟨b2, 65, [t.lit, .int .i64 ((t).d), .int .i64 ((t).n)]⟩], r7] := hM7.pure hu10
 subst hr10
 refine h9 _ _ <| cndP rfl (fun c11 => ?_) (fun c11 => ?_)
 ·refine seq fun _ h12 => mv <| mv <| h12 _ _ <| ⟨v7, rfl, ⟨_, by rw [tokB_none (by assumption)]; exact hs7, hM10.keep (by simp)⟩⟩
 refine h8 _ _ <| seq fun _ h13 => mv <| fa rfl <| m_ld (v := .int .i64 ((t).n)) hM10 (i := 0) (j := 0) rfl rfl rfl rfl <| stp (v := .int .i64 (((t).n) - 4)) (o_bin rfl rfl (v_sub64 (by omega))) <| m_call (Put_ok (((t).n) - 4) (by simp only [inK]; omega) w10) rfl fun v14 w14 ⟨rs14, hs14, hm14⟩ => ?_
 have hM14 : Mem w [] w14 [[⟨b2, 65, [t.lit, .int .i64 ((t).d), .int .i64 ((t).n)]⟩], r7, rs14] := hM10.add hm14
 have hn14 := putI_len (v := ((t).n) - 4) (by omega)
 refine m_appE hM14 (i := 1) rfl hs7 rfl rfl (hs14.rd hM14 (i := 2) rfl) (by first | omega | (simp; omega)) (by omega) fun v15 w15 r15 (hs15 : SlE byteV 5 v15 (((putI (t.bs.length : Nat)) ++ t.bs) ++ (putI (((t).n) - 4))) r15) (hM15 : Mem w [] w15 [[⟨b2, 65, [t.lit, .int .i64 ((t).d), .int .i64 ((t).n)]⟩], r15, rs14]) => mv <| h13 _ _ <| seq fun _ h16 => mv <| fa rfl <| m_ld (v := .int .i64 ((t).d)) hM15 (i := 0) (j := 0) rfl rfl rfl rfl <| m_call (Put_ok ((t).d) (by simp only [inK]; omega) w15) rfl fun v17 w17 ⟨rs17, hs17, hm17⟩ => ?_
 have hM17 : Mem w [] w17 [[⟨b2, 65, [t.lit, .int .i64 ((t).d), .int .i64 ((t).n)]⟩], r15, rs14, rs17] := hM15.add hm17
 have hn17 := putI_len (v := (t).d) (by omega)
 refine m_appE hM17 (i := 1) rfl hs15 rfl rfl (hs17.rd hM17 (i := 3) rfl) (by first | omega | (simp; omega)) (by omega) fun v18 w18 r18 (hs18 : SlE byteV 5 v18 ((((putI (t.bs.length : Nat)) ++ t.bs) ++ (putI (((t).n) - 4))) ++ (putI ((t).d))) r18) (hM18 : Mem w [] w18 [[⟨b2, 65, [t.lit, .int .i64 ((t).d), .int .i64 ((t).n)]⟩], r18, rs14, rs17]) => mv <| h16 _ _ <| ⟨v18, rfl, ⟨_, by rw [tokB_some (by assumption)]; exact hs18, hM18.keep (by simp)⟩⟩
end Go.Proofs.Ytifnmbmijljhfaa.E.Lz
namespace Go.Proofs.Ytifnmbmijljhfaa.E
open Go
def CurS (bc : Nat) (b : List UInt8) (a : Nat) (e : Int) (r : List Ent) : Prop := ∃ vb rb, r = ⟨bc, 118, [vb, .int .i64 (a : Nat), .int .i64 e]⟩ :: rb ∧ SlE byteV 5 vb b rb ∧ a ≤ b.length
def numE (l : List UInt8) (m : Int) : Int := if (get l).2.2 = 0 then (if m < ((get l).1 : Int) then 23 else 0) else (get l).2.2
def numV (l : List UInt8) (m : Int) : Int := if numE l m = 0 then (get l).1 else 0
def fixE (l : List UInt8) (n : Int) : Int := if n < 1 ∨ 8 < n then 23 else if (l.length : Int) < n then 20 else 0
def fixV (l : List UInt8) (n : Int) : Nat := if fixE l n = 0 then word (l.take n.toNat) else 0
def tkE (l : List UInt8) (n : Int) : Int := if n < 0 then 23 else if (l.length : Int) < n then 20 else 0
def tkV (l : List UInt8) (n : Int) : List UInt8 := if tkE l n = 0 then l.take n.toNat else []
theorem numE_get {l : List UInt8} {m : Int} (h : numE l m = 0) : (get l).2.2 = 0 := by unfold numE at h; split at h <;> omega
theorem CurS.le {bc : Nat} {b : List UInt8} {a : Nat} {e : Int} {r : List Ent} (h : CurS bc b a e r) : a ≤ b.length := by obtain ⟨_, _, _, _, h⟩ := h; exact h
theorem NewCursor_ok (x : Value) (b : List UInt8) (w : World) (hx : RdE byteV w x b) (hl : b.length ≤ 140737488355328) : Calls Try.prog 33 [x].toArray w (Rt fun r w' => ∃ bc rs, r = .pointer (some ⟨bc, 0, none⟩) ∧ CurS bc b 0 0 rs ∧ Mem w [] w' [rs]) := by
 have hM0 : Mem w [] w [] := Mem.nil w []
 refine calls_vc mixed Try.func33 rfl C33 (by simp [Try.ntmps33]) <| seq fun _ h1 => mv <| h1 _ _ <| seq fun _ h2 => mv ?_
 have hM3 : Mem w [] w [[]] := hM0.addNil
 have hs3 : SlE byteV 5 (.slice none 0 0) [] [] := Sl.nil 1 5
 refine m_appE hM3 (i := 0) rfl hs3 rfl rfl (hx.upd hM3.upd) (by first | omega | (simp; omega)) (by omega) fun v4 w4 r4 (hs4 : SlE byteV 5 v4 (b) r4) (hM4 : Mem w [] w4 [r4]) => ?_
 obtain ⟨a5_, n5_, c5_, rfl⟩ := Sl.isSlice hs4
 refine stp (v := .agg ([(.slice a5_ n5_ c5_), .int .i64 0, .int .i64 0] : List Value).toArray) (o_bld rfl rfl) <| m_bx (v := .agg ([(.slice a5_ n5_ c5_), .int .i64 0, .int .i64 0] : List Value).toArray) hM4 rfl rfl fun b6 w7 (hM7 : Mem w [] w7 [r4, [⟨b6, 118, [(.slice a5_ n5_ c5_), .int .i64 0, .int .i64 0]⟩]]) => mv <| h2 _ _ <| ⟨(.pointer (some ⟨b6, 0, none⟩)), rfl, ⟨_, _, rfl, ⟨_, _, rfl, hs4, Nat.zero_le _⟩, hM7.perm (by simp; exact (List.perm_append_singleton _ _).symm)⟩⟩
theorem reads_run (bc : Nat) (b : List UInt8) (a : Nat) (r0 rv : List Ent) (g : FuncId) (caps : List Value) (n : Nat) (er : Int) (T : List Ent → Prop) (w : World) (hc : CurS bc b a 0 r0) (hr : Res w (r0 ++ rv)) (hl : b.length ≤ 140737488355328) (ho : okFn Try.prog g = true) (hn : er = 0 → a + n ≤ b.length) (hq : ∀ wc u, RdE byteV wc u (b.drop a) → Res wc rv → Calls Try.prog g (u :: caps).toArray wc (Rt fun r w' => r = .tuple #[.int .i64 (n : Nat), .int .i64 er] ∧ ∃ rv', T rv' ∧ Mem wc (ids rv) w' [rv'])) : Calls Try.prog 60 [.pointer (some ⟨bc, 0, none⟩), .func (.func g) #[] caps.toArray].toArray w (Rt fun _ w' => ∃ r' rv', CurS bc b (if er = 0 then a + n else a) er r' ∧ T rv' ∧ Mem w (ids (r0 ++ rv)) w' [r', rv']) := by
 obtain ⟨vb, rb, rfl, hb, ha⟩ := hc
 have hM0 : Mem w (ids (⟨bc, 118, [vb, .int .i64 (a : Nat), .int .i64 0]⟩ :: rb ++ rv)) w [[⟨bc, 118, [vb, .int .i64 (a : Nat), .int .i64 0]⟩], rb, rv] := (Mem.start hr).keep (by simp)
 refine calls_vc mixed Try.func60 rfl C60 (by simp [Try.ntmps60]) <| seq fun _ h1 => seq fun _ h2 => mv <| stp (v := .bool false) (o_isnil rfl rfl) <| mv <| splitF rfl <| gmv rfl <| stg rfl (v := .pointer (some ⟨bc, 0, none⟩)) (o_nilchk rfl rfl) <| gfa rfl rfl <| gyesl rfl <| m_ld (v := .int .i64 0) hM0 (i := 0) (j := 0) rfl rfl rfl rfl <| stg rfl (v := .bool false) (o_bin rfl rfl v_neF) <| pkF rfl ?_
 refine h2 _ _ <| cndF rfl <| h1 _ _ <| seq fun _ h3 => ?_
 intro wd e1 e2 e3 e4
 have hd := Upd.same e1 e2 e3 e4 []
 have hM4 := hM0.pure hd
 clear e1 e2 e3 e4
 refine ⟨(some [bc]), ?_⟩
 show vd _ _ _ _ _ _ _
 refine dmv <| dmv <| dq (v := .pointer (some ⟨bc, 0, none⟩)) (o_nilchk rfl rfl) <| dfa rfl <| dmv <| dq (v := .pointer (some ⟨bc, 0, none⟩)) (o_nilchk rfl rfl) <| dfa rfl <| dqld rfl (by simp [isHeld]) (v := .int .i64 (a : Nat)) ((hM4.at (i := 0) (j := 0) rfl rfl).cell 1) <| dl (m_ld (v := vb) hM4 (i := 0) (j := 0) rfl rfl rfl rfl <| ⟨(fun b hb => rfl), dqp (m_slcE a b.length (hb.rd hM4 (i := 1) rfl) rfl (by omega) (by omega) rfl ⟨_, rfl⟩ fun u5 hu5 => ?_)⟩)
 show vd _ _ _ _ _ _ _
 refine dl (m_callv rfl (by assumption) (hq wd u5 (List.take_length (l := b) ▸ hu5) (hM4.res (i := 2) rfl)) rfl fun v6 w6 ⟨hr6, rv6, ht6, hm6⟩ => ?_)
 have hM6 : Mem w (ids (⟨bc, 118, [vb, .int .i64 (a : Nat), .int .i64 0]⟩ :: rb ++ rv)) w6 [[⟨bc, 118, [vb, .int .i64 (a : Nat), .int .i64 0]⟩], rb, rv6] := hM4.step 2 rfl hm6
 subst hr6
 have hh6 := held_upd (wr := wd) (bs := [bc]) hm6.upd (fun b hb => by
  simp only [List.mem_cons, List.not_mem_nil, or_false] at hb
  rw [hb]; exact ⟨(hM4.at (i := 0) (j := 0) rfl rfl).lt, hM4.apart (i := 0) (j := 0) (k := 2) rfl rfl rfl (by decide)⟩) (fun b hb => rfl)
 refine ⟨hh6, dmv <| dq (v := .int .i64 (n : Nat)) (o_ext rfl rfl) <| dq (v := .int .i64 er) (o_ext rfl rfl) <| dmv <| dmv <| h3 _ _ <| seq fun _ h7 => seq fun _ h8 => mv <| bneq rfl rfl <| h8 _ _ <| cndP rfl (fun c9 => ?_) (fun c9 => ?_)⟩
 ·refine seq fun _ h10 => mv <| mv <| nilchk rfl <| fa rfl <| m_st (v := .int .i64 er) hM6 (i := 0) rfl rfl rfl rfl (by simp) fun w11 (hM11 : Mem w (ids (⟨bc, 118, [vb, .int .i64 (a : Nat), .int .i64 0]⟩ :: rb ++ rv)) w11 [[⟨bc, 118, [vb, .int .i64 (a : Nat), .int .i64 er]⟩], rb, rv6]) => h10 _ _ <| ⟨(.tuple [].toArray), rfl, ⟨⟨bc, 118, [vb, .int .i64 (a : Nat), .int .i64 er]⟩ :: rb, _, ⟨vb, rb, by rw [if_neg (by assumption)], hb, by rw [if_neg (by assumption)]; exact ha⟩, by assumption, hM11.keep (by simp)⟩⟩
 refine h7 _ _ <| mv <| nilchk rfl <| fa rfl <| m_ld (v := .int .i64 (a : Nat)) hM6 (i := 0) (j := 0) rfl rfl rfl rfl <| mv <| stp (v := .int .i64 (a + n : Nat)) (o_bin rfl rfl ((v_add64 (by have := hn (by omega); omega)).trans (v_int (by omega)))) <| nilchk rfl <| fa rfl <| m_st (v := .int .i64 (a + n : Nat)) hM6 (i := 0) rfl rfl rfl rfl (by simp) fun w12 (hM12 : Mem w (ids (⟨bc, 118, [vb, .int .i64 (a : Nat), .int .i64 0]⟩ :: rb ++ rv)) w12 [[⟨bc, 118, [vb, .int .i64 (a + n : Nat), .int .i64 0]⟩], rb, rv6]) => ⟨(.tuple [].toArray), rfl, ?_⟩
 obtain rfl : er = 0 := by omega
 exact ⟨⟨bc, 118, [vb, .int .i64 ((a + n : Nat) : Int), .int .i64 0]⟩ :: rb, _, ⟨vb, rb, by rw [if_pos rfl], hb, by rw [if_pos rfl]; exact hn rfl⟩, by assumption, hM12.keep (by simp)⟩
theorem reads_no (bc : Nat) (vb : Value) (a : Nat) (e : Int) (f : Value) (w : World) (hw : Own w ⟨bc, 118, [vb, .int .i64 (a : Nat), .int .i64 e]⟩) (he : ¬ e = 0) : Calls Try.prog 60 [.pointer (some ⟨bc, 0, none⟩), f].toArray w (Rt fun _ w' => Upd [] w w') := by
 have hM0 : Mem w [] w [] := Mem.nil w []
 refine calls_vc mixed Try.func60 rfl C60 (by simp [Try.ntmps60]) <| seq fun _ h1 => seq fun _ h2 => mv <| stp (v := .bool false) (o_isnil rfl rfl) <| mv <| splitF rfl <| gmv rfl <| stg rfl (v := .pointer (some ⟨bc, 0, none⟩)) (o_nilchk rfl rfl) <| gfa rfl rfl <| gyesl rfl <| ld (v := .int .i64 e) rfl ((hw.upd hM0.upd (by simp)).cell 2) <| gbneq rfl rfl rfl <| pkF rfl ?_
 refine h2 _ _ <| cndP rfl (fun c3 => ?_) (fun c3 => (c3 (by omega)).elim)
 refine ⟨(.tuple [].toArray), rfl, hM0.upd⟩
theorem reads_ok (bc : Nat) (b : List UInt8) (a : Nat) (e : Int) (r0 rv : List Ent) (g : FuncId) (caps : List Value) (n : Nat) (er : Int) (T : List Ent → Prop) (w : World) (hc : CurS bc b a e r0) (hr : Res w (r0 ++ rv)) (hl : b.length ≤ 140737488355328) (ho : okFn Try.prog g = true) (hn : er = 0 → a + n ≤ b.length) (hq : ∀ wc u, RdE byteV wc u (b.drop a) → Res wc rv → Calls Try.prog g (u :: caps).toArray wc (Rt fun r w' => r = .tuple #[.int .i64 (n : Nat), .int .i64 er] ∧ ∃ rv', T rv' ∧ Mem wc (ids rv) w' [rv'])) :
 Calls Try.prog 60 [.pointer (some ⟨bc, 0, none⟩), .func (.func g) #[] caps.toArray].toArray w (Rt fun _ w' => ∃ r' rv', CurS bc b (if e = 0 ∧ er = 0 then a + n else a) (if e = 0 then er else e) r' ∧ (if e = 0 then T rv' else rv' = rv) ∧ Mem w (ids (r0 ++ rv)) w' [r', rv']) := by
 by_cases c : e = 0
 ·subst c
  refine (reads_run bc b a r0 rv g caps n er T w hc hr hl ho hn hq).mono fun en w' h => h.elim fun v h => ⟨v, h.1, ?_⟩
  obtain ⟨r', rv', h1, h2, h3⟩ := h.2
  exact ⟨r', rv', by simpa using h1, by simpa using h2, h3⟩
 obtain ⟨vb, rb, rfl, hb, ha⟩ := hc
 refine (reads_no bc vb a e _ w (hr.1 _ (by simp)) c).mono fun en w' h => h.elim fun v h => ⟨v, h.1, ⟨_, _, ⟨vb, rb, by rw [if_neg (fun h => c h.1), if_neg c], hb, by rw [if_neg (fun h => c h.1)]; exact ha⟩, by rw [if_neg c], ((Mem.start hr).pure h.2).keep (by simp)⟩⟩
theorem num_much {l : List UInt8} {m : Int} (h : (get l).2.2 = 0) (h2 : m < ((get l).1 : Int)) : numE l m = 23 ∧ numV l m = 0 := by
 have : numE l m = 23 := by unfold numE; rw [if_pos h, if_pos h2]
 exact ⟨this, by unfold numV; rw [if_neg (by omega)]⟩
theorem num_fine {l : List UInt8} {m : Int} (h : (get l).2.2 = 0) (h2 : ¬ m < ((get l).1 : Int)) : numE l m = (get l).2.2 ∧ numV l m = (get l).1 := by
 have : numE l m = 0 := by unfold numE; rw [if_pos h, if_neg h2]
 exact ⟨by omega, by unfold numV; rw [if_pos this]⟩
theorem num_bad {l : List UInt8} {m : Int} (h : ¬ (get l).2.2 = 0) : numE l m = (get l).2.2 ∧ numV l m = 0 := by
 have : numE l m = (get l).2.2 := by unfold numE; rw [if_neg h]
 exact ⟨this, by unfold numV; rw [if_neg (by omega)]⟩
def cNum (b : List UInt8) (a : Nat) (e m : Int) : Int := if e = 0 then numV (b.drop a) m else 0
def cNumA (b : List UInt8) (a : Nat) (e m : Int) : Nat := if e = 0 ∧ numE (b.drop a) m = 0 then a + (get (b.drop a)).2.1 else a
def cNumE (b : List UInt8) (a : Nat) (e m : Int) : Int := if e = 0 then numE (b.drop a) m else e
theorem num1_ok (bm bv : Nat) (m : Int) (u : Value) (l : List UInt8) (w : World) (hu : RdE byteV w u l) (hr : Res w [⟨bm, 2, [.int .i64 m]⟩, ⟨bv, 2, [.int .i64 0]⟩]) (hl : l.length ≤ 140737488355328) : Calls Try.prog 70 [u, .pointer (some ⟨bm, 0, none⟩), .pointer (some ⟨bv, 0, none⟩)].toArray w (Rt fun r w' => r = .tuple #[.int .i64 (((get l).2.1 : Nat) : Int), .int .i64 (numE l m)] ∧ ∃ rv', rv' = [⟨bm, 2, [.int .i64 m]⟩, ⟨bv, 2, [.int .i64 (numV l m)]⟩] ∧ Mem w (ids [⟨bm, 2, [.int .i64 m]⟩, ⟨bv, 2, [.int .i64 0]⟩]) w' [rv']) := by
 have hM0 : Mem w (ids [⟨bm, 2, [.int .i64 m]⟩, ⟨bv, 2, [.int .i64 0]⟩]) w [[⟨bm, 2, [.int .i64 m]⟩], [⟨bv, 2, [.int .i64 0]⟩]] := (Mem.start hr).keep (by simp)
 refine calls_vc mixed Try.func70 rfl C70 (by simp [Try.ntmps70]) <| seq fun _ h1 => mv <| mv <| h1 _ _ <| seq fun _ h2 => mv <| m_call (Get_ok _ l w (hu) (by first | omega | (simp; done) | (simp; omega))) rfl fun v3 w3 ⟨hr3, hu3⟩ => ?_
 have hM3 : Mem w (ids [⟨bm, 2, [.int .i64 m]⟩, ⟨bv, 2, [.int .i64 0]⟩]) w3 [[⟨bm, 2, [.int .i64 m]⟩], [⟨bv, 2, [.int .i64 0]⟩]] := hM0.pure hu3
 subst hr3
 refine mv <| ext rfl rfl <| ext rfl rfl <| ext rfl rfl <| mv <| mv <| mv <| h2 _ _ <| seq fun _ h4 => seq fun _ h5 => mv <| bn rfl rfl <| mv <| splitP rfl (fun c6 => ?_) (fun c6 => ?_)
 ·refine gmv rfl <| gyesl rfl <| m_ld (v := .int .i64 m) hM3 (i := 0) (j := 0) rfl rfl rfl rfl <| gbn rfl rfl rfl <| pkT rfl <| h5 _ _ <| cndP rfl (fun c7 => ?_) (fun c7 => ?_)
  ·refine mv <| h4 _ _ <| seq fun _ h8 => seq fun _ h9 => mv <| bn rfl rfl <| h9 _ _ <| cndP rfl (fun c10 => ?_) (fun c10 => ?_)
   ·refine mv <| m_st (v := .int .i64 ((get l).1 : Nat)) hM3 (i := 1) rfl rfl rfl rfl (by simp) fun w11 (hM11 : Mem w (ids [⟨bm, 2, [.int .i64 m]⟩, ⟨bv, 2, [.int .i64 0]⟩]) w11 [[⟨bm, 2, [.int .i64 m]⟩], [⟨bv, 2, [.int .i64 ((get l).1 : Nat)]⟩]]) => h8 _ _ <| seq fun _ h12 => mv <| mv <| mv <| mv <| h12 _ _ <| ⟨(.tuple [.int .i64 ((get l).2.1 : Nat), .int .i64 23].toArray), rfl, ?_⟩
    omega
   refine h8 _ _ <| seq fun _ h13 => mv <| mv <| mv <| mv <| h13 _ _ <| ⟨(.tuple [.int .i64 ((get l).2.1 : Nat), .int .i64 23].toArray), rfl, ⟨by rw [(num_much (by omega) (by omega)).1], _, by rw [(num_much (by omega) (by omega)).2], hM3.keep (by simp)⟩⟩
  refine h4 _ _ <| seq fun _ h14 => seq fun _ h15 => mv <| bn rfl rfl <| h15 _ _ <| cndP rfl (fun c16 => ?_) (fun c16 => ?_)
  ·refine mv <| m_st (v := .int .i64 ((get l).1 : Nat)) hM3 (i := 1) rfl rfl rfl rfl (by simp) fun w17 (hM17 : Mem w (ids [⟨bm, 2, [.int .i64 m]⟩, ⟨bv, 2, [.int .i64 0]⟩]) w17 [[⟨bm, 2, [.int .i64 m]⟩], [⟨bv, 2, [.int .i64 ((get l).1 : Nat)]⟩]]) => h14 _ _ <| seq fun _ h18 => mv <| mv <| mv <| mv <| h18 _ _ <| ⟨(.tuple [.int .i64 ((get l).2.1 : Nat), .int .i64 ((get l).2.2)].toArray), rfl, ⟨by rw [(num_fine (by omega) (by omega)).1], _, by rw [(num_fine (by omega) (by omega)).2], hM17.keep (by simp)⟩⟩
  refine h14 _ _ <| seq fun _ h19 => mv <| mv <| mv <| mv <| h19 _ _ <| ⟨(.tuple [.int .i64 ((get l).2.1 : Nat), .int .i64 ((get l).2.2)].toArray), rfl, ?_⟩
  omega
 refine gx rfl <| gxl rfl <| gx rfl <| pkF rfl <| h5 _ _ <| cndF rfl <| h4 _ _ <| seq fun _ h20 => seq fun _ h21 => mv <| bn rfl rfl <| h21 _ _ <| cndP rfl (fun c22 => ?_) (fun c22 => ?_)
 ·refine mv <| m_st (v := .int .i64 ((get l).1 : Nat)) hM3 (i := 1) rfl rfl rfl rfl (by simp) fun w23 (hM23 : Mem w (ids [⟨bm, 2, [.int .i64 m]⟩, ⟨bv, 2, [.int .i64 0]⟩]) w23 [[⟨bm, 2, [.int .i64 m]⟩], [⟨bv, 2, [.int .i64 ((get l).1 : Nat)]⟩]]) => h20 _ _ <| seq fun _ h24 => mv <| mv <| mv <| mv <| h24 _ _ <| ⟨(.tuple [.int .i64 ((get l).2.1 : Nat), .int .i64 ((get l).2.2)].toArray), rfl, ?_⟩
  omega
 refine h20 _ _ <| seq fun _ h25 => mv <| mv <| mv <| mv <| h25 _ _ <| ⟨(.tuple [.int .i64 ((get l).2.1 : Nat), .int .i64 ((get l).2.2)].toArray), rfl, ⟨by rw [(num_bad (by omega)).1], _, by rw [(num_bad (by omega)).2], hM3.keep (by simp)⟩⟩
theorem Num_ok (bc : Nat) (b : List UInt8) (a : Nat) (e m : Int) (r0 : List Ent) (w : World) (hc : CurS bc b a e r0) (hr : Res w r0) (hl : b.length ≤ 140737488355328) : Calls Try.prog 55 [.pointer (some ⟨bc, 0, none⟩), .int .i64 m].toArray w (Rt fun r w' => r = .int .i64 (cNum b a e m) ∧ ∃ r', CurS bc b (cNumA b a e m) (cNumE b a e m) r' ∧ Mem w (ids r0) w' [r']) := by
 have hM0 : Mem w (ids r0) w [r0] := Mem.start hr
 refine calls_vc mixed Try.func55 rfl C55 (by simp [Try.ntmps55]) <| seq fun _ h1 => m_bx (v := .int .i64 m) hM0 rfl rfl fun b2 w3 (hM3 : Mem w (ids r0) w3 [r0, [⟨b2, 2, [.int .i64 m]⟩]]) => mv <| h1 _ _ <| seq fun _ h4 => m_al hM3 fun b5 w6 (hM6 : Mem w (ids r0) w6 [r0, [⟨b2, 2, [.int .i64 m]⟩], [⟨b5, 2, [.int .i64 0]⟩]]) => h4 _ _ <| seq fun _ h7 => mv <| stp (v := .func (.func 70) [].toArray [.pointer (some ⟨b2, 0, none⟩), .pointer (some ⟨b5, 0, none⟩)].toArray) (o_mkf rfl) <| m_call (reads_ok bc b a e r0 [⟨b2, 2, [.int .i64 m]⟩, ⟨b5, 2, [.int .i64 0]⟩] 70 _ ((get (b.drop a)).2.1) (numE (b.drop a) m) (fun rv => rv = [⟨b2, 2, [.int .i64 m]⟩, ⟨b5, 2, [.int .i64 (numV (b.drop a) m)]⟩]) w6 hc (Mem.res2 ((hM6.keep (by simp) : Mem w (ids r0) w6 [r0, [⟨b2, 2, [.int .i64 m]⟩, ⟨b5, 2, [.int .i64 0]⟩]])) 0 1 rfl rfl (by decide)) hl (by kernel_rfl) (by intro h; have := hc.le; have := (get_ok (numE_get h)).2.1; simp only [List.length_drop] at this; omega) (fun wc u hx hr => num1_ok b2 b5 m u _ wc hx hr (by simp; omega))) rfl fun v8 w8 ⟨r8, rv8, hc8, ht8, hm8⟩ => ?_
 obtain rfl : rv8 = [⟨b2, 2, [.int .i64 m]⟩, ⟨b5, 2, [.int .i64 (cNum b a e m)]⟩] := by
  by_cases c : e = 0
  ·rw [if_pos c] at ht8; rw [ht8, cNum, if_pos c]
  rw [if_neg c] at ht8; (rw [ht8, cNum, if_neg c] <;> rfl)
 have hM8 : Mem w (ids r0) w8 [r8, [⟨b2, 2, [.int .i64 m]⟩], [⟨b5, 2, [.int .i64 (cNum b a e m)]⟩]] := (Mem.step2 (hM6.keep (by simp) : Mem w (ids r0) w6 [r0, [⟨b2, 2, [.int .i64 m]⟩, ⟨b5, 2, [.int .i64 0]⟩]]) 0 1 rfl rfl (by decide) hm8).keep (by simp)
 have hcn := hc8
 refine h7 _ _ <| seq fun _ h9 => m_ld (v := .int .i64 (cNum b a e m)) hM8 (i := 2) (j := 0) rfl rfl rfl rfl <| mv <| h9 _ _ <| ⟨(.int .i64 (cNum b a e m)), rfl, ⟨rfl, _, hcn, hM8.keep (by simp)⟩⟩
theorem fix_arg {l : List UInt8} {n : Int} (h : n < 1 ∨ 8 < n) : fixE l n = 23 ∧ fixV l n = 0 := by
 have : fixE l n = 23 := by unfold fixE; rw [if_pos h]
 exact ⟨this, by unfold fixV; rw [if_neg (by omega)]⟩
theorem fix_short {l : List UInt8} {n : Int} (h : ¬ (n < 1 ∨ 8 < n)) (h2 : (l.length : Int) < n) : fixE l n = 20 ∧ fixV l n = 0 := by
 have : fixE l n = 20 := by unfold fixE; rw [if_neg h, if_pos h2]
 exact ⟨this, by unfold fixV; rw [if_neg (by omega)]⟩
theorem fix_fine {l : List UInt8} {n : Int} (h : ¬ (n < 1 ∨ 8 < n)) (h2 : ¬ (l.length : Int) < n) : fixE l n = 0 ∧ fixV l n = word (l.take n.toNat) := by
 have : fixE l n = 0 := by unfold fixE; rw [if_neg h, if_neg h2]
 exact ⟨this, by unfold fixV; rw [if_pos this]⟩
def fixN (l : List UInt8) (n : Int) : Nat := if fixE l n = 0 then n.toNat else 0
def cFix (b : List UInt8) (a : Nat) (e n : Int) : Nat := if e = 0 then fixV (b.drop a) n else 0
def cFixA (b : List UInt8) (a : Nat) (e n : Int) : Nat := if e = 0 ∧ fixE (b.drop a) n = 0 then a + fixN (b.drop a) n else a
def cFixE (b : List UInt8) (a : Nat) (e n : Int) : Int := if e = 0 then fixE (b.drop a) n else e
theorem fixN_le {l : List UInt8} {n : Int} (h : fixE l n = 0) : fixN l n ≤ l.length := by
 unfold fixN; rw [if_pos h]; unfold fixE at h; split at h
 ·omega
 split at h <;> omega
theorem fixN_0 {l : List UInt8} {n : Int} (h : ¬ fixE l n = 0) : fixN l n = 0 := by unfold fixN; rw [if_neg h]
theorem fixN_n {l : List UInt8} {n : Int} (h : fixE l n = 0) : ((fixN l n : Nat) : Int) = n := by
 unfold fixN; rw [if_pos h]; unfold fixE at h; split at h <;> omega
theorem fix1_ok (bm bv : Nat) (m : Int) (u : Value) (l : List UInt8) (w : World) (hu : RdE byteV w u l) (hr : Res w [⟨bm, 3, [.int .i64 m]⟩, ⟨bv, 39, [.int .u64 0]⟩]) (hl : l.length ≤ 140737488355328) : Calls Try.prog 72 [u, .pointer (some ⟨bm, 0, none⟩), .pointer (some ⟨bv, 0, none⟩)].toArray w (Rt fun r w' => r = .tuple #[.int .i64 ((fixN l m : Nat) : Int), .int .i64 (fixE l m)] ∧ ∃ rv', rv' = [⟨bm, 3, [.int .i64 m]⟩, ⟨bv, 39, [.int .u64 ((fixV l m : Nat) : Int)]⟩] ∧ Mem w (ids [⟨bm, 3, [.int .i64 m]⟩, ⟨bv, 39, [.int .u64 0]⟩]) w' [rv']) := by
 have hM0 : Mem w (ids [⟨bm, 3, [.int .i64 m]⟩, ⟨bv, 39, [.int .u64 0]⟩]) w [[⟨bm, 3, [.int .i64 m]⟩], [⟨bv, 39, [.int .u64 0]⟩]] := (Mem.start hr).keep (by simp)
 refine calls_vc mixed Try.func72 rfl C72 (by simp [Try.ntmps72]) <| seq fun _ h1 => mv <| mv <| h1 _ _ <| seq fun _ h2 => seq fun _ h3 => m_ld (v := .int .i64 m) hM0 (i := 0) (j := 0) rfl rfl rfl rfl <| bn rfl rfl <| mv <| splitP rfl (fun c4 => ?_) (fun c4 => ?_)
 ·refine gxl rfl <| gx rfl <| pkT rfl <| mv <| h3 _ _ <| cndT rfl <| seq fun _ h5 => mv <| mv <| h5 _ _ <| ⟨(.tuple [.int .i64 0, .int .i64 23].toArray), rfl, ?_⟩
  first | omega | exact ⟨by (rw [(fix_arg (l := l) (n := m) (by omega)).1, fixN_0 (by rw [(fix_arg (l := l) (n := m) (by omega)).1]; decide)] <;> rfl), _, by (rw [(fix_arg (l := l) (n := m) (by omega)).2] <;> rfl), hM0.keep (by simp)⟩ | exact ⟨by (rw [(fix_short (l := l) (n := m) (by omega) (by omega)).1, fixN_0 (by rw [(fix_short (l := l) (n := m) (by omega) (by omega)).1]; decide)] <;> rfl), _, by (rw [(fix_short (l := l) (n := m) (by omega) (by omega)).2] <;> rfl), hM0.keep (by simp)⟩ | exact ⟨by rw [fixN_n (fix_fine (l := l) (n := m) (by omega) (by omega)).1, (fix_fine (l := l) (n := m) (by omega) (by omega)).1], _, by rw [(fix_fine (l := l) (n := m) (by omega) (by omega)).2], hM0.keep (by simp)⟩
 refine gyesl rfl <| m_ld (v := .int .i64 m) hM0 (i := 0) (j := 0) rfl rfl rfl rfl <| gbn rfl rfl rfl <| pkF rfl <| mv <| h3 _ _ <| cndP rfl (fun c6 => ?_) (fun c6 => ?_)
 ·refine seq fun _ h7 => mv <| mv <| h7 _ _ <| ⟨(.tuple [.int .i64 0, .int .i64 23].toArray), rfl, ?_⟩
  first | omega | exact ⟨by (rw [(fix_arg (l := l) (n := m) (by omega)).1, fixN_0 (by rw [(fix_arg (l := l) (n := m) (by omega)).1]; decide)] <;> rfl), _, by (rw [(fix_arg (l := l) (n := m) (by omega)).2] <;> rfl), hM0.keep (by simp)⟩ | exact ⟨by (rw [(fix_short (l := l) (n := m) (by omega) (by omega)).1, fixN_0 (by rw [(fix_short (l := l) (n := m) (by omega) (by omega)).1]; decide)] <;> rfl), _, by (rw [(fix_short (l := l) (n := m) (by omega) (by omega)).2] <;> rfl), hM0.keep (by simp)⟩ | exact ⟨by rw [fixN_n (fix_fine (l := l) (n := m) (by omega) (by omega)).1, (fix_fine (l := l) (n := m) (by omega) (by omega)).1], _, by rw [(fix_fine (l := l) (n := m) (by omega) (by omega)).2], hM0.keep (by simp)⟩
 refine seq fun _ h8 => m_ld (v := .int .i64 m) hM0 (i := 0) (j := 0) rfl rfl rfl rfl <| mv <| stp (v := .int .i64 (l.length : Nat)) (o_lenR (hu) rfl rfl) <| bn rfl rfl <| mv <| h8 _ _ <| cndP rfl (fun c9 => ?_) (fun c9 => ?_)
 ·refine seq fun _ h10 => mv <| mv <| h10 _ _ <| ⟨(.tuple [.int .i64 0, .int .i64 20].toArray), rfl, ?_⟩
  first | omega | exact ⟨by (rw [(fix_arg (l := l) (n := m) (by omega)).1, fixN_0 (by rw [(fix_arg (l := l) (n := m) (by omega)).1]; decide)] <;> rfl), _, by (rw [(fix_arg (l := l) (n := m) (by omega)).2] <;> rfl), hM0.keep (by simp)⟩ | exact ⟨by (rw [(fix_short (l := l) (n := m) (by omega) (by omega)).1, fixN_0 (by rw [(fix_short (l := l) (n := m) (by omega) (by omega)).1]; decide)] <;> rfl), _, by (rw [(fix_short (l := l) (n := m) (by omega) (by omega)).2] <;> rfl), hM0.keep (by simp)⟩ | exact ⟨by rw [fixN_n (fix_fine (l := l) (n := m) (by omega) (by omega)).1, (fix_fine (l := l) (n := m) (by omega) (by omega)).1], _, by rw [(fix_fine (l := l) (n := m) (by omega) (by omega)).2], hM0.keep (by simp)⟩
 refine h2 _ _ <| seq fun _ h11 => mv <| m_ld (v := .int .i64 m) hM0 (i := 0) (j := 0) rfl rfl rfl rfl <| m_slcE 0 m.toNat (hu) rfl (by omega) (by omega) ⟨_, v_int (by omega)⟩ rfl fun u12 hu12 => m_call (Word_ok _ ((l.take m.toNat).drop 0) w (hu12) (by first | omega | (simp; done) | (simp; omega))) rfl fun v13 w13 ⟨hr13, hu13⟩ => ?_
 have hM13 : Mem w (ids [⟨bm, 3, [.int .i64 m]⟩, ⟨bv, 39, [.int .u64 0]⟩]) w13 [[⟨bm, 3, [.int .i64 m]⟩], [⟨bv, 39, [.int .u64 0]⟩]] := hM0.pure hu13
 subst hr13
 refine m_st (v := .int .u64 (word ((l.take m.toNat).drop 0) : Nat)) hM13 (i := 1) rfl rfl rfl rfl (by simp) fun w14 (hM14 : Mem w (ids [⟨bm, 3, [.int .i64 m]⟩, ⟨bv, 39, [.int .u64 0]⟩]) w14 [[⟨bm, 3, [.int .i64 m]⟩], [⟨bv, 39, [.int .u64 (word ((l.take m.toNat).drop 0) : Nat)]⟩]]) => h11 _ _ <| seq fun _ h15 => m_ld (v := .int .i64 m) hM14 (i := 0) (j := 0) rfl rfl rfl rfl <| mv <| mv <| h15 _ _ <| ⟨(.tuple [.int .i64 m, .int .i64 0].toArray), rfl, ?_⟩
 first | omega | exact ⟨by (rw [(fix_arg (l := l) (n := m) (by omega)).1, fixN_0 (by rw [(fix_arg (l := l) (n := m) (by omega)).1]; decide)] <;> rfl), _, by (rw [(fix_arg (l := l) (n := m) (by omega)).2] <;> rfl), hM14.keep (by simp)⟩ | exact ⟨by (rw [(fix_short (l := l) (n := m) (by omega) (by omega)).1, fixN_0 (by rw [(fix_short (l := l) (n := m) (by omega) (by omega)).1]; decide)] <;> rfl), _, by (rw [(fix_short (l := l) (n := m) (by omega) (by omega)).2] <;> rfl), hM14.keep (by simp)⟩ | exact ⟨by rw [fixN_n (fix_fine (l := l) (n := m) (by omega) (by omega)).1, (fix_fine (l := l) (n := m) (by omega) (by omega)).1], _, by rw [(fix_fine (l := l) (n := m) (by omega) (by omega)).2], hM14.keep (by simp)⟩
theorem cFixed_ok (bc : Nat) (b : List UInt8) (a : Nat) (e m : Int) (r0 : List Ent) (w : World) (hc : CurS bc b a e r0) (hr : Res w r0) (hl : b.length ≤ 140737488355328) : Calls Try.prog 58 [.pointer (some ⟨bc, 0, none⟩), .int .i64 m].toArray w (Rt fun r w' => r = .int .u64 ((cFix b a e m : Nat) : Int) ∧ ∃ r', CurS bc b (cFixA b a e m) (cFixE b a e m) r' ∧ Mem w (ids r0) w' [r']) := by
 have hM0 : Mem w (ids r0) w [r0] := Mem.start hr
 refine calls_vc mixed Try.func58 rfl C58 (by simp [Try.ntmps58]) <| seq fun _ h1 => m_bx (v := .int .i64 m) hM0 rfl rfl fun b2 w3 (hM3 : Mem w (ids r0) w3 [r0, [⟨b2, 3, [.int .i64 m]⟩]]) => mv <| h1 _ _ <| seq fun _ h4 => m_al hM3 fun b5 w6 (hM6 : Mem w (ids r0) w6 [r0, [⟨b2, 3, [.int .i64 m]⟩], [⟨b5, 39, [.int .u64 0]⟩]]) => h4 _ _ <| seq fun _ h7 => mv <| stp (v := .func (.func 72) [].toArray [.pointer (some ⟨b2, 0, none⟩), .pointer (some ⟨b5, 0, none⟩)].toArray) (o_mkf rfl) <| m_call (reads_ok bc b a e r0 [⟨b2, 3, [.int .i64 m]⟩, ⟨b5, 39, [.int .u64 0]⟩] 72 _ (fixN (b.drop a) m) (fixE (b.drop a) m) (fun rv => rv = [⟨b2, 3, [.int .i64 m]⟩, ⟨b5, 39, [.int .u64 ((fixV (b.drop a) m : Nat) : Int)]⟩]) w6 hc (Mem.res2 ((hM6.keep (by simp) : Mem w (ids r0) w6 [r0, [⟨b2, 3, [.int .i64 m]⟩, ⟨b5, 39, [.int .u64 0]⟩]])) 0 1 rfl rfl (by decide)) hl (by kernel_rfl) (by intro h; have := hc.le; have := fixN_le h; simp only [List.length_drop] at this; omega) (fun wc u hx hr => fix1_ok b2 b5 m u _ wc hx hr (by simp; omega))) rfl fun v8 w8 ⟨r8, rv8, hc8, ht8, hm8⟩ => ?_
 obtain rfl : rv8 = [⟨b2, 3, [.int .i64 m]⟩, ⟨b5, 39, [.int .u64 (cFix b a e m : Nat)]⟩] := by
  by_cases c : e = 0
  ·rw [if_pos c] at ht8; rw [ht8, cFix, if_pos c]
  rw [if_neg c] at ht8; (rw [ht8, cFix, if_neg c] <;> rfl)
 have hM8 : Mem w (ids r0) w8 [r8, [⟨b2, 3, [.int .i64 m]⟩], [⟨b5, 39, [.int .u64 (cFix b a e m : Nat)]⟩]] := (Mem.step2 (hM6.keep (by simp) : Mem w (ids r0) w6 [r0, [⟨b2, 3, [.int .i64 m]⟩, ⟨b5, 39, [.int .u64 0]⟩]]) 0 1 rfl rfl (by decide) hm8).keep (by simp)
 have hcn := hc8
 refine h7 _ _ <| seq fun _ h9 => m_ld (v := .int .u64 (cFix b a e m : Nat)) hM8 (i := 2) (j := 0) rfl rfl rfl rfl <| mv <| h9 _ _ <| ⟨(.int .u64 (cFix b a e m : Nat)), rfl, ⟨rfl, _, hcn, hM8.keep (by simp)⟩⟩
theorem tk_arg {l : List UInt8} {n : Int} (h : n < 0) : tkE l n = 23 ∧ tkV l n = [] := by
 have : tkE l n = 23 := by unfold tkE; rw [if_pos h]
 exact ⟨this, by unfold tkV; rw [if_neg (by omega)]⟩
theorem tk_short {l : List UInt8} {n : Int} (h : ¬ n < 0) (h2 : (l.length : Int) < n) : tkE l n = 20 ∧ tkV l n = [] := by
 have : tkE l n = 20 := by unfold tkE; rw [if_neg h, if_pos h2]
 exact ⟨this, by unfold tkV; rw [if_neg (by omega)]⟩
theorem tk_fine {l : List UInt8} {n : Int} (h : ¬ n < 0) (h2 : ¬ (l.length : Int) < n) : tkE l n = 0 ∧ tkV l n = l.take n.toNat := by
 have : tkE l n = 0 := by unfold tkE; rw [if_neg h, if_neg h2]
 exact ⟨this, by unfold tkV; rw [if_pos this]⟩
def tkN (l : List UInt8) (n : Int) : Nat := if tkE l n = 0 then n.toNat else 0
def cTk (b : List UInt8) (a : Nat) (e n : Int) : List UInt8 := if e = 0 then tkV (b.drop a) n else []
def cTkA (b : List UInt8) (a : Nat) (e n : Int) : Nat := if e = 0 ∧ tkE (b.drop a) n = 0 then a + tkN (b.drop a) n else a
def cTkE (b : List UInt8) (a : Nat) (e n : Int) : Int := if e = 0 then tkE (b.drop a) n else e
theorem tkN_le {l : List UInt8} {n : Int} (h : tkE l n = 0) : tkN l n ≤ l.length := by
 unfold tkN; rw [if_pos h]; unfold tkE at h; split at h
 ·omega
 split at h <;> omega
theorem tkN_0 {l : List UInt8} {n : Int} (h : ¬ tkE l n = 0) : tkN l n = 0 := by unfold tkN; rw [if_neg h]
theorem tkN_n {l : List UInt8} {n : Int} (h : tkE l n = 0) : ((tkN l n : Nat) : Int) = n := by
 unfold tkN; rw [if_pos h]; unfold tkE at h; split at h <;> omega
theorem tk1_ok (bm bv : Nat) (m : Int) (u : Value) (l : List UInt8) (w : World) (hu : RdE byteV w u l) (hr : Res w [⟨bm, 3, [.int .i64 m]⟩, ⟨bv, 24, [.slice none 0 0]⟩]) (hl : l.length ≤ 140737488355328) : Calls Try.prog 61 [u, .pointer (some ⟨bm, 0, none⟩), .pointer (some ⟨bv, 0, none⟩)].toArray w (Rt fun r w' => r = .tuple #[.int .i64 ((tkN l m : Nat) : Int), .int .i64 (tkE l m)] ∧ ∃ rv', (∃ vs rs, rv' = ⟨bm, 3, [.int .i64 m]⟩ :: ⟨bv, 24, [vs]⟩ :: rs ∧ SlE byteV 5 vs (tkV l m) rs) ∧ Mem w (ids [⟨bm, 3, [.int .i64 m]⟩, ⟨bv, 24, [.slice none 0 0]⟩]) w' [rv']) := by
 have hM0 : Mem w (ids [⟨bm, 3, [.int .i64 m]⟩, ⟨bv, 24, [.slice none 0 0]⟩]) w [[⟨bm, 3, [.int .i64 m]⟩], [⟨bv, 24, [.slice none 0 0]⟩]] := (Mem.start hr).keep (by simp)
 refine calls_vc mixed Try.func61 rfl C61 (by simp [Try.ntmps61]) <| seq fun _ h1 => mv <| mv <| h1 _ _ <| seq fun _ h2 => seq fun _ h3 => m_ld (v := .int .i64 m) hM0 (i := 0) (j := 0) rfl rfl rfl rfl <| bn rfl rfl <| mv <| h3 _ _ <| cndP rfl (fun c4 => ?_) (fun c4 => ?_)
 ·refine seq fun _ h5 => mv <| mv <| h5 _ _ <| ⟨(.tuple [.int .i64 0, .int .i64 23].toArray), rfl, ⟨by (rw [(tk_arg (l := l) (n := m) (by omega)).1, tkN_0 (by rw [(tk_arg (l := l) (n := m) (by omega)).1]; decide)] <;> rfl), _, ⟨_, [], rfl, by rw [(tk_arg (l := l) (n := m) (by omega)).2]; exact Sl.nil 1 5⟩, hM0.keep (by simp)⟩⟩
 refine seq fun _ h6 => m_ld (v := .int .i64 m) hM0 (i := 0) (j := 0) rfl rfl rfl rfl <| mv <| stp (v := .int .i64 (l.length : Nat)) (o_lenR (hu) rfl rfl) <| bn rfl rfl <| mv <| h6 _ _ <| cndP rfl (fun c7 => ?_) (fun c7 => ?_)
 ·refine seq fun _ h8 => mv <| mv <| h8 _ _ <| ⟨(.tuple [.int .i64 0, .int .i64 20].toArray), rfl, ⟨by (rw [(tk_short (l := l) (n := m) (by omega) (by omega)).1, tkN_0 (by rw [(tk_short (l := l) (n := m) (by omega) (by omega)).1]; decide)] <;> rfl), _, ⟨_, [], rfl, by rw [(tk_short (l := l) (n := m) (by omega) (by omega)).2]; exact Sl.nil 1 5⟩, hM0.keep (by simp)⟩⟩
 refine h2 _ _ <| seq fun _ h9 => ?_
 intro wd e1 e2 e3 e4
 have hd := Upd.same e1 e2 e3 e4 []
 have hM10 := hM0.pure hd
 clear e1 e2 e3 e4
 refine ⟨(some [bm]), ?_⟩
 show vd _ _ _ _ _ _ _
 refine dmv <| dqld rfl (by simp [isHeld]) (v := .int .i64 m) ((hM10.at (i := 0) (j := 0) rfl rfl).cell 0) <| dqp (m_slcE 0 m.toNat (hu.upd (hd)) rfl (by omega) (by omega) ⟨_, v_int (by omega)⟩ rfl fun u11 hu11 => ?_)
 show vd _ _ _ _ _ _ _
 refine dl (m_ld (v := .slice none 0 0) hM10 (i := 1) (j := 0) rfl rfl rfl rfl <| ⟨(fun b hb => rfl), ?_⟩)
 have hM12 : Mem w (ids [⟨bm, 3, [.int .i64 m]⟩, ⟨bv, 24, [.slice none 0 0]⟩]) wd [[⟨bm, 3, [.int .i64 m]⟩], [⟨bv, 24, [.slice none 0 0]⟩], []] := hM10.addNil
 have hs12 : SlE byteV 5 (.slice none 0 0) [] [] := Sl.nil 1 5
 refine dl (m_appEU hM12 (i := 2) rfl hs12 rfl rfl (hu11.upd ((Upd.refl [] _))) (by first | omega | (simp; omega)) (by omega) fun v13 w13 r13 (hs13 : SlE byteV 5 v13 ((l.take m.toNat).drop 0) r13) hup13 (hM13 : Mem w (ids [⟨bm, 3, [.int .i64 m]⟩, ⟨bv, 24, [.slice none 0 0]⟩]) w13 [[⟨bm, 3, [.int .i64 m]⟩], [⟨bv, 24, [.slice none 0 0]⟩], r13]) => ?_)
 have hh13 := held_upd (wr := wd) (bs := [bm]) hup13 (fun b hb => by
  simp only [List.mem_cons, List.not_mem_nil, or_false] at hb
  rw [hb]; exact ⟨(hM12.at (i := 0) (j := 0) rfl rfl).lt, hM12.apart (i := 0) (j := 0) (k := 2) rfl rfl rfl (by decide)⟩) (fun b hb => rfl)
 refine ⟨hh13, dl (m_stU (v := v13) hM13 (i := 1) rfl rfl rfl (Sl.one hs13) (by simp) fun w14 hup14 (hM14 : Mem w (ids [⟨bm, 3, [.int .i64 m]⟩, ⟨bv, 24, [.slice none 0 0]⟩]) w14 [[⟨bm, 3, [.int .i64 m]⟩], [⟨bv, 24, [v13]⟩], r13]) => ?_)⟩
 have hh14 := held_upd (wr := wd) (bs := [bm]) hup14 (fun b hb => by
  simp only [List.mem_cons, List.not_mem_nil, or_false] at hb
  rw [hb]; exact ⟨(hM13.at (i := 0) (j := 0) rfl rfl).lt, hM13.apart (i := 0) (j := 0) (k := 1) rfl rfl rfl (by decide)⟩) hh13
 refine ⟨hh14, h9 _ _ <| seq fun _ h15 => m_ld (v := .int .i64 m) hM14 (i := 0) (j := 0) rfl rfl rfl rfl <| mv <| mv <| h15 _ _ <| ⟨(.tuple [.int .i64 m, .int .i64 0].toArray), rfl, ⟨by rw [tkN_n (tk_fine (l := l) (n := m) (by omega) (by omega)).1, (tk_fine (l := l) (n := m) (by omega) (by omega)).1], _, ⟨_, _, rfl, by rw [(tk_fine (l := l) (n := m) (by omega) (by omega)).2]; exact hs13⟩, hM14.keep (by simp)⟩⟩⟩
theorem Take_ok (bc : Nat) (b : List UInt8) (a : Nat) (e m : Int) (r0 : List Ent) (w : World) (hc : CurS bc b a e r0) (hr : Res w r0) (hl : b.length ≤ 140737488355328) : Calls Try.prog 36 [.pointer (some ⟨bc, 0, none⟩), .int .i64 m].toArray w (Rt fun r w' => ∃ r' rs, CurS bc b (cTkA b a e m) (cTkE b a e m) r' ∧ SlE byteV 5 r (cTk b a e m) rs ∧ Mem w (ids r0) w' [r', rs]) := by
 have hM0 : Mem w (ids r0) w [r0] := Mem.start hr
 refine calls_vc mixed Try.func36 rfl C36 (by simp [Try.ntmps36]) <| seq fun _ h1 => m_bx (v := .int .i64 m) hM0 rfl rfl fun b2 w3 (hM3 : Mem w (ids r0) w3 [r0, [⟨b2, 3, [.int .i64 m]⟩]]) => mv <| h1 _ _ <| seq fun _ h4 => m_al hM3 fun b5 w6 (hM6 : Mem w (ids r0) w6 [r0, [⟨b2, 3, [.int .i64 m]⟩], [⟨b5, 24, [.slice none 0 0]⟩]]) => h4 _ _ <| seq fun _ h7 => mv <| stp (v := .func (.func 61) [].toArray [.pointer (some ⟨b2, 0, none⟩), .pointer (some ⟨b5, 0, none⟩)].toArray) (o_mkf rfl) <| m_call (reads_ok bc b a e r0 [⟨b2, 3, [.int .i64 m]⟩, ⟨b5, 24, [.slice none 0 0]⟩] 61 _ (tkN (b.drop a) m) (tkE (b.drop a) m) (fun rv => ∃ vs rs, rv = ⟨b2, 3, [.int .i64 m]⟩ :: ⟨b5, 24, [vs]⟩ :: rs ∧ SlE byteV 5 vs (tkV (b.drop a) m) rs) w6 hc (Mem.res2 ((hM6.keep (by simp) : Mem w (ids r0) w6 [r0, [⟨b2, 3, [.int .i64 m]⟩, ⟨b5, 24, [.slice none 0 0]⟩]])) 0 1 rfl rfl (by decide)) hl (by kernel_rfl) (by intro h; have := hc.le; have := tkN_le h; simp only [List.length_drop] at this; omega) (fun wc u hx hr => tk1_ok b2 b5 m u _ wc hx hr (by simp; omega))) rfl fun v8 w8 ⟨r8, rv8, hc8, ht8, hm8⟩ => ?_
 obtain ⟨vs8, rs8, rfl, hs8⟩ : ∃ vs rs, rv8 = ⟨b2, 3, [.int .i64 m]⟩ :: ⟨b5, 24, [vs]⟩ :: rs ∧ SlE byteV 5 vs (cTk b a e m) rs := by
  by_cases c : e = 0
  ·rw [if_pos c] at ht8; obtain ⟨vs, rs, h1, h2⟩ := ht8; exact ⟨vs, rs, h1, by unfold cTk; rw [if_pos c]; exact h2⟩
  rw [if_neg c] at ht8; exact ⟨_, [], ht8, by unfold cTk; rw [if_neg c]; exact Sl.nil 1 5⟩
 have hM8 : Mem w (ids r0) w8 [r8, [⟨b2, 3, [.int .i64 m]⟩], [⟨b5, 24, [vs8]⟩], rs8] := (Mem.step2 (hM6.keep (by simp) : Mem w (ids r0) w6 [r0, [⟨b2, 3, [.int .i64 m]⟩, ⟨b5, 24, [.slice none 0 0]⟩]]) 0 1 rfl rfl (by decide) hm8).keep (by simp)
 have hcn := hc8
 have hsn := hs8
 refine h7 _ _ <| seq fun _ h9 => m_ld (v := vs8) hM8 (i := 2) (j := 0) rfl rfl rfl rfl <| mv <| h9 _ _ <| ⟨vs8, rfl, ⟨_, _, hcn, hsn, ((hM8.drop 1).drop 2).keep (by simp)⟩⟩
def endE (b : List UInt8) (a : Nat) (e : Int) : Int := if ¬ e = 0 then e else if a < b.length then 22 else 0
def endA (b : List UInt8) (a : Nat) (e : Int) : Nat := if ¬ e = 0 then a else if a < b.length then a else 0
set_option maxRecDepth 100000 in
theorem End_ok (bc : Nat) (b : List UInt8) (a : Nat) (e : Int) (r0 : List Ent) (w : World) (hc : CurS bc b a e r0) (hr : Res w r0) : Calls Try.prog 53 [.pointer (some ⟨bc, 0, none⟩)].toArray w (Rt fun r w' => r = .agg #[.int .i64 (endE b a e), .int .i64 ((endA b a e : Nat) : Int)] ∧ Mem w (ids r0) w' [r0]) := by
 obtain ⟨vb, rb, rfl, hb, ha⟩ := hc
 have hM0 : Mem w (ids (⟨bc, 118, [vb, .int .i64 (a : Nat), .int .i64 e]⟩ :: rb)) w [[⟨bc, 118, [vb, .int .i64 (a : Nat), .int .i64 e]⟩], rb] := (Mem.start hr).keep (by simp)
 refine calls_vc mixed Try.func53 rfl C53 (by simp [Try.ntmps53]) <| seq fun _ h1 => m_al hM0 fun b2 w3 (hM3 : Mem w (ids (⟨bc, 118, [vb, .int .i64 (a : Nat), .int .i64 e]⟩ :: rb)) w3 [[⟨bc, 118, [vb, .int .i64 (a : Nat), .int .i64 e]⟩], rb, [⟨b2, 110, [.int .i64 0, .int .i64 0]⟩]]) => h1 _ _ <| seq fun _ h4 => seq fun _ h5 => mv <| stp (v := .bool false) (o_isnil rfl rfl) <| mv <| h5 _ _ <| cndF rfl <| seq fun _ h6 => mv <| nilchk rfl ?_
 refine fa rfl <| m_ld (v := .int .i64 e) hM3 (i := 0) (j := 0) rfl rfl rfl rfl <| bneq rfl rfl <| mv <| h6 _ _ <| cndP rfl (fun c7 => ?_) (fun c7 => ?_)
 ·refine seq fun _ h8 => ?_
  intro wd e1 e2 e3 e4
  have hd := Upd.same e1 e2 e3 e4 []
  have hM9 := hM3.pure hd
  clear e1 e2 e3 e4
  refine ⟨(some [bc]), ?_⟩
  show vd _ _ _ _ _ _ _
  refine dmv <| dq (v := .pointer (some ⟨bc, 0, none⟩)) (o_nilchk rfl rfl) <| dfa rfl <| dmv <| dq (v := .pointer (some ⟨bc, 0, none⟩)) (o_nilchk rfl rfl) <| dfa rfl <| dqld rfl (by simp [isHeld]) (v := .int .i64 (a : Nat)) ((hM9.at (i := 0) (j := 0) rfl rfl).cell 1) <| dl (m_ld (v := .int .i64 e) hM9 (i := 0) (j := 0) rfl rfl rfl rfl <| ⟨(fun b hb => rfl), dq (v := .agg ([.int .i64 e, .int .i64 (a : Nat)] : List Value).toArray) (o_bld rfl rfl) <| dl (m_stAU (l := [.int .i64 e, .int .i64 (a : Nat)]) hM9 (i := 2) rfl rfl rfl rfl (by simp [oneCells, Value.oneCell', byteV]) (by simp) fun w10 hup10 (hM10 : Mem w (ids (⟨bc, 118, [vb, .int .i64 (a : Nat), .int .i64 e]⟩ :: rb)) w10 [[⟨bc, 118, [vb, .int .i64 (a : Nat), .int .i64 e]⟩], rb, [⟨b2, 110, [.int .i64 e, .int .i64 (a : Nat)]⟩]]) => ?_)⟩)
  have hh10 := held_upd (wr := wd) (bs := [bc]) hup10 (fun b hb => by
   simp only [List.mem_cons, List.not_mem_nil, or_false] at hb
   rw [hb]; exact ⟨(hM9.at (i := 0) (j := 0) rfl rfl).lt, hM9.apart (i := 0) (j := 0) (k := 2) rfl rfl rfl (by decide)⟩) (fun b hb => rfl)
  refine ⟨hh10, h8 _ _ ?_⟩
  show resV _ _ _ _ _
  refine res_cell (s := some 2) (by kernel_rfl) <| vl_ldA (cs := [.int .i64 e, .int .i64 (a : Nat)]) rfl rfl ((hM10.at (i := 2) (j := 0) rfl rfl).agg rfl rfl) <| ⟨(.agg ([.int .i64 e, .int .i64 (a : Nat)] : List Value).toArray), rfl, ?_⟩
  first | exact ⟨by unfold endE endA; rw [if_pos (by omega), if_pos (by omega)], hM10.keep (by simp)⟩ | exact ⟨by unfold endE endA; rw [if_neg (by omega), if_pos (by omega), if_neg (by omega), if_pos (by omega)], hM10.keep (by simp)⟩ | exact ⟨by unfold endE endA; (rw [if_neg (by omega), if_neg (by omega), if_neg (by omega), if_neg (by omega)] <;> rfl), hM10.keep (by simp)⟩
 refine seq fun _ h11 => ?_
 intro wd e1 e2 e3 e4
 have hd := Upd.same e1 e2 e3 e4 []
 have hM12 := hM3.pure hd
 clear e1 e2 e3 e4
 refine ⟨none, ?_⟩
 show vd _ _ _ _ _ _ _
 refine dmv <| dq (v := .pointer (some ⟨bc, 0, none⟩)) (o_nilchk rfl rfl) <| dfa rfl <| dmv <| dq (v := .pointer (some ⟨bc, 0, none⟩)) (o_nilchk rfl rfl) <| dfa rfl <| dqld rfl (trivial) (v := vb) ((hM12.at (i := 0) (j := 0) rfl rfl).cell 0) <| dq (v := .int .i64 (b.length : Nat)) (o_lenR (hb.rd hM12 (i := 1) rfl) rfl rfl) <| dl (m_ld (v := .int .i64 (a : Nat)) hM12 (i := 0) (j := 0) rfl rfl rfl rfl <| ⟨rfl, dbn rfl rfl <| dmv <| h11 _ _ <| cndP rfl (fun c13 => ?_) (fun c13 => ?_)⟩)
 ·refine seq fun _ h14 => mv <| nilchk rfl <| fa rfl <| m_ld (v := .int .i64 (a : Nat)) hM12 (i := 0) (j := 0) rfl rfl rfl rfl <| stp (v := .agg ([.int .i64 22, .int .i64 (a : Nat)] : List Value).toArray) (o_bld rfl rfl) <| m_stA (l := [.int .i64 22, .int .i64 (a : Nat)]) hM12 (i := 2) rfl rfl rfl rfl (by simp [oneCells, Value.oneCell', byteV]) (by simp) fun w15 (hM15 : Mem w (ids (⟨bc, 118, [vb, .int .i64 (a : Nat), .int .i64 e]⟩ :: rb)) w15 [[⟨bc, 118, [vb, .int .i64 (a : Nat), .int .i64 e]⟩], rb, [⟨b2, 110, [.int .i64 22, .int .i64 (a : Nat)]⟩]]) => h14 _ _ ?_
  show resV _ _ _ _ _
  refine res_cell (s := some 2) (by kernel_rfl) <| vl_ldA (cs := [.int .i64 22, .int .i64 (a : Nat)]) rfl rfl ((hM15.at (i := 2) (j := 0) rfl rfl).agg rfl rfl) <| ⟨(.agg ([.int .i64 22, .int .i64 (a : Nat)] : List Value).toArray), rfl, ?_⟩
  first | exact ⟨by unfold endE endA; rw [if_pos (by omega), if_pos (by omega)], hM15.keep (by simp)⟩ | exact ⟨by unfold endE endA; rw [if_neg (by omega), if_pos (by omega), if_neg (by omega), if_pos (by omega)], hM15.keep (by simp)⟩ | exact ⟨by unfold endE endA; (rw [if_neg (by omega), if_neg (by omega), if_neg (by omega), if_neg (by omega)] <;> rfl), hM15.keep (by simp)⟩
 refine h4 _ _ <| seq fun _ h16 => stp (v := .agg ([.int .i64 0, .int .i64 0] : List Value).toArray) (o_bld rfl rfl) <| m_stA (l := [.int .i64 0, .int .i64 0]) hM12 (i := 2) rfl rfl rfl rfl (by simp [oneCells, Value.oneCell', byteV]) (by simp) fun w17 (hM17 : Mem w (ids (⟨bc, 118, [vb, .int .i64 (a : Nat), .int .i64 e]⟩ :: rb)) w17 [[⟨bc, 118, [vb, .int .i64 (a : Nat), .int .i64 e]⟩], rb, [⟨b2, 110, [.int .i64 0, .int .i64 0]⟩]]) => h16 _ _ ?_
 show resV _ _ _ _ _
 refine res_cell (s := some 2) (by kernel_rfl) <| vl_ldA (cs := [.int .i64 0, .int .i64 0]) rfl rfl ((hM17.at (i := 2) (j := 0) rfl rfl).agg rfl rfl) <| ⟨(.agg ([.int .i64 0, .int .i64 0] : List Value).toArray), rfl, ?_⟩
 first | exact ⟨by unfold endE endA; rw [if_pos (by omega), if_pos (by omega)], hM17.keep (by simp)⟩ | exact ⟨by unfold endE endA; rw [if_neg (by omega), if_pos (by omega), if_neg (by omega), if_pos (by omega)], hM17.keep (by simp)⟩ | exact ⟨by unfold endE endA; (rw [if_neg (by omega), if_neg (by omega), if_neg (by omega), if_neg (by omega)] <;> rfl), hM17.keep (by simp)⟩
def restV (b : List UInt8) (a : Nat) (e : Int) : Int := if e = 0 then ((b.length - a : Nat) : Int) else 0
theorem Rest_ok (bc : Nat) (b : List UInt8) (a : Nat) (e : Int) (r0 : List Ent) (w : World) (hc : CurS bc b a e r0) (hr : Res w r0) (hl : b.length ≤ 140737488355328) : Calls Try.prog 37 [.pointer (some ⟨bc, 0, none⟩)].toArray w (Rt fun r w' => r = .int .i64 (restV b a e) ∧ Mem w (ids r0) w' [r0]) := by
 obtain ⟨vb, rb, rfl, hb, ha⟩ := hc
 have hM0 : Mem w (ids (⟨bc, 118, [vb, .int .i64 (a : Nat), .int .i64 e]⟩ :: rb)) w [[⟨bc, 118, [vb, .int .i64 (a : Nat), .int .i64 e]⟩], rb] := (Mem.start hr).keep (by simp)
 refine calls_vc mixed Try.func37 rfl C37 (by simp [Try.ntmps37]) <| seq fun _ h1 => mv <| h1 _ _ <| seq fun _ h2 => seq fun _ h3 => mv <| stp (v := .bool false) (o_isnil rfl rfl) <| mv <| splitF rfl <| gmv rfl <| stg rfl (v := .pointer (some ⟨bc, 0, none⟩)) (o_nilchk rfl rfl) <| gfa rfl rfl <| gyesl rfl ?_
 refine m_ld (v := .int .i64 e) hM0 (i := 0) (j := 0) rfl rfl rfl rfl <| gbneq rfl rfl rfl <| pkF rfl <| h3 _ _ <| cndP rfl (fun c4 => ?_) (fun c4 => ?_)
 ·refine seq fun _ h5 => mv <| h5 _ _ <| ⟨(.int .i64 0), rfl, ⟨by unfold restV; (rw [if_neg (by omega)] <;> rfl), hM0.keep (by simp)⟩⟩
 refine h2 _ _ <| seq fun _ h6 => ?_
 intro wd e1 e2 e3 e4
 have hd := Upd.same e1 e2 e3 e4 []
 have hM7 := hM0.pure hd
 clear e1 e2 e3 e4
 refine ⟨none, ?_⟩
 show vd _ _ _ _ _ _ _
 refine dmv <| dq (v := .pointer (some ⟨bc, 0, none⟩)) (o_nilchk rfl rfl) <| dfa rfl <| dmv <| dq (v := .pointer (some ⟨bc, 0, none⟩)) (o_nilchk rfl rfl) <| dfa rfl <| dqld rfl (trivial) (v := .int .i64 (a : Nat)) ((hM7.at (i := 0) (j := 0) rfl rfl).cell 1) <| dl (m_ld (v := vb) hM7 (i := 0) (j := 0) rfl rfl rfl rfl <| ⟨rfl, dq (v := .int .i64 (b.length : Nat)) (o_lenR (hb.rd hM7 (i := 1) rfl) rfl rfl) <| dq (v := .int .i64 ((b.length : Nat) - (a : Nat))) (o_bin rfl rfl (v_sub64 (by omega))) <| dmv <| h6 _ _ <| ⟨(.int .i64 ((b.length : Nat) - (a : Nat))), rfl, ⟨by unfold restV; rw [if_pos (by omega)]; exact v_int (by omega), hM7.keep (by simp)⟩⟩⟩)
end Go.Proofs.Ytifnmbmijljhfaa.E
namespace Go.Proofs.Ytifnmbmijljhfaa.E.Lz
open Go
def nV (b : List UInt8) (a : Nat) : Nat := (get (b.drop a)).1
def nK (b : List UInt8) (a : Nat) : Nat := (get (b.drop a)).2.1
def nE (b : List UInt8) (a : Nat) : Int := (get (b.drop a)).2.2
def aL (b : List UInt8) (a : Nat) : Nat := a + nK b a
def aM (b : List UInt8) (a : Nat) : Nat := aL b a + nV b a
def aD (b : List UInt8) (a : Nat) : Nat := aM b a + nK b (aM b a)
def aZ (b : List UInt8) (a : Nat) : Nat := aD b a + nK b (aD b a)
def litT (b : List UInt8) (a : Nat) : List UInt8 := (b.drop (aL b a)).take (nV b a)
def hdT (b : List UInt8) (n a made : Nat) : Prop := nE b a = 0 ∧ made + nV b a ≤ n ∧ aM b a ≤ b.length
instance (b : List UInt8) (n a made : Nat) : Decidable (hdT b n a made) := by unfold hdT; infer_instance
def mtT (b : List UInt8) (n a made : Nat) : Prop := nE b (aM b a) = 0 ∧ nE b (aD b a) = 0 ∧ nV b (aM b a) ≤ 255 ∧ made + nV b a + nV b (aM b a) + 4 ≤ n ∧ 1 ≤ nV b (aD b a) ∧ nV b (aD b a) ≤ 32768 ∧ nV b (aD b a) ≤ made + nV b a
instance (b : List UInt8) (n a made : Nat) : Decidable (mtT b n a made) := by unfold mtT; infer_instance
def mtP (b : List UInt8) (a : Nat) : Pk := (litT b a, (nV b (aD b a) : Int), (nV b (aM b a) : Int) + 4)
def rdK (b : List UInt8) (n : Nat) : Nat → Nat → Nat → Option (List Pk)
 | 0, _, _ => none
 | k + 1, a, made => if made = n then (if a = b.length then some [] else none)
  else if hdT b n a made then (if made + nV b a = n then (if aM b a = b.length ∧ 0 < nV b a then some [(litT b a, 0, 0)] else none)
   else if mtT b n a made then (rdK b n k (aZ b a) (made + nV b a + nV b (aM b a) + 4)).map (fun l => mtP b a :: l) else none) else none
def rdF (b : List UInt8) (n : Nat) : Option (List Pk) := rdK b n (n + 1) 0 0
theorem rdK_end {b : List UInt8} {n k : Nat} : rdK b n (k + 1) b.length n = some [] := by rw [rdK, if_pos rfl, if_pos rfl]
theorem rdK_over {b : List UInt8} {n k a : Nat} (h : ¬ a = b.length) : rdK b n (k + 1) a n = none := by rw [rdK, if_pos rfl, if_neg h]
theorem rdK_nohd {b : List UInt8} {n k a made : Nat} (h : ¬ made = n) (hd : ¬ hdT b n a made) : rdK b n (k + 1) a made = none := by rw [rdK, if_neg h, if_neg hd]
theorem rdK_last {b : List UInt8} {n k a made : Nat} (h : ¬ made = n) (hd : hdT b n a made) (hn : made + nV b a = n) (h2 : aM b a = b.length) (h3 : 0 < nV b a) : rdK b n (k + 1) a made = some [(litT b a, 0, 0)] := by rw [rdK, if_neg h, if_pos hd, if_pos hn, if_pos ⟨h2, h3⟩]
theorem rdK_bad {b : List UInt8} {n k a made : Nat} (h : ¬ made = n) (hn : made + nV b a = n) (h2 : ¬ (aM b a = b.length ∧ 0 < nV b a)) : rdK b n (k + 1) a made = none := by
 by_cases hd : hdT b n a made
 ·rw [rdK, if_neg h, if_pos hd, if_pos hn, if_neg h2]
 exact rdK_nohd h hd
theorem rdK_nomt {b : List UInt8} {n k a made : Nat} (h : ¬ made = n) (hn : ¬ made + nV b a = n) (h2 : ¬ mtT b n a made) : rdK b n (k + 1) a made = none := by
 by_cases hd : hdT b n a made
 ·rw [rdK, if_neg h, if_pos hd, if_neg hn, if_neg h2]
 exact rdK_nohd h hd
theorem rdK_go {b : List UInt8} {n k a made : Nat} (h : ¬ made = n) (hd : hdT b n a made) (hn : ¬ made + nV b a = n) (h2 : mtT b n a made) : rdK b n (k + 1) a made = (rdK b n k (aZ b a) (made + nV b a + nV b (aM b a) + 4)).map (fun l => mtP b a :: l) := by rw [rdK, if_neg h, if_pos hd, if_neg hn, if_pos h2]
theorem nE_end (b : List UInt8) : ¬ nE b b.length = 0 := by unfold nE; rw [List.drop_length]; decide
theorem nE_22 (b : List UInt8) (a : Nat) : ¬ nE b a = 22 := by
 have h : (get (b.drop a)).2.2 = 0 ∨ (get (b.drop a)).2.2 = 20 ∨ (get (b.drop a)).2.2 = 21 := (getA_err (b.drop a) 0 0).1
 unfold nE; omega
theorem nK_le {b : List UInt8} {a : Nat} (h : a ≤ b.length) : a + nK b a ≤ b.length := by
 have : (get (b.drop a)).2.1 ≤ (b.drop a).length := by
  by_cases c : (get (b.drop a)).2.2 = 0
  ·exact (get_ok c).2.1
  have h : (get (b.drop a)).2.1 = 0 := ((getA_err (b.drop a) 0 0).2 c).2
  omega
 rw [List.length_drop] at this
 unfold nK; omega
structure RdI (b : List UInt8) (n : Nat) (toks : List Pk) (k a made : Nat) : Prop where
 e : rdF b n = (rdK b n k a made).map (fun l => toks ++ l)
 k : n < made + k
 m : made ≤ n
 a : a ≤ b.length
theorem RdI.init (b : List UInt8) (n : Nat) : RdI b n [] (n + 1) 0 0 := ⟨by unfold rdF; cases rdK b n (n + 1) 0 0 <;> rfl, by omega, by omega, by omega⟩
theorem RdI.no {b : List UInt8} {n k a made : Nat} {toks : List Pk} (h : RdI b n toks k a made) (hn : ∀ j, rdK b n (j + 1) a made = none) : rdF b n = none := by
 have hk := h.k; have hm := h.m
 have e := hn (k - 1)
 rw [show k - 1 + 1 = k by omega] at e
 rw [h.e, e]; rfl
theorem RdI.over {b : List UInt8} {n k a : Nat} {toks : List Pk} (h : RdI b n toks k a n) (hl : a < b.length) : rdF b n = none := h.no fun j => rdK_over (by omega)
theorem RdI.done {b : List UInt8} {n k : Nat} {toks : List Pk} (h : RdI b n toks k b.length n) : rdF b n = some toks := by
 have hk := h.k
 rw [h.e, show k = k - 1 + 1 by omega, rdK_end]; simp
theorem RdI.short {b : List UInt8} {n k made : Nat} {toks : List Pk} (h : RdI b n toks k b.length made) (hm : ¬ made = n) : rdF b n = none := h.no fun j => rdK_nohd hm fun p => nE_end b p.1
theorem RdI.nohd {b : List UInt8} {n k a made : Nat} {toks : List Pk} (h : RdI b n toks k a made) (hl : a < b.length) (hd : ¬ (nE b a = 0 ∧ nV b a ≤ n - made ∧ aM b a ≤ b.length)) : rdF b n = none := by
 have hm := h.m
 by_cases c : made = n
 ·subst c; exact h.over hl
 exact h.no fun j => rdK_nohd c fun p => hd ⟨p.1, by have := p.2.1; omega, p.2.2⟩
theorem RdI.bad {b : List UInt8} {n k a made : Nat} {toks : List Pk} (h : RdI b n toks k a made) (hl : a < b.length) (hz : aM b a = b.length) (h0 : nV b a = 0 ∨ ¬ made + nV b a = n) : rdF b n = none := by
 by_cases c : made = n
 ·subst c; exact h.over hl
 by_cases c2 : made + nV b a = n
 ·exact h.no fun j => rdK_bad c c2 (by omega)
 exact h.no fun j => rdK_nomt c c2 fun p => nE_end b (by rw [← hz]; exact p.1)
theorem RdI.last {b : List UInt8} {n k a made : Nat} {toks : List Pk} (h : RdI b n toks k a made) (hl : a < b.length) (hd : nE b a = 0) (hz : aM b a = b.length) (h0 : 0 < nV b a) (hn : made + nV b a = n) : RdI b n (toks ++ [(litT b a, 0, 0)]) 1 b.length n := by
 have hk := h.k
 refine ⟨?_, by omega, Nat.le_refl _, Nat.le_refl _⟩
 rw [h.e, show k = k - 1 + 1 by omega, rdK_last (by omega) ⟨hd, by omega, by omega⟩ hn hz h0, rdK_end]; simp
theorem RdI.nomt {b : List UInt8} {n k a made : Nat} {toks : List Pk} (h : RdI b n toks k a made) (hl : a < b.length) (hz : aM b a < b.length) (h2 : ¬ mtT b n a made) : rdF b n = none := by
 by_cases c : made = n
 ·subst c; exact h.over hl
 by_cases c2 : made + nV b a = n
 ·exact h.no fun j => rdK_bad c c2 (by omega)
 exact h.no fun j => rdK_nomt c c2 h2
theorem RdI.go {b : List UInt8} {n k a made : Nat} {toks : List Pk} (h : RdI b n toks k a made) (hd : nE b a = 0) (hz : aM b a ≤ b.length) (h2 : mtT b n a made) : RdI b n (toks ++ [mtP b a]) (k - 1) (aZ b a) (made + nV b a + nV b (aM b a) + 4) := by
 have hk := h.k
 obtain ⟨p1, p2, p3, p4, p5, p6, p7⟩ := h2
 refine ⟨?_, by omega, by omega, ?_⟩
 ·rw [h.e, show k = k - 1 + 1 by omega, rdK_go (by omega) ⟨hd, by omega, hz⟩ (by omega) ⟨p1, p2, p3, p4, p5, p6, p7⟩, Nat.add_sub_cancel]
  cases rdK b n (k - 1) (aZ b a) (made + nV b a + nV b (aM b a) + 4) <;> simp
 have := nK_le (b := b) (a := aM b a) hz
 unfold aZ
 refine nK_le ?_
 unfold aD; exact this
def St2 (b : List UInt8) (a left : Nat) (lt : List UInt8) (A2 : Nat) (E2 : Int) : Prop := (E2 = 0 ∧ nE b a = 0 ∧ nV b a ≤ left ∧ aM b a ≤ b.length ∧ A2 = aM b a ∧ lt = litT b a ∧ lt.length = nV b a) ∨ (¬ E2 = 0 ∧ ¬ E2 = 22 ∧ ¬ (nE b a = 0 ∧ nV b a ≤ left ∧ aM b a ≤ b.length) ∧ lt = [])
def St4 (b : List UInt8) (a2 mx : Nat) (v3 v4 : Int) (A4 : Nat) (E4 : Int) : Prop := (E4 = 0 ∧ nE b a2 = 0 ∧ nE b (a2 + nK b a2) = 0 ∧ nV b a2 ≤ 255 ∧ nV b (a2 + nK b a2) ≤ mx ∧ v3 = (nV b a2 : Nat) ∧ v4 = (nV b (a2 + nK b a2) : Nat) ∧ A4 = a2 + nK b a2 + nK b (a2 + nK b a2)) ∨ (¬ E4 = 0 ∧ ¬ E4 = 22 ∧ ¬ (nE b a2 = 0 ∧ nE b (a2 + nK b a2) = 0 ∧ nV b a2 ≤ 255 ∧ nV b (a2 + nK b a2) ≤ mx))
theorem num_at {b : List UInt8} {a m : Nat} : (nE b a = 0 ∧ nV b a ≤ m ∧ cNum b a 0 m = (nV b a : Nat) ∧ cNumA b a 0 m = a + nK b a ∧ cNumE b a 0 m = 0) ∨ (¬ (nE b a = 0 ∧ nV b a ≤ m) ∧ cNum b a 0 m = 0 ∧ cNumA b a 0 m = a ∧ ¬ cNumE b a 0 m = 0 ∧ ¬ cNumE b a 0 m = 22) := by
 by_cases hE : (get (b.drop a)).2.2 = 0
 ·by_cases hM : ((m : Nat) : Int) < ((get (b.drop a)).1 : Nat)
  ·have hf := num_much hE hM
   refine .inr ⟨fun h => by have := h.2; unfold nV at this; omega, by unfold cNum; rw [if_pos rfl, hf.2], by unfold cNumA; rw [if_neg (by rw [hf.1]; omega)], by unfold cNumE; rw [if_pos rfl, hf.1]; omega, by unfold cNumE; rw [if_pos rfl, hf.1]; omega⟩
  have hf := num_fine hE hM
  exact .inl ⟨hE, by unfold nV; omega, by unfold cNum; rw [if_pos rfl, hf.2]; rfl, by unfold cNumA; rw [if_pos ⟨rfl, by rw [hf.1, hE]⟩]; rfl, by unfold cNumE; rw [if_pos rfl, hf.1, hE]⟩
 have hf := num_bad (m := ((m : Nat) : Int)) hE
 have h22 := nE_22 b a
 unfold nE at h22
 refine .inr ⟨fun h => hE h.1, by unfold cNum; rw [if_pos rfl, hf.2], by unfold cNumA; rw [if_neg (by rw [hf.1]; omega)], by unfold cNumE; rw [if_pos rfl, hf.1]; exact hE, by unfold cNumE; rw [if_pos rfl, hf.1]; exact h22⟩
theorem num_err {b : List UInt8} {a : Nat} {e m : Int} (h : ¬ e = 0) : cNum b a e m = 0 ∧ cNumA b a e m = a ∧ cNumE b a e m = e := by
 unfold cNum cNumA cNumE; rw [if_neg h, if_neg (fun k => h k.1), if_neg h]; exact ⟨rfl, rfl, rfl⟩
theorem st2_of {b : List UInt8} {a left : Nat} {V1 E1 E2 : Int} {A1 A2 : Nat} {lt : List UInt8} (hV : V1 = cNum b a 0 left) (hA : A1 = cNumA b a 0 left) (hE : E1 = cNumE b a 0 left) (hl : lt = cTk b A1 E1 V1) (hA2 : A2 = cTkA b A1 E1 V1) (hE2 : E2 = cTkE b A1 E1 V1) (ha : a ≤ b.length) : St2 b a left lt A2 E2 := by
 subst hl hA2 hE2
 rcases num_at (b := b) (a := a) (m := left) with ⟨h1, h2, h3, h4, h5⟩ | ⟨h1, h3, h4, h5, h6⟩
 ·rw [h3] at hV; rw [h4] at hA; rw [h5] at hE
  subst hV hA hE
  have hk := nK_le ha
  by_cases hs : ((b.drop (a + nK b a)).length : Int) < ((nV b a : Nat) : Int)
  ·have hf := tk_short (l := b.drop (a + nK b a)) (n := ((nV b a : Nat) : Int)) (by omega) hs
   rw [List.length_drop] at hs
   refine .inr ⟨by unfold cTkE; rw [if_pos rfl, hf.1]; omega, by unfold cTkE; rw [if_pos rfl, hf.1]; omega, fun h => by have := h.2.2; unfold aM aL at this; omega, by unfold cTk; rw [if_pos rfl, hf.2]⟩
  have hf := tk_fine (l := b.drop (a + nK b a)) (n := ((nV b a : Nat) : Int)) (by omega) hs
  rw [List.length_drop] at hs
  have hlt : cTk b (a + nK b a) 0 ((nV b a : Nat) : Int) = litT b a := by unfold cTk; rw [if_pos rfl, hf.2, Int.toNat_natCast]; rfl
  refine .inl ⟨by unfold cTkE; rw [if_pos rfl, hf.1], h1, h2, by unfold aM aL; omega, ?_, hlt, ?_⟩
  ·unfold cTkA tkN; rw [if_pos ⟨rfl, hf.1⟩, if_pos hf.1, Int.toNat_natCast]; rfl
  rw [hlt]; unfold litT aL; rw [List.length_take, List.length_drop]; omega
 rw [h3] at hV; rw [h4] at hA
 subst hV hA
 rw [← hE] at h5 h6
 refine .inr ⟨by unfold cTkE; rw [if_neg h5]; exact h5, by unfold cTkE; rw [if_neg h5]; exact h6, fun h => h1 ⟨h.1, h.2.1⟩, by unfold cTk; rw [if_neg h5]⟩
theorem st4_of {b : List UInt8} {a2 mx : Nat} {v3 v4 E3 E4 : Int} {A3 A4 : Nat} (h3 : v3 = cNum b a2 0 255) (hA3 : A3 = cNumA b a2 0 255) (hE3 : E3 = cNumE b a2 0 255) (h4 : v4 = cNum b A3 E3 mx) (hA4 : A4 = cNumA b A3 E3 mx) (hE4 : E4 = cNumE b A3 E3 mx) : St4 b a2 mx v3 v4 A4 E4 := by
 subst h4 hA4 hE4
 rcases num_at (b := b) (a := a2) (m := 255) with ⟨k1, k2, k3, k4, k5⟩ | ⟨k1, k3, k4, k5, k6⟩
 ·rw [show ((255 : Nat) : Int) = 255 from rfl] at k3 k4 k5
  rw [k4] at hA3; rw [k5] at hE3; rw [k3] at h3
  subst hA3 hE3 h3
  rcases num_at (b := b) (a := a2 + nK b a2) (m := mx) with ⟨j1, j2, j3, j4, j5⟩ | ⟨j1, j3, j4, j5, j6⟩
  ·exact .inl ⟨j5, k1, j1, k2, j2, rfl, j3, j4⟩
  exact .inr ⟨j5, j6, fun h => j1 ⟨h.2.1, h.2.2.2⟩⟩
 rw [show ((255 : Nat) : Int) = 255 from rfl] at k3 k4 k5 k6
 rw [← hE3] at k5 k6
 have := num_err (b := b) (a := A3) (m := ((mx : Nat) : Int)) k5
 exact .inr ⟨by rw [this.2.2]; exact k5, by rw [this.2.2]; exact k6, fun h => k1 ⟨h.1, h.2.2.1⟩⟩
theorem cNum_le {b : List UInt8} {a : Nat} {e : Int} {m : Nat} : 0 ≤ cNum b a e m ∧ cNum b a e m ≤ (m : Nat) := by
 by_cases c : e = 0
 ·subst c
  rcases num_at (b := b) (a := a) (m := m) with ⟨_, k2, k3, _⟩ | ⟨_, k3, _⟩
  ·rw [k3]; omega
  rw [k3]; omega
 rw [(num_err c).1]; omega
def lenP (ps : List Pk) : Nat := (ps.map fun t => t.1.length + t.2.2.toNat).sum
theorem lenP_app (ps : List Pk) (t : Pk) : lenP (ps ++ [t]) = lenP ps + t.1.length + t.2.2.toNat := by
 unfold lenP; rw [List.map_append, List.sum_append]; simp; omega
def textP (ps : List Pk) : List UInt8 := ps.foldl (fun T t => agn (T ++ t.1) t.2.1.toNat t.2.2.toNat) []
theorem textP_app (ps : List Pk) (t : Pk) : textP (ps ++ [t]) = agn (textP ps ++ t.1) t.2.1.toNat t.2.2.toNat := by
 unfold textP; rw [List.foldl_append]; rfl
theorem fold_len : ∀ (ps : List Pk) (T : List UInt8), (ps.foldl (fun T t => agn (T ++ t.1) t.2.1.toNat t.2.2.toNat) T).length = T.length + lenP ps
 | [], T => by simp [lenP]
 | t :: ps, T => by
  rw [List.foldl_cons, fold_len ps, agn_len, List.length_append]
  unfold lenP; simp only [List.map_cons, List.sum_cons]; omega
theorem textP_len (ps : List Pk) : (textP ps).length = lenP ps := by unfold textP; rw [fold_len]; simp
theorem exp_rdK {b : List UInt8} {n : Nat} (hn : n ≤ 65536) : ∀ (k a made : Nat) (ps : List Pk) (T : List UInt8), rdK b n k a made = some ps → T.length = made → made ≤ n → expG ps T = (ps.foldl (fun T t => agn (T ++ t.1) t.2.1.toNat t.2.2.toNat) T, 0) ∧ made + lenP ps = n ∧ ps.length + made ≤ n
 | 0, _, _, _, _, h, _, _ => by cases h
 | k + 1, a, made, ps, T, h, hT, hm => by
  by_cases c : made = n
  ·subst c
   by_cases c2 : a = b.length
   ·subst c2; rw [rdK_end] at h; injection h with h; subst h; exact ⟨rfl, by simp [lenP], by simp⟩
   rw [rdK_over c2] at h; cases h
  by_cases hd : hdT b n a made
  ·obtain ⟨d1, d2, d3⟩ := hd
   have hlt : (litT b a).length = nV b a := by
    unfold litT; rw [List.length_take, List.length_drop]; unfold aM at d3; omega
   by_cases c2 : made + nV b a = n
   ·by_cases c3 : aM b a = b.length ∧ 0 < nV b a
    ·rw [rdK_last c ⟨d1, d2, d3⟩ c2 c3.1 c3.2] at h
     injection h with h; subst h
     refine ⟨?_, by simp [lenP, hlt]; omega, by simp only [List.length_cons, List.length_nil]; omega⟩
     rw [expG, if_neg, if_neg]
     ·rfl
     ·simp only [hlt, hT]; omega
     refine fun h => h ((okT_none ⟨rfl, rfl⟩).2 ⟨rfl, ?_⟩)
     show 0 < (litT b a).length
     omega
    rw [rdK_bad c c2 c3] at h; cases h
   by_cases c3 : mtT b n a made
   ·rw [rdK_go c ⟨d1, d2, d3⟩ c2 c3] at h
    obtain ⟨p1, p2, p3, p4, p5, p6, p7⟩ := c3
    cases hr : rdK b n k (aZ b a) (made + nV b a + nV b (aM b a) + 4) with
    | none => rw [hr] at h; cases h
    | some l =>
     rw [hr] at h
     injection h with h; subst h
     have e1 : (mtP b a).1 = litT b a := rfl
     have e2 : (mtP b a).2.1 = (nV b (aD b a) : Int) := rfl
     have e3 : (mtP b a).2.2 = (nV b (aM b a) : Int) + 4 := rfl
     have ih := exp_rdK hn k _ _ l (agn (T ++ (mtP b a).1) (mtP b a).2.1.toNat (mtP b a).2.2.toNat) hr (by rw [agn_len, List.length_append, e1, e3, hlt]; omega) (by omega)
     refine ⟨?_, ?_, ?_⟩
     ·rw [expG, if_neg, if_neg]
      ·exact ih.1
      ·rw [e1, e3, hlt, hT]; omega
      refine fun h => h ((okT_some (fun hn => ?_)).2 ?_)
      ·have := hn.2; rw [e3] at this; omega
      rw [e1, e2, e3, hlt, hT]; omega
     ·have e4 : lenP (mtP b a :: l) = (litT b a).length + ((nV b (aM b a) : Int) + 4).toNat + lenP l := by simp [lenP, mtP]
      rw [e4, hlt]; omega
     simp only [List.length_cons]; omega
   rw [rdK_nomt c c2 c3] at h; cases h
  rw [rdK_nohd c hd] at h; cases h
theorem exp_rd {b : List UInt8} {n : Nat} {ps : List Pk} (hn : n ≤ 65536) (h : rdF b n = some ps) : expF ps = (textP ps, 0) ∧ lenP ps = n ∧ ps.length ≤ n := by
 have := exp_rdK hn (n + 1) 0 0 ps [] h rfl (by omega)
 refine ⟨this.1, by omega, by omega⟩
def tksF (b : List UInt8) (n : Int) : List Pk × Int := if n < 0 ∨ 65536 < n then ([], 3) else match rdF b n.toNat with
 | none => ([], 30)
 | some ps => (ps, 0)
def decF (b : List UInt8) (n : Int) : List UInt8 × Int := if (tksF b n).2 = 0 then (textP (tksF b n).1, 0) else ([], (tksF b n).2)
theorem tksF_arg {b : List UInt8} {n : Int} (h : n < 0 ∨ 65536 < n) : tksF b n = ([], 3) := by unfold tksF; rw [if_pos h]
theorem tksF_none {b : List UInt8} {n : Int} (h : ¬ (n < 0 ∨ 65536 < n)) (h1 : rdF b n.toNat = none) : tksF b n = ([], 30) := by unfold tksF; rw [if_neg h, h1]
theorem tksF_some {b : List UInt8} {n : Int} {ps : List Pk} (h : ¬ (n < 0 ∨ 65536 < n)) (h1 : rdF b n.toNat = some ps) : tksF b n = (ps, 0) := by unfold tksF; rw [if_neg h, h1]
theorem decF_no {b : List UInt8} {n : Int} (h : ¬ (tksF b n).2 = 0) : decF b n = ([], (tksF b n).2) := by unfold decF; rw [if_neg h]
theorem decF_yes {b : List UInt8} {n : Int} (h : (tksF b n).2 = 0) : decF b n = (textP (tksF b n).1, 0) := by unfold decF; rw [if_pos h]
end Go.Proofs.Ytifnmbmijljhfaa.E.Lz
namespace Go.Proofs.Ytifnmbmijljhfaa.E.Lz
open Go
abbrev MK4 : List UInt8 := [165, 90, 167, 91]
def RmB (t : Tk) (a : List Ent) : Prop := ∃ b, t.ad = some ⟨b, 0, none⟩ ∧ t.ln = t.bs.length ∧ (t.bs ++ MK4).length ≤ t.cp ∧ SlE byteV 5 (.slice (some ⟨b, 0, none⟩) (t.bs ++ MK4).length t.cp) (t.bs ++ MK4) a
theorem RmB.own {t : Tk} {a : List Ent} (h : RmB t a) : OwnP byteV 5 Tk.lit Tk.bs t a := by
 obtain ⟨b, h1, h2, _, h3⟩ := h
 obtain ⟨ad, ln, cp, bs, d, n⟩ := t
 simp only at h1 h2
 subst h1 h2
 exact h3.cutTo
section
variable {P : Program} {r : List MI} {f : Fr} {w w0 : World} {S : List Nat} {R : List (List Ent)} {K : Fr → World → Prop} {d : Nat}
theorem m_alU {t : TypeId} {cs : List Value} (hM : Mem w0 S w R) (h : ∀ b w', Upd [] w w' → Mem w0 S w' (R ++ [[⟨b, t, cs⟩]]) → vr P r (upd f d (.pointer (some ⟨b, 0, none⟩))) w' K) : vr P (.l none (some d) (.al t cs) :: r) f w K :=
 m_al (Mem.nil w []) fun b w' hM' => h b w' hM'.upd (hM.add hM')
end
end Go.Proofs.Ytifnmbmijljhfaa.E.Lz
namespace Go.Proofs.Ytifnmbmijljhfaa.E.Lz
open Go
theorem rest_pos {b : List UInt8} {a : Nat} {e : Int} (h : 0 < restV b a e) : e = 0 ∧ a < b.length := by
 unfold restV at h
 by_cases c : e = 0
 ·rw [if_pos c] at h; exact ⟨c, by omega⟩
 rw [if_neg c] at h; omega
theorem rest_0 {b : List UInt8} {a : Nat} {e : Int} (h : ¬ 0 < restV b a e) : restV b a e = 0 := by
 unfold restV at h ⊢
 by_cases c : e = 0
 ·rw [if_pos c] at h ⊢; omega
 rw [if_neg c]
theorem rest_zero {b : List UInt8} {a : Nat} {e : Int} (h : ¬ 0 < restV b a e) : ¬ e = 0 ∨ b.length ≤ a := by
 unfold restV at h
 by_cases c : e = 0
 ·rw [if_pos c] at h; exact .inr (by omega)
 exact .inl c
theorem end_z {b : List UInt8} {A : Nat} {E : Int} (h22 : ¬ E = 22) (h : endE b A E = 0 ∨ endE b A E = 22) : E = 0 := by
 unfold endE at h
 by_cases c : E = 0
 ·exact c
 rw [if_pos c] at h; omega
theorem end_nz {b : List UInt8} {A : Nat} {E : Int} (h : ¬ endE b A E = 0) (h2 : ¬ endE b A E = 22) : ¬ E = 0 := by
 intro c
 subst c
 unfold endE at h h2
 rw [if_neg (by omega)] at h h2
 split at h
 ·omega
 exact h rfl
theorem St2.n22 {b : List UInt8} {a left A2 : Nat} {lt : List UInt8} {E2 : Int} (h : St2 b a left lt A2 E2) : ¬ E2 = 22 := by
 rcases h with h | h
 ·omega
 exact h.2.1
theorem St4.n22 {b : List UInt8} {a2 mx A4 : Nat} {v3 v4 E4 : Int} (h : St4 b a2 mx v3 v4 A4 E4) : ¬ E4 = 22 := by
 rcases h with h | h
 ·omega
 exact h.2.1
theorem St2.len {b : List UInt8} {a left A2 : Nat} {lt : List UInt8} {E2 : Int} (h : St2 b a left lt A2 E2) : lt.length ≤ left := by
 rcases h with h | h
 ·omega
 rw [h.2.2.2]; simp
section
variable {b : List UInt8} {n k a made A2 A4 : Nat} {toks : List Pk} {lt : List UInt8} {E2 E4 V3 V4 : Int}
theorem St2.fine (h : St2 b a (n - made) lt A2 E2) (he : E2 = 0) : nE b a = 0 ∧ nV b a ≤ n - made ∧ aM b a ≤ b.length ∧ A2 = aM b a ∧ lt = litT b a ∧ lt.length = nV b a := by
 rcases h with h | h
 ·exact h.2
 exact absurd he h.1
theorem St4.fine {mx : Nat} (h : St4 b A2 mx V3 V4 A4 E4) (he : E4 = 0) : nE b A2 = 0 ∧ nE b (A2 + nK b A2) = 0 ∧ nV b A2 ≤ 255 ∧ nV b (A2 + nK b A2) ≤ mx ∧ V3 = (nV b A2 : Nat) ∧ V4 = (nV b (A2 + nK b A2) : Nat) ∧ A4 = A2 + nK b A2 + nK b (A2 + nK b A2) := by
 rcases h with h | h
 ·exact h.2
 exact absurd he h.1
theorem lf_end0 (hI : RdI b n toks k a made) (ha : a < b.length) (h2 : St2 b a (n - made) lt A2 E2) (hE : ¬ E2 = 0) : rdF b n = none := by
 rcases h2 with h2 | h2
 ·exact absurd h2.1 hE
 exact hI.nohd ha h2.2.2.1
theorem lf_bad0 (hI : RdI b n toks k a made) (ha : a < b.length) (h2 : St2 b a (n - made) lt A2 E2) (hE : E2 = 0) (hz : b.length ≤ A2) (hx : lt.length = 0 ∨ ¬ made + lt.length = n) : rdF b n = none := by
 obtain ⟨q1, q2, q3, q4, q5, q6⟩ := h2.fine hE
 exact hI.bad ha (by omega) (by omega)
theorem lf_go0 (hI : RdI b n toks k a made) (ha : a < b.length) (h2 : St2 b a (n - made) lt A2 E2) (hE : E2 = 0) (hz : b.length ≤ A2) (h0 : 0 < lt.length) (hn : made + lt.length = n) : RdI b n (toks ++ [(lt, 0, 0)]) 1 A2 n := by
 obtain ⟨q1, q2, q3, q4, q5, q6⟩ := h2.fine hE
 have := hI.last ha q1 (by omega) (by omega) (by omega)
 rw [show A2 = b.length by omega, q5]; exact this
theorem lf_end4 (hI : RdI b n toks k a made) (ha : a < b.length) (h2 : St2 b a (n - made) lt A2 E2) (hr : E2 = 0 ∧ A2 < b.length) (h4 : St4 b A2 (min 32768 (made + lt.length)) V3 V4 A4 E4) (hE : ¬ E4 = 0) : rdF b n = none := by
 obtain ⟨q1, q2, q3, q4, q5, q6⟩ := h2.fine hr.1
 subst q4
 rcases h4 with h4 | h4
 ·exact absurd h4.1 hE
 refine hI.nomt ha hr.2 fun p => h4.2.2 ?_
 obtain ⟨p1, p2, p3, p4, p5, p6, p7⟩ := p
 unfold aD at p2 p5 p6 p7
 exact ⟨p1, p2, p3, by omega⟩
theorem lf_bad4 (hI : RdI b n toks k a made) (ha : a < b.length) (h2 : St2 b a (n - made) lt A2 E2) (hr : E2 = 0 ∧ A2 < b.length) (h4 : St4 b A2 (min 32768 (made + lt.length)) V3 V4 A4 E4) (hE : E4 = 0) (hx : ¬ 1 ≤ V4 ∨ (n : Int) < (made : Int) + (lt.length : Nat) + (V3 + 4)) : rdF b n = none := by
 obtain ⟨q1, q2, q3, q4, q5, q6⟩ := h2.fine hr.1
 obtain ⟨p1, p2, p3, p4, p5, p6, p7⟩ := h4.fine hE
 subst q4
 refine hI.nomt ha hr.2 fun p => ?_
 obtain ⟨_, _, _, r4, r5, _, _⟩ := p
 unfold aD at r5
 omega
theorem lf_go4 (hI : RdI b n toks k a made) (h2 : St2 b a (n - made) lt A2 E2) (hr : E2 = 0 ∧ A2 < b.length) (h4 : St4 b A2 (min 32768 (made + lt.length)) V3 V4 A4 E4) (hE : E4 = 0) (h1 : 1 ≤ V4) (hn : (made : Int) + (lt.length : Nat) + (V3 + 4) ≤ (n : Int)) : RdI b n (toks ++ [(lt, V4, V3 + 4)]) (k - 1) A4 (made + lt.length + (V3 + 4).toNat) := by
 obtain ⟨q1, q2, q3, q4, q5, q6⟩ := h2.fine hr.1
 obtain ⟨p1, p2, p3, p4, p5, p6, p7⟩ := h4.fine hE
 subst q4
 have := hI.go q1 (by omega) ⟨p1, p2, p3, by omega, by unfold aD; omega, by unfold aD; omega, by unfold aD; omega⟩
 have e1 : mtP b a = (lt, V4, V3 + 4) := by unfold mtP aD; rw [q5, p5, p6]
 have e2 : aZ b a = A4 := by unfold aZ aD; omega
 rw [e1, e2] at this
 rw [show made + lt.length + (V3 + 4).toNat = made + nV b a + nV b (aM b a) + 4 by omega]
 exact this
theorem lf_len {t : Pk} (h : made = lenP toks) : made + t.1.length + t.2.2.toNat = lenP (toks ++ [t]) := by rw [lenP_app]; omega
end
theorem read_ok (x : Value) (b : List UInt8) (n : Nat) (g : FuncId) (caps : List Value) (T : List Pk → List Ent → Prop) (rv0 : List Ent) (w : World) (hx : RdE byteV w x b) (hl : b.length ≤ 140737488355328) (hn : n ≤ 65536) (hr : Res w rv0) (hT0 : T [] rv0) (ho : okFn Try.prog g = true) (hq : ∀ (wc : World) (t : Tk) (toks : List Pk) (rv rl : List Ent), T toks rv → SlE byteV 5 t.lit t.bs rl → Res wc (rv ++ rl) → ∀ {made : Nat}, made = lenP toks → (0 ≤ t.n ∧ t.n ≤ 259 ∧ 0 ≤ t.d ∧ t.d ≤ 32768 ∧ (0 < t.n → 1 ≤ t.d ∧ t.d ≤ (made : Int) + (t.bs.length : Nat)) ∧ (made : Int) + (t.bs.length : Nat) + t.n ≤ 65536 ∧ 1 ≤ ((t.bs.length : Nat) : Int) + t.n) → Calls Try.prog g (Value.agg (tokC t).toArray :: caps).toArray wc (Rt fun _ w' => ∃ rv', T (toks ++ [t.p]) rv' ∧ Mem wc (ids (rv ++ rl)) w' [rv'])) : Calls Try.prog 30 [x, .int .i64 ((n : Nat) : Int), .func (.func g) #[] caps.toArray].toArray w (Rt fun r w' => ∃ ok toks rv', r = .bool ok ∧ T toks rv' ∧ (if ok then some toks else none) = rdF b n ∧ Mem w (ids rv0) w' [rv']) := by
 have hM0 : Mem w (ids rv0) w [rv0] := Mem.start hr
 refine calls_vc mixed Try.func30 rfl C30 (by simp [Try.ntmps30]) <| seq fun _ h1 => mv <| h1 _ _ <| seq fun _ h2 => mv <| m_call (NewCursor_ok _ b w (hx) (by first | omega | (simp; done) | (simp; omega))) rfl fun v3 w3 ⟨bc3, rs3, hr3, hc3, hm3⟩ => ?_
 have hM3 : Mem w (ids rv0) w3 [rv0, rs3] := hM0.add hm3
 subst hr3
 refine mv <| h2 _ _ <| seq fun _ h4 => mv <| h4 _ _ <| seq fun _ h5 => lp (n := fun _ _ => False) (ι := (List Pk) × (Nat) × (Nat) × (Nat) × (List Ent) × (List Ent)) (fun ⟨toks, k, a, made, rv, rc⟩ f w' => f 7 = .pointer (some ⟨bc3, 0, none⟩) ∧ f 8 = .int .i64 (made : Nat) ∧ f 1 = .int .i64 (n : Nat) ∧ f 2 = .func (.func g) #[] caps.toArray ∧ Mem w (ids rv0) w' [rv, rc] ∧ (CurS bc3 b a 0 rc) ∧ (RdI b n toks k a made) ∧ (T toks rv) ∧ (made = lenP toks)) (fun ⟨toks, k, a, made, rv, rc⟩ => n - made) ([], n + 1, 0, 0, rv0, rs3) ?_ ?_
 ·exact ⟨rfl, vi, vi, rfl, hM3, hc3, RdI.init b n, hT0, rfl⟩
 rintro ⟨toks, k, a, made, rv, rc⟩ f w6 ⟨e6_7, e6_8, e6_1, e6_2, hM6, hcl, hI, hT, hlen⟩ K7 h7
 obtain ⟨frm, rfl⟩ := re4 e6_7 e6_8 e6_1 e6_2
 refine seq fun _ h8 => seq fun _ h9 => mv <| m_call (Rest_ok _ b a 0 rc w6 hcl (hM6.res (i := 1) rfl) (by first | omega | (simp; done) | (simp; omega))) rfl fun v10 w10 ⟨hr10, hm10⟩ => ?_
 have hM10 : Mem w (ids rv0) w10 [rv, rc] := hM6.step 1 rfl hm10
 subst hr10
 refine bn rfl rfl <| h9 _ _ <| cndP rfl (fun c11 => ?_) (fun c11 => ?_)
 ·refine h8 _ _ <| seq fun _ h12 => ?_
  have hap := rest_pos (b := b) (a := a) (e := 0) (by assumption)
  have hml := hI.m
  refine mv <| mv <| stp (v := .int .i64 (n - made : Nat)) (o_bin rfl rfl ((v_sub64 (by omega)).trans (v_int (by omega)))) <| mv <| h12 _ _ <| seq fun _ h13 => mv <| mv <| m_call (Num_ok _ b a 0 ((n - made : Nat) : Int) rc w10 hcl (hM10.res (i := 1) rfl) (by first | omega | (simp; done) | (simp; omega))) rfl fun v14 w14 ⟨hr14, r'14, hc14, hm14⟩ => ?_
  have hM14 : Mem w (ids rv0) w14 [rv, r'14] := hM10.step 1 rfl hm14
  obtain ⟨V1, hV1⟩ : ∃ z, z = cNum b a 0 ((n - made : Nat) : Int) := ⟨_, rfl⟩
  obtain ⟨A1, hA1⟩ : ∃ z, z = cNumA b a 0 ((n - made : Nat) : Int) := ⟨_, rfl⟩
  obtain ⟨E1, hE1⟩ : ∃ z, z = cNumE b a 0 ((n - made : Nat) : Int) := ⟨_, rfl⟩
  rw [← hV1] at hr14
  rw [← hA1, ← hE1] at hc14
  subst hr14
  have hbV1 : 0 ≤ V1 ∧ V1 ≤ ((n - made : Nat) : Int) := by rw [hV1]; exact cNum_le (m := n - made)
  refine mv <| h13 _ _ <| seq fun _ h15 => mv <| mv <| m_call (Take_ok _ b A1 E1 V1 r'14 w14 hc14 (hM14.res (i := 1) rfl) (by first | omega | (simp; done) | (simp; omega))) rfl fun v16 w16 ⟨r'16, rs16, hc16, hs16, hm16⟩ => ?_
  have hM16 : Mem w (ids rv0) w16 [rv, r'16, rs16] := hM14.stepAdd 1 rfl hm16
  obtain ⟨lt, hlt⟩ : ∃ z, z = cTk b A1 E1 V1 := ⟨_, rfl⟩
  obtain ⟨A2, hA2⟩ : ∃ z, z = cTkA b A1 E1 V1 := ⟨_, rfl⟩
  obtain ⟨E2, hE2⟩ : ∃ z, z = cTkE b A1 E1 V1 := ⟨_, rfl⟩
  rw [← hlt] at hs16
  rw [← hA2, ← hE2] at hc16
  have h2 := st2_of hV1 hA1 hE1 hlt hA2 hE2 hI.a
  have hl2 := h2.len
  have hle2 := hc16.le
  obtain ⟨a17_, n17_, c17_, rfl⟩ := Sl.isSlice hs16
  refine stp (v := .agg ([(.slice a17_ n17_ c17_), .int .i64 0, .int .i64 0] : List Value).toArray) (o_bld rfl rfl) <| m_al hM16 fun b18 w19 (hM19 : Mem w (ids rv0) w19 [rv, r'16, rs16, [⟨b18, 65, [.slice none 0 0, .int .i64 0, .int .i64 0]⟩]]) => m_stA (l := [(.slice a17_ n17_ c17_), .int .i64 0, .int .i64 0]) hM19 (i := 3) rfl rfl rfl rfl (by simp [oneCells, Value.oneCell', byteV]) (by simp) fun w20 (hM20 : Mem w (ids rv0) w20 [rv, r'16, rs16, [⟨b18, 65, [(.slice a17_ n17_ c17_), .int .i64 0, .int .i64 0]⟩]]) => h15 _ _ <| seq fun _ h21 => mv <| fa rfl <| m_ld (v := (.slice a17_ n17_ c17_)) hM20 (i := 3) (j := 0) rfl rfl rfl rfl <| stp (v := .int .i64 (lt.length : Nat)) (o_lenR (hs16.rd hM20 (i := 2) rfl) rfl rfl) <| stp (v := .int .i64 (made + lt.length : Nat)) (o_bin rfl rfl ((v_add64 (by omega)).trans (v_int (by omega)))) <| mv <| h21 _ _ <| seq fun _ h22 => seq fun _ h23 => ?_
  refine mv <| m_call (Rest_ok _ b A2 E2 r'16 w20 hc16 (hM20.res (i := 1) rfl) (by first | omega | (simp; done) | (simp; omega))) rfl fun v24 w24 ⟨hr24, hm24⟩ => ?_
  have hM24 : Mem w (ids rv0) w24 [rv, r'16, rs16, [⟨b18, 65, [(.slice a17_ n17_ c17_), .int .i64 0, .int .i64 0]⟩]] := hM20.step 1 rfl hm24
  subst hr24
  refine bn rfl rfl <| h23 _ _ <| cndP rfl (fun c25 => ?_) (fun c25 => ?_)
  ·refine seq fun _ h26 => ?_
   have hr2 := rest_pos (b := b) (a := A2) (e := E2) (by assumption)
   refine mv <| m_call (Num_ok _ b A2 E2 255 r'16 w24 hc16 (hM24.res (i := 1) rfl) (by first | omega | (simp; done) | (simp; omega))) rfl fun v27 w27 ⟨hr27, r'27, hc27, hm27⟩ => ?_
   have hM27 : Mem w (ids rv0) w27 [rv, r'27, rs16, [⟨b18, 65, [(.slice a17_ n17_ c17_), .int .i64 0, .int .i64 0]⟩]] := hM24.step 1 rfl hm27
   obtain ⟨V3, hV3⟩ : ∃ z, z = cNum b A2 E2 255 := ⟨_, rfl⟩
   obtain ⟨A3, hA3⟩ : ∃ z, z = cNumA b A2 E2 255 := ⟨_, rfl⟩
   obtain ⟨E3, hE3⟩ : ∃ z, z = cNumE b A2 E2 255 := ⟨_, rfl⟩
   rw [← hV3] at hr27
   rw [← hA3, ← hE3] at hc27
   subst hr27
   have hbV3 : 0 ≤ V3 ∧ V3 ≤ 255 := by rw [hV3]; exact cNum_le (m := 255)
   refine stp (v := .int .i64 (V3 + 4)) (o_bin rfl rfl (v_add64 (by omega))) <| fa rfl <| m_st (v := .int .i64 (V3 + 4)) hM27 (i := 3) rfl rfl rfl rfl (by simp) fun w28 (hM28 : Mem w (ids rv0) w28 [rv, r'27, rs16, [⟨b18, 65, [(.slice a17_ n17_ c17_), .int .i64 0, .int .i64 (V3 + 4)]⟩]]) => h26 _ _ <| mv <| mv <| stp (v := .int .i64 (min 32768 (made + lt.length) : Nat)) (o_mm rfl rfl (by show Value.int .i64 (min _ _) = _; exact v_int (by omega))) <| m_call (Num_ok _ b A3 E3 ((min 32768 (made + lt.length) : Nat) : Int) r'27 w28 hc27 (hM28.res (i := 1) rfl) (by first | omega | (simp; done) | (simp; omega))) rfl fun v29 w29 ⟨hr29, r'29, hc29, hm29⟩ => ?_
   have hM29 : Mem w (ids rv0) w29 [rv, r'29, rs16, [⟨b18, 65, [(.slice a17_ n17_ c17_), .int .i64 0, .int .i64 (V3 + 4)]⟩]] := hM28.step 1 rfl hm29
   obtain ⟨V4, hV4⟩ : ∃ z, z = cNum b A3 E3 ((min 32768 (made + lt.length) : Nat) : Int) := ⟨_, rfl⟩
   obtain ⟨A4, hA4⟩ : ∃ z, z = cNumA b A3 E3 ((min 32768 (made + lt.length) : Nat) : Int) := ⟨_, rfl⟩
   obtain ⟨E4, hE4⟩ : ∃ z, z = cNumE b A3 E3 ((min 32768 (made + lt.length) : Nat) : Int) := ⟨_, rfl⟩
   rw [← hV4] at hr29
   rw [← hA4, ← hE4] at hc29
   subst hr29
   have hbV4 : 0 ≤ V4 ∧ V4 ≤ ((min 32768 (made + lt.length) : Nat) : Int) := by rw [hV4]; exact cNum_le (m := min 32768 (made + lt.length))
   rw [hr2.1] at hV3 hA3 hE3
   have h4 := st4_of hV3 hA3 hE3 hV4 hA4 hE4
   refine fa rfl <| m_st (v := .int .i64 V4) hM29 (i := 3) rfl rfl rfl rfl (by simp) fun w30 (hM30 : Mem w (ids rv0) w30 [rv, r'29, rs16, [⟨b18, 65, [(.slice a17_ n17_ c17_), .int .i64 V4, .int .i64 (V3 + 4)]⟩]]) => h22 _ _ <| seq fun _ h31 => seq fun _ h32 => mv <| m_call (End_ok _ b A4 E4 r'29 w30 hc29 (hM30.res (i := 1) rfl)) rfl fun v33 w33 ⟨hr33, hm33⟩ => ?_
   have hM33 : Mem w (ids rv0) w33 [rv, r'29, rs16, [⟨b18, 65, [(.slice a17_ n17_ c17_), .int .i64 V4, .int .i64 (V3 + 4)]⟩]] := hM30.step 1 rfl hm33
   subst hr33
   refine m_al hM33 fun b34 w35 (hM35 : Mem w (ids rv0) w35 [rv, r'29, rs16, [⟨b18, 65, [(.slice a17_ n17_ c17_), .int .i64 V4, .int .i64 (V3 + 4)]⟩], [⟨b34, 110, [.int .i64 0, .int .i64 0]⟩]]) => m_stA (l := [.int .i64 (endE b A4 E4), .int .i64 (endA b A4 E4 : Nat)]) hM35 (i := 4) rfl rfl rfl rfl (by simp [oneCells, Value.oneCell', byteV]) (by simp) fun w36 (hM36 : Mem w (ids rv0) w36 [rv, r'29, rs16, [⟨b18, 65, [(.slice a17_ n17_ c17_), .int .i64 V4, .int .i64 (V3 + 4)]⟩], [⟨b34, 110, [.int .i64 (endE b A4 E4), .int .i64 (endA b A4 E4 : Nat)]⟩]]) => h32 _ _ <| seq fun _ h37 => fa rfl <| m_ld (v := .int .i64 (endE b A4 E4)) hM36 (i := 4) (j := 0) rfl rfl rfl rfl <| bneq rfl rfl <| mv <| splitP rfl (fun c38 => ?_) (fun c38 => ?_)
   ·refine gfa rfl rfl <| gyesl rfl <| m_ld (v := .int .i64 (endE b A4 E4)) hM36 (i := 4) (j := 0) rfl rfl rfl rfl <| gbneq rfl rfl rfl <| pkT rfl <| h37 _ _ <| cndP rfl (fun c39 => ?_) (fun c39 => ?_)
    ·refine seq fun _ h40 => mv <| h40 _ _ <| ⟨(.bool false), rfl, ⟨false, toks, _, rfl, hT, by rw [lf_end4 hI hap.2 h2 hr2 h4 (end_nz (b := b) (A := A4) (by omega) (by omega))]; rfl, hM36.keep (by simp)⟩⟩
    refine h31 _ _ <| seq fun _ h41 => seq fun _ h42 => ?_
    intro wd e1 e2 e3 e4
    have hd := Upd.same e1 e2 e3 e4 []
    have hM43 := hM36.pure hd
    clear e1 e2 e3 e4
    refine ⟨(some [b18]), ?_⟩
    show vd _ _ _ _ _ _ _
    refine dmv <| dmv <| dqldA (cs := [(.slice a17_ n17_ c17_), .int .i64 V4, .int .i64 (V3 + 4)]) rfl (by simp [isHeld]) rfl ((hM43.at (i := 3) (j := 0) rfl rfl).agg rfl rfl) <| dl (m_call (Rest_ok _ b A4 E4 r'29 wd hc29 (hM43.res (i := 1) rfl) (by first | omega | (simp; done) | (simp; omega))) rfl fun v44 w44 ⟨hr44, hm44⟩ => ?_)
    have hM44 : Mem w (ids rv0) w44 [rv, r'29, rs16, [⟨b18, 65, [(.slice a17_ n17_ c17_), .int .i64 V4, .int .i64 (V3 + 4)]⟩], [⟨b34, 110, [.int .i64 (endE b A4 E4), .int .i64 (endA b A4 E4 : Nat)]⟩]] := hM43.step 1 rfl hm44
    subst hr44
    have hh44 := held_upd (wr := wd) (bs := [b18]) hm44.upd (fun b hb => by
     simp only [List.mem_cons, List.not_mem_nil, or_false] at hb
     rw [hb]; exact ⟨(hM43.at (i := 3) (j := 0) rfl rfl).lt, hM43.apart (i := 3) (j := 0) (k := 1) rfl rfl rfl (by decide)⟩) (fun b hb => rfl)
    refine ⟨hh44, dbn rfl rfl <| dl (m_call (right_ok (⟨a17_, n17_, c17_, lt, V4, V3 + 4⟩ : Tk) (made + lt.length : Nat) (decide ((restV b A4 E4) = 0)) w44 (hs16.rd hM44 (i := 2) rfl) (by omega)) rfl fun v45 w45 ⟨hr45, hu45⟩ => ?_)⟩
    have hM45 : Mem w (ids rv0) w45 [rv, r'29, rs16, [⟨b18, 65, [(.slice a17_ n17_ c17_), .int .i64 V4, .int .i64 (V3 + 4)]⟩], [⟨b34, 110, [.int .i64 (endE b A4 E4), .int .i64 (endA b A4 E4 : Nat)]⟩]] := hM44.pure hu45
    subst hr45
    have hh45 := held_upd (wr := wd) (bs := [b18]) hu45 (fun b hb => by
     simp only [List.mem_cons, List.not_mem_nil, or_false] at hb
     rw [hb]; exact ⟨(hM44.at (i := 3) (j := 0) rfl rfl).lt, by simp⟩) hh44
    refine ⟨hh45, dq (v := .bool (decide (¬ (okT (⟨a17_, n17_, c17_, lt, V4, V3 + 4⟩ : Tk).p (made + lt.length : Nat) (decide ((restV b A4 E4) = 0)))))) (o_not rfl v_not) <| dmv <| dsplitP rfl (fun c46 => ?_) (fun c46 => ?_)⟩
    ·refine dx rfl <| dx rfl <| dx rfl <| dxl rfl <| dx rfl <| dx rfl <| dpkT rfl <| dmv <| dsplitT rfl <| dxl rfl <| dxl rfl <| dx rfl <| dsplitU rfl <| dgnou rfl ?_
     refine dgnou rfl <| dgnou rfl <| dx rfl <| dpkT rfl <| h42 _ _ <| cndT rfl <| seq fun _ h47 => mv <| h47 _ _ <| ⟨(.bool false), rfl, ?_⟩
     have hx : ¬ 1 ≤ V4 := fun h1 => ‹¬ okT _ _ _› ((okK_some (fun hn => by have h9 := (noneK.1 hn).2; dsimp only at h9; omega)).2 (by dsimp only; omega))
     exact ⟨false, toks, _, rfl, hT, by rw [lf_bad4 hI hap.2 h2 hr2 h4 (end_z (b := b) (A := A4) h4.n22 (by omega)) (.inl hx)]; rfl, hM45.keep (by simp)⟩
    refine dgmv rfl <| dgfa rfl rfl <| dgmv rfl <| dgyesl rfl <| dl (m_ld (v := .int .i64 (V3 + 4)) hM45 (i := 3) (j := 0) rfl rfl rfl rfl <| ⟨hh45, dqg rfl (v := .int .i64 ((made + lt.length : Nat) + (V3 + 4))) (o_bin rfl rfl (v_add64 (by omega))) <| dgbn rfl rfl rfl <| dpkF rfl <| dmv <| dsplitP rfl (fun c48 => ?_) (fun c48 => ?_)⟩)
    ·refine dxl rfl <| dxl rfl <| dx rfl <| dsplitU rfl <| dgnou rfl <| dgnou rfl <| dgnou rfl <| dx rfl <| dpkT rfl <| h42 _ _ <| cndT rfl <| seq fun _ h49 => mv <| h49 _ _ ?_
     refine ⟨(.bool false), rfl, ⟨false, toks, _, rfl, hT, by rw [lf_bad4 hI hap.2 h2 hr2 h4 (end_z (b := b) (A := A4) h4.n22 (by omega)) (.inr (by omega))]; rfl, hM45.keep (by simp)⟩⟩
    refine dgyesl rfl <| dl (m_ldA (l := [(.slice a17_ n17_ c17_), .int .i64 V4, .int .i64 (V3 + 4)]) hM45 (i := 3) (j := 0) rfl rfl rfl rfl rfl <| ⟨hh45, dgyesl rfl <| dl (m_call (none_ok (⟨a17_, n17_, c17_, lt, V4, V3 + 4⟩ : Tk) w45) rfl fun v50 w50 ⟨hr50, hu50⟩ => ?_)⟩)
    have hM50 : Mem w (ids rv0) w50 [rv, r'29, rs16, [⟨b18, 65, [(.slice a17_ n17_ c17_), .int .i64 V4, .int .i64 (V3 + 4)]⟩], [⟨b34, 110, [.int .i64 (endE b A4 E4), .int .i64 (endA b A4 E4 : Nat)]⟩]] := hM45.pure hu50
    subst hr50
    have hh50 := held_upd (wr := wd) (bs := [b18]) hu50 (fun b hb => by
     simp only [List.mem_cons, List.not_mem_nil, or_false] at hb
     rw [hb]; exact ⟨(hM45.at (i := 3) (j := 0) rfl rfl).lt, by simp⟩) hh45
    refine ⟨hh50, dgmv rfl <| dsplitP rfl (fun c51 => ?_) (fun c51 => ?_)⟩
    ·refine dgmv rfl <| dgmv rfl <| dqg rfl (v := .bool (decide (¬ ((made + lt.length : Nat) : Int) = (n : Nat)))) (o_bin rfl rfl v_neq) <| dqg rfl (v := .bool (decide (¬ ((made + lt.length : Nat) : Int) = (n : Nat)))) (o_pickT rfl rfl) <| dpkF rfl <| h42 _ _ <| cndP rfl (fun c52 => ?_) (fun c52 => ?_)
     ·refine seq fun _ h53 => mv <| h53 _ _ <| ⟨(.bool false), rfl, absurd (noneK.1 ‹noneT _›).2 (by dsimp only; omega)⟩
     refine h41 _ _ <| seq fun _ h54 => absurd (noneK.1 ‹noneT _›).2 (by dsimp only; omega)
    refine dx rfl <| dx rfl <| dx rfl <| dqg rfl (v := .bool false) (o_pickF rfl rfl) <| dpkF rfl <| h42 _ _ <| cndF rfl <| h41 _ _ <| seq fun _ h55 => ?_
    have hok4 := Decidable.not_not.1 ‹¬ ¬ okT _ _ _›
    have hob := okK_bd hok4
    dsimp only at hob
    refine mv <| fa rfl <| m_ld (v := .int .i64 (V3 + 4)) hM50 (i := 3) (j := 0) rfl rfl rfl rfl <| stp (v := .int .i64 ((made + lt.length : Nat) + (V3 + 4))) (o_bin rfl rfl (v_add64 (by omega))) <| mv <| h55 _ _ <| mv <| m_ldA (l := [(.slice a17_ n17_ c17_), .int .i64 V4, .int .i64 (V3 + 4)]) hM50 (i := 3) (j := 0) rfl rfl rfl rfl rfl <| m_callv rfl (by assumption) (hq w50 (⟨a17_, n17_, c17_, lt, V4, V3 + 4⟩ : Tk) toks rv rs16 hT hs16 (hM50.res2 0 2 rfl rfl (by decide)) hlen (by dsimp only; omega)) rfl fun v56 w56 ⟨rv56, hTn, hm56⟩ => ?_
    have hM56 : Mem w (ids rv0) w56 [rv56, r'29, [], [⟨b18, 65, [(.slice a17_ n17_ c17_), .int .i64 V4, .int .i64 (V3 + 4)]⟩], [⟨b34, 110, [.int .i64 (endE b A4 E4), .int .i64 (endA b A4 E4 : Nat)]⟩]] := hM50.step2 0 2 rfl rfl (by decide) hm56.addNil
    refine h7 (toks ++ [(lt, V4, V3 + 4)], k - 1, A4, made + lt.length + (V3 + 4).toNat, rv56, r'29) _ _ ⟨rfl, vi, vi, rfl, hM56.keep (by simp), by have h9 := hc29; rw [(end_z (b := b) (A := A4) h4.n22 (by omega))] at h9; exact h9, lf_go4 hI h2 hr2 h4 (end_z (b := b) (A := A4) h4.n22 (by omega)) (by omega) (by omega), hTn, lf_len (t := (lt, V4, V3 + 4)) hlen⟩ (by dsimp only; omega)
   refine gx rfl <| gxl rfl <| gx rfl <| pkF rfl <| h37 _ _ <| cndF rfl <| h31 _ _ <| seq fun _ h57 => seq fun _ h58 => ?_
   intro wd e1 e2 e3 e4
   have hd := Upd.same e1 e2 e3 e4 []
   have hM59 := hM36.pure hd
   clear e1 e2 e3 e4
   refine ⟨(some [b18]), ?_⟩
   show vd _ _ _ _ _ _ _
   refine dmv <| dmv <| dqldA (cs := [(.slice a17_ n17_ c17_), .int .i64 V4, .int .i64 (V3 + 4)]) rfl (by simp [isHeld]) rfl ((hM59.at (i := 3) (j := 0) rfl rfl).agg rfl rfl) <| dl (m_call (Rest_ok _ b A4 E4 r'29 wd hc29 (hM59.res (i := 1) rfl) (by first | omega | (simp; done) | (simp; omega))) rfl fun v60 w60 ⟨hr60, hm60⟩ => ?_)
   have hM60 : Mem w (ids rv0) w60 [rv, r'29, rs16, [⟨b18, 65, [(.slice a17_ n17_ c17_), .int .i64 V4, .int .i64 (V3 + 4)]⟩], [⟨b34, 110, [.int .i64 (endE b A4 E4), .int .i64 (endA b A4 E4 : Nat)]⟩]] := hM59.step 1 rfl hm60
   subst hr60
   have hh60 := held_upd (wr := wd) (bs := [b18]) hm60.upd (fun b hb => by
    simp only [List.mem_cons, List.not_mem_nil, or_false] at hb
    rw [hb]; exact ⟨(hM59.at (i := 3) (j := 0) rfl rfl).lt, hM59.apart (i := 3) (j := 0) (k := 1) rfl rfl rfl (by decide)⟩) (fun b hb => rfl)
   refine ⟨hh60, dbn rfl rfl <| dl (m_call (right_ok (⟨a17_, n17_, c17_, lt, V4, V3 + 4⟩ : Tk) (made + lt.length : Nat) (decide ((restV b A4 E4) = 0)) w60 (hs16.rd hM60 (i := 2) rfl) (by omega)) rfl fun v61 w61 ⟨hr61, hu61⟩ => ?_)⟩
   have hM61 : Mem w (ids rv0) w61 [rv, r'29, rs16, [⟨b18, 65, [(.slice a17_ n17_ c17_), .int .i64 V4, .int .i64 (V3 + 4)]⟩], [⟨b34, 110, [.int .i64 (endE b A4 E4), .int .i64 (endA b A4 E4 : Nat)]⟩]] := hM60.pure hu61
   subst hr61
   have hh61 := held_upd (wr := wd) (bs := [b18]) hu61 (fun b hb => by
    simp only [List.mem_cons, List.not_mem_nil, or_false] at hb
    rw [hb]; exact ⟨(hM60.at (i := 3) (j := 0) rfl rfl).lt, by simp⟩) hh60
   refine ⟨hh61, dq (v := .bool (decide (¬ (okT (⟨a17_, n17_, c17_, lt, V4, V3 + 4⟩ : Tk).p (made + lt.length : Nat) (decide ((restV b A4 E4) = 0)))))) (o_not rfl v_not) <| dmv <| dsplitP rfl (fun c62 => ?_) (fun c62 => ?_)⟩
   ·refine dx rfl <| dx rfl <| dx rfl <| dxl rfl <| dx rfl <| dx rfl <| dpkT rfl <| dmv <| dsplitT rfl <| dxl rfl <| dxl rfl <| dx rfl <| dsplitU rfl <| dgnou rfl ?_
    refine dgnou rfl <| dgnou rfl <| dx rfl <| dpkT rfl <| h58 _ _ <| cndT rfl <| seq fun _ h63 => mv <| h63 _ _ <| ⟨(.bool false), rfl, ?_⟩
    have hx : ¬ 1 ≤ V4 := fun h1 => ‹¬ okT _ _ _› ((okK_some (fun hn => by have h9 := (noneK.1 hn).2; dsimp only at h9; omega)).2 (by dsimp only; omega))
    exact ⟨false, toks, _, rfl, hT, by rw [lf_bad4 hI hap.2 h2 hr2 h4 (end_z (b := b) (A := A4) h4.n22 (by omega)) (.inl hx)]; rfl, hM61.keep (by simp)⟩
   refine dgmv rfl <| dgfa rfl rfl <| dgmv rfl <| dgyesl rfl <| dl (m_ld (v := .int .i64 (V3 + 4)) hM61 (i := 3) (j := 0) rfl rfl rfl rfl <| ⟨hh61, dqg rfl (v := .int .i64 ((made + lt.length : Nat) + (V3 + 4))) (o_bin rfl rfl (v_add64 (by omega))) <| dgbn rfl rfl rfl <| dpkF rfl <| dmv <| dsplitP rfl (fun c64 => ?_) (fun c64 => ?_)⟩)
   ·refine dxl rfl <| dxl rfl <| dx rfl <| dsplitU rfl <| dgnou rfl <| dgnou rfl <| dgnou rfl <| dx rfl <| dpkT rfl <| h58 _ _ <| cndT rfl <| seq fun _ h65 => mv <| h65 _ _ ?_
    refine ⟨(.bool false), rfl, ⟨false, toks, _, rfl, hT, by rw [lf_bad4 hI hap.2 h2 hr2 h4 (end_z (b := b) (A := A4) h4.n22 (by omega)) (.inr (by omega))]; rfl, hM61.keep (by simp)⟩⟩
   refine dgyesl rfl <| dl (m_ldA (l := [(.slice a17_ n17_ c17_), .int .i64 V4, .int .i64 (V3 + 4)]) hM61 (i := 3) (j := 0) rfl rfl rfl rfl rfl <| ⟨hh61, dgyesl rfl <| dl (m_call (none_ok (⟨a17_, n17_, c17_, lt, V4, V3 + 4⟩ : Tk) w61) rfl fun v66 w66 ⟨hr66, hu66⟩ => ?_)⟩)
   have hM66 : Mem w (ids rv0) w66 [rv, r'29, rs16, [⟨b18, 65, [(.slice a17_ n17_ c17_), .int .i64 V4, .int .i64 (V3 + 4)]⟩], [⟨b34, 110, [.int .i64 (endE b A4 E4), .int .i64 (endA b A4 E4 : Nat)]⟩]] := hM61.pure hu66
   subst hr66
   have hh66 := held_upd (wr := wd) (bs := [b18]) hu66 (fun b hb => by
    simp only [List.mem_cons, List.not_mem_nil, or_false] at hb
    rw [hb]; exact ⟨(hM61.at (i := 3) (j := 0) rfl rfl).lt, by simp⟩) hh61
   refine ⟨hh66, dgmv rfl <| dsplitP rfl (fun c67 => ?_) (fun c67 => ?_)⟩
   ·refine dgmv rfl <| dgmv rfl <| dqg rfl (v := .bool (decide (¬ ((made + lt.length : Nat) : Int) = (n : Nat)))) (o_bin rfl rfl v_neq) <| dqg rfl (v := .bool (decide (¬ ((made + lt.length : Nat) : Int) = (n : Nat)))) (o_pickT rfl rfl) <| dpkF rfl <| h58 _ _ <| cndP rfl (fun c68 => ?_) (fun c68 => ?_)
    ·refine seq fun _ h69 => mv <| h69 _ _ <| ⟨(.bool false), rfl, absurd (noneK.1 ‹noneT _›).2 (by dsimp only; omega)⟩
    refine h57 _ _ <| seq fun _ h70 => absurd (noneK.1 ‹noneT _›).2 (by dsimp only; omega)
   refine dx rfl <| dx rfl <| dx rfl <| dqg rfl (v := .bool false) (o_pickF rfl rfl) <| dpkF rfl <| h58 _ _ <| cndF rfl <| h57 _ _ <| seq fun _ h71 => ?_
   have hok4 := Decidable.not_not.1 ‹¬ ¬ okT _ _ _›
   have hob := okK_bd hok4
   dsimp only at hob
   refine mv <| fa rfl <| m_ld (v := .int .i64 (V3 + 4)) hM66 (i := 3) (j := 0) rfl rfl rfl rfl <| stp (v := .int .i64 ((made + lt.length : Nat) + (V3 + 4))) (o_bin rfl rfl (v_add64 (by omega))) <| mv <| h71 _ _ <| mv <| m_ldA (l := [(.slice a17_ n17_ c17_), .int .i64 V4, .int .i64 (V3 + 4)]) hM66 (i := 3) (j := 0) rfl rfl rfl rfl rfl <| m_callv rfl (by assumption) (hq w66 (⟨a17_, n17_, c17_, lt, V4, V3 + 4⟩ : Tk) toks rv rs16 hT hs16 (hM66.res2 0 2 rfl rfl (by decide)) hlen (by dsimp only; omega)) rfl fun v72 w72 ⟨rv72, hTn, hm72⟩ => ?_
   have hM72 : Mem w (ids rv0) w72 [rv72, r'29, [], [⟨b18, 65, [(.slice a17_ n17_ c17_), .int .i64 V4, .int .i64 (V3 + 4)]⟩], [⟨b34, 110, [.int .i64 (endE b A4 E4), .int .i64 (endA b A4 E4 : Nat)]⟩]] := hM66.step2 0 2 rfl rfl (by decide) hm72.addNil
   refine h7 (toks ++ [(lt, V4, V3 + 4)], k - 1, A4, made + lt.length + (V3 + 4).toNat, rv72, r'29) _ _ ⟨rfl, vi, vi, rfl, hM72.keep (by simp), by have h9 := hc29; rw [(end_z (b := b) (A := A4) h4.n22 (by omega))] at h9; exact h9, lf_go4 hI h2 hr2 h4 (end_z (b := b) (A := A4) h4.n22 (by omega)) (by omega) (by omega), hTn, lf_len (t := (lt, V4, V3 + 4)) hlen⟩ (by dsimp only; omega)
  refine h22 _ _ <| seq fun _ h73 => seq fun _ h74 => mv <| m_call (End_ok _ b A2 E2 r'16 w24 hc16 (hM24.res (i := 1) rfl)) rfl fun v75 w75 ⟨hr75, hm75⟩ => ?_
  have hM75 : Mem w (ids rv0) w75 [rv, r'16, rs16, [⟨b18, 65, [(.slice a17_ n17_ c17_), .int .i64 0, .int .i64 0]⟩]] := hM24.step 1 rfl hm75
  subst hr75
  refine m_al hM75 fun b76 w77 (hM77 : Mem w (ids rv0) w77 [rv, r'16, rs16, [⟨b18, 65, [(.slice a17_ n17_ c17_), .int .i64 0, .int .i64 0]⟩], [⟨b76, 110, [.int .i64 0, .int .i64 0]⟩]]) => m_stA (l := [.int .i64 (endE b A2 E2), .int .i64 (endA b A2 E2 : Nat)]) hM77 (i := 4) rfl rfl rfl rfl (by simp [oneCells, Value.oneCell', byteV]) (by simp) fun w78 (hM78 : Mem w (ids rv0) w78 [rv, r'16, rs16, [⟨b18, 65, [(.slice a17_ n17_ c17_), .int .i64 0, .int .i64 0]⟩], [⟨b76, 110, [.int .i64 (endE b A2 E2), .int .i64 (endA b A2 E2 : Nat)]⟩]]) => h74 _ _ <| seq fun _ h79 => fa rfl <| m_ld (v := .int .i64 (endE b A2 E2)) hM78 (i := 4) (j := 0) rfl rfl rfl rfl <| bneq rfl rfl <| mv <| splitP rfl (fun c80 => ?_) (fun c80 => ?_)
  ·refine gfa rfl rfl <| gyesl rfl <| m_ld (v := .int .i64 (endE b A2 E2)) hM78 (i := 4) (j := 0) rfl rfl rfl rfl <| gbneq rfl rfl rfl <| pkT rfl <| h79 _ _ <| cndP rfl (fun c81 => ?_) (fun c81 => ?_)
   ·refine seq fun _ h82 => mv <| h82 _ _ <| ⟨(.bool false), rfl, ⟨false, toks, _, rfl, hT, by rw [lf_end0 hI hap.2 h2 (end_nz (b := b) (A := A2) (by omega) (by omega))]; rfl, hM78.keep (by simp)⟩⟩
   refine h73 _ _ <| seq fun _ h83 => seq fun _ h84 => ?_
   intro wd e1 e2 e3 e4
   have hd := Upd.same e1 e2 e3 e4 []
   have hM85 := hM78.pure hd
   clear e1 e2 e3 e4
   refine ⟨(some [b18]), ?_⟩
   show vd _ _ _ _ _ _ _
   refine dmv <| dmv <| dqldA (cs := [(.slice a17_ n17_ c17_), .int .i64 0, .int .i64 0]) rfl (by simp [isHeld]) rfl ((hM85.at (i := 3) (j := 0) rfl rfl).agg rfl rfl) <| dl (m_call (Rest_ok _ b A2 E2 r'16 wd hc16 (hM85.res (i := 1) rfl) (by first | omega | (simp; done) | (simp; omega))) rfl fun v86 w86 ⟨hr86, hm86⟩ => ?_)
   have hM86 : Mem w (ids rv0) w86 [rv, r'16, rs16, [⟨b18, 65, [(.slice a17_ n17_ c17_), .int .i64 0, .int .i64 0]⟩], [⟨b76, 110, [.int .i64 (endE b A2 E2), .int .i64 (endA b A2 E2 : Nat)]⟩]] := hM85.step 1 rfl hm86
   subst hr86
   have hh86 := held_upd (wr := wd) (bs := [b18]) hm86.upd (fun b hb => by
    simp only [List.mem_cons, List.not_mem_nil, or_false] at hb
    rw [hb]; exact ⟨(hM85.at (i := 3) (j := 0) rfl rfl).lt, hM85.apart (i := 3) (j := 0) (k := 1) rfl rfl rfl (by decide)⟩) (fun b hb => rfl)
   refine ⟨hh86, dbn rfl rfl <| dl (m_call (right_ok (⟨a17_, n17_, c17_, lt, 0, 0⟩ : Tk) (made + lt.length : Nat) (decide ((restV b A2 E2) = 0)) w86 (hs16.rd hM86 (i := 2) rfl) (by omega)) rfl fun v87 w87 ⟨hr87, hu87⟩ => ?_)⟩
   have hM87 : Mem w (ids rv0) w87 [rv, r'16, rs16, [⟨b18, 65, [(.slice a17_ n17_ c17_), .int .i64 0, .int .i64 0]⟩], [⟨b76, 110, [.int .i64 (endE b A2 E2), .int .i64 (endA b A2 E2 : Nat)]⟩]] := hM86.pure hu87
   subst hr87
   have hh87 := held_upd (wr := wd) (bs := [b18]) hu87 (fun b hb => by
    simp only [List.mem_cons, List.not_mem_nil, or_false] at hb
    rw [hb]; exact ⟨(hM86.at (i := 3) (j := 0) rfl rfl).lt, by simp⟩) hh86
   refine ⟨hh87, dq (v := .bool (decide (¬ (okT (⟨a17_, n17_, c17_, lt, 0, 0⟩ : Tk).p (made + lt.length : Nat) (decide ((restV b A2 E2) = 0)))))) (o_not rfl v_not) <| dmv <| dsplitP rfl (fun c88 => ?_) (fun c88 => ?_)⟩
   ·refine dx rfl <| dx rfl <| dx rfl <| dxl rfl <| dx rfl <| dx rfl <| dpkT rfl <| dmv <| dsplitT rfl <| dxl rfl <| dxl rfl <| dx rfl <| dsplitU rfl <| dgnou rfl ?_
    refine dgnou rfl <| dgnou rfl <| dx rfl <| dpkT rfl <| h84 _ _ <| cndT rfl <| seq fun _ h89 => mv <| h89 _ _ <| ⟨(.bool false), rfl, ?_⟩
    have hx : lt.length = 0 := Decidable.byContradiction fun h => ‹¬ okT _ _ _› ((okK_none (noneK.2 ⟨rfl, rfl⟩)).2 ⟨decide_eq_true (rest_0 (by assumption)), by dsimp only; omega⟩)
    exact ⟨false, toks, _, rfl, hT, by rw [lf_bad0 hI hap.2 h2 (end_z (b := b) (A := A2) h2.n22 (by omega)) (by have := rest_zero (b := b) (a := A2) (e := E2) (by assumption); have := (end_z (b := b) (A := A2) h2.n22 (by omega)); omega) (.inl hx)]; rfl, hM87.keep (by simp)⟩
   refine dgmv rfl <| dgfa rfl rfl <| dgmv rfl <| dgyesl rfl <| dl (m_ld (v := .int .i64 0) hM87 (i := 3) (j := 0) rfl rfl rfl rfl <| ⟨hh87, dqg rfl (v := .int .i64 ((made + lt.length : Nat) + 0)) (o_bin rfl rfl (v_add64 (by omega))) <| dgbn rfl rfl rfl <| dpkF rfl <| dmv <| dsplitP rfl (fun c90 => ?_) (fun c90 => ?_)⟩)
   ·refine dxl rfl <| dxl rfl <| dx rfl <| dsplitU rfl <| dgnou rfl <| dgnou rfl <| dgnou rfl <| dx rfl <| dpkT rfl <| h84 _ _ <| cndT rfl <| seq fun _ h91 => mv <| h91 _ _ ?_
    refine ⟨(.bool false), rfl, ?_⟩
    exfalso
    omega
   refine dgyesl rfl <| dl (m_ldA (l := [(.slice a17_ n17_ c17_), .int .i64 0, .int .i64 0]) hM87 (i := 3) (j := 0) rfl rfl rfl rfl rfl <| ⟨hh87, dgyesl rfl <| dl (m_call (none_ok (⟨a17_, n17_, c17_, lt, 0, 0⟩ : Tk) w87) rfl fun v92 w92 ⟨hr92, hu92⟩ => ?_)⟩)
   have hM92 : Mem w (ids rv0) w92 [rv, r'16, rs16, [⟨b18, 65, [(.slice a17_ n17_ c17_), .int .i64 0, .int .i64 0]⟩], [⟨b76, 110, [.int .i64 (endE b A2 E2), .int .i64 (endA b A2 E2 : Nat)]⟩]] := hM87.pure hu92
   subst hr92
   have hh92 := held_upd (wr := wd) (bs := [b18]) hu92 (fun b hb => by
    simp only [List.mem_cons, List.not_mem_nil, or_false] at hb
    rw [hb]; exact ⟨(hM87.at (i := 3) (j := 0) rfl rfl).lt, by simp⟩) hh87
   refine ⟨hh92, dgmv rfl <| dsplitP rfl (fun c93 => ?_) (fun c93 => ?_)⟩
   ·refine dgmv rfl <| dgmv rfl <| dqg rfl (v := .bool (decide (¬ ((made + lt.length : Nat) : Int) = (n : Nat)))) (o_bin rfl rfl v_neq) <| dqg rfl (v := .bool (decide (¬ ((made + lt.length : Nat) : Int) = (n : Nat)))) (o_pickT rfl rfl) <| dpkF rfl <| h84 _ _ <| cndP rfl (fun c94 => ?_) (fun c94 => ?_)
    ·refine seq fun _ h95 => mv <| h95 _ _ <| ⟨(.bool false), rfl, ⟨false, toks, _, rfl, hT, by rw [lf_bad0 hI hap.2 h2 (end_z (b := b) (A := A2) h2.n22 (by omega)) (by have := rest_zero (b := b) (a := A2) (e := E2) (by assumption); have := (end_z (b := b) (A := A2) h2.n22 (by omega)); omega) (.inr (by omega))]; rfl, hM92.keep (by simp)⟩⟩
    refine h83 _ _ <| seq fun _ h96 => ?_
    have hok4 := Decidable.not_not.1 ‹¬ ¬ okT _ _ _›
    have hob := okK_bd hok4
    dsimp only at hob
    refine mv <| fa rfl <| m_ld (v := .int .i64 0) hM92 (i := 3) (j := 0) rfl rfl rfl rfl <| stp (v := .int .i64 ((made + lt.length : Nat) + 0)) (o_bin rfl rfl (v_add64 (by omega))) <| mv <| h96 _ _ <| mv <| m_ldA (l := [(.slice a17_ n17_ c17_), .int .i64 0, .int .i64 0]) hM92 (i := 3) (j := 0) rfl rfl rfl rfl rfl <| m_callv rfl (by assumption) (hq w92 (⟨a17_, n17_, c17_, lt, 0, 0⟩ : Tk) toks rv rs16 hT hs16 (hM92.res2 0 2 rfl rfl (by decide)) hlen (by dsimp only; omega)) rfl fun v97 w97 ⟨rv97, hTn, hm97⟩ => ?_
    have hM97 : Mem w (ids rv0) w97 [rv97, r'16, [], [⟨b18, 65, [(.slice a17_ n17_ c17_), .int .i64 0, .int .i64 0]⟩], [⟨b76, 110, [.int .i64 (endE b A2 E2), .int .i64 (endA b A2 E2 : Nat)]⟩]] := hM92.step2 0 2 rfl rfl (by decide) hm97.addNil
    refine h7 (toks ++ [(lt, 0, 0)], 1, A2, n, rv97, r'16) _ _ ⟨rfl, vi, vi, rfl, hM97.keep (by simp), by have h9 := hc16; rw [(end_z (b := b) (A := A2) h2.n22 (by omega))] at h9; exact h9, lf_go0 hI hap.2 h2 (end_z (b := b) (A := A2) h2.n22 (by omega)) (by have := rest_zero (b := b) (a := A2) (e := E2) (by assumption); have := (end_z (b := b) (A := A2) h2.n22 (by omega)); omega) (by omega) (by omega), hTn, by have := lf_len (t := (lt, 0, 0)) hlen; dsimp only at this; omega⟩ (by dsimp only; omega)
   refine dx rfl <| dx rfl <| dx rfl <| dqg rfl (v := .bool false) (o_pickF rfl rfl) <| dpkF rfl <| h84 _ _ <| cndF rfl <| h83 _ _ <| seq fun _ h98 => absurd (noneK.2 ⟨rfl, rfl⟩) ‹¬ noneT _›
  refine gx rfl <| gxl rfl <| gx rfl <| pkF rfl <| h79 _ _ <| cndF rfl <| h73 _ _ <| seq fun _ h99 => seq fun _ h100 => ?_
  intro wd e1 e2 e3 e4
  have hd := Upd.same e1 e2 e3 e4 []
  have hM101 := hM78.pure hd
  clear e1 e2 e3 e4
  refine ⟨(some [b18]), ?_⟩
  show vd _ _ _ _ _ _ _
  refine dmv <| dmv <| dqldA (cs := [(.slice a17_ n17_ c17_), .int .i64 0, .int .i64 0]) rfl (by simp [isHeld]) rfl ((hM101.at (i := 3) (j := 0) rfl rfl).agg rfl rfl) <| dl (m_call (Rest_ok _ b A2 E2 r'16 wd hc16 (hM101.res (i := 1) rfl) (by first | omega | (simp; done) | (simp; omega))) rfl fun v102 w102 ⟨hr102, hm102⟩ => ?_)
  have hM102 : Mem w (ids rv0) w102 [rv, r'16, rs16, [⟨b18, 65, [(.slice a17_ n17_ c17_), .int .i64 0, .int .i64 0]⟩], [⟨b76, 110, [.int .i64 (endE b A2 E2), .int .i64 (endA b A2 E2 : Nat)]⟩]] := hM101.step 1 rfl hm102
  subst hr102
  have hh102 := held_upd (wr := wd) (bs := [b18]) hm102.upd (fun b hb => by
   simp only [List.mem_cons, List.not_mem_nil, or_false] at hb
   rw [hb]; exact ⟨(hM101.at (i := 3) (j := 0) rfl rfl).lt, hM101.apart (i := 3) (j := 0) (k := 1) rfl rfl rfl (by decide)⟩) (fun b hb => rfl)
  refine ⟨hh102, dbn rfl rfl <| dl (m_call (right_ok (⟨a17_, n17_, c17_, lt, 0, 0⟩ : Tk) (made + lt.length : Nat) (decide ((restV b A2 E2) = 0)) w102 (hs16.rd hM102 (i := 2) rfl) (by omega)) rfl fun v103 w103 ⟨hr103, hu103⟩ => ?_)⟩
  have hM103 : Mem w (ids rv0) w103 [rv, r'16, rs16, [⟨b18, 65, [(.slice a17_ n17_ c17_), .int .i64 0, .int .i64 0]⟩], [⟨b76, 110, [.int .i64 (endE b A2 E2), .int .i64 (endA b A2 E2 : Nat)]⟩]] := hM102.pure hu103
  subst hr103
  have hh103 := held_upd (wr := wd) (bs := [b18]) hu103 (fun b hb => by
   simp only [List.mem_cons, List.not_mem_nil, or_false] at hb
   rw [hb]; exact ⟨(hM102.at (i := 3) (j := 0) rfl rfl).lt, by simp⟩) hh102
  refine ⟨hh103, dq (v := .bool (decide (¬ (okT (⟨a17_, n17_, c17_, lt, 0, 0⟩ : Tk).p (made + lt.length : Nat) (decide ((restV b A2 E2) = 0)))))) (o_not rfl v_not) <| dmv <| dsplitP rfl (fun c104 => ?_) (fun c104 => ?_)⟩
  ·refine dx rfl <| dx rfl <| dx rfl <| dxl rfl <| dx rfl <| dx rfl <| dpkT rfl <| dmv <| dsplitT rfl <| dxl rfl <| dxl rfl <| dx rfl <| dsplitU rfl <| dgnou rfl ?_
   refine dgnou rfl <| dgnou rfl <| dx rfl <| dpkT rfl <| h100 _ _ <| cndT rfl <| seq fun _ h105 => mv <| h105 _ _ <| ⟨(.bool false), rfl, ?_⟩
   have hx : lt.length = 0 := Decidable.byContradiction fun h => ‹¬ okT _ _ _› ((okK_none (noneK.2 ⟨rfl, rfl⟩)).2 ⟨decide_eq_true (rest_0 (by assumption)), by dsimp only; omega⟩)
   exact ⟨false, toks, _, rfl, hT, by rw [lf_bad0 hI hap.2 h2 (end_z (b := b) (A := A2) h2.n22 (by omega)) (by have := rest_zero (b := b) (a := A2) (e := E2) (by assumption); have := (end_z (b := b) (A := A2) h2.n22 (by omega)); omega) (.inl hx)]; rfl, hM103.keep (by simp)⟩
  refine dgmv rfl <| dgfa rfl rfl <| dgmv rfl <| dgyesl rfl <| dl (m_ld (v := .int .i64 0) hM103 (i := 3) (j := 0) rfl rfl rfl rfl <| ⟨hh103, dqg rfl (v := .int .i64 ((made + lt.length : Nat) + 0)) (o_bin rfl rfl (v_add64 (by omega))) <| dgbn rfl rfl rfl <| dpkF rfl <| dmv <| dsplitP rfl (fun c106 => ?_) (fun c106 => ?_)⟩)
  ·refine dxl rfl <| dxl rfl <| dx rfl <| dsplitU rfl <| dgnou rfl <| dgnou rfl <| dgnou rfl <| dx rfl <| dpkT rfl <| h100 _ _ <| cndT rfl <| seq fun _ h107 => mv <| h107 _ _ ?_
   refine ⟨(.bool false), rfl, ?_⟩
   exfalso
   omega
  refine dgyesl rfl <| dl (m_ldA (l := [(.slice a17_ n17_ c17_), .int .i64 0, .int .i64 0]) hM103 (i := 3) (j := 0) rfl rfl rfl rfl rfl <| ⟨hh103, dgyesl rfl <| dl (m_call (none_ok (⟨a17_, n17_, c17_, lt, 0, 0⟩ : Tk) w103) rfl fun v108 w108 ⟨hr108, hu108⟩ => ?_)⟩)
  have hM108 : Mem w (ids rv0) w108 [rv, r'16, rs16, [⟨b18, 65, [(.slice a17_ n17_ c17_), .int .i64 0, .int .i64 0]⟩], [⟨b76, 110, [.int .i64 (endE b A2 E2), .int .i64 (endA b A2 E2 : Nat)]⟩]] := hM103.pure hu108
  subst hr108
  have hh108 := held_upd (wr := wd) (bs := [b18]) hu108 (fun b hb => by
   simp only [List.mem_cons, List.not_mem_nil, or_false] at hb
   rw [hb]; exact ⟨(hM103.at (i := 3) (j := 0) rfl rfl).lt, by simp⟩) hh103
  refine ⟨hh108, dgmv rfl <| dsplitP rfl (fun c109 => ?_) (fun c109 => ?_)⟩
  ·refine dgmv rfl <| dgmv rfl <| dqg rfl (v := .bool (decide (¬ ((made + lt.length : Nat) : Int) = (n : Nat)))) (o_bin rfl rfl v_neq) <| dqg rfl (v := .bool (decide (¬ ((made + lt.length : Nat) : Int) = (n : Nat)))) (o_pickT rfl rfl) <| dpkF rfl <| h100 _ _ <| cndP rfl (fun c110 => ?_) (fun c110 => ?_)
   ·refine seq fun _ h111 => mv <| h111 _ _ <| ⟨(.bool false), rfl, ⟨false, toks, _, rfl, hT, by rw [lf_bad0 hI hap.2 h2 (end_z (b := b) (A := A2) h2.n22 (by omega)) (by have := rest_zero (b := b) (a := A2) (e := E2) (by assumption); have := (end_z (b := b) (A := A2) h2.n22 (by omega)); omega) (.inr (by omega))]; rfl, hM108.keep (by simp)⟩⟩
   refine h99 _ _ <| seq fun _ h112 => ?_
   have hok4 := Decidable.not_not.1 ‹¬ ¬ okT _ _ _›
   have hob := okK_bd hok4
   dsimp only at hob
   refine mv <| fa rfl <| m_ld (v := .int .i64 0) hM108 (i := 3) (j := 0) rfl rfl rfl rfl <| stp (v := .int .i64 ((made + lt.length : Nat) + 0)) (o_bin rfl rfl (v_add64 (by omega))) <| mv <| h112 _ _ <| mv <| m_ldA (l := [(.slice a17_ n17_ c17_), .int .i64 0, .int .i64 0]) hM108 (i := 3) (j := 0) rfl rfl rfl rfl rfl <| m_callv rfl (by assumption) (hq w108 (⟨a17_, n17_, c17_, lt, 0, 0⟩ : Tk) toks rv rs16 hT hs16 (hM108.res2 0 2 rfl rfl (by decide)) hlen (by dsimp only; omega)) rfl fun v113 w113 ⟨rv113, hTn, hm113⟩ => ?_
   have hM113 : Mem w (ids rv0) w113 [rv113, r'16, [], [⟨b18, 65, [(.slice a17_ n17_ c17_), .int .i64 0, .int .i64 0]⟩], [⟨b76, 110, [.int .i64 (endE b A2 E2), .int .i64 (endA b A2 E2 : Nat)]⟩]] := hM108.step2 0 2 rfl rfl (by decide) hm113.addNil
   refine h7 (toks ++ [(lt, 0, 0)], 1, A2, n, rv113, r'16) _ _ ⟨rfl, vi, vi, rfl, hM113.keep (by simp), by have h9 := hc16; rw [(end_z (b := b) (A := A2) h2.n22 (by omega))] at h9; exact h9, lf_go0 hI hap.2 h2 (end_z (b := b) (A := A2) h2.n22 (by omega)) (by have := rest_zero (b := b) (a := A2) (e := E2) (by assumption); have := (end_z (b := b) (A := A2) h2.n22 (by omega)); omega) (by omega) (by omega), hTn, by have := lf_len (t := (lt, 0, 0)) hlen; dsimp only at this; omega⟩ (by dsimp only; omega)
  refine dx rfl <| dx rfl <| dx rfl <| dqg rfl (v := .bool false) (o_pickF rfl rfl) <| dpkF rfl <| h100 _ _ <| cndF rfl <| h99 _ _ <| seq fun _ h114 => absurd (noneK.2 ⟨rfl, rfl⟩) ‹¬ noneT _›
 refine h5 _ _ <| seq fun _ h115 => mv <| mv <| bn rfl rfl <| mv <| splitP rfl (fun c116 => ?_) (fun c116 => ?_)
 ·refine gmv rfl <| gyesl rfl <| m_call (End_ok _ b a 0 rc w10 hcl (hM10.res (i := 1) rfl)) rfl fun v117 w117 ⟨hr117, hm117⟩ => ?_
  have hM117 : Mem w (ids rv0) w117 [rv, rc] := hM10.step 1 rfl hm117
  subst hr117
  refine stg rfl (v := .int .i64 (endE b a 0)) (o_fld rfl rfl) <| gbn rfl rfl rfl <| pkT rfl <| mv <| h115 _ _ <| ⟨(.bool (decide ((endE b a 0) = 0))), rfl, ?_⟩
  have hz := rest_zero (b := b) (a := a) (e := 0) (by assumption)
  have hia := hI.a
  obtain rfl : a = b.length := by omega
  obtain rfl : made = n := by omega
  have he0 : endE b b.length 0 = 0 := by unfold endE; rw [if_neg (by omega), if_neg (by omega)]
  exact ⟨true, toks, _, by rw [decide_eq_true he0], hT, by rw [hI.done]; rfl, hM117.keep (by simp)⟩
 refine gx rfl <| gxl rfl <| gx rfl <| gx rfl <| pkF rfl <| mv <| h115 _ _ <| ⟨(.bool false), rfl, ?_⟩
 have hz := rest_zero (b := b) (a := a) (e := 0) (by assumption)
 have hia := hI.a
 obtain rfl : a = b.length := by omega
 exact ⟨false, toks, _, rfl, hT, by rw [hI.short (by omega)]; rfl, hM10.keep (by simp)⟩
end Go.Proofs.Ytifnmbmijljhfaa.E.Lz
namespace Go.Proofs.Ytifnmbmijljhfaa.E.Lz
open Go
def TxS (bc : Nat) (toks : List Pk) (rv : List Ent) : Prop := ∃ v rb, rv = ⟨bc, 24, [v]⟩ :: rb ∧ SlE byteV 5 v (textP toks) rb
def TkS (bc : Nat) (toks : List Pk) (rv : List Ent) : Prop := ∃ v us rA rB, rv = ⟨bc, 999, [v]⟩ :: (rA ++ rB) ∧ SlS tokC 3 65 v us rA ∧ Nst (OwnP byteV 5 Tk.lit Tk.bs) us rB ∧ us.map Tk.p = toks ∧ toks.length ≤ lenP toks
theorem dec1_ok (bc : Nat) (w : World) (t : Tk) (toks : List Pk) (rv rl : List Ent) (hT : TxS bc toks rv) (hl : SlE byteV 5 t.lit t.bs rl) (hr : Res w (rv ++ rl)) {made : Nat} (hm : made = lenP toks) (hc : 0 ≤ t.n ∧ t.n ≤ 259 ∧ 0 ≤ t.d ∧ t.d ≤ 32768 ∧ (0 < t.n → 1 ≤ t.d ∧ t.d ≤ (made : Int) + (t.bs.length : Nat)) ∧ (made : Int) + (t.bs.length : Nat) + t.n ≤ 65536 ∧ 1 ≤ ((t.bs.length : Nat) : Int) + t.n) : Calls Try.prog 31 [.agg (tokC t).toArray, .pointer (some ⟨bc, 0, none⟩)].toArray w (Rt fun _ w' => ∃ rv', TxS bc (toks ++ [t.p]) rv' ∧ Mem w (ids (rv ++ rl)) w' [rv']) := by
 obtain ⟨v, rb, rfl, hs⟩ := hT
 have htl := textP_len toks
 have hM0 : Mem w (ids (⟨bc, 24, [v]⟩ :: rb ++ rl)) w [[⟨bc, 24, [v]⟩], rb, rl] := (Mem.start hr).keep (by simp)
 refine calls_vc mixed Try.func31 rfl C31 (by simp [Try.ntmps31]) <| seq fun _ h1 => m_bx (v := .agg ([t.lit, .int .i64 t.d, .int .i64 t.n] : List Value).toArray) hM0 rfl rfl fun b2 w3 (hM3 : Mem w (ids (⟨bc, 24, [v]⟩ :: rb ++ rl)) w3 [[⟨bc, 24, [v]⟩], rb, rl, [⟨b2, 65, [t.lit, .int .i64 t.d, .int .i64 t.n]⟩]]) => h1 _ _ ?_
 intro wd e1 e2 e3 e4
 have hd := Upd.same e1 e2 e3 e4 []
 have hM4 := hM3.pure hd
 clear e1 e2 e3 e4
 refine ⟨(some [b2]), ?_⟩
 show vd _ _ _ _ _ _ _
 refine dfa rfl <| dfa rfl <| dfa rfl <| dqld rfl (by simp [isHeld]) (v := .int .i64 t.n) ((hM4.at (i := 3) (j := 0) rfl rfl).cell 2) <| dqld rfl (by simp [isHeld]) (v := .int .i64 t.d) ((hM4.at (i := 3) (j := 0) rfl rfl).cell 1) <| dqld rfl (by simp [isHeld]) (v := t.lit) ((hM4.at (i := 3) (j := 0) rfl rfl).cell 0) <| dl (m_ld (v := v) hM4 (i := 0) (j := 0) rfl rfl rfl rfl <| ⟨(fun b hb => rfl), dl (m_appEU hM4 (i := 1) rfl hs rfl rfl (hl.rd hM4 (i := 2) rfl) (by first | omega | (simp; omega)) (by omega) fun v5 w5 r5 (hs5 : SlE byteV 5 v5 ((textP toks) ++ t.bs) r5) hup5 (hM5 : Mem w (ids (⟨bc, 24, [v]⟩ :: rb ++ rl)) w5 [[⟨bc, 24, [v]⟩], r5, rl, [⟨b2, 65, [t.lit, .int .i64 t.d, .int .i64 t.n]⟩]]) => ?_)⟩)
 have hh5 := held_upd (wr := wd) (bs := [b2]) hup5 (fun b hb => by
  simp only [List.mem_cons, List.not_mem_nil, or_false] at hb
  rw [hb]; exact ⟨(hM4.at (i := 3) (j := 0) rfl rfl).lt, hM4.apart (i := 3) (j := 0) (k := 1) rfl rfl rfl (by decide)⟩) (fun b hb => rfl)
 refine ⟨hh5, dl (m_call (again_ok _ ((textP toks) ++ t.bs) t.d t.n r5 w5 hs5 (hM5.res (i := 1) rfl) (by first | omega | (simp only [List.length_append]; omega)) (by omega) (by intro _; rw [List.length_append]; omega)) rfl fun v6 w6 ⟨r'6, hs6, hm6⟩ => ?_)⟩
 have hM6 : Mem w (ids (⟨bc, 24, [v]⟩ :: rb ++ rl)) w6 [[⟨bc, 24, [v]⟩], r'6, rl, [⟨b2, 65, [t.lit, .int .i64 t.d, .int .i64 t.n]⟩]] := hM5.step 1 rfl hm6
 have hh6 := held_upd (wr := wd) (bs := [b2]) hm6.upd (fun b hb => by
  simp only [List.mem_cons, List.not_mem_nil, or_false] at hb
  rw [hb]; exact ⟨(hM5.at (i := 3) (j := 0) rfl rfl).lt, hM5.apart (i := 3) (j := 0) (k := 1) rfl rfl rfl (by decide)⟩) hh5
 refine ⟨hh6, dl (m_stU (v := v6) hM6 (i := 0) rfl rfl rfl (Sl.one hs6) (by simp) fun w7 hup7 (hM7 : Mem w (ids (⟨bc, 24, [v]⟩ :: rb ++ rl)) w7 [[⟨bc, 24, [v6]⟩], r'6, rl, [⟨b2, 65, [t.lit, .int .i64 t.d, .int .i64 t.n]⟩]]) => ?_)⟩
 have hh7 := held_upd (wr := wd) (bs := [b2]) hup7 (fun b hb => by
  simp only [List.mem_cons, List.not_mem_nil, or_false] at hb
  rw [hb]; exact ⟨(hM6.at (i := 3) (j := 0) rfl rfl).lt, hM6.apart (i := 3) (j := 0) (k := 0) rfl rfl rfl (by decide)⟩) hh6
 refine ⟨hh7, ⟨(.tuple [].toArray), rfl, ⟨_, ⟨_, _, rfl, by rw [textP_app]; exact hs6⟩, hM7.keep (by simp)⟩⟩⟩
theorem read_okI (x : Value) (b : List UInt8) (n : Int) (g : FuncId) (caps : List Value) (T : List Pk → List Ent → Prop) (rv0 : List Ent) (w : World) (hx : RdE byteV w x b) (hl : b.length ≤ 140737488355328) (h0 : 0 ≤ n) (hn : n ≤ 65536) (hr : Res w rv0) (hT0 : T [] rv0) (ho : okFn Try.prog g = true) (hq : ∀ (wc : World) (t : Tk) (toks : List Pk) (rv rl : List Ent), T toks rv → SlE byteV 5 t.lit t.bs rl → Res wc (rv ++ rl) → ∀ {made : Nat}, made = lenP toks → (0 ≤ t.n ∧ t.n ≤ 259 ∧ 0 ≤ t.d ∧ t.d ≤ 32768 ∧ (0 < t.n → 1 ≤ t.d ∧ t.d ≤ (made : Int) + (t.bs.length : Nat)) ∧ (made : Int) + (t.bs.length : Nat) + t.n ≤ 65536 ∧ 1 ≤ ((t.bs.length : Nat) : Int) + t.n) → Calls Try.prog g (Value.agg (tokC t).toArray :: caps).toArray wc (Rt fun _ w' => ∃ rv', T (toks ++ [t.p]) rv' ∧ Mem wc (ids (rv ++ rl)) w' [rv'])) : Calls Try.prog 30 [x, .int .i64 n, .func (.func g) #[] caps.toArray].toArray w (Rt fun r w' => ∃ ok toks rv', r = .bool ok ∧ T toks rv' ∧ (if ok then some toks else none) = rdF b n.toNat ∧ Mem w (ids rv0) w' [rv']) := by
 have h := read_ok x b n.toNat g caps T rv0 w hx hl (by omega) hr hT0 ho hq
 rw [Int.toNat_of_nonneg h0] at h
 exact h
theorem TxS.nil (bc : Nat) : TxS bc [] [⟨bc, 24, [.slice none 0 0]⟩] := ⟨_, [], rfl, Sl.nil 1 5⟩
theorem TkS.nil (bc : Nat) : TkS bc [] [⟨bc, 999, [.slice none 0 0]⟩] := ⟨_, [], [], [], rfl, Sl.nil 3 65, Nst.nil, rfl, by simp⟩
theorem decF_arg {b : List UInt8} {n : Int} (h : n < 0 ∨ 65536 < n) : decF b n = ([], 3) := by rw [decF_no (by rw [tksF_arg h]; simp), tksF_arg h]
theorem decF_none {b : List UInt8} {n : Int} (h : ¬ (n < 0 ∨ 65536 < n)) (h1 : rdF b n.toNat = none) : decF b n = ([], 30) := by rw [decF_no (by rw [tksF_none h h1]; simp), tksF_none h h1]
theorem decF_some {b : List UInt8} {n : Int} {ps : List Pk} (h : ¬ (n < 0 ∨ 65536 < n)) (h1 : rdF b n.toNat = some ps) : decF b n = (textP ps, 0) := by rw [decF_yes (by rw [tksF_some h h1]), tksF_some h h1]
theorem Decode_ok (x : Value) (b : List UInt8) (n : Int) (w : World) (hx : RdE byteV w x b) (hl : b.length ≤ 140737488355328) (hn : inK .i64 n) : Calls Try.prog 11 [x, .int .i64 n].toArray w (Rt fun r w' => ∃ v rs, r = .tuple [v, .int .i64 (decF b n).2].toArray ∧ SlE byteV 5 v (decF b n).1 rs ∧ Mem w [] w' [rs]) := by
 have hM0 : Mem w [] w [] := Mem.nil w []
 simp only [inK] at hn
 refine calls_vc mixed Try.func11 rfl C11 (by simp [Try.ntmps11]) <| seq fun _ h1 => mv <| mv <| h1 _ _ <| seq fun _ h2 => seq fun _ h3 => mv <| bn rfl rfl <| mv <| splitP rfl (fun c4 => ?_) (fun c4 => ?_)
 ·refine gx rfl <| gx rfl <| pkT rfl <| h3 _ _ <| cndT rfl <| seq fun _ h5 => mv <| mv <| h5 _ _ <| ⟨(.tuple [.slice none 0 0, .int .i64 3].toArray), rfl, ?_⟩
  have he := decF_arg (b := b) (n := n) (by omega)
  exact ⟨.slice none 0 0, [], by rw [he], by rw [he]; exact Sl.nil 1 5, hM0.keep (by simp)⟩
 refine gmv rfl <| gbn rfl rfl rfl <| pkF rfl <| h3 _ _ <| cndP rfl (fun c6 => ?_) (fun c6 => ?_)
 ·refine seq fun _ h7 => mv <| mv <| h7 _ _ <| ⟨(.tuple [.slice none 0 0, .int .i64 3].toArray), rfl, ?_⟩
  have he := decF_arg (b := b) (n := n) (by omega)
  exact ⟨.slice none 0 0, [], by rw [he], by rw [he]; exact Sl.nil 1 5, hM0.keep (by simp)⟩
 refine h2 _ _ <| seq fun _ h8 => m_al hM0 fun b9 w10 (hM10 : Mem w [] w10 [[⟨b9, 24, [.slice none 0 0]⟩]]) => h8 _ _ <| seq fun _ h11 => seq fun _ h12 => mv <| mv <| stp (v := .func (.func 31) [].toArray [.pointer (some ⟨b9, 0, none⟩)].toArray) (o_mkf rfl) <| m_call (read_okI _ b n 31 [.pointer (some ⟨b9, 0, none⟩)] (TxS b9) _ w10 (hx.upd hM10.upd) (by omega) (by omega) (by omega) (hM10.res (i := 0) rfl) (TxS.nil _) (by kernel_rfl) (fun wc t toks rv rl hT hl hr _ hm hc => dec1_ok _ wc t toks rv rl hT hl hr hm hc)) rfl fun v13 w13 ⟨okq, tq, rv13, hr13, hT13, hq, hm13⟩ => ?_
 obtain ⟨v, rb, rfl, hs⟩ := hT13
 have hM13 : Mem w [] w13 [[⟨b9, 24, [v]⟩], rb] := (hM10.step 0 rfl hm13).perm (by simp)
 subst hr13
 refine stp (v := .bool (!okq)) (o_not rfl rfl) <| h12 _ _ <| cnd rfl (fun hwT => ?_) (fun hwF => ?_)
 ·refine seq fun _ h15 => mv <| mv <| h15 _ _ <| ⟨(.tuple [.slice none 0 0, .int .i64 30].toArray), rfl, ?_⟩
  have hok : okq = false := by simpa using hwT
  rw [hok] at hq
  have he := decF_none (b := b) (n := n) (by omega) hq.symm
  exact ⟨.slice none 0 0, [], by rw [he], by rw [he]; exact Sl.nil 1 5, hM13.keep (by simp)⟩
 refine h11 _ _ <| seq fun _ h16 => m_ld (v := v) hM13 (i := 0) (j := 0) rfl rfl rfl rfl <| mv <| mv <| h16 _ _ <| ⟨(.tuple [v, .int .i64 0].toArray), rfl, ?_⟩
 have hok : okq = true := by simpa using hwF
 rw [hok, if_pos rfl] at hq
 have he := decF_some (b := b) (n := n) (by omega) hq.symm
 exact ⟨_, _, by rw [he], by rw [he]; exact hs, hM13.keep (by simp)⟩
end Go.Proofs.Ytifnmbmijljhfaa.E.Lz
namespace Go.Proofs.Ytifnmbmijljhfaa.E.Lz
open Go
theorem tokP_none {t : Pk} (h : noneT t) : tokB t = putI (t.1.length : Nat) ++ t.1 := by unfold tokB; rw [if_pos h, List.append_nil]
theorem tokP_some {t : Pk} (h : ¬ noneT t) : tokB t = putI (t.1.length : Nat) ++ (t.1 ++ (putI (t.2.2 - 4) ++ putI t.2.1)) := by unfold tokB; rw [if_neg h, List.append_assoc]
theorem toksB_cons (t : Pk) (ts : List Pk) : toksB (t :: ts) = tokB t ++ toksB ts := by simp [toksB]
end Go.Proofs.Ytifnmbmijljhfaa.E.Lz
namespace Go.Proofs.Ytifnmbmijljhfaa.E.Lz
open Go
def lcp : List UInt8 → List UInt8 → Nat
 | a :: xs, b :: bs => if a = b then lcp xs bs + 1 else 0
 | _, _ => 0
theorem lcp_le : ∀ (a b : List UInt8), lcp a b ≤ a.length
 | [], _ => by simp [lcp]
 | _ :: _, [] => by simp [lcp]
 | a :: xs, b :: bs => by
  rw [lcp]; split
  ·have := lcp_le xs bs; simp only [List.length_cons]; omega
  omega
theorem lcp_at : ∀ (a b : List UInt8) (k : Nat), k < lcp a b → a.getD k 0 = b.getD k 0
 | [], _, _, h => by simp [lcp] at h
 | _ :: _, [], _, h => by simp [lcp] at h
 | a :: xs, b :: bs, k, h => by
  rw [lcp] at h
  split at h
  ·rename_i e
   cases k with
   | zero => simpa using e
   | succ k => simpa using lcp_at xs bs k (by omega)
  omega
theorem lcp_is : ∀ (a b : List UInt8) (n : Nat), n ≤ a.length → n ≤ b.length → (∀ k, k < n → a.getD k 0 = b.getD k 0) → (n = a.length ∨ (n < b.length ∧ ¬ a.getD n 0 = b.getD n 0)) → lcp a b = n
 | [], b, n, h, _, _, _ => by simp at h; subst h; cases b <;> rfl
 | a :: xs, [], n, _, h, _, h4 => by
  simp at h; subst h
  rcases h4 with h4 | h4
  ·simp at h4
  exact absurd h4.1 (by simp)
 | a :: xs, b :: bs, n, h1, h2, h3, h4 => by
  cases n with
  | zero =>
   rcases h4 with h4 | h4
   ·simp at h4
   rw [lcp, if_neg (by simpa using h4.2)]
  | succ n =>
   have e := h3 0 (by omega)
   simp at e
   simp only [List.length_cons] at h1 h2 h4
   rw [lcp, if_pos e, lcp_is xs bs n (by omega) (by omega) (fun k hk => by simpa using h3 (k + 1) (by omega)) (by
    rcases h4 with h4 | h4
    ·exact .inl (by omega)
    exact .inr ⟨by omega, by simpa using h4.2⟩)]
def lcF (T : List UInt8) (i j : Nat) : Nat := lcp ((T.drop i).take 259) (T.drop j)
theorem getD_drop {T : List UInt8} {i k : Nat} : (T.drop i).getD k 0 = T.getD (i + k) 0 := by
 rw [List.getD_eq_getElem?_getD, List.getD_eq_getElem?_getD, List.getElem?_drop]
theorem getD_take {T : List UInt8} {m k : Nat} (h : k < m) : (T.take m).getD k 0 = T.getD k 0 := by
 rw [List.getD_eq_getElem?_getD, List.getD_eq_getElem?_getD, List.getElem?_take_of_lt h]
theorem lcF_le {T : List UInt8} {i j : Nat} : lcF T i j ≤ 259 ∧ lcF T i j ≤ T.length - i := by
 have := lcp_le ((T.drop i).take 259) (T.drop j)
 rw [List.length_take, List.length_drop] at this
 unfold lcF; omega
theorem lcF_at {T : List UInt8} {i j k : Nat} (h : k < lcF T i j) : T.getD (i + k) 0 = T.getD (j + k) 0 := by
 have hl := lcF_le (T := T) (i := i) (j := j)
 have := lcp_at _ _ k h
 rwa [getD_take (by omega), getD_drop, getD_drop] at this
theorem lcF_is {T : List UInt8} {i j n : Nat} (hj : j ≤ i) (h1 : n ≤ 259) (h2 : i + n ≤ T.length) (h3 : ∀ k, k < n → T.getD (i + k) 0 = T.getD (j + k) 0) (h4 : n = 259 ∨ i + n = T.length ∨ ¬ T.getD (i + n) 0 = T.getD (j + n) 0) : lcF T i j = n := by
 unfold lcF
 refine lcp_is _ _ n ?_ ?_ (fun k hk => ?_) ?_
 ·rw [List.length_take, List.length_drop]; omega
 ·rw [List.length_drop]; omega
 ·rw [getD_take (by omega), getD_drop, getD_drop]; exact h3 k hk
 by_cases c : n = 259 ∨ i + n = T.length
 ·refine .inl ?_
  rw [List.length_take, List.length_drop]; omega
 rcases h4 with h4 | h4 | h4
 ·exact absurd (.inl h4) c
 ·exact absurd (.inr h4) c
 refine .inr ⟨by rw [List.length_drop]; omega, ?_⟩
 rw [getD_take (by omega), getD_drop, getD_drop]; exact h4
def alk (T : List UInt8) (i j : Nat) : Prop := T.getD i 0 = T.getD j 0 ∧ T.getD (i + 1) 0 = T.getD (j + 1) 0 ∧ T.getD (i + 2) 0 = T.getD (j + 2) 0 ∧ T.getD (i + 3) 0 = T.getD (j + 3) 0
instance (T : List UInt8) (i j : Nat) : Decidable (alk T i j) := by unfold alk; infer_instance
theorem alk_lc {T : List UInt8} {i j : Nat} (hj : j ≤ i) (hi : i + 4 ≤ T.length) : alk T i j ↔ 4 ≤ lcF T i j := by
 constructor
 ·intro ⟨a0, a1, a2, a3⟩
  rcases Nat.lt_or_ge (lcF T i j) 4 with h | h
  ·exfalso
   -- the first place where they part is one of the four
   have hx : lcp ((T.drop i).take 259) (T.drop j) < 4 := h
   have key : ∀ (m : Nat) (a b : List UInt8), m ≤ a.length → m ≤ b.length → (∀ k, k < m → a.getD k 0 = b.getD k 0) → m ≤ lcp a b := by
    intro m
    induction m with
    | zero => intros; omega
    | succ m ih =>
     intro a b h1 h2 h3
     cases a with
     | nil => simp at h1
     | cons x xs =>
      cases b with
      | nil => simp at h2
      | cons y bs =>
       have e := h3 0 (by omega)
       simp at e
       simp only [List.length_cons] at h1 h2
       rw [lcp, if_pos e]
       have := ih xs bs (by omega) (by omega) (fun k hk => by simpa using h3 (k + 1) (by omega))
       omega
   have := key 4 ((T.drop i).take 259) (T.drop j) (by rw [List.length_take, List.length_drop]; omega) (by rw [List.length_drop]; omega) (fun k hk => by
    rw [getD_take (by omega), getD_drop, getD_drop]
    match k, hk with
    | 0, _ => exact a0
    | 1, _ => exact a1
    | 2, _ => exact a2
    | 3, _ => exact a3)
   omega
  exact h
 intro h
 exact ⟨lcF_at (k := 0) (by omega), lcF_at (k := 1) (by omega), lcF_at (k := 2) (by omega), lcF_at (k := 3) (by omega)⟩
def plen (v : Nat) : Nat := if v < 128 then 1 else if v < 16384 then 2 else 3
theorem plen_put {v : Int} (h0 : 0 ≤ v) (h : v < 2097152) : (putI v).length = plen v.toNat := by
 unfold plen
 by_cases c1 : v < 128
 ·rw [putI_lt h0 c1, if_pos (by omega)]; rfl
 rw [putI_ge (by omega), List.length_cons, if_neg (by omega)]
 by_cases c2 : v < 16384
 ·rw [putI_lt (by omega) (by omega), if_pos (by omega)]; rfl
 rw [putI_ge (by omega), List.length_cons, putI_lt (by omega) (by omega), if_neg (by omega)]; rfl
theorem plen_nat {v : Nat} (h : v < 2097152) : (putI (v : Nat)).length = plen v := plen_put (by omega) (by omega)
theorem plen_cases (v : Nat) : (v < 128 ∧ plen v = 1) ∨ (128 ≤ v ∧ v < 16384 ∧ plen v = 2) ∨ (16384 ≤ v ∧ plen v = 3) := by
 unfold plen
 by_cases c1 : v < 128
 ·exact .inl ⟨c1, if_pos c1⟩
 rw [if_neg c1]
 by_cases c2 : v < 16384
 ·exact .inr (.inl ⟨by omega, c2, if_pos c2⟩)
 exact .inr (.inr ⟨by omega, if_neg c2⟩)
theorem plen_bd (v : Nat) : 1 ≤ plen v ∧ plen v ≤ 3 := by have := plen_cases v; omega
def cands (T : List UInt8) (i : Nat) : Nat → List Nat
 | 0 => []
 | j + 1 => if alk T i j then j :: cands T i j else cands T i j
def pick (T : List UInt8) (i : Nat) : List Nat → Nat → Nat → Nat → Nat × Nat
 | [], _, d, b => (d, b)
 | j :: js, s, d, b => if i - j ≤ 32768 ∧ s < 16 then (if b < lcF T i j ∧ 3 + plen (i - j) ≤ lcF T i j then pick T i js (s + 1) (i - j) (lcF T i j) else pick T i js (s + 1) d b) else (d, b)
def bestF (T : List UInt8) (i : Nat) : Nat × Nat := if i + 4 ≤ T.length then pick T i (cands T i i) 0 0 0 else (0, 0)
def ownK (T : List UInt8) : Nat → Nat → Nat → List Pk
 | 0, _, j => if j < T.length then [(T.drop j, 0, 0)] else []
 | k + 1, i, j => if i < T.length then (if (bestF T i).2 = 0 then ownK T k (i + 1) j else ((T.take i).drop j, ((bestF T i).1 : Int), ((bestF T i).2 : Int)) :: ownK T k (i + (bestF T i).2) (i + (bestF T i).2)) else (if j < T.length then [(T.drop j, 0, 0)] else [])
def ownF (T : List UInt8) : List Pk := ownK T T.length 0 0
def encF (T : List UInt8) : List UInt8 × Int := if 65536 < T.length then ([], 2) else (toksB (ownF T), 0)
theorem encF_long {T : List UInt8} (h : 65536 < T.length) : encF T = ([], 2) := by unfold encF; rw [if_pos h]
theorem encF_ok {T : List UInt8} (h : T.length ≤ 65536) : encF T = (toksB (ownF T), 0) := by unfold encF; rw [if_neg (by omega)]
theorem cands_mem {T : List UInt8} {i j : Nat} : ∀ {m : Nat}, j ∈ cands T i m → j < m ∧ alk T i j
 | m + 1, h => by
  rw [cands] at h
  split at h
  ·rename_i c
   rcases List.mem_cons.1 h with rfl | h
   ·exact ⟨by omega, c⟩
   have := cands_mem h; exact ⟨by omega, this.2⟩
  have := cands_mem h; exact ⟨by omega, this.2⟩
theorem cands_skip {T : List UInt8} {i : Nat} : ∀ {m n : Nat}, n ≤ m → (∀ j, n ≤ j → j < m → ¬ alk T i j) → cands T i m = cands T i n
 | 0, n, h, _ => by rw [show n = 0 by omega]
 | m + 1, n, h, hn => by
  rcases Nat.lt_or_ge n (m + 1) with c | c
  ·rw [cands, if_neg (hn m (by omega) (by omega)), cands_skip (by omega) fun j a b => hn j a (by omega)]
  rw [show n = m + 1 by omega]
theorem pick_far {T : List UInt8} {i : Nat} {l : List Nat} {s d b : Nat} (h : ∀ j ∈ l, ¬ i - j ≤ 32768) : pick T i l s d b = (d, b) := by
 cases l with
 | nil => rfl
 | cons j js => rw [pick, if_neg (fun k => h j (by simp) k.1)]
theorem pick_16 {T : List UInt8} {i : Nat} {l : List Nat} {s d b : Nat} (h : 16 ≤ s) : pick T i l s d b = (d, b) := by
 cases l with
 | nil => rfl
 | cons j js => rw [pick, if_neg (fun k => by omega)]
theorem pick_most {T : List UInt8} {i : Nat} : ∀ (l : List Nat) (s d b : Nat), (b = 259 ∨ T.length ≤ i + b) → pick T i l s d b = (d, b)
 | [], _, _, _, _ => rfl
 | j :: js, s, d, b, h => by
  have := lcF_le (T := T) (i := i) (j := j)
  rw [pick, if_neg (c := b < lcF T i j ∧ _) (fun k => by omega)]
  split
  ·exact pick_most js _ d b h
  rfl
def fitM (T : List UInt8) (i : Nat) (p : Nat × Nat) : Prop := p.2 = 0 ∨ (1 ≤ p.1 ∧ p.1 ≤ i ∧ p.1 ≤ 32768 ∧ 3 + plen p.1 ≤ p.2 ∧ p.2 = lcF T i (i - p.1))
theorem pick_fit {T : List UInt8} {i : Nat} : ∀ (l : List Nat) (s d b : Nat), (∀ j ∈ l, j < i) → fitM T i (d, b) → fitM T i (pick T i l s d b)
 | [], _, _, _, _, h => h
 | j :: js, s, d, b, hl, h => by
  have hj := hl j (by simp)
  have hjs : ∀ j ∈ js, j < i := fun x hx => hl x (List.mem_cons_of_mem _ hx)
  rw [pick]
  split
  ·rename_i c
   split
   ·rename_i c2
    refine pick_fit js _ _ _ hjs (.inr ⟨by simp only; omega, by simp only; omega, c.1, c2.2, ?_⟩)
    simp only
    rw [show i - (i - j) = j by omega]
   exact pick_fit js _ _ _ hjs h
  exact h
theorem best_fit (T : List UInt8) (i : Nat) : fitM T i (bestF T i) := by
 unfold bestF
 split
 ·exact pick_fit _ _ _ _ (fun j hj => (cands_mem hj).1) (.inl rfl)
 exact .inl rfl
theorem best_le {T : List UInt8} {i : Nat} : (bestF T i).2 ≤ 259 ∧ (bestF T i).2 ≤ T.length - i ∧ (¬ (bestF T i).2 = 0 → 4 ≤ (bestF T i).2 ∧ i < T.length ∧ 1 ≤ (bestF T i).1 ∧ (bestF T i).1 ≤ i ∧ (bestF T i).1 ≤ 32768) := by
 have h := best_fit T i
 have hp := plen_bd (bestF T i).1
 rcases h with h | ⟨h1, h2, h3, h4, h5⟩
 ·exact ⟨by omega, by omega, fun k => absurd h k⟩
 have := lcF_le (T := T) (i := i) (j := i - (bestF T i).1)
 exact ⟨by omega, by omega, fun _ => by omega⟩
theorem tok_cost {t : Pk} (h1 : t.1.length ≤ 65536) (h : ¬ noneT t) (h2 : 4 ≤ t.2.2) (h3 : t.2.2 ≤ 259) (h4 : 1 ≤ t.2.1 ∧ t.2.1 ≤ 32768) (h5 : 3 + plen t.2.1.toNat ≤ t.2.2.toNat) : (tokB t).length + 2 ≤ t.1.length + t.2.2.toNat + plen t.1.length := by
 have e : (tokB t).length = (putI (t.1.length : Nat)).length + (t.1.length + ((putI (t.2.2 - 4)).length + (putI t.2.1).length)) := by rw [tokP_some h]; simp only [List.length_append]
 rw [plen_nat (by omega), plen_put (by omega) (by omega), plen_put (by omega) (by omega)] at e
 have hb := plen_bd t.2.1.toNat
 have : plen (t.2.2 - 4).toNat ≤ 2 ∧ (128 ≤ (t.2.2 - 4) ∨ plen (t.2.2 - 4).toNat = 1) := by
  unfold plen
  by_cases c : (t.2.2 - 4).toNat < 128
  ·rw [if_pos c]; omega
  rw [if_neg c, if_pos (by omega)]; omega
 omega
def Cost (n : Nat) (B L : Nat) : Prop := (n < 128 → B ≤ L + 1) ∧ (n < 16384 → B ≤ L + 2) ∧ ∃ k f, B ≤ L + k + f ∧ k * 16388 + (if f = 3 then 16384 else 0) ≤ L ∧ f ≤ 3
theorem cost_own {T : List UInt8} (hT : T.length ≤ 65536) : ∀ (k i j : Nat), j ≤ i → i ≤ T.length → T.length ≤ i + k → Cost T.length (toksB (ownK T k i j)).length (T.length - j)
 | 0, i, j, hj, hi, hk => by
  rw [ownK]
  split
  ·rename_i c
   have e : (toksB [((T.drop j, 0, 0) : Pk)]).length = plen (T.length - j) + (T.length - j) := by
    rw [toksB_cons, tokP_none ⟨rfl, rfl⟩]
    show (putI ((T.drop j).length : Nat) ++ T.drop j ++ []).length = _
    rw [List.append_nil, List.length_append, plen_nat (by rw [List.length_drop]; omega), List.length_drop]
   rw [e]
   have hb := plen_bd (T.length - j)
   have hc := plen_cases (T.length - j)
   refine ⟨fun h => by omega, fun h => by omega, 0, plen (T.length - j), by omega, ?_, by omega⟩
   by_cases c3 : plen (T.length - j) = 3
   ·rw [if_pos c3]; omega
   rw [if_neg c3]; simp
  exact ⟨fun _ => by simp [toksB], fun _ => by simp [toksB], 0, 0, by simp [toksB], by simp, by omega⟩
 | k + 1, i, j, hj, hi, hk => by
  rw [ownK]
  by_cases c : i < T.length
  ·rw [if_pos c]
   have hb := best_le (T := T) (i := i)
   by_cases c2 : (bestF T i).2 = 0
   ·rw [if_pos c2]; exact cost_own hT k (i + 1) j (by omega) (by omega) (by omega)
   rw [if_neg c2]
   obtain ⟨b1, b2, b3, b4, b5⟩ := hb.2.2 c2
   obtain ⟨i1, i2, K, f, i3, i4, i5⟩ := cost_own hT k (i + (bestF T i).2) (i + (bestF T i).2) (by omega) (by omega) (by omega)
   have hl : ((T.take i).drop j).length = i - j := by rw [List.length_drop, List.length_take]; omega
   have hpp : 3 + plen (bestF T i).1 ≤ (bestF T i).2 := by
    rcases best_fit T i with h | h
    ·exact absurd h c2
    exact h.2.2.2.1
   have hc := tok_cost (t := ((T.take i).drop j, ((bestF T i).1 : Int), ((bestF T i).2 : Int))) (by simp only; omega) (fun hn => by have := hn.2; simp only at this; omega) (by simp only; omega) (by simp only; omega) (by simp only; omega) (by simpa using hpp)
   simp only [hl, Int.toNat_natCast] at hc
   rw [toksB_cons, List.length_append]
   have hp := plen_bd (i - j)
   refine ⟨fun h => ?_, fun h => ?_, ?_⟩
   ·have := plen_cases (i - j)
    have := i1 h; omega
   ·have : plen (i - j) ≤ 2 := by have := plen_cases (i - j); omega
    have := i2 h; omega
   by_cases c3 : plen (i - j) = 3
   ·have := plen_cases (i - j)
    refine ⟨K + 1, f, ?_, ?_, i5⟩
    ·clear i4 i1 i2; omega
    rw [Nat.add_mul, Nat.one_mul, Nat.add_right_comm]
    refine Nat.le_trans (Nat.add_le_add_right i4 _) ?_
    clear i1 i2 i3 i4; omega
   have i6 := plen_cases (i - j)
   refine ⟨K, f, ?_, ?_, i5⟩
   ·clear i4 i1 i2; omega
   refine Nat.le_trans i4 ?_
   clear i4 i1 i2; omega
  rw [if_neg c]
  have := cost_own hT 0 i j hj hi (by omega)
  rw [ownK] at this; exact this
theorem enc_bound {T : List UInt8} (h : T.length ≤ 65536) : (encF T).1.length ≤ T.length + 5 ∧ (T.length < 16384 → (encF T).1.length ≤ T.length + 2) ∧ (T.length < 128 → (encF T).1.length ≤ T.length + 1) ∧ (T.length = 0 → (encF T).1.length = 0) := by
 rw [encF_ok h]
 obtain ⟨h1, h2, k, f, h3, h4, h5⟩ := cost_own h T.length 0 0 (by omega) (by omega) (by omega)
 simp only [Nat.sub_zero] at h1 h2 h3 h4
 refine ⟨?_, h2, h1, fun h0 => ?_⟩
 ·show (toksB (ownK T T.length 0 0)).length ≤ _
  have : k + f ≤ 5 := by
   rcases Nat.lt_or_ge k 3 with c | c
   ·omega
   rcases Nat.lt_or_ge k 4 with c2 | c2
   ·obtain rfl : k = 3 := by omega
    by_cases c3 : f = 3
    ·rw [if_pos c3] at h4; omega
    omega
   have := Nat.mul_le_mul_right 16388 c2; omega
  omega
 have : T = [] := List.length_eq_zero_iff.1 h0
 subst this; rfl
theorem enc_len {T : List UInt8} : (encF T).1.length ≤ 65541 := by
 by_cases c : 65536 < T.length
 ·rw [encF_long c]; simp
 have := (enc_bound (T := T) (by omega)).1; omega
end Go.Proofs.Ytifnmbmijljhfaa.E.Lz
namespace Go.Proofs.Ytifnmbmijljhfaa.E.Lz
open Go
def pv (h : Nat → Nat) (v : Nat) : Nat → Nat
 | 0 => 0
 | m + 1 => if h m = v then m + 1 else pv h v m
theorem pv_le (h : Nat → Nat) (v : Nat) : ∀ m, pv h v m ≤ m
 | 0 => Nat.le_refl _
 | m + 1 => by
  have := pv_le h v m
  rw [pv]; split <;> omega
theorem pv_is (h : Nat → Nat) (v : Nat) : ∀ m, 0 < pv h v m → h (pv h v m - 1) = v
 | 0, k => by simp [pv] at k
 | m + 1, k => by
  rw [pv] at k ⊢
  split
  ·assumption
  rename_i c; rw [if_neg c] at k; exact pv_is h v m k
theorem pv_gap (h : Nat → Nat) (v : Nat) : ∀ m j, pv h v m ≤ j → j < m → ¬ h j = v
 | m + 1, j, k, hj => by
  rw [pv] at k
  split at k
  ·omega
  rename_i c
  by_cases e : j = m
  ·rw [e]; exact c
  exact pv_gap h v m j k (by omega)
def Hsh (T : List UInt8) (h : Nat → Nat) : Prop := ∀ i j, alk T i j → h i = h j
theorem cands_pv {T : List UInt8} {h : Nat → Nat} (hh : Hsh T h) {i m : Nat} : cands T i m = cands T i (pv h (h i) m) :=
 cands_skip (pv_le _ _ _) fun j a b c => pv_gap h (h i) m j a b (hh i j c).symm
structure Srch (T : List UInt8) (h : Nat → Nat) (i p s d b : Nat) : Prop where
 he : bestF T i = pick T i (cands T i p) s d b
 hp : p ≤ i
 hh : 0 < p → h (p - 1) = h i
 hb : b ≤ 259 ∧ d ≤ i ∧ d ≤ 32768
theorem Srch.init {T : List UInt8} {h : Nat → Nat} (hh : Hsh T h) {i : Nat} (hi : i + 4 ≤ T.length) : Srch T h i (pv h (h i) i) 0 0 0 :=
 ⟨by unfold bestF; rw [if_pos hi, cands_pv hh], pv_le _ _ _, fun k => pv_is _ _ _ k, by omega, by omega, by omega⟩
theorem Srch.stop {T : List UInt8} {h : Nat → Nat} {i p s d b : Nat} (H : Srch T h i p s d b) (hs : p = 0 ∨ 32768 < i - (p - 1) ∨ 16 ≤ s) : bestF T i = (d, b) := by
 rw [H.he]
 rcases hs with hs | hs | hs
 ·subst hs; rfl
 ·exact pick_far fun j hj => by have := (cands_mem hj).1; omega
 exact pick_16 hs
theorem Srch.skip {T : List UInt8} {h : Nat → Nat} (hh : Hsh T h) {i p s d b : Nat} (H : Srch T h i p s d b) (hp : 0 < p) (hn : ¬ alk T i (p - 1)) : Srch T h i (pv h (h (p - 1)) (p - 1)) s d b := by
 have hpl := pv_le h (h (p - 1)) (p - 1)
 have hpp := H.hp
 refine ⟨?_, by omega, fun k => ?_, H.hb⟩
 ·rw [H.he, show p = p - 1 + 1 by omega, cands, if_neg hn, Nat.add_sub_cancel, cands_pv hh, H.hh hp]
 rw [pv_is _ _ _ k, H.hh hp]
theorem Srch.look {T : List UInt8} {h : Nat → Nat} (hh : Hsh T h) {i p s d b : Nat} (H : Srch T h i p s d b) (hp : 0 < p) (ha : alk T i (p - 1)) (hw : i - (p - 1) ≤ 32768) (hs : s < 16) :
 bestF T i = (if b < lcF T i (p - 1) ∧ 3 + plen (i - (p - 1)) ≤ lcF T i (p - 1) then pick T i (cands T i (pv h (h (p - 1)) (p - 1))) (s + 1) (i - (p - 1)) (lcF T i (p - 1)) else pick T i (cands T i (pv h (h (p - 1)) (p - 1))) (s + 1) d b) := by
 rw [H.he]
 conv => lhs; rw [show p = p - 1 + 1 by omega, cands, if_pos ha, pick, if_pos ⟨hw, hs⟩]
 rw [cands_pv hh, H.hh hp]
theorem Srch.worse {T : List UInt8} {h : Nat → Nat} (hh : Hsh T h) {i p s d b : Nat} (H : Srch T h i p s d b) (hp : 0 < p) (ha : alk T i (p - 1)) (hw : i - (p - 1) ≤ 32768) (hs : s < 16) (hn : ¬ (b < lcF T i (p - 1) ∧ 3 + plen (i - (p - 1)) ≤ lcF T i (p - 1))) : Srch T h i (pv h (h (p - 1)) (p - 1)) (s + 1) d b := by
 have hpl := pv_le h (h (p - 1)) (p - 1)
 have hpp := H.hp
 refine ⟨?_, by omega, fun k => ?_, H.hb⟩
 ·rw [H.look hh hp ha hw hs, if_neg hn]
 rw [pv_is _ _ _ k, H.hh hp]
theorem Srch.better {T : List UInt8} {h : Nat → Nat} (hh : Hsh T h) {i p s d b : Nat} (H : Srch T h i p s d b) (hp : 0 < p) (ha : alk T i (p - 1)) (hw : i - (p - 1) ≤ 32768) (hs : s < 16) (hn : b < lcF T i (p - 1) ∧ 3 + plen (i - (p - 1)) ≤ lcF T i (p - 1)) : Srch T h i (pv h (h (p - 1)) (p - 1)) (s + 1) (i - (p - 1)) (lcF T i (p - 1)) := by
 have hpl := pv_le h (h (p - 1)) (p - 1)
 have hpp := H.hp
 have := lcF_le (T := T) (i := i) (j := p - 1)
 refine ⟨?_, by omega, fun k => ?_, by omega, by omega, by omega⟩
 ·rw [H.look hh hp ha hw hs, if_pos hn]
 rw [pv_is _ _ _ k, H.hh hp]
theorem Srch.most {T : List UInt8} {h : Nat → Nat} (hh : Hsh T h) {i p s d b : Nat} (H : Srch T h i p s d b) (hp : 0 < p) (ha : alk T i (p - 1)) (hw : i - (p - 1) ≤ 32768) (hs : s < 16) (hn : b < lcF T i (p - 1) ∧ 3 + plen (i - (p - 1)) ≤ lcF T i (p - 1)) (hm : lcF T i (p - 1) = 259 ∨ T.length ≤ i + lcF T i (p - 1)) : bestF T i = (i - (p - 1), lcF T i (p - 1)) := by
 rw [H.look hh hp ha hw hs, if_pos hn, pick_most _ _ _ _ hm]
structure Tab (h : Nat → Nat) (n : Nat) (m : Nat) (H A : List Int) (off : Int) : Prop where
 hl : H.length = n
 hv : ∀ v, v < n → H.getD v 0 = (pv h v m : Nat)
 av : ∀ j, j < m → A.getD j 0 = (pv h (h j) j : Nat) - off
theorem Tab.init (h : Nat → Nat) (n k : Nat) (off : Int) : Tab h n 0 (List.replicate n 0) (List.replicate k 0) off :=
 ⟨by simp, fun v hv => by rw [repG 0 hv]; rfl, fun j hj => by omega⟩
theorem Tab.step {h : Nat → Nat} {n m : Nat} {H A : List Int} {off : Int} (t : Tab h n m H A off) (hm : m < A.length) (hh : h m < n) : Tab h n (m + 1) (H.set (h m) ((m : Int) + 1)) (A.set m (H.getD (h m) 0 - off)) off := by
 refine ⟨by rw [List.length_set]; exact t.hl, fun v hv => ?_, fun j hj => ?_⟩
 ·rw [set_getD 0 (by rw [t.hl]; exact hv), pv]
  split
  ·rfl
  exact t.hv v hv
 rw [set_getD 0 (by omega)]
 split
 ·rename_i e; subst e; rw [t.hv _ hh]
 exact t.av j (by omega)
def hsh4 (a b c d : UInt8) : Int := orI .u32 (orI .u32 (orI .u32 (a.toNat : Int) (shlI .u32 (b.toNat : Int) 8)) (shlI .u32 (c.toNat : Int) 16)) (shlI .u32 (d.toNat : Int) 24)
def hashP (T : List UInt8) (i : Nat) : Nat := (hsh4 (T.getD i 0) (T.getD (i + 1) 0) (T.getD (i + 2) 0) (T.getD (i + 3) 0) * 2654435761 % 4294967296 / 131072).toNat
theorem hashP_lt (T : List UInt8) (i : Nat) : hashP T i < 32768 := by unfold hashP; omega
theorem hashP_h (T : List UInt8) : Hsh T (hashP T) := fun i j ⟨h0, h1, h2, h3⟩ => by unfold hashP; rw [h0, h1, h2, h3]
theorem hash_ok (bf : Nat) (x : Value) (cs : List Value) (T : List UInt8) (i : Nat) (w : World) (ho : Own w ⟨bf, 79, x :: cs⟩) (hx : RdE byteV w x T) (hi : i + 4 ≤ T.length) (hl : T.length ≤ 65536) : Calls Try.prog 62 [.pointer (some ⟨bf, 0, none⟩), .int .i64 ((i : Nat) : Int)].toArray w (Rt fun r w' => r = .int .i64 ((hashP T i : Nat) : Int) ∧ Upd [] w w') := by
 have hM0 : Mem w [] w [] := Mem.nil w []
 refine calls_vc mixed Try.func62 rfl C62 (by simp [Try.ntmps62]) <| seq fun _ h1 => mv <| h1 _ _ <| seq fun _ h2 => ?_
 intro wd e1 e2 e3 e4
 have hd := Upd.same e1 e2 e3 e4 []
 have hM3 := hM0.pure hd
 clear e1 e2 e3 e4
 refine ⟨none, ?_⟩
 show vd _ _ _ _ _ _ _
 refine dmv <| dq (v := .pointer (some ⟨bf, 0, none⟩)) (o_nilchk rfl rfl) <| dfa rfl <| dmv <| dmv <| dq (v := .pointer (some ⟨bf, 0, none⟩)) (o_nilchk rfl rfl) <| dfa rfl <| dmv <| dq (v := .int .i64 ((i : Nat) + 1)) (o_bin rfl rfl (v_add64 (by omega))) <| dmv <| dq (v := .pointer (some ⟨bf, 0, none⟩)) (o_nilchk rfl rfl) <| dfa rfl <| dmv <| dq (v := .int .i64 ((i : Nat) + 2)) (o_bin rfl rfl (v_add64 (by omega))) ?_
 refine dmv <| dq (v := .pointer (some ⟨bf, 0, none⟩)) (o_nilchk rfl rfl) <| dfa rfl <| dmv <| dq (v := .int .i64 ((i : Nat) + 3)) (o_bin rfl rfl (v_add64 (by omega))) <| dqld rfl (trivial) (v := x) ((ho.upd hM3.upd (by simp)).cell 0) <| dqp (m_idxE 0 (j := ((i) + 3)) (hx.upd hM3.upd) rfl (v_int (by omega)) (by omega) fun b4 o4 hp4 => ?_)
 show vd _ _ _ _ _ _ _
 refine dqld rfl (trivial) (v := x) ((ho.upd hM3.upd (by simp)).cell 0) <| dqp (m_idxE 0 (j := ((i) + 2)) (hx.upd hM3.upd) rfl (v_int (by omega)) (by omega) fun b5 o5 hp5 => ?_)
 show vd _ _ _ _ _ _ _
 refine dqld rfl (trivial) (v := x) ((ho.upd hM3.upd (by simp)).cell 0) <| dqp (m_idxE 0 (j := ((i) + 1)) (hx.upd hM3.upd) rfl (v_int (by omega)) (by omega) fun b6 o6 hp6 => ?_)
 show vd _ _ _ _ _ _ _
 refine dqld rfl (trivial) (v := x) ((ho.upd hM3.upd (by simp)).cell 0) <| dqp (m_idxE 0 (j := i) (hx.upd hM3.upd) rfl rfl (by omega) fun b7 o7 hp7 => ?_)
 show vd _ _ _ _ _ _ _
 refine dqld rfl (trivial) (v := byteV (T.getD ((i) + 3) 0)) (hp4) <| dq (v := .int .u32 ((T.getD ((i) + 3) 0).toNat : Int)) (o_conv rfl (v_byteTo (by decide))) <| dq (v := .int .u32 (shlI .u32 ((T.getD ((i) + 3) 0).toNat : Int) 24)) (o_shl rfl rfl (by omega) rfl) <| dqld rfl (trivial) (v := byteV (T.getD ((i) + 2) 0)) (hp5) <| dq (v := .int .u32 ((T.getD ((i) + 2) 0).toNat : Int)) (o_conv rfl (v_byteTo (by decide))) <| dq (v := .int .u32 (shlI .u32 ((T.getD ((i) + 2) 0).toNat : Int) 16)) (o_shl rfl rfl (by omega) rfl) <| dqld rfl (trivial) (v := byteV (T.getD ((i) + 1) 0)) (hp6) <| dq (v := .int .u32 ((T.getD ((i) + 1) 0).toNat : Int)) (o_conv rfl (v_byteTo (by decide))) <| dq (v := .int .u32 (shlI .u32 ((T.getD ((i) + 1) 0).toNat : Int) 8)) (o_shl rfl rfl (by omega) rfl) <| dl (ld (v := byteV (T.getD i 0)) rfl (hp7) <| ⟨rfl, dq (v := .int .u32 ((T.getD i 0).toNat : Int)) (o_conv rfl (v_byteTo (by decide))) <| dq (v := .int .u32 (orI .u32 ((T.getD i 0).toNat : Int) (shlI .u32 ((T.getD ((i) + 1) 0).toNat : Int) 8))) (o_bin rfl rfl rfl) <| dq (v := .int .u32 (orI .u32 (orI .u32 ((T.getD i 0).toNat : Int) (shlI .u32 ((T.getD ((i) + 1) 0).toNat : Int) 8)) (shlI .u32 ((T.getD ((i) + 2) 0).toNat : Int) 16))) (o_bin rfl rfl rfl) ?_⟩)
 refine dq (v := .int .u32 (orI .u32 (orI .u32 (orI .u32 ((T.getD i 0).toNat : Int) (shlI .u32 ((T.getD ((i) + 1) 0).toNat : Int) 8)) (shlI .u32 ((T.getD ((i) + 2) 0).toNat : Int) 16)) (shlI .u32 ((T.getD ((i) + 3) 0).toNat : Int) 24))) (o_bin rfl rfl rfl) <| dmv <| h2 _ _ <| seq fun _ h8 => mv <| stp (v := .int .u32 (((orI .u32 (orI .u32 (orI .u32 ((T.getD i 0).toNat : Int) (shlI .u32 ((T.getD ((i) + 1) 0).toNat : Int) 8)) (shlI .u32 ((T.getD ((i) + 2) 0).toNat : Int) 16)) (shlI .u32 ((T.getD ((i) + 3) 0).toNat : Int) 24)) * 2654435761) % 4294967296)) (o_bin rfl rfl (v_u32 _)) <| stp (v := .int .u32 ((((orI .u32 (orI .u32 (orI .u32 ((T.getD i 0).toNat : Int) (shlI .u32 ((T.getD ((i) + 1) 0).toNat : Int) 8)) (shlI .u32 ((T.getD ((i) + 2) 0).toNat : Int) 16)) (shlI .u32 ((T.getD ((i) + 3) 0).toNat : Int) 24)) * 2654435761) % 4294967296) / 131072)) (o_shr rfl rfl (by omega) (v_shr 17 (by decide))) <| stp (v := .int .i64 ((((orI .u32 (orI .u32 (orI .u32 ((T.getD i 0).toNat : Int) (shlI .u32 ((T.getD ((i) + 1) 0).toNat : Int) 8)) (shlI .u32 ((T.getD ((i) + 2) 0).toNat : Int) 16)) (shlI .u32 ((T.getD ((i) + 3) 0).toNat : Int) 24)) * 2654435761) % 4294967296) / 131072)) (o_conv rfl (v_same (by simp only [inK]; omega))) <| mv <| h8 _ _ <| ⟨(.int .i64 ((((orI .u32 (orI .u32 (orI .u32 ((T.getD i 0).toNat : Int) (shlI .u32 ((T.getD ((i) + 1) 0).toNat : Int) 8)) (shlI .u32 ((T.getD ((i) + 2) 0).toNat : Int) 16)) (shlI .u32 ((T.getD ((i) + 3) 0).toNat : Int) 24)) * 2654435761) % 4294967296) / 131072)), rfl, ⟨v_int (by unfold hashP hsh4; omega), hM3.upd⟩⟩
theorem or3 {a b c : Prop} (h : a ∨ b) : a ∨ b ∨ c := h.elim .inl fun h => .inr (.inl h)
theorem heads_at {H : List Int} {x va : Value} {v : Nat} (h : v < H.length) : (x :: (H.map i64V ++ [va]))[1 + v]? = some (.int .i64 (H.getD v 0)) := by
 rw [Nat.add_comm, List.getElem?_cons_succ, List.getElem?_append_left (by simpa using h), List.getElem?_map, List.getD_eq_getElem?_getD, List.getElem?_eq_getElem h]; rfl
theorem ahead_at {H : List Int} {x va : Value} (h : H.length = 32768) : (x :: (H.map i64V ++ [va]))[32769]? = some va := by
 rw [List.getElem?_cons_succ, List.getElem?_append_right (by simp [h]), List.length_map, h]; rfl
theorem match_ok (bf : Nat) (x va : Value) (T : List UInt8) (H A : List Int) (i : Nat) (w : World) (ho : Own w ⟨bf, 79, x :: (H.map i64V ++ [va])⟩) (hA : RdE i64V w va A) (hAl : A.length = T.length) (ht : Tab (hashP T) 32768 (min i (T.length - 3)) H A 1) (hx : RdE byteV w x T) (hi : i < T.length) (hl : T.length ≤ 65536) : Calls Try.prog 38 [.pointer (some ⟨bf, 0, none⟩), .int .i64 ((i : Nat) : Int)].toArray w (Rt fun r w' => r = .tuple [.int .i64 (((bestF T i).1 : Nat) : Int), .int .i64 (((bestF T i).2 : Nat) : Int)].toArray ∧ Upd [] w w') := by
 have hM0 : Mem w [] w [] := Mem.nil w []
 have hhl := hashP_lt T i
 have hhv := ht.hv (hashP T i) hhl
 have hpl := pv_le (hashP T) (hashP T i) (min i (T.length - 3))
 refine calls_vc mixed Try.func38 rfl C38 (by simp [Try.ntmps38]) <| seq fun _ h1 => mv <| mv <| h1 _ _ <| seq fun _ h2 => seq fun _ h3 => mv <| stp (v := .int .i64 ((i : Nat) + 4)) (o_bin rfl rfl (v_add64 (by omega))) <| mv <| nilchk rfl <| fa rfl <| ld (v := x) rfl ((ho.upd hM0.upd (by simp)).cell 0) <| stp (v := .int .i64 (T.length : Nat)) (o_lenR (hx.upd hM0.upd) rfl rfl) ?_
 refine bn rfl rfl <| h3 _ _ <| cndP rfl (fun c4 => ?_) (fun c4 => ?_)
 ·refine seq fun _ h5 => mv <| mv <| h5 _ _ <| ⟨(.tuple [.int .i64 0, .int .i64 0].toArray), rfl, ⟨by unfold bestF; rw [if_neg (by omega)]; rfl, hM0.upd⟩⟩
 refine h2 _ _ <| seq fun _ h6 => mv <| h6 _ _ <| seq fun _ h7 => ?_
 have hmi : min i (T.length - 3) = i := by omega
 rw [hmi] at ht hhv hpl
 refine mv <| nilchk rfl <| fa rfl <| ld (v := x) rfl ((ho.upd hM0.upd (by simp)).cell 0) <| stp (v := .int .i64 (T.length : Nat)) (o_lenR (hx.upd hM0.upd) rfl rfl) <| mv <| stp (v := .int .i64 ((T.length : Nat) - (i : Nat))) (o_bin rfl rfl (v_sub64 (by omega))) <| stp (v := .int .i64 ((min 259 (T.length - i) : Nat) : Int)) (o_mm rfl rfl (by show Value.int .i64 (min _ _) = _; exact v_int (by omega))) <| mv <| h7 _ _ <| seq fun _ h8 => h8 _ _ <| seq fun _ h9 => seq fun _ h10 => ?_
 intro wd e1 e2 e3 e4
 have hd := Upd.same e1 e2 e3 e4 []
 have hM11 := hM0.pure hd
 clear e1 e2 e3 e4
 refine ⟨(some []), ?_⟩
 show vd _ _ _ _ _ _ _
 refine dmv <| dmv <| dmv <| dq (v := .pointer (some ⟨bf, 0, none⟩)) (o_nilchk rfl rfl) <| dfa rfl <| dl (m_call (hash_ok bf x _ T i wd (ho.upd hM11.upd (by simp)) (hx.upd hM11.upd) (by omega) (by omega)) rfl fun v12 w12 ⟨hr12, hu12⟩ => ?_)
 have hM12 : Mem w [] w12 [] := hM11.pure hu12
 subst hr12
 refine ⟨(fun b hb => by cases hb), dq (v := .pointer (some ⟨bf, 1 + hashP T i, none⟩)) (o_idxa rfl rfl (by omega) (v_ptr (by first | (rw [Int.toNat_natCast, Nat.mul_one]; done) | (simp; done) | omega))) <| dl (ld (v := .int .i64 (H.getD (hashP T i) 0)) rfl (((ho.upd hM12.upd (by simp)).cell _).trans (heads_at (by rw [ht.hl]; exact hashP_lt _ _))) <| ⟨(fun b hb => by cases hb), dq (v := .int .i64 ((H.getD (hashP T i) 0) - 1)) (o_bin rfl rfl (v_sub64 (by omega))) <| dmv <| h10 _ _ <| lp (n := fun _ _ => False) (ι := (Nat) × (Nat) × (Nat) × (Nat)) (fun ⟨p, s, d, b⟩ f w' => f 4 = .int .i64 (d : Nat) ∧ f 5 = .int .i64 (b : Nat) ∧ f 6 = .int .i64 (s : Nat) ∧ f 8 = .int .i64 ((p : Nat) - 1) ∧ f 0 = .pointer (some ⟨bf, 0, none⟩) ∧ f 1 = .int .i64 (i : Nat) ∧ f 7 = .int .i64 ((min 259 (T.length - i) : Nat) : Int) ∧ Mem w [] w' [] ∧ (Srch T (hashP T) i p s d b) ∧ (s ≤ 16)) (fun ⟨p, s, d, b⟩ => p) (pv (hashP T) (hashP T i) i, 0, 0, 0) ?_ ?_⟩)⟩
 ·exact ⟨vi, vi, vi, vi, rfl, vi, vi, hM12, Srch.init (hashP_h T) (by omega), by omega⟩
 rintro ⟨p, s, d, b⟩ f w13 ⟨e13_4, e13_5, e13_6, e13_8, e13_0, e13_1, e13_7, hM13, hS, hs⟩ K14 h14
 obtain ⟨frm, rfl⟩ := re7 e13_4 e13_5 e13_6 e13_8 e13_0 e13_1 e13_7
 refine seq fun _ h15 => seq fun _ h16 => ?_
 have hSp := hS.hp
 have hSb := hS.hb
 refine mv <| bn rfl rfl <| mv <| splitP rfl (fun c17 => ?_) (fun c17 => ?_)
 ·refine gmv rfl <| gmv rfl <| stg rfl (v := .int .i64 ((i : Nat) - ((p : Nat) - 1))) (o_bin rfl rfl (v_sub64 (by omega))) <| gbn rfl rfl rfl <| pkT rfl <| mv <| splitP rfl (fun c18 => ?_) (fun c18 => ?_)
  ·refine gmv rfl <| gbn rfl rfl rfl <| pkT rfl <| h16 _ _ <| cndP rfl (fun c19 => ?_) (fun c19 => ?_)
   ·refine h15 _ _ <| seq fun _ h20 => seq fun _ h21 => mv <| h21 _ _ <| seq fun _ h22 => lp (n := fun _ _ => False) (ι := (Nat)) (fun n f w' => f 9 = .int .i64 (n : Nat) ∧ f 0 = .pointer (some ⟨bf, 0, none⟩) ∧ f 1 = .int .i64 (i : Nat) ∧ f 4 = .int .i64 (d : Nat) ∧ f 5 = .int .i64 (b : Nat) ∧ f 6 = .int .i64 (s : Nat) ∧ f 7 = .int .i64 ((min 259 (T.length - i) : Nat) : Int) ∧ f 8 = .int .i64 ((p : Nat) - 1) ∧ Mem w [] w' [] ∧ (n ≤ min 259 (T.length - i)) ∧ (∀ k, k < n → T.getD (i + k) 0 = T.getD (p - 1 + k) 0)) (fun n => min 259 (T.length - i) - n) (0) ?_ ?_
    ·exact ⟨vi, rfl, vi, vi, vi, vi, vi, vi, hM13, by omega, fun k hk => by omega⟩
    rintro n f w23 ⟨e23_9, e23_0, e23_1, e23_4, e23_5, e23_6, e23_7, e23_8, hM23, hn, hk⟩ K24 h24
    obtain ⟨frm, rfl⟩ := re8 e23_9 e23_0 e23_1 e23_4 e23_5 e23_6 e23_7 e23_8
    refine seq fun _ h25 => seq fun _ h26 => ?_
    intro wd e1 e2 e3 e4
    have hd := Upd.same e1 e2 e3 e4 []
    have hM27 := hM23.pure hd
    clear e1 e2 e3 e4
    refine ⟨none, ?_⟩
    show vd _ _ _ _ _ _ _
    refine dmv <| dmv <| dbn rfl rfl <| dmv <| dsplitP rfl (fun c28 => ?_) (fun c28 => ?_)
    ·refine dgmv rfl <| dqg rfl (v := .pointer (some ⟨bf, 0, none⟩)) (o_nilchk rfl rfl) <| dgfa rfl rfl <| dgmv rfl <| dgmv rfl <| dqg rfl (v := .int .i64 ((i : Nat) + (n : Nat))) (o_bin rfl rfl (v_add64 (by omega))) <| dgmv rfl <| dqg rfl (v := .pointer (some ⟨bf, 0, none⟩)) (o_nilchk rfl rfl) <| dgfa rfl rfl <| dgmv rfl <| dgmv rfl <| dqg rfl (v := .int .i64 (((p : Nat) - 1) + (n : Nat))) (o_bin rfl rfl (v_add64 (by omega))) <| dqgyes rfl rfl <| dqld rfl (trivial) (v := x) ((ho.upd hM27.upd (by simp)).cell 0) ?_
     refine dgyes rfl rfl (dqp (m_idxE 0 (j := (p - 1 + n)) (hx.upd hM27.upd) rfl (v_int (by omega)) (by omega) fun b29 o29 hp29 => ?_))
     show vd _ _ _ _ _ _ _
     refine dqgyes rfl rfl <| dqld rfl (trivial) (v := x) ((ho.upd hM27.upd (by simp)).cell 0) <| dgyes rfl rfl (dqp (m_idxE 0 (j := ((i) + (n))) (hx.upd hM27.upd) rfl (v_int (by omega)) (by omega) fun b30 o30 hp30 => ?_))
     show vd _ _ _ _ _ _ _
     refine dqgyes rfl rfl <| dqld rfl (trivial) (v := byteV (T.getD (p - 1 + n) 0)) (hp29) <| dgyesl rfl <| dl (ld (v := byteV (T.getD ((i) + (n)) 0)) rfl (hp30) <| ⟨rfl, dgbn rfl rfl rfl <| dpkT rfl <| h26 _ _ <| cndP rfl (fun c31 => ?_) (fun c31 => ?_)⟩)
     ·refine h25 _ _ <| mv <| stp (v := .int .i64 ((n : Nat) + 1)) (o_bin rfl rfl (v_add64 (by omega))) <| mv ?_
      refine h24 (n + 1) _ _ ⟨vi, rfl, vi, vi, vi, vi, vi, vi, hM27, by omega, fun k hk9 => by
       rcases Nat.lt_or_ge k n with h9 | h9
       ·exact hk k h9
       (obtain rfl : k = n := by omega); exact u8_eq (by assumption)⟩ (by (try dsimp only); omega)
     refine h22 _ _ <| seq fun _ h32 => seq fun _ h33 => ?_
     have hL : lcF T i (p - 1) = n := lcF_is (by omega) (by omega) (by omega) hk (by first | exact .inr (.inr (nat_neG (by assumption))) | exact or3 (by omega))
     have hA4 := alk_lc (T := T) (i := i) (j := p - 1) (by omega) (by omega)
     rw [hL] at hA4
     refine mv <| bn rfl rfl <| h33 _ _ <| cndP rfl (fun c34 => ?_) (fun c34 => ?_)
     ·refine h20 _ _ ?_
      have hav := ht.av (p - 1) (by omega)
      have hpq := pv_le (hashP T) (hashP T (p - 1)) (p - 1)
      refine mv <| nilchk rfl <| fa rfl <| ld (v := va) rfl (((ho.upd hM27.upd (by simp)).cell _).trans (ahead_at ht.hl)) <| mv <| m_idxE 0 (j := (p - 1)) (hA.upd hM27.upd) rfl (v_int (by omega)) (by omega) fun b35 o35 hp35 => ld (v := .int .i64 (A.getD (p - 1) 0)) rfl (hp35) <| mv <| h14 (pv (hashP T) (hashP T (p - 1)) (p - 1), s, d, b) _ _ ⟨vi, vi, vi, vi, rfl, vi, vi, hM27, hS.skip (hashP_h T) (by omega) (fun h => by have := hA4.1 h; omega), by omega⟩ (by (try dsimp only); omega)
     refine h32 _ _ <| seq fun _ h36 => mv <| stp (v := .int .i64 ((s : Nat) + 1)) (o_bin rfl rfl (v_add64 (by omega))) <| mv <| h36 _ _ <| seq fun _ h37 => seq fun _ h38 => mv <| mv <| bn rfl rfl <| mv <| splitP rfl (fun c39 => ?_) (fun c39 => ?_)
     ·refine gx rfl <| gx rfl <| gx rfl <| gx rfl <| gxl rfl <| gx rfl <| gx rfl <| gx rfl <| pkT rfl <| h38 _ _ <| cndT rfl <| h20 _ _ ?_
      have hav := ht.av (p - 1) (by omega)
      have hpq := pv_le (hashP T) (hashP T (p - 1)) (p - 1)
      refine mv <| nilchk rfl <| fa rfl <| ld (v := va) rfl (((ho.upd hM27.upd (by simp)).cell _).trans (ahead_at ht.hl)) <| mv <| m_idxE 0 (j := (p - 1)) (hA.upd hM27.upd) rfl (v_int (by omega)) (by omega) fun b40 o40 hp40 => ld (v := .int .i64 (A.getD (p - 1) 0)) rfl (hp40) <| mv <| h14 (pv (hashP T) (hashP T (p - 1)) (p - 1), s + 1, d, b) _ _ ⟨vi, vi, vi, vi, rfl, vi, vi, hM27, hS.worse (hashP_h T) (by omega) (hA4.2 (by omega)) (by omega) (by omega) (by rw [hL]; omega), by omega⟩ (by (try dsimp only); omega)
     refine gmv rfl <| gmv rfl <| gmv rfl <| stg rfl (v := .int .i64 ((i : Nat) - ((p : Nat) - 1))) (o_bin rfl rfl (v_sub64 (by omega))) <| gyesl rfl <| m_call (Put_ok ((i : Nat) - ((p : Nat) - 1)) (by simp only [inK]; omega) wd) rfl fun v41 w41 ⟨rs41, hs41, hm41⟩ => ?_
     have hM41 : Mem w [] w41 [rs41] := hM27.add hm41
     have hn41 := putI_len (v := (i : Nat) - ((p : Nat) - 1)) (by omega)
     have hpl2 := plen_put (v := (i : Nat) - ((p : Nat) - 1)) (by omega) (by omega)
     rw [show ((i : Nat) - ((p : Nat) - 1) : Int).toNat = i - (p - 1) by omega] at hpl2
     refine stg rfl (v := .int .i64 ((putI ((i : Nat) - ((p : Nat) - 1))).length : Nat)) (o_lenR (hs41.rd hM41 (i := 0) rfl) rfl rfl) <| stg rfl (v := .int .i64 (3 + ((putI ((i : Nat) - ((p : Nat) - 1))).length : Nat))) (o_bin rfl rfl (v_add64 (by omega))) <| gbn rfl rfl rfl <| pkF rfl <| h38 _ _ <| cndP rfl (fun c42 => ?_) (fun c42 => ?_)
     ·refine h20 _ _ ?_
      have hav := ht.av (p - 1) (by omega)
      have hpq := pv_le (hashP T) (hashP T (p - 1)) (p - 1)
      refine mv <| nilchk rfl <| fa rfl <| ld (v := va) rfl (((ho.upd hM41.upd (by simp)).cell _).trans (ahead_at ht.hl)) <| mv <| m_idxE 0 (j := (p - 1)) (hA.upd hM41.upd) rfl (v_int (by omega)) (by omega) fun b43 o43 hp43 => ld (v := .int .i64 (A.getD (p - 1) 0)) rfl (hp43) <| mv <| h14 (pv (hashP T) (hashP T (p - 1)) (p - 1), s + 1, d, b) _ _ ⟨vi, vi, vi, vi, rfl, vi, vi, hM41.keep (by simp), hS.worse (hashP_h T) (by omega) (hA4.2 (by omega)) (by omega) (by omega) (by rw [hL]; omega), by omega⟩ (by (try dsimp only); omega)
     refine h37 _ _ <| seq fun _ h44 => mv <| mv <| stp (v := .int .i64 ((i : Nat) - ((p : Nat) - 1))) (o_bin rfl rfl (v_sub64 (by omega))) <| mv <| mv <| mv <| h44 _ _ <| seq fun _ h45 => mv <| mv <| bn rfl rfl <| h45 _ _ <| cndP rfl (fun c46 => ?_) (fun c46 => ?_)
     ·refine h9 _ _ <| seq fun _ h47 => mv <| mv <| mv <| mv <| h47 _ _ <| ⟨(.tuple [.int .i64 ((i : Nat) - ((p : Nat) - 1)), .int .i64 (n : Nat)].toArray), rfl, ⟨by rw [hS.most (hashP_h T) (by omega) (hA4.2 (by omega)) (by omega) (by omega) (by rw [hL]; omega) (by rw [hL]; omega), hL]; rw [show ((i : Nat) : Int) - (((p : Nat) : Int) - 1) = ((i - (p - 1) : Nat) : Int) by omega], hM41.upd⟩⟩
     refine h20 _ _ ?_
     have hav := ht.av (p - 1) (by omega)
     have hpq := pv_le (hashP T) (hashP T (p - 1)) (p - 1)
     refine mv <| nilchk rfl <| fa rfl <| ld (v := va) rfl (((ho.upd hM41.upd (by simp)).cell _).trans (ahead_at ht.hl)) <| mv <| m_idxE 0 (j := (p - 1)) (hA.upd hM41.upd) rfl (v_int (by omega)) (by omega) fun b48 o48 hp48 => ld (v := .int .i64 (A.getD (p - 1) 0)) rfl (hp48) <| mv <| h14 (pv (hashP T) (hashP T (p - 1)) (p - 1), s + 1, i - (p - 1), n) _ _ ⟨vi, vi, vi, vi, rfl, vi, vi, hM41.keep (by simp), by have h9 := hS.better (hashP_h T) (by omega) (hA4.2 (by omega)) (by omega) (by omega) (by rw [hL]; omega); rw [hL] at h9; exact h9, by omega⟩ (by (try dsimp only); omega)
    refine dx rfl <| dx rfl <| dx rfl <| dx rfl <| dx rfl <| dx rfl <| dx rfl <| dx rfl <| dx rfl <| dx rfl <| dx rfl <| dx rfl <| dxq rfl <| dx rfl <| dxq rfl <| dx rfl <| dxq rfl <| dxl rfl <| dx rfl <| dpkF rfl <| h26 _ _ <| cndF rfl <| h22 _ _ <| seq fun _ h49 => seq fun _ h50 => ?_
    have hL : lcF T i (p - 1) = n := lcF_is (by omega) (by omega) (by omega) hk (by first | exact .inr (.inr (nat_neG (by assumption))) | exact or3 (by omega))
    have hA4 := alk_lc (T := T) (i := i) (j := p - 1) (by omega) (by omega)
    rw [hL] at hA4
    refine mv <| bn rfl rfl <| h50 _ _ <| cndP rfl (fun c51 => ?_) (fun c51 => ?_)
    ·refine h20 _ _ ?_
     have hav := ht.av (p - 1) (by omega)
     have hpq := pv_le (hashP T) (hashP T (p - 1)) (p - 1)
     refine mv <| nilchk rfl <| fa rfl <| ld (v := va) rfl (((ho.upd hM27.upd (by simp)).cell _).trans (ahead_at ht.hl)) <| mv <| m_idxE 0 (j := (p - 1)) (hA.upd hM27.upd) rfl (v_int (by omega)) (by omega) fun b52 o52 hp52 => ld (v := .int .i64 (A.getD (p - 1) 0)) rfl (hp52) <| mv <| h14 (pv (hashP T) (hashP T (p - 1)) (p - 1), s, d, b) _ _ ⟨vi, vi, vi, vi, rfl, vi, vi, hM27, hS.skip (hashP_h T) (by omega) (fun h => by have := hA4.1 h; omega), by omega⟩ (by (try dsimp only); omega)
    refine h49 _ _ <| seq fun _ h53 => mv <| stp (v := .int .i64 ((s : Nat) + 1)) (o_bin rfl rfl (v_add64 (by omega))) <| mv <| h53 _ _ <| seq fun _ h54 => seq fun _ h55 => mv <| mv <| bn rfl rfl <| mv <| splitP rfl (fun c56 => ?_) (fun c56 => ?_)
    ·refine gx rfl <| gx rfl <| gx rfl <| gx rfl <| gxl rfl <| gx rfl <| gx rfl <| gx rfl <| pkT rfl <| h55 _ _ <| cndT rfl <| h20 _ _ ?_
     have hav := ht.av (p - 1) (by omega)
     have hpq := pv_le (hashP T) (hashP T (p - 1)) (p - 1)
     refine mv <| nilchk rfl <| fa rfl <| ld (v := va) rfl (((ho.upd hM27.upd (by simp)).cell _).trans (ahead_at ht.hl)) <| mv <| m_idxE 0 (j := (p - 1)) (hA.upd hM27.upd) rfl (v_int (by omega)) (by omega) fun b57 o57 hp57 => ld (v := .int .i64 (A.getD (p - 1) 0)) rfl (hp57) <| mv <| h14 (pv (hashP T) (hashP T (p - 1)) (p - 1), s + 1, d, b) _ _ ⟨vi, vi, vi, vi, rfl, vi, vi, hM27, hS.worse (hashP_h T) (by omega) (hA4.2 (by omega)) (by omega) (by omega) (by rw [hL]; omega), by omega⟩ (by (try dsimp only); omega)
    refine gmv rfl <| gmv rfl <| gmv rfl <| stg rfl (v := .int .i64 ((i : Nat) - ((p : Nat) - 1))) (o_bin rfl rfl (v_sub64 (by omega))) <| gyesl rfl <| m_call (Put_ok ((i : Nat) - ((p : Nat) - 1)) (by simp only [inK]; omega) wd) rfl fun v58 w58 ⟨rs58, hs58, hm58⟩ => ?_
    have hM58 : Mem w [] w58 [rs58] := hM27.add hm58
    have hn58 := putI_len (v := (i : Nat) - ((p : Nat) - 1)) (by omega)
    have hpl2 := plen_put (v := (i : Nat) - ((p : Nat) - 1)) (by omega) (by omega)
    rw [show ((i : Nat) - ((p : Nat) - 1) : Int).toNat = i - (p - 1) by omega] at hpl2
    refine stg rfl (v := .int .i64 ((putI ((i : Nat) - ((p : Nat) - 1))).length : Nat)) (o_lenR (hs58.rd hM58 (i := 0) rfl) rfl rfl) <| stg rfl (v := .int .i64 (3 + ((putI ((i : Nat) - ((p : Nat) - 1))).length : Nat))) (o_bin rfl rfl (v_add64 (by omega))) <| gbn rfl rfl rfl <| pkF rfl <| h55 _ _ <| cndP rfl (fun c59 => ?_) (fun c59 => ?_)
    ·refine h20 _ _ ?_
     have hav := ht.av (p - 1) (by omega)
     have hpq := pv_le (hashP T) (hashP T (p - 1)) (p - 1)
     refine mv <| nilchk rfl <| fa rfl <| ld (v := va) rfl (((ho.upd hM58.upd (by simp)).cell _).trans (ahead_at ht.hl)) <| mv <| m_idxE 0 (j := (p - 1)) (hA.upd hM58.upd) rfl (v_int (by omega)) (by omega) fun b60 o60 hp60 => ld (v := .int .i64 (A.getD (p - 1) 0)) rfl (hp60) <| mv <| h14 (pv (hashP T) (hashP T (p - 1)) (p - 1), s + 1, d, b) _ _ ⟨vi, vi, vi, vi, rfl, vi, vi, hM58.keep (by simp), hS.worse (hashP_h T) (by omega) (hA4.2 (by omega)) (by omega) (by omega) (by rw [hL]; omega), by omega⟩ (by (try dsimp only); omega)
    refine h54 _ _ <| seq fun _ h61 => mv <| mv <| stp (v := .int .i64 ((i : Nat) - ((p : Nat) - 1))) (o_bin rfl rfl (v_sub64 (by omega))) <| mv <| mv <| mv <| h61 _ _ <| seq fun _ h62 => mv <| mv <| bn rfl rfl <| h62 _ _ <| cndP rfl (fun c63 => ?_) (fun c63 => ?_)
    ·refine h9 _ _ <| seq fun _ h64 => mv <| mv <| mv <| mv <| h64 _ _ <| ⟨(.tuple [.int .i64 ((i : Nat) - ((p : Nat) - 1)), .int .i64 (n : Nat)].toArray), rfl, ⟨by rw [hS.most (hashP_h T) (by omega) (hA4.2 (by omega)) (by omega) (by omega) (by rw [hL]; omega) (by rw [hL]; omega), hL]; rw [show ((i : Nat) : Int) - (((p : Nat) : Int) - 1) = ((i - (p - 1) : Nat) : Int) by omega], hM58.upd⟩⟩
    refine h20 _ _ ?_
    have hav := ht.av (p - 1) (by omega)
    have hpq := pv_le (hashP T) (hashP T (p - 1)) (p - 1)
    refine mv <| nilchk rfl <| fa rfl <| ld (v := va) rfl (((ho.upd hM58.upd (by simp)).cell _).trans (ahead_at ht.hl)) <| mv <| m_idxE 0 (j := (p - 1)) (hA.upd hM58.upd) rfl (v_int (by omega)) (by omega) fun b65 o65 hp65 => ld (v := .int .i64 (A.getD (p - 1) 0)) rfl (hp65) <| mv <| h14 (pv (hashP T) (hashP T (p - 1)) (p - 1), s + 1, i - (p - 1), n) _ _ ⟨vi, vi, vi, vi, rfl, vi, vi, hM58.keep (by simp), by have h9 := hS.better (hashP_h T) (by omega) (hA4.2 (by omega)) (by omega) (by omega) (by rw [hL]; omega); rw [hL] at h9; exact h9, by omega⟩ (by (try dsimp only); omega)
   refine h9 _ _ <| seq fun _ h66 => mv <| mv <| mv <| mv <| h66 _ _ <| ⟨(.tuple [.int .i64 (d : Nat), .int .i64 (b : Nat)].toArray), rfl, ⟨by rw [hS.stop (by omega)], hM13.upd⟩⟩
  refine gx rfl <| gx rfl <| pkF rfl <| h16 _ _ <| cndF rfl <| h9 _ _ <| seq fun _ h67 => mv <| mv <| mv <| mv <| h67 _ _ <| ⟨(.tuple [.int .i64 (d : Nat), .int .i64 (b : Nat)].toArray), rfl, ⟨by rw [hS.stop (by omega)], hM13.upd⟩⟩
 refine gx rfl <| gx rfl <| gx rfl <| gx rfl <| pkF rfl <| mv <| splitF rfl <| gx rfl <| gx rfl <| pkF rfl <| h16 _ _ <| cndF rfl <| h9 _ _ <| seq fun _ h68 => mv <| mv <| mv <| mv <| h68 _ _ <| ⟨(.tuple [.int .i64 (d : Nat), .int .i64 (b : Nat)].toArray), rfl, ⟨by rw [hS.stop (by omega)], hM13.upd⟩⟩
end Go.Proofs.Ytifnmbmijljhfaa.E.Lz
namespace Go.Proofs.Ytifnmbmijljhfaa.E.Lz
open Go
def FndS (T : List UInt8) (bf : Nat) (x : Value) (m : Nat) (r : List Ent) : Prop := ∃ (va : Value) (H A : List Int) (ra : List Ent), r = ⟨bf, 79, x :: (H.map i64V ++ [va])⟩ :: ra ∧ SlE i64V 3 va A ra ∧ A.length = T.length ∧ Tab (hashP T) 32768 m H A 1
theorem cs_heads {H : List Int} {x va : Value} {v : Nat} {q : Int} (h : v < H.length) : (x :: (H.map i64V ++ [va])).set (1 + v) (.int .i64 q) = x :: ((H.set v q).map i64V ++ [va]) := by
 rw [Nat.add_comm, List.set_cons_succ, List.set_append_left _ _ (by simpa using h), List.map_set]; rfl
theorem add_ok (bf : Nat) (x : Value) (T : List UInt8) (i : Nat) (r0 : List Ent) (w : World) (hf : FndS T bf x (min i (T.length - 3)) r0) (hr : Res w r0) (hfar : ∀ w', Upd (ids r0) w w' → RdE byteV w' x T) (hi : i < T.length) (hl : T.length ≤ 65536) : Calls Try.prog 39 [.pointer (some ⟨bf, 0, none⟩), .int .i64 ((i : Nat) : Int)].toArray w (Rt fun _ w' => ∃ r', FndS T bf x (min (i + 1) (T.length - 3)) r' ∧ Mem w (ids r0) w' [r']) := by
 obtain ⟨va, H, A, ra, rfl, hA, hAl, ht⟩ := hf
 have hM0 : Mem w (ids (⟨bf, 79, (x :: (H.map i64V ++ [va]))⟩ :: ra)) w [[⟨bf, 79, (x :: (H.map i64V ++ [va]))⟩], ra] := Mem.start2 hr
 refine calls_vc mixed Try.func39 rfl C39 (by simp [Try.ntmps39]) <| seq fun _ h1 => seq fun _ h2 => mv <| stp (v := .int .i64 ((i : Nat) + 4)) (o_bin rfl rfl (v_add64 (by omega))) <| mv <| nilchk rfl <| fa rfl <| ld (v := x) rfl ((hM0.at (i := 0) (j := 0) rfl rfl).cell 0) <| stp (v := .int .i64 (T.length : Nat)) (o_lenR ((hfar _ hM0.upd)) rfl rfl) <| bn rfl rfl <| h2 _ _ <| cndP rfl (fun c3 => ?_) (fun c3 => ?_)
 ·refine ⟨(.tuple [].toArray), rfl, ⟨_, ⟨va, H, A, ra, rfl, hA, hAl, by rw [show min (i + 1) (T.length - 3) = min i (T.length - 3) by omega]; exact ht⟩, hM0.keep (by simp)⟩⟩
 refine h1 _ _ <| seq fun _ h4 => ?_
 have hmi : min i (T.length - 3) = i := by omega
 rw [hmi] at ht
 have hhl := hashP_lt T i
 have hhv := ht.hv (hashP T i) hhl
 have hpl := pv_le (hashP T) (hashP T i) i
 have hHl := ht.hl
 refine mv <| mv <| m_call (hash_ok bf x _ T i w (hM0.at (i := 0) (j := 0) rfl rfl) ((hfar _ hM0.upd)) (by omega) (by omega)) rfl fun v5 w5 ⟨hr5, hu5⟩ => ?_
 have hM5 : Mem w (ids (⟨bf, 79, (x :: (H.map i64V ++ [va]))⟩ :: ra)) w5 [[⟨bf, 79, (x :: (H.map i64V ++ [va]))⟩], ra] := hM0.pure hu5
 subst hr5
 refine mv <| h4 _ _ <| seq fun _ h6 => ?_
 intro wd e1 e2 e3 e4
 have hd := Upd.same e1 e2 e3 e4 []
 have hM7 := hM5.pure hd
 clear e1 e2 e3 e4
 refine ⟨(some [bf]), ?_⟩
 show vd _ _ _ _ _ _ _
 refine dmv <| dq (v := .pointer (some ⟨bf, 0, none⟩)) (o_nilchk rfl rfl) <| dfa rfl <| dmv <| dmv <| dmv <| dq (v := .pointer (some ⟨bf, 0, none⟩)) (o_nilchk rfl rfl) <| dfa rfl <| dq (v := .pointer (some ⟨bf, 1 + hashP T i, none⟩)) (o_idxa rfl rfl (by omega) (v_ptr (by first | (rw [Int.toNat_natCast, Nat.mul_one]; done) | (simp; done) | omega))) <| dqld rfl (by simp [isHeld]) (v := va) (((hM7.at (i := 0) (j := 0) rfl rfl).cell 32769).trans (ahead_at ht.hl)) <| dl (ld (v := .int .i64 (H.getD (hashP T i) 0)) rfl (((hM7.at (i := 0) (j := 0) rfl rfl).cell _).trans (heads_at (by omega))) <| ⟨(fun b hb => rfl), dq (v := .int .i64 ((H.getD (hashP T i) 0) - 1)) (o_bin rfl rfl (v_sub64 (by omega))) <| dset (m_setU (E := i64V) (q := (H.getD (hashP T i) 0) - 1) (j := i) hM7 (i := 1) rfl hA rfl rfl (by omega) (by simp) (rfl) fun w8 r8 u8 he8 hs8 (hM8 : Mem w (ids (⟨bf, 79, (x :: (H.map i64V ++ [va]))⟩ :: ra)) w8 [[⟨bf, 79, (x :: (H.map i64V ++ [va]))⟩], r8]) hup8 => ?_)⟩)
 have hh8 := held_upd (wr := wd) (bs := [bf]) hup8 (fun b hb => by
  simp only [List.mem_cons, List.not_mem_nil, or_false] at hb
  rw [hb]; exact ⟨(hM7.at (i := 0) (j := 0) rfl rfl).lt, hM7.apart (i := 0) (j := 0) (k := 1) rfl rfl rfl (by decide)⟩) (fun b hb => rfl)
 refine ⟨hh8, ?_⟩
 show vd _ _ _ _ _ _ _
 refine h6 _ _ <| mv <| mv <| mv <| stp (v := .int .i64 ((i : Nat) + 1)) (o_bin rfl rfl (v_add64 (by omega))) <| nilchk rfl <| fa rfl <| stp (v := .pointer (some ⟨bf, 1 + hashP T i, none⟩)) (o_idxa rfl rfl (by omega) (v_ptr (by first | (rw [Int.toNat_natCast, Nat.mul_one]; done) | (simp; done) | omega))) <| m_st (v := .int .i64 ((i : Nat) + 1)) hM8 (i := 0) rfl rfl rfl rfl (by simp; omega) fun w9 hm9 => ?_
 have hM9 : Mem w (ids (⟨bf, 79, (x :: (H.map i64V ++ [va]))⟩ :: ra)) w9 [[⟨bf, 79, (x :: ((H.set (hashP T i) ((i : Int) + 1)).map i64V ++ [va]))⟩], r8] := by
  have e : (x :: (H.map i64V ++ [va])).set (1 + hashP T i) (.int .i64 ((i : Nat) + 1)) = (x :: ((H.set (hashP T i) ((i : Int) + 1)).map i64V ++ [va])) := cs_heads (by omega)
  rw [← e]; exact hm9
 refine ⟨(.tuple [].toArray), rfl, ⟨_, ⟨va, _, _, _, rfl, hs8, by rw [List.length_set]; exact hAl, by rw [show min (i + 1) (T.length - 3) = i + 1 by omega]; exact ht.step (by omega) hhl⟩, hM9.keep (by simp)⟩⟩
theorem taken_ok (x : Value) (l : List UInt8) (w : World) (hx : RdE byteV w x l) (hl : l.length ≤ 140737488355328) : Calls Try.prog 41 [x].toArray w (Rt fun r w' => ∃ rs, SlE byteV 5 r l rs ∧ Mem w [] w' [rs]) := by
 have hM0 : Mem w [] w [] := Mem.nil w []
 refine calls_vc mixed Try.func41 rfl C41 (by simp [Try.ntmps41]) <| seq fun _ h1 => mv <| h1 _ _ <| seq fun _ h2 => mv <| stp (v := .int .i64 (l.length : Nat)) (o_lenR (hx.upd hM0.upd) rfl rfl) <| m_mksE (E := byteV) (z := 0) (n := l.length) (c := l.length) rfl hM0 rfl rfl (by omega) (by omega) (by omega) fun v3 w3 r3 hs3 (hM3 : Mem w [] w3 [r3]) => mv <| h2 _ _ <| seq fun _ h4 => mv <| mv <| m_cpyE (E := byteV) hM3 (i := 0) rfl hs3 rfl rfl (hx.upd hM3.upd) fun w5 r5 hs5 (hM5 : Mem w [] w5 [r5]) => ?_
 have hs5' := SlE.eqL (m := l) hs5 (by simp)
 refine h4 _ _ <| seq fun _ h6 => mv <| mv <| h6 _ _ <| ⟨v3, rfl, ⟨_, hs5', hM5⟩⟩
theorem _root_.Go.Proofs.Ytifnmbmijljhfaa.E.Mem.res1 {w : World} {e : Ent} {r : List Ent} (h : Res w (e :: r)) : Own w e ∧ ∀ x ∈ r, Own w x := ⟨h.1 e (by simp), fun x hx => h.1 x (List.mem_cons_of_mem _ hx)⟩
theorem match_okF (bf : Nat) (x : Value) (T : List UInt8) (i : Nat) (r0 : List Ent) (w : World) (hf : FndS T bf x (min i (T.length - 3)) r0) (hr : Res w r0) (hx : RdE byteV w x T) (hi : i < T.length) (hl : T.length ≤ 65536) : Calls Try.prog 38 [.pointer (some ⟨bf, 0, none⟩), .int .i64 ((i : Nat) : Int)].toArray w (Rt fun r w' => r = .tuple [.int .i64 (((bestF T i).1 : Nat) : Int), .int .i64 (((bestF T i).2 : Nat) : Int)].toArray ∧ Upd [] w w') := by
 obtain ⟨va, H, A, ra, rfl, hA, hAl, ht⟩ := hf
 have h1 := Mem.res1 hr
 exact match_ok bf x va T H A i w h1.1 (hA.rdOwn h1.2) hAl ht hx hi hl
def zeros : Nat → List Value → Bool
 | 0, [.slice none 0 0] => true
 | n + 1, .int .i64 0 :: l => zeros n l
 | _, _ => false
theorem zeros_is : ∀ (n : Nat) (l : List Value), zeros n l = true → l = List.replicate n (.int .i64 0) ++ [.slice none 0 0]
 | 0, l, h => by
  unfold zeros at h
  split at h <;> first | rfl | cases h | (rename_i e; cases e)
 | n + 1, l, h => by
  unfold zeros at h
  split at h
  ·rename_i e; cases e
  ·rename_i e
   cases e
   rw [zeros_is n _ h]; rfl
  cases h
def finderZ : List Value → Bool
 | .slice none 0 0 :: l => zeros 32768 l
 | _ => false
theorem finder_zero : zcOf Try.t79 = .slice none 0 0 :: (List.replicate 32768 (.int .i64 0) ++ [.slice none 0 0]) := by
 have h : finderZ (zcOf Try.t79) = true := by kernel_rfl
 revert h
 generalize zcOf Try.t79 = l
 intro h
 unfold finderZ at h
 split at h
 ·rw [zeros_is _ _ h]
 cases h
theorem fillG {x va z y y' : Value} (n : Nat) (hx : x.cells = #[x]) (ha : va.cells = #[va]) : fillC (y :: (List.replicate n z ++ [y'])) [(0, 1, x), (n + 1, 1, va)] = some (x :: (List.replicate n z ++ [va])) := by
 have e1 : (y :: (List.replicate n z ++ [y'])).length = n + 2 := by simp
 rw [fillC, hx, if_pos ⟨rfl, by rw [e1]; omega⟩, fillC, ha]
 have e2 : (List.take 0 (y :: (List.replicate n z ++ [y'])) ++ (#[x] : Array Value).toList ++ List.drop (0 + 1) (y :: (List.replicate n z ++ [y']))) = (x :: List.replicate n z) ++ [y'] := by simp
 rw [e2]
 have e3 : (x :: List.replicate n z).length = n + 1 := by simp
 rw [if_pos ⟨rfl, by rw [List.length_append, e3]; simp⟩, fillC]
 congr 1
 rw [List.take_left' e3, List.drop_eq_nil_of_le (by rw [List.length_append, e3]; simp)]
 simp
theorem fill56 {x va : Value} (hx : x.cells = #[x]) (ha : va.cells = #[va]) : fillC (zcOf Try.t79) [(0, 1, x), (32769, 1, va)] = some (x :: (List.replicate 32768 (.int .i64 0) ++ [va])) := by
 rw [finder_zero]
 exact fillG 32768 hx ha
theorem permF {a : Ent} {r : List Ent} : [a :: r].flatten.Perm [r, [a]].flatten := by
 simp only [List.flatten_cons, List.flatten_nil, List.append_nil]
 exact (List.perm_append_comm (l₁ := [a]) (l₂ := r))
section
variable {T : List UInt8} {k i j : Nat}
theorem own_miss (h : i < T.length) (hk : T.length ≤ i + k) (hb : (bestF T i).2 = 0) : ownK T k i j = ownK T (k - 1) (i + 1) j := by
 obtain ⟨k, rfl⟩ : ∃ m, k = m + 1 := ⟨k - 1, by omega⟩
 rw [ownK, if_pos h, if_pos hb]; rfl
theorem own_hit (h : i < T.length) (hk : T.length ≤ i + k) (hb : ¬ (bestF T i).2 = 0) : ownK T k i j = ((T.take i).drop j, ((bestF T i).1 : Int), ((bestF T i).2 : Int)) :: ownK T (k - 1) (i + (bestF T i).2) (i + (bestF T i).2) := by
 obtain ⟨k, rfl⟩ : ∃ m, k = m + 1 := ⟨k - 1, by omega⟩
 rw [ownK, if_pos h, if_neg hb]; rfl
theorem own_end (h : T.length ≤ i) : ownK T k i j = if j < T.length then [(T.drop j, 0, 0)] else [] := by
 cases k with
 | zero => rfl
 | succ k => rw [ownK, if_neg (by omega)]
end
theorem Encode_ok (x : Value) (T : List UInt8) (w : World) (hx : RdE byteV w x T) (hl : T.length ≤ 140737488355328) : Calls Try.prog 13 [x].toArray w (Rt fun r w' => ∃ v rs, r = .tuple [v, .int .i64 (encF T).2].toArray ∧ SlE byteV 5 v (encF T).1 rs ∧ Mem w [] w' [rs]) := by
 have hM0 : Mem w [] w [] := Mem.nil w []
 refine calls_vc mixed Try.func13 rfl C13 (by simp [Try.ntmps13]) <| seq fun _ h1 => mv <| mv <| h1 _ _ <| seq fun _ h2 => seq fun _ h3 => mv <| stp (v := .int .i64 (T.length : Nat)) (o_lenR (hx.upd hM0.upd) rfl rfl) <| bn rfl rfl <| h3 _ _ <| cndP rfl (fun c4 => ?_) (fun c4 => ?_)
 ·refine seq fun _ h5 => mv <| mv <| h5 _ _ <| ⟨(.tuple [.slice none 0 0, .int .i64 2].toArray), rfl, ⟨.slice none 0 0, [], by rw [encF_long (by omega)], by rw [encF_long (by omega)]; exact Sl.nil 1 5, hM0.keep (by simp)⟩⟩
 refine h2 _ _ <| seq fun _ h6 => mv <| mv <| stp (v := .int .i64 (T.length : Nat)) (o_lenR (hx.upd hM0.upd) rfl rfl) <| m_mksE (E := i64V) (z := 0) (n := T.length) (c := T.length) rfl hM0 rfl rfl (by omega) (by omega) (by omega) fun v7 w7 r7 hs7 (hM7 : Mem w [] w7 [r7]) => stp (v := .agg ((x :: (List.replicate 32768 (Value.int .i64 0) ++ [v7])).toArray)) (o_bld (fill56 hx.cells1 hs7.cells1) rfl) <| m_bx (v := .agg (x :: (List.replicate 32768 (Value.int .i64 0) ++ [v7])).toArray) (cs := (x :: (List.replicate 32768 (Value.int .i64 0) ++ [v7]))) hM7 rfl rfl fun bf w18 (hM18 : Mem w [] w18 [r7, [⟨bf, 79, (x :: (List.replicate 32768 (Value.int .i64 0) ++ [v7]))⟩]]) => mv <| h6 _ _ <| seq fun _ h8 => ?_
 obtain ⟨rf, hrf⟩ : ∃ z, z = ⟨bf, 79, (x :: (List.replicate 32768 (Value.int .i64 0) ++ [v7]))⟩ :: r7 := ⟨_, rfl⟩
 have hF0 : FndS T bf x 0 rf := ⟨_, List.replicate 32768 0, _, _, by rw [List.map_replicate]; exact hrf, hs7, by simp, Tab.init _ _ _ _⟩
 have hM9 : Mem w [] w18 [rf] := by rw [hrf]; exact hM18.perm permF
 refine mv <| h8 _ _ <| seq fun _ h10 => mv <| h10 _ _ <| seq fun _ h11 => seq fun _ h12 => mv <| h12 _ _ ?_
 have hM13 : Mem w [] w18 [rf, []] := hM9.addNil
 have hs13 : SlE byteV 5 (.slice none 0 0) [] [] := Sl.nil 1 5
 refine lp (n := fun _ _ => False) (ι := (Nat) × (Nat) × (Nat) × (List UInt8) × (List Ent) × (Value) × (List Ent)) (fun ⟨i, j, k, B, rf, y5_, r5_⟩ f w' => f 4 = .pointer (some ⟨bf, 0, none⟩) ∧ f 5 = y5_ ∧ f 6 = .int .i64 (j : Nat) ∧ f 7 = .int .i64 (i : Nat) ∧ f 0 = x ∧ Mem w [] w' [rf, r5_] ∧ (FndS T bf x (min i (T.length - 3)) rf) ∧ (toksB (ownF T) = B ++ toksB (ownK T k i j)) ∧ (T.length ≤ i + k) ∧ (j ≤ i) ∧ (i ≤ T.length) ∧ (SlE byteV 5 y5_ (B) r5_)) (fun ⟨i, j, k, B, rf, y5_, r5_⟩ => T.length - i) (0, 0, T.length, [], rf, ((.slice none 0 0)), ([])) ?_ ?_
 ·exact ⟨rfl, rfl, vi, vi, rfl, hM13, by rw [Nat.zero_min]; exact hF0, rfl, by omega, by omega, by omega, by first | exact hs13 | simpa using hs13⟩
 rintro ⟨i, j, k, B, rf, y5_, r5_⟩ f w14 ⟨e14_4, e14_5, e14_6, e14_7, e14_0, hM14, hF, hE, hk, hj, hi, hy5_⟩ K15 h15
 obtain ⟨frm, rfl⟩ := re5 e14_4 e14_5 e14_6 e14_7 e14_0
 refine seq fun _ h16 => seq fun _ h17 => mv <| mv <| stp (v := .int .i64 (T.length : Nat)) (o_lenR (hx.upd hM14.upd) rfl rfl) <| bn rfl rfl <| h17 _ _ <| cndP rfl (fun c18 => ?_) (fun c18 => ?_)
 ·refine h16 _ _ <| seq fun _ h19 => mv <| mv <| m_call (match_okF bf x T i rf w14 hF (hM14.res (i := 0) rfl) (hx.upd hM14.upd) (by omega) (by omega)) rfl fun v20 w20 ⟨hr20, hu20⟩ => ?_
  have hM20 : Mem w [] w20 [rf, r5_] := hM14.pure hu20
  subst hr20
  have hbs20 := best_le (T := T) (i := i)
  refine mv <| ext rfl rfl <| ext rfl rfl <| mv <| mv <| h19 _ _ <| seq fun _ h21 => seq fun _ h22 => mv <| bn rfl rfl <| h22 _ _ <| cndP rfl (fun c23 => ?_) (fun c23 => ?_)
  ·refine seq fun _ h24 => mv <| mv <| m_call (add_ok bf x T i rf w20 hF (hM20.res (i := 0) rfl) (fun w9 hu9 => hx.upd (hM20.far (i := 0) rfl hu9)) (by omega) (by omega)) rfl fun v25 w25 ⟨r'25, hF25, hm25⟩ => ?_
   have hM25 : Mem w [] w25 [r'25, r5_] := hM20.step 0 rfl hm25
   refine h24 _ _ <| seq fun _ h26 => mv <| stp (v := .int .i64 ((i : Nat) + 1)) (o_bin rfl rfl (v_add64 (by omega))) <| mv <| h26 _ _ <| h15 (i + 1, j, k - 1, B, r'25, y5_, r5_) _ _ ⟨rfl, rfl, vi, vi, rfl, hM25, hF25, by rw [← own_miss (by omega) hk (by omega)]; exact hE, by omega, by omega, by omega, by first | exact hy5_ | simpa using hy5_⟩ (by (try dsimp only); omega)
  refine h21 _ _ <| seq fun _ h27 => mv <| mv <| mv <| mv <| mv <| m_slcM j i (hx.upd hM20.upd) rfl (by omega) (by omega) rfl rfl rfl fun u28 hu28 => m_call (taken_ok _ ((T.take i).drop j) w20 (hu28) (by first | omega | (simp; done) | (simp; omega))) rfl fun v29 w29 ⟨rs29, hs29, hm29⟩ => ?_
  have hM29 : Mem w [] w29 [rf, r5_, rs29] := hM20.add hm29
  refine mv <| mv ?_
  obtain ⟨a30_, n30_, c30_, rfl⟩ := Sl.isSlice hs29
  refine stp (v := .agg ([(.slice a30_ n30_ c30_), .int .i64 ((bestF T i).1 : Nat), .int .i64 ((bestF T i).2 : Nat)] : List Value).toArray) (o_bld rfl rfl) ?_
  have hll : ((T.take i).drop j).length ≤ 65536 := by rw [List.length_drop, List.length_take]; omega
  refine m_call (bytes_ok (⟨a30_, n30_, c30_, (T.take i).drop j, ((bestF T i).1 : Nat), ((bestF T i).2 : Nat)⟩ : Tk) w29 (hs29.rd hM29 (i := 2) rfl) (by first | omega | (dsimp only; omega)) (by first | omega | (dsimp only; omega)) (by first | omega | (dsimp only; omega))) rfl fun v31 w31 ⟨rs31, hs31, hm31⟩ => ?_
  have hM31 : Mem w [] w31 [rf, r5_, rs29, rs31] := hM29.add hm31
  have hs31 : SlE byteV 5 v31 (tokB ((T.take i).drop j, ((bestF T i).1 : Nat), ((bestF T i).2 : Nat))) rs31 := hs31
  have hE3 : toksB (ownF T) = B ++ (tokB ((T.take i).drop j, ((bestF T i).1 : Int), ((bestF T i).2 : Int)) ++ toksB (ownK T (k - 1) (i + (bestF T i).2) (i + (bestF T i).2))) := by rw [hE, own_hit (by omega) hk (by omega), toksB_cons]
  have hE4 := congrArg List.length hE3
  simp only [List.length_append] at hE4
  have hE5 := enc_len (T := T)
  rw [encF_ok (by omega)] at hE5
  dsimp only at hE5
  refine m_appE hM31 (i := 1) rfl hy5_ rfl rfl (hs31.rd hM31 (i := 3) rfl) (by omega) (by omega) fun v32 w32 r32 (hs32 : SlE byteV 5 v32 (B ++ (tokB ((T.take i).drop j, ((bestF T i).1 : Nat), ((bestF T i).2 : Nat)))) r32) (hM32 : Mem w [] w32 [rf, r32, rs29, rs31]) => mv <| h27 _ _ <| seq fun _ h33 => seq fun _ h34 => mv <| mv <| h34 _ _ <| lp (n := fun _ _ => False) (ι := (Nat) × (List Ent)) (fun ⟨c, rf⟩ f w' => f 4 = .pointer (some ⟨bf, 0, none⟩) ∧ f 7 = .int .i64 (i + c : Nat) ∧ f 49 = .int .i64 (c : Nat) ∧ f 0 = x ∧ f 5 = v32 ∧ f 48 = .int .i64 ((bestF T i).2 : Nat) ∧ Mem w [] w' [rf, r32, rs29, rs31] ∧ (FndS T bf x (min (i + c) (T.length - 3)) rf) ∧ (c ≤ (bestF T i).2)) (fun ⟨c, rf⟩ => (bestF T i).2 - c) (0, rf) ?_ ?_
  ·exact ⟨rfl, vi, vi, rfl, rfl, vi, hM32, hF, by omega⟩
  rintro ⟨c, rf⟩ f w35 ⟨e35_4, e35_7, e35_49, e35_0, e35_5, e35_48, hM35, hF, hc⟩ K36 h36
  obtain ⟨frm, rfl⟩ := re6 e35_4 e35_7 e35_49 e35_0 e35_5 e35_48
  refine seq fun _ h37 => bn rfl rfl <| h37 _ _ <| seq fun _ h38 => cndP rfl (fun c39 => ?_) (fun c39 => ?_)
  ·refine h38 _ _ <| seq fun _ h40 => seq fun _ h41 => mv <| mv <| m_call (add_ok bf x T (i + c) rf w35 hF (hM35.res (i := 0) rfl) (fun w9 hu9 => hx.upd (hM35.far (i := 0) rfl hu9)) (by omega) (by omega)) rfl fun v42 w42 ⟨r'42, hF42, hm42⟩ => ?_
   have hM42 : Mem w [] w42 [r'42, r32, rs29, rs31] := hM35.step 0 rfl hm42
   refine h41 _ _ <| mv <| stp (v := .int .i64 ((i + c : Nat) + 1)) (o_bin rfl rfl (v_add64 (by omega))) <| mv <| h40 _ _ <| stp (v := .int .i64 ((c : Nat) + 1)) (o_bin rfl rfl (v_add64 (by omega))) <| mv <| h36 (c + 1, r'42) _ _ ⟨rfl, vi, vi, rfl, rfl, vi, hM42, hF42, by omega⟩ (by (try dsimp only); omega)
  refine h33 _ _ ?_
  have hcc : c = (bestF T i).2 := by omega
  refine mv <| mv <| h15 (i + (bestF T i).2, i + (bestF T i).2, k - 1, (B ++ (tokB ((T.take i).drop j, ((bestF T i).1 : Nat), ((bestF T i).2 : Nat)))), rf, v32, r32) _ _ ⟨rfl, rfl, vi, vi, rfl, hM35.keep (by simp), by rw [← hcc]; exact hF, by rw [hE3, List.append_assoc], by omega, by omega, by omega, by first | exact hs32 | simpa using hs32⟩ (by (try dsimp only); omega)
 refine h11 _ _ <| seq fun _ h43 => seq fun _ h44 => mv <| mv <| stp (v := .int .i64 (T.length : Nat)) (o_lenR (hx.upd hM14.upd) rfl rfl) <| bn rfl rfl <| h44 _ _ <| cndP rfl (fun c45 => ?_) (fun c45 => ?_)
 ·refine mv <| mv <| mv <| mv <| stp (v := .int .i64 (T.length : Nat)) (o_lenR (hx.upd hM14.upd) rfl rfl) <| mv <| stp (v := .int .i64 (T.length : Nat)) (o_lenR (hx.upd hM14.upd) rfl rfl) <| m_slcM j T.length (hx.upd hM14.upd) rfl (by omega) (by omega) rfl rfl rfl fun u46 hu46 => ?_
  have hu46' : RdE byteV w14 u46 (T.drop j) := by
   have e : (T.take T.length).drop j = (T.drop j) := by rw [List.take_length]
   rw [e] at hu46; exact hu46
  refine m_call (taken_ok _ (T.drop j) w14 (hu46') (by first | omega | (simp; done) | (simp; omega))) rfl fun v47 w47 ⟨rs47, hs47, hm47⟩ => ?_
  have hM47 : Mem w [] w47 [rf, r5_, rs47] := hM14.add hm47
  obtain ⟨a48_, n48_, c48_, rfl⟩ := Sl.isSlice hs47
  refine stp (v := .agg ([(.slice a48_ n48_ c48_), .int .i64 0, .int .i64 0] : List Value).toArray) (o_bld rfl rfl) ?_
  have hll : (T.drop j).length ≤ 65536 := by rw [List.length_drop]; omega
  refine m_call (bytes_ok (⟨a48_, n48_, c48_, T.drop j, 0, 0⟩ : Tk) w47 (hs47.rd hM47 (i := 2) rfl) (by first | omega | (dsimp only; omega)) (by first | omega | (dsimp only; omega)) (by first | omega | (dsimp only; omega))) rfl fun v49 w49 ⟨rs49, hs49, hm49⟩ => ?_
  have hM49 : Mem w [] w49 [rf, r5_, rs47, rs49] := hM47.add hm49
  have hs49 : SlE byteV 5 v49 (tokB (T.drop j, 0, 0)) rs49 := hs49
  have hE3 : toksB (ownF T) = B ++ tokB (T.drop j, 0, 0) := by rw [hE, own_end (by omega), if_pos (by omega), toksB_cons]; simp [toksB]
  have hE4 := congrArg List.length hE3
  simp only [List.length_append] at hE4
  have hE5 := enc_len (T := T)
  rw [encF_ok (by omega)] at hE5
  dsimp only at hE5
  refine m_appE hM49 (i := 1) rfl hy5_ rfl rfl (hs49.rd hM49 (i := 3) rfl) (by omega) (by omega) fun v50 w50 r50 (hs50 : SlE byteV 5 v50 (B ++ (tokB (T.drop j, 0, 0))) r50) (hM50 : Mem w [] w50 [rf, r50, rs47, rs49]) => mv <| h43 _ _ <| seq fun _ h51 => mv <| mv <| mv <| h51 _ _ <| ⟨(.tuple [v50, .int .i64 0].toArray), rfl, ⟨_, _, by rw [encF_ok (by omega)], by rw [encF_ok (by omega), hE3]; exact hs50, hM50.keep (by simp)⟩⟩
 refine h43 _ _ <| seq fun _ h52 => mv <| mv <| mv <| h52 _ _ <| ⟨(.tuple [y5_, .int .i64 0].toArray), rfl, ⟨_, _, by rw [encF_ok (by omega)], by rw [encF_ok (by omega), hE, own_end (by omega), if_neg (by omega)]; simpa [toksB] using hy5_, hM14.keep (by simp)⟩⟩
end Go.Proofs.Ytifnmbmijljhfaa.E.Lz
namespace Go.Proofs.Ytifnmbmijljhfaa.E.Hf
open Go
section
variable {α : Type} (ρ : α → Int) (z : α)
theorem getD_setS {l : List α} {i j : Nat} {x : α} (hi : i < l.length) : (l.set i x).getD j z = if j = i then x else l.getD j z := by
 rw [List.getD_eq_getElem?_getD, List.getD_eq_getElem?_getD, List.getElem?_set]
 by_cases c : i = j
 ·subst c; rw [if_pos rfl, if_pos hi, if_pos rfl]; rfl
 rw [if_neg c, if_neg (fun e => c e.symm)]
def swp (l : List α) (i j : Nat) : List α := (l.set i (l.getD j z)).set j (l.getD i z)
theorem swp_len (l : List α) (i j : Nat) : (swp z l i j).length = l.length := by simp [swp]
theorem swp_get {l : List α} {i j : Nat} (hi : i < l.length) (hj : j < l.length) (q : Nat) : (swp z l i j).getD q z = if q = j then l.getD i z else if q = i then l.getD j z else l.getD q z := by
 unfold swp
 rw [getD_setS z (by simpa using hj), getD_setS z hi]
theorem swp_perm {l : List α} {i j : Nat} (hi : i < l.length) (hj : j < l.length) : (swp z l i j).Perm l := by
 have := List.set_set_perm hi hj
 unfold swp
 rw [List.getD_eq_getElem?_getD, List.getD_eq_getElem?_getD, List.getElem?_eq_getElem hi, List.getElem?_eq_getElem hj]
 exact this
def Srt (l : List α) (a b : Nat) : Prop := ∀ p q, a ≤ p → p < q → q < b → ρ (l.getD p z) < ρ (l.getD q z)
structure PostS (l lc : List α) (a b : Nat) : Prop where
 perm : lc.Perm l
 out : ∀ q, q < a ∨ b ≤ q → lc.getD q z = l.getD q z
 ins : ∀ q, a ≤ q → q < b → ∃ q', a ≤ q' ∧ q' < b ∧ lc.getD q z = l.getD q' z
 srt : Srt ρ z lc a b
variable {ρ z}
theorem PostS.refl {l : List α} {a b : Nat} (h : Srt ρ z l a b) : PostS ρ z l l a b := ⟨.refl _, fun _ _ => rfl, fun q h1 h2 => ⟨q, h1, h2, rfl⟩, h⟩
variable (w : α → Int) (ρ)
def Cr (x y : α) : Prop := (w y < w x → ρ y < ρ x) ∧ (¬ w y < w x → ρ x < ρ y)
def CrO (z : α) (l : List α) (a m b : Nat) : Prop := ∀ p q, a ≤ p → p < m → m ≤ q → q < b → Cr ρ w (l.getD p z) (l.getD q z)
variable {w ρ}
structure InsI (ρ : α → Int) (z : α) (l lc : List α) (a i j : Nat) : Prop where
 perm : lc.Perm l
 out : ∀ q, q < a ∨ i < q → lc.getD q z = l.getD q z
 at_ : lc.getD j z = l.getD i z
 ins : ∀ q, a ≤ q → q ≤ i → q ≠ j → ∃ q', a ≤ q' ∧ q' < i ∧ lc.getD q z = l.getD q' z
 srt : ∀ p q, a ≤ p → p < q → q ≤ i → q ≠ j → ρ (lc.getD p z) < ρ (lc.getD q z)
 rng : a ≤ j ∧ j ≤ i
theorem InsI.init {l lc : List α} {a i : Nat} (h : PostS ρ z l lc a i) (ha : a ≤ i) : InsI ρ z l lc a i i :=
 ⟨h.perm, fun q hq => h.out q (by omega), h.out i (by omega), fun q h1 h2 h3 => h.ins q h1 (by omega), fun p q h1 h2 h3 h4 => h.srt p q h1 h2 (by omega), by omega⟩
theorem InsI.step {l lc : List α} {a i j : Nat} (h : InsI ρ z l lc a i j) (hj : a < j) (hi : i < l.length) (hlt : ρ (lc.getD j z) < ρ (lc.getD (j - 1) z)) : InsI ρ z l (swp z lc j (j - 1)) a i (j - 1) := by
 have hn : lc.length = l.length := h.perm.length_eq
 have hr := h.rng
 have hg := swp_get z (l := lc) (i := j) (j := j - 1) (by omega) (by omega)
 refine ⟨(swp_perm z (by omega) (by omega)).trans h.perm, fun q hq => ?_, ?_, fun q h1 h2 h3 => ?_, fun p q h1 h2 h3 h4 => ?_, by omega⟩
 ·rw [hg, if_neg (by omega), if_neg (by omega)]; exact h.out q hq
 ·rw [hg, if_pos rfl]; exact h.at_
 ·rw [hg, if_neg h3]
  split
  ·exact h.ins (j - 1) (by omega) (by omega) (by omega)
  exact h.ins q h1 h2 (by omega)
 rw [hg, hg, if_neg h4]
 by_cases c1 : q = j
 ·rw [if_pos c1]
  by_cases c2 : p = j - 1
  ·rw [if_pos c2]; exact hlt
  rw [if_neg c2, if_neg (by omega)]; exact h.srt p (j - 1) h1 (by omega) (by omega) (by omega)
 rw [if_neg c1]
 by_cases c2 : p = j - 1
 ·rw [if_pos c2]; exact h.srt j q (by omega) (by omega) h3 c1
 rw [if_neg c2]
 by_cases c3 : p = j
 ·rw [if_pos c3]; exact h.srt (j - 1) q (by omega) (by omega) h3 c1
 rw [if_neg c3]; exact h.srt p q h1 h2 h3 c1
theorem InsI.done {l lc : List α} {a i j : Nat} (h : InsI ρ z l lc a i j) (hd : j = a ∨ ρ (lc.getD (j - 1) z) < ρ (lc.getD j z)) : PostS ρ z l lc a (i + 1) := by
 have hr := h.rng
 refine ⟨h.perm, fun q hq => h.out q (by omega), fun q h1 h2 => ?_, fun p q h1 h2 h3 => ?_⟩
 ·by_cases c : q = j
  ·subst c; exact ⟨i, by omega, by omega, h.at_⟩
  obtain ⟨q', k1, k2, k3⟩ := h.ins q h1 (by omega) c
  exact ⟨q', k1, by omega, k3⟩
 by_cases c : q = j
 ·subst c
  rcases hd with hd | hd
  ·omega
  by_cases c2 : p = q - 1
  ·rw [c2]; exact hd
  exact Int.lt_trans (h.srt p (q - 1) h1 (by omega) (by omega) (by omega)) hd
 exact h.srt p q h1 h2 (by omega) c
theorem InsI.cr {l lc : List α} {a i j : Nat} (h : InsI ρ z l lc a i j) (hj : a < j) (hc : ∀ p q, a ≤ p → p < q → q ≤ i → Cr ρ w (l.getD p z) (l.getD q z)) : Cr ρ w (lc.getD (j - 1) z) (lc.getD j z) := by
 have hr := h.rng
 obtain ⟨q', k1, k2, k3⟩ := h.ins (j - 1) (by omega) (by omega) (by omega)
 rw [k3, h.at_]
 exact hc _ _ k1 k2 (Nat.le_refl _)
def MvL (z : α) (l lc : List α) (a k : Nat) : Prop := lc.Perm l ∧ ∀ q, lc.getD q z = l.getD (if a ≤ q ∧ q < k then q + 1 else if q = k then a else q) z
theorem MvL.init {l : List α} {a : Nat} : MvL z l l a a := ⟨.refl _, fun q => by congr 1; (repeat' split) <;> omega⟩
theorem MvL.step {l lc : List α} {a k : Nat} (h : MvL z l lc a k) (ha : a ≤ k) (hk : k + 1 < l.length) : MvL z l (swp z lc k (k + 1)) a (k + 1) := by
 have hn : lc.length = l.length := h.1.length_eq
 refine ⟨(swp_perm z (by omega) (by omega)).trans h.1, fun q => ?_⟩
 rw [swp_get z (by omega) (by omega), h.2, h.2, h.2]
 by_cases c1 : q = k + 1
 ·rw [if_pos c1]; congr 1; (repeat' split) <;> omega
 rw [if_neg c1]
 by_cases c2 : q = k
 ·rw [if_pos c2]; congr 1; (repeat' split) <;> omega
 rw [if_neg c2]; congr 1; (repeat' split) <;> omega
theorem MvL.done {l lc : List α} {a b i k : Nat} (h : MvL z l lc a k) (hs : Srt ρ z l (a + 1) b) (hi : a + 1 ≤ i ∧ i ≤ b) (hk : k + 1 = i) (h1 : i = a + 1 ∨ ρ (l.getD (i - 1) z) < ρ (l.getD a z)) (h2 : i = b ∨ ρ (l.getD a z) < ρ (l.getD i z)) : PostS ρ z l lc a b := by
 have up : ∀ p q, a + 1 ≤ p → p ≤ q → q < b → ρ (l.getD p z) ≤ ρ (l.getD q z) := fun p q k1 k2 k3 => by
  by_cases c : p = q
  ·rw [c]; omega
  have := hs p q k1 (by omega) k3; omega
 refine ⟨h.1, fun q hq => ?_, fun q k1 k2 => ⟨_, ?_, ?_, h.2 q⟩, fun p q k1 k2 k3 => ?_⟩
 ·rw [h.2]; congr 1; (repeat' split) <;> omega
 ·(repeat' split) <;> omega
 ·(repeat' split) <;> omega
 rw [h.2, h.2]
 by_cases c1 : q < k
 ·rw [if_pos (by omega), if_pos (by omega)]; exact hs _ _ (by omega) (by omega) (by omega)
 rw [if_neg (c := a ≤ q ∧ q < k) (by omega)]
 by_cases c2 : q = k
 ·rw [if_pos c2, if_pos (by omega)]
  have := up (p + 1) (i - 1) (by omega) (by omega) (by omega)
  omega
 rw [if_neg c2]
 by_cases c3 : p < k
 ·rw [if_pos (by omega)]; exact hs _ _ (by omega) (by omega) (by omega)
 rw [if_neg (by omega)]
 by_cases c4 : p = k
 ·rw [if_pos c4]
  have := up i q (by omega) (by omega) (by omega)
  omega
 rw [if_neg c4]; exact hs _ _ (by omega) (by omega) (by omega)
def MvR (z : α) (l lc : List α) (m k : Nat) : Prop := lc.Perm l ∧ ∀ q, lc.getD q z = l.getD (if k < q ∧ q ≤ m then q - 1 else if q = k then m else q) z
theorem MvR.init {l : List α} {m : Nat} : MvR z l l m m := ⟨.refl _, fun q => by congr 1; (repeat' split) <;> omega⟩
theorem MvR.step {l lc : List α} {m k : Nat} (h : MvR z l lc m k) (hk : 0 < k) (hm : k ≤ m ∧ m < l.length) : MvR z l (swp z lc k (k - 1)) m (k - 1) := by
 have hn : lc.length = l.length := h.1.length_eq
 refine ⟨(swp_perm z (by omega) (by omega)).trans h.1, fun q => ?_⟩
 rw [swp_get z (by omega) (by omega), h.2, h.2, h.2]
 by_cases c1 : q = k - 1
 ·rw [if_pos c1]; congr 1; (repeat' split) <;> omega
 rw [if_neg c1]
 by_cases c2 : q = k
 ·rw [if_pos c2]; congr 1; (repeat' split) <;> omega
 rw [if_neg c2]; congr 1; (repeat' split) <;> omega
theorem MvR.done {l lc : List α} {a m i : Nat} (h : MvR z l lc m i) (hs : Srt ρ z l a m) (hi : a ≤ i ∧ i ≤ m) (h1 : i = a ∨ ρ (l.getD (i - 1) z) < ρ (l.getD m z)) (h2 : i = m ∨ ρ (l.getD m z) < ρ (l.getD i z)) : PostS ρ z l lc a (m + 1) := by
 have up : ∀ p q, a ≤ p → p ≤ q → q < m → ρ (l.getD p z) ≤ ρ (l.getD q z) := fun p q k1 k2 k3 => by
  by_cases c : p = q
  ·rw [c]; omega
  have := hs p q k1 (by omega) k3; omega
 refine ⟨h.1, fun q hq => ?_, fun q k1 k2 => ⟨_, ?_, ?_, h.2 q⟩, fun p q k1 k2 k3 => ?_⟩
 ·rw [h.2]; congr 1; (repeat' split) <;> omega
 ·(repeat' split) <;> omega
 ·(repeat' split) <;> omega
 rw [h.2, h.2]
 by_cases c1 : q < i
 ·rw [if_neg (by omega), if_neg (by omega), if_neg (by omega), if_neg (by omega)]; exact hs _ _ (by omega) (by omega) (by omega)
 by_cases c2 : q = i
 ·rw [if_neg (by omega), if_neg (by omega), if_neg (c := i < q ∧ q ≤ m) (by omega), if_pos c2]
  have := up p (i - 1) (by omega) (by omega) (by omega)
  omega
 rw [if_pos (c := i < q ∧ q ≤ m) (by omega)]
 by_cases c3 : p < i
 ·rw [if_neg (by omega), if_neg (by omega)]; exact hs _ _ (by omega) (by omega) (by omega)
 by_cases c4 : p = i
 ·rw [if_neg (by omega), if_pos c4]
  have := up i (q - 1) (by omega) (by omega) (by omega)
  omega
 rw [if_pos (by omega)]; exact hs _ _ (by omega) (by omega) (by omega)
def swIdx (a b n q : Nat) : Nat := if a ≤ q ∧ q < a + n then q + (b - a) else if b ≤ q ∧ q < b + n then q - (b - a) else q
def SwR (z : α) (l lc : List α) (a b n : Nat) : Prop := lc.Perm l ∧ ∀ q, lc.getD q z = l.getD (swIdx a b n q) z
theorem SwR.init {l : List α} {a b : Nat} : SwR z l l a b 0 := ⟨.refl _, fun q => by congr 1; unfold swIdx; (repeat' split) <;> omega⟩
theorem SwR.step {l lc : List α} {a b i : Nat} (h : SwR z l lc a b i) (hab : a + i < b) (hb : b + i < l.length) : SwR z l (swp z lc (a + i) (b + i)) a b (i + 1) := by
 have hn : lc.length = l.length := h.1.length_eq
 refine ⟨(swp_perm z (by omega) (by omega)).trans h.1, fun q => ?_⟩
 rw [swp_get z (by omega) (by omega), h.2, h.2, h.2]
 unfold swIdx
 by_cases c1 : q = b + i
 ·rw [if_pos c1]; congr 1; (repeat' split) <;> omega
 rw [if_neg c1]
 by_cases c2 : q = a + i
 ·rw [if_pos c2]; congr 1; (repeat' split) <;> omega
 rw [if_neg c2]; congr 1; (repeat' split) <;> omega
def rotIdx (s m e q : Nat) : Nat := if q < s ∨ e ≤ q then q else if q - s < e - m then q + (m - s) else q - (e - m)
theorem rot_o {s m e q : Nat} (h : q < s ∨ e ≤ q) : rotIdx s m e q = q := by unfold rotIdx; rw [if_pos h]
theorem rot_a {s m e q : Nat} (h : s ≤ q ∧ q < e) (h2 : q - s < e - m) : rotIdx s m e q = q + (m - s) := by unfold rotIdx; rw [if_neg (by omega), if_pos h2]
theorem rot_b {s m e q : Nat} (h : s ≤ q ∧ q < e) (h2 : ¬ q - s < e - m) : rotIdx s m e q = q - (e - m) := by unfold rotIdx; rw [if_neg (by omega), if_neg h2]
def RotR (z : α) (l lc : List α) (s m e : Nat) : Prop := lc.Perm l ∧ ∀ q, lc.getD q z = l.getD (rotIdx s m e q) z
def RotI (z : α) (l lc : List α) (s m e i j : Nat) : Prop := lc.Perm l ∧ (0 < i ∧ 0 < j ∧ s + i ≤ m ∧ m + j ≤ e) ∧ ∀ q, l.getD (rotIdx s m e q) z = lc.getD (rotIdx (m - i) m (m + j) q) z
theorem RotI.init {l : List α} {s m e : Nat} (h : s < m ∧ m < e) : RotI z l l s m e (m - s) (e - m) := ⟨.refl _, by omega, fun q => by congr 1; unfold rotIdx; (repeat' split) <;> omega⟩
theorem RotI.left {l lc l2 : List α} {s m e i j : Nat} (h : RotI z l lc s m e i j) (hij : j < i) (h2 : SwR z lc l2 (m - i) m j) : RotI z l l2 s m e (i - j) j := by
 obtain ⟨hp, hb, hr⟩ := h
 refine ⟨h2.1.trans hp, by omega, fun q => ?_⟩
 rw [hr, h2.2]; congr 1; unfold rotIdx swIdx; (repeat' split) <;> omega
theorem RotI.right {l lc l2 : List α} {s m e i j : Nat} (h : RotI z l lc s m e i j) (hij : i < j) (h2 : SwR z lc l2 (m - i) (m + j - i) i) : RotI z l l2 s m e i (j - i) := by
 obtain ⟨hp, hb, hr⟩ := h
 refine ⟨h2.1.trans hp, by omega, fun q => ?_⟩
 rw [hr, h2.2]; congr 1; unfold rotIdx swIdx; (repeat' split) <;> omega
theorem RotI.done {l lc l2 : List α} {s m e i : Nat} (h : RotI z l lc s m e i i) (h2 : SwR z lc l2 (m - i) m i) : RotR z l l2 s m e := by
 obtain ⟨hp, hb, hr⟩ := h
 refine ⟨h2.1.trans hp, fun q => ?_⟩
 rw [hr, h2.2]; congr 1; unfold rotIdx swIdx; (repeat' split) <;> omega
structure CutM (ρ : α → Int) (z : α) (l : List α) (a m b mid st : Nat) : Prop where
 hm : a < m ∧ m < b ∧ mid = (a + b) / 2
 s1 : Srt ρ z l a m
 s2 : Srt ρ z l m b
 rng : a ≤ st ∧ st ≤ mid ∧ st ≤ m ∧ m ≤ mid + m - st ∧ mid + m - st ≤ b
 lo : st = a ∨ mid + m - st = b ∨ ρ (l.getD (st - 1) z) < ρ (l.getD (mid + m - st) z)
 hi : st = m ∨ mid + m - st = m ∨ ρ (l.getD (mid + m - st - 1) z) < ρ (l.getD st z)
theorem CutM.lower {l l1 : List α} {a m b mid st : Nat} (h : CutM ρ z l a m b mid st) (hr : RotR z l l1 st m (mid + m - st)) : Srt ρ z l1 a st ∧ Srt ρ z l1 st mid := by
 obtain ⟨hm, s1, s2, rng, -, -⟩ := h
 refine ⟨fun p q h1 h2 h3 => ?_, fun p q h1 h2 h3 => ?_⟩ <;> rw [hr.2, hr.2]
 ·rw [rot_o (q := p) (by omega), rot_o (q := q) (by omega)]; exact s1 _ _ h1 h2 (by omega)
 rw [rot_a (q := p) (by omega) (by omega), rot_a (q := q) (by omega) (by omega)]; exact s2 _ _ (by omega) (by omega) (by omega)
theorem CutM.upper {l l1 : List α} {a m b mid st : Nat} (h : CutM ρ z l a m b mid st) (hr : RotR z l l1 st m (mid + m - st)) : Srt ρ z l1 mid (mid + m - st) ∧ Srt ρ z l1 (mid + m - st) b := by
 obtain ⟨hm, s1, s2, rng, -, -⟩ := h
 refine ⟨fun p q h1 h2 h3 => ?_, fun p q h1 h2 h3 => ?_⟩ <;> rw [hr.2, hr.2]
 ·rw [rot_b (q := p) (by omega) (by omega), rot_b (q := q) (by omega) (by omega)]; exact s1 _ _ (by omega) (by omega) (by omega)
 rw [rot_o (q := p) (by omega), rot_o (q := q) (by omega)]; exact s2 _ _ (by omega) h2 h3
theorem CutM.crLo {l l1 : List α} {a m b mid st : Nat} (h : CutM ρ z l a m b mid st) (hr : RotR z l l1 st m (mid + m - st)) (hc : CrO ρ w z l a m b) : CrO ρ w z l1 a st mid := by
 obtain ⟨hm, s1, s2, rng, -, -⟩ := h
 intro p q h1 h2 h3 h4
 rw [hr.2, hr.2, rot_o (q := p) (by omega), rot_a (q := q) (by omega) (by omega)]
 exact hc _ _ (by omega) (by omega) (by omega) (by omega)
theorem CutM.crHi {l l1 : List α} {a m b mid st : Nat} (h : CutM ρ z l a m b mid st) (hr : RotR z l l1 st m (mid + m - st)) (hc : CrO ρ w z l a m b) : CrO ρ w z l1 mid (mid + m - st) b := by
 obtain ⟨hm, s1, s2, rng, -, -⟩ := h
 intro p q h1 h2 h3 h4
 rw [hr.2, hr.2, rot_b (q := p) (by omega) (by omega), rot_o (q := q) (by omega)]
 exact hc _ _ (by omega) (by omega) (by omega) (by omega)
theorem CutM.below {l l1 : List α} {a m b mid st : Nat} (h : CutM ρ z l a m b mid st) (hr : RotR z l l1 st m (mid + m - st)) : ∀ p q, a ≤ p → p < mid → mid ≤ q → q < b → ρ (l1.getD p z) < ρ (l1.getD q z) := by
 obtain ⟨hm, s1, s2, rng, lo, hi⟩ := h
 have u1 : ∀ p q, a ≤ p → p ≤ q → q < m → ρ (l.getD p z) ≤ ρ (l.getD q z) := fun p q k1 k2 k3 => by
  by_cases c : p = q
  ·rw [c]; omega
  have := s1 p q k1 (by omega) k3; omega
 have u2 : ∀ p q, m ≤ p → p ≤ q → q < b → ρ (l.getD p z) ≤ ρ (l.getD q z) := fun p q k1 k2 k3 => by
  by_cases c : p = q
  ·rw [c]; omega
  have := s2 p q k1 (by omega) k3; omega
 intro p q h1 h2 h3 h4
 rw [hr.2, hr.2]
 by_cases c1 : p < st
 ·rw [rot_o (q := p) (by omega)]
  by_cases c2 : mid + m - st ≤ q
  ·rw [rot_o (q := q) (by omega)]
   rcases lo with lo | lo | lo
   ·omega
   ·omega
   have e1 := u1 p (st - 1) h1 (by omega) (by omega)
   have e2 := u2 (mid + m - st) q (by omega) c2 h4
   omega
  rw [rot_b (q := q) (by omega) (by omega)]
  exact s1 _ _ h1 (by omega) (by omega)
 rw [rot_a (q := p) (by omega) (by omega)]
 by_cases c2 : mid + m - st ≤ q
 ·rw [rot_o (q := q) (by omega)]
  exact s2 _ _ (by omega) (by omega) h4
 rw [rot_b (q := q) (by omega) (by omega)]
 rcases hi with hi | hi | hi
 ·omega
 ·omega
 have e1 := u2 (p + (m - st)) (mid + m - st - 1) (by omega) (by omega) (by omega)
 have e2 := u1 st (q - (mid + m - st - m)) (by omega) (by omega) (by omega)
 omega
theorem CutM.done {l l1 l2 l3 : List α} {a m b mid st : Nat} (h : CutM ρ z l a m b mid st) (hr : RotR z l l1 st m (mid + m - st)) (h2 : PostS ρ z l1 l2 a mid) (h3 : PostS ρ z l2 l3 mid b) : PostS ρ z l l3 a b := by
 have hb := h.below hr
 obtain ⟨hm, s1, s2, rng, lo, hi⟩ := h
 have hidx : ∀ q, a ≤ q → q < b → a ≤ rotIdx st m (mid + m - st) q ∧ rotIdx st m (mid + m - st) q < b := fun q k1 k2 => by unfold rotIdx; (repeat' split) <;> omega
 have hlo : ∀ q, a ≤ q → q < mid → ∃ q', a ≤ q' ∧ q' < mid ∧ l3.getD q z = l1.getD q' z := fun q k1 k2 => by
  obtain ⟨q', e1, e2, e3⟩ := h2.ins q k1 k2
  exact ⟨q', e1, e2, (h3.out q (by omega)).trans e3⟩
 have hhi : ∀ q, mid ≤ q → q < b → ∃ q', mid ≤ q' ∧ q' < b ∧ l3.getD q z = l1.getD q' z := fun q k1 k2 => by
  obtain ⟨q', e1, e2, e3⟩ := h3.ins q k1 k2
  exact ⟨q', e1, e2, e3.trans (h2.out q' (by omega))⟩
 refine ⟨h3.perm.trans (h2.perm.trans hr.1), fun q hq => ?_, fun q k1 k2 => ?_, fun p q k1 k2 k3 => ?_⟩
 ·rw [h3.out q (by omega), h2.out q (by omega), hr.2]; congr 1; unfold rotIdx; (repeat' split) <;> omega
 ·by_cases c : q < mid
  ·obtain ⟨q', e1, e2, e3⟩ := hlo q k1 c
   have := hidx q' e1 (by omega)
   exact ⟨_, this.1, this.2, e3.trans (hr.2 q')⟩
  obtain ⟨q', e1, e2, e3⟩ := hhi q (by omega) k2
  have := hidx q' (by omega) e2
  exact ⟨_, this.1, this.2, e3.trans (hr.2 q')⟩
 by_cases c : q < mid
 ·rw [h3.out p (by omega), h3.out q (by omega)]; exact h2.srt p q k1 k2 c
 by_cases c2 : p < mid
 ·obtain ⟨p', e1, e2, e3⟩ := hlo p k1 c2
  obtain ⟨q', f1, f2, f3⟩ := hhi q (by omega) k3
  rw [e3, f3]; exact hb p' q' e1 e2 f1 f2
 exact h3.srt p q (by omega) k2 k3
theorem CutM.lowOne {l l1 : List α} {a m b mid st : Nat} (h : CutM ρ z l a m b mid st) (hr : RotR z l l1 st m (mid + m - st)) (hs : st = a ∨ st = mid) : PostS ρ z l1 l1 a mid := by
 have hl := h.lower hr
 rcases hs with hs | hs
 ·rw [hs] at hl; exact PostS.refl hl.2
 rw [hs] at hl; exact PostS.refl hl.1
theorem CutM.upL2 {l l1 l2 : List α} {a m b mid st : Nat} (h : CutM ρ z l a m b mid st) (hr : RotR z l l1 st m (mid + m - st)) (h2 : PostS ρ z l1 l2 a mid) : Srt ρ z l2 mid (mid + m - st) ∧ Srt ρ z l2 (mid + m - st) b := by
 have hl := h.upper hr
 have hg := h.rng
 refine ⟨fun p q k1 k2 k3 => ?_, fun p q k1 k2 k3 => ?_⟩ <;> rw [h2.out p (by omega), h2.out q (by omega)]
 ·exact hl.1 p q k1 k2 k3
 exact hl.2 p q k1 k2 k3
theorem CutM.crHi2 {l l1 l2 : List α} {a m b mid st : Nat} (h : CutM ρ z l a m b mid st) (hr : RotR z l l1 st m (mid + m - st)) (hc : CrO ρ w z l a m b) (h2 : PostS ρ z l1 l2 a mid) : CrO ρ w z l2 mid (mid + m - st) b := by
 have hl := h.crHi hr hc
 have hg := h.rng
 intro p q k1 k2 k3 k4
 rw [h2.out p (by omega), h2.out q (by omega)]
 exact hl p q k1 k2 k3 k4
theorem CutM.upOne {l l1 l2 : List α} {a m b mid st : Nat} (h : CutM ρ z l a m b mid st) (hr : RotR z l l1 st m (mid + m - st)) (h2 : PostS ρ z l1 l2 a mid) (hs : mid + m - st = mid ∨ mid + m - st = b) : PostS ρ z l2 l2 mid b := by
 have hl := h.upL2 hr h2
 rcases hs with hs | hs
 ·rw [hs] at hl; exact PostS.refl hl.2
 rw [hs] at hl; exact PostS.refl hl.1
structure BlkS (ρ : α → Int) (z : α) (l0 l : List α) (s t a n : Nat) : Prop where
 len : l0.length = n
 perm : l.Perm l0
 lo : ∀ p q, p < q → q < n → q < a → p / t = q / t → ρ (l.getD p z) < ρ (l.getD q z)
 hi : ∀ p q, p < q → q < n → a ≤ p → p / s = q / s → ρ (l.getD p z) < ρ (l.getD q z)
 ilo : ∀ q, q < n → q < a → ∃ q', q' < n ∧ q' / t = q / t ∧ l.getD q z = l0.getD q' z
 ihi : ∀ q, q < n → a ≤ q → ∃ q', q' < n ∧ q' / s = q / s ∧ l.getD q z = l0.getD q' z
def Sizes (s t : Nat) : Prop := (s = 1 ∧ t = 20) ∨ (s = 20 ∧ t = 40) ∨ (s = 40 ∧ t = 80) ∨ (s = 80 ∧ t = 160) ∨ (s = 160 ∧ t = 320)
theorem BlkS.init {l : List α} {n : Nat} (h : l.length = n) : BlkS ρ z l l 1 20 0 n :=
 ⟨h, .refl _, fun p q _ _ h3 _ => by omega, fun p q h1 _ _ h4 => by omega, fun q _ h => by omega, fun q h1 h2 => ⟨q, h1, rfl, rfl⟩⟩
theorem BlkS.put {l0 l lc : List α} {s t a b n : Nat} (hst : Sizes s t) (h : BlkS ρ z l0 l s t a n) (ha : a % t = 0) (hb : a ≤ b ∧ b ≤ n ∧ (b = a + t ∨ (b = n ∧ n ≤ a + t))) (hp : PostS ρ z l lc a b) : BlkS ρ z l0 lc s t b n := by
 refine ⟨h.len, hp.perm.trans h.perm, fun p q h1 h2 h3 h4 => ?_, fun p q h1 h2 h3 h4 => ?_, fun q h1 h2 => ?_, fun q h1 h2 => ?_⟩
 ·by_cases c : q < a
  ·rw [hp.out p (by omega), hp.out q (by omega)]; exact h.lo p q h1 h2 c h4
  refine hp.srt p q ?_ h1 h3
  rcases hst with ⟨rfl, rfl⟩ | ⟨rfl, rfl⟩ | ⟨rfl, rfl⟩ | ⟨rfl, rfl⟩ | ⟨rfl, rfl⟩ <;> omega
 ·rw [hp.out p (by omega), hp.out q (by omega)]; exact h.hi p q h1 h2 (by omega) h4
 ·by_cases c : q < a
  ·rw [hp.out q (by omega)]; exact h.ilo q h1 c
  obtain ⟨q', e1, e2, e3⟩ := hp.ins q (by omega) h2
  obtain ⟨q2, f1, f2, f3⟩ := h.ihi q' (by omega) e1
  refine ⟨q2, f1, ?_, e3.trans f3⟩
  rcases hst with ⟨rfl, rfl⟩ | ⟨rfl, rfl⟩ | ⟨rfl, rfl⟩ | ⟨rfl, rfl⟩ | ⟨rfl, rfl⟩ <;> omega
 rw [hp.out q (by omega)]; exact h.ihi q h1 (by omega)
theorem BlkS.cr {l0 l : List α} {s t a n : Nat} (hst : Sizes s t) (h : BlkS ρ z l0 l s t a n) (hc : ∀ p q, p < q → q < n → Cr ρ w (l0.getD p z) (l0.getD q z)) {p q : Nat} (h1 : a ≤ p) (h2 : p < q) (h3 : q < n) (h4 : ¬ p / s = q / s) : Cr ρ w (l.getD p z) (l.getD q z) := by
 obtain ⟨p', e1, e2, e3⟩ := h.ihi p (by omega) h1
 obtain ⟨q', f1, f2, f3⟩ := h.ihi q h3 (by omega)
 rw [e3, f3]
 refine hc _ _ ?_ f1
 rcases hst with ⟨rfl, rfl⟩ | ⟨rfl, rfl⟩ | ⟨rfl, rfl⟩ | ⟨rfl, rfl⟩ | ⟨rfl, rfl⟩ <;> omega
theorem BlkS.crO {l0 l : List α} {s t a m b n : Nat} (hst : Sizes s t) (h : BlkS ρ z l0 l s t a n) (hc : ∀ p q, p < q → q < n → Cr ρ w (l0.getD p z) (l0.getD q z)) (ha : a % t = 0) (hm : m = a + s) (hb : b ≤ n) (hs : t = 2 * s) : CrO ρ w z l a m b := by
 intro p q h1 h2 h3 h4
 refine h.cr hst hc h1 (by omega) (by omega) ?_
 rcases hst with ⟨rfl, rfl⟩ | ⟨rfl, rfl⟩ | ⟨rfl, rfl⟩ | ⟨rfl, rfl⟩ | ⟨rfl, rfl⟩ <;> omega
theorem BlkS.crA {l0 l : List α} {t a n : Nat} (hst : Sizes 1 t) (h : BlkS ρ z l0 l 1 t a n) (hc : ∀ p q, p < q → q < n → Cr ρ w (l0.getD p z) (l0.getD q z)) : ∀ p q, a ≤ p → p < q → q < n → Cr ρ w (l.getD p z) (l.getD q z) :=
 fun _ _ h1 h2 h3 => h.cr hst hc h1 h2 h3 (by omega)
theorem BlkS.srt1 {l0 l : List α} {s t a n : Nat} (hst : Sizes s t) (h : BlkS ρ z l0 l s t a n) (ha : a % t = 0) (hs : t = 2 * s) : (∀ m, m ≤ a + s → m ≤ n → Srt ρ z l a m) ∧ ∀ b, b ≤ a + t → b ≤ n → Srt ρ z l (a + s) b := by
 refine ⟨fun m h1 h2 p q k1 k2 k3 => h.hi p q k2 (by omega) k1 ?_, fun b h1 h2 p q k1 k2 k3 => h.hi p q k2 (by omega) (by omega) ?_⟩ <;>
 rcases hst with ⟨rfl, rfl⟩ | ⟨rfl, rfl⟩ | ⟨rfl, rfl⟩ | ⟨rfl, rfl⟩ | ⟨rfl, rfl⟩ <;> omega
theorem BlkS.turn {l0 l : List α} {s t n : Nat} (h : BlkS ρ z l0 l s t n n) (t2 : Nat) : BlkS ρ z l0 l t t2 0 n :=
 ⟨h.len, h.perm, fun _ _ _ _ h3 _ => by omega, fun p q h1 h2 _ h4 => h.lo p q h1 h2 h2 h4, fun q _ h => by omega, fun q h1 _ => h.ilo q h1 h1⟩
theorem BlkS.done {l0 l : List α} {s t n : Nat} (h : BlkS ρ z l0 l s t 0 n) (hn : n ≤ s) : l.Perm l0 ∧ Srt ρ z l 0 n :=
 ⟨h.perm, fun p q h1 h2 h3 => h.hi p q h2 h3 h1 (by rw [Nat.div_eq_of_lt (by omega), Nat.div_eq_of_lt (by omega)])⟩
end
end Go.Proofs.Ytifnmbmijljhfaa.E.Hf
namespace Go.Proofs.Ytifnmbmijljhfaa.E.Hf
open Go
structure Th where
 w : Int
 f : Nat → Nat
 r : Int
def thC (t : Th) : List Value := .int .i64 t.w :: (List.range 256).map fun i => .int .u8 ((t.f i : Nat) : Int)
def th0 : Th := ⟨0, fun _ => 0, 0⟩
@[simp] theorem thC_len (t : Th) : (thC t).length = 257 := by simp [thC]
theorem thC_one (t : Th) : oneCells (thC t) := by
 intro v hv
 unfold thC at hv
 rcases List.mem_cons.1 hv with rfl | hv
 ·rfl
 obtain ⟨i, _, rfl⟩ := List.mem_map.1 hv; rfl
instance : Enc thC 257 := ⟨thC_len, by omega, thC_one⟩
theorem zcTh : zcOf Try.t133 = thC th0 := by kernel_rfl
@[simp] theorem zcTh_len : (zcOf Try.t133).length = 257 := by rw [zcTh]; exact thC_len _
theorem _root_.Go.Proofs.Ytifnmbmijljhfaa.E.Cells.all {w : World} {b o : Nat} {cs : List Value} (h : Cells w b o cs) : Row w (some ⟨b, o, none⟩) cs := h
theorem fill_big {cs zs : List Value} {n : Nat} (hz : zs.length = n) (hc : cs.length = n) : fillC zs [(0, n, .agg cs.toArray)] = some cs := by
 have hs : (Value.agg cs.toArray).cells.size = n := by simpa [Value.cells] using hc
 have hs2 : (Value.agg cs.toArray).cells.toList = cs := by simp [Value.cells]
 unfold fillC
 rw [if_pos ⟨hs, by omega⟩, hs2]
 unfold fillC
 rw [List.take_zero, List.nil_append, List.drop_eq_nil_of_le (by omega), List.append_nil]
def cmpW (x y : Th) : Int := if x.w < y.w then -1 else if y.w < x.w then 1 else 0
theorem cmpW_neg {x y : Th} : cmpW x y < 0 ↔ x.w < y.w := by
 unfold cmpW
 split
 ·rename_i h; exact ⟨fun _ => h, fun _ => by omega⟩
 rename_i h; split <;> exact ⟨fun k => by omega, fun k => absurd k h⟩
theorem rot_refl {α : Type} {z : α} {l : List α} {s m e : Nat} (h : s = m ∨ m = e) : RotR z l l s m e := ⟨.refl _, fun q => by congr 1; unfold rotIdx; (repeat' split) <;> omega⟩
theorem PostS.upto {α : Type} {ρ : α → Int} {z : α} {l lc : List α} {a b i : Nat} (h : PostS ρ z l lc a i) (hb : b ≤ i) (hi : i ≤ b ∨ lc = l) : PostS ρ z l lc a b := by
 rcases hi with hi | hi
 ·rw [show b = i by omega]; exact h
 subst hi; exact PostS.refl fun p q h1 h2 h3 => h.srt p q h1 h2 (by omega)
theorem CutM.mk' {ρ : Th → Int} {l : List Th} {a m b mid s0 q0 st r : Nat} (hm : a < m ∧ m < b ∧ mid = (a + b) / 2) (s1 : Srt ρ th0 l a m) (s2 : Srt ρ th0 l m b) (h0 : (s0 = a ∧ q0 = m ∧ m ≤ mid) ∨ (s0 = mid + m - b ∧ q0 = mid ∧ mid < m)) (hr : s0 ≤ st ∧ st ≤ r ∧ r ≤ q0) (he : ¬ st < r)
 (lo : st = s0 ∨ ρ (l.getD (st - 1) th0) < ρ (l.getD (mid + m - st) th0)) (hi : r = q0 ∨ ρ (l.getD (mid + m - 1 - r) th0) < ρ (l.getD r th0)) : CutM ρ th0 l a m b mid st := by
 obtain rfl : st = r := by omega
 refine ⟨hm, s1, s2, by omega, ?_, ?_⟩
 ·rcases lo with lo | lo
  ·rcases h0 with h | h
   ·exact .inl (by omega)
   exact .inr (.inl (by omega))
  exact .inr (.inr lo)
 rcases hi with hi | hi
 ·rcases h0 with h | h
  ·exact .inl (by omega)
  exact .inr (.inl (by omega))
 exact .inr (.inr (by rw [show mid + m - st - 1 = mid + m - 1 - st by omega]; exact hi))
theorem cmpW_ok (x y : Th) (w : World) : Calls Try.prog 74 [.agg (thC x).toArray, .agg (thC y).toArray].toArray w (Rt fun r w' => r = .int .i64 (cmpW x y) ∧ Upd [] w w') := by
 have hM0 : Mem w [] w [] := Mem.nil w []
 refine calls_vc mixed Try.func74 rfl C74 (by simp [Try.ntmps74]) <| seq fun _ h1 => m_bx (v := .agg ((thC x).toArray)) hM0 rfl rfl fun b2 w3 (hM3 : Mem w [] w3 [[⟨b2, 133, (thC x)⟩]]) => m_bx (v := .agg ((thC y).toArray)) hM3 rfl rfl fun b4 w5 (hM5 : Mem w [] w5 [[⟨b2, 133, (thC x)⟩], [⟨b4, 133, (thC y)⟩]]) => mv <| h1 _ _ <| seq fun _ h6 => seq fun _ h7 => fa rfl <| m_ld (v := .int .i64 x.w) hM5 (i := 0) (j := 0) rfl rfl rfl rfl <| fa rfl <| m_ld (v := .int .i64 y.w) hM5 (i := 1) (j := 0) rfl rfl rfl rfl <| bn rfl rfl <| mv ?_
 refine h7 _ _ <| cndP rfl (fun c8 => ?_) (fun c8 => ?_)
 ·refine seq fun _ h9 => mv <| h9 _ _ <| ⟨(.int .i64 (-1)), rfl, ⟨by unfold cmpW; rw [if_pos (by assumption)], hM5.upd⟩⟩
 refine seq fun _ h10 => fa rfl <| m_ld (v := .int .i64 x.w) hM5 (i := 0) (j := 0) rfl rfl rfl rfl <| fa rfl <| m_ld (v := .int .i64 y.w) hM5 (i := 1) (j := 0) rfl rfl rfl rfl <| bn rfl rfl <| mv <| h10 _ _ <| cndP rfl (fun c11 => ?_) (fun c11 => ?_)
 ·refine seq fun _ h12 => mv <| h12 _ _ <| ⟨(.int .i64 1), rfl, ⟨by unfold cmpW; rw [if_neg (by assumption), if_pos (by assumption)], hM5.upd⟩⟩
 refine h6 _ _ <| seq fun _ h13 => mv <| h13 _ _ <| ⟨(.int .i64 0), rfl, ⟨by unfold cmpW; rw [if_neg (by assumption), if_neg (by assumption)], hM5.upd⟩⟩
end Go.Proofs.Ytifnmbmijljhfaa.E.Hf
