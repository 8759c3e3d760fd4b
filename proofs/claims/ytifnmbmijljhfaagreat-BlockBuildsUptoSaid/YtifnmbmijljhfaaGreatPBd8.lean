/- Part 8 of the proof of what the last of these files says. -/
import Derived.Test.YtifnmbmijljhfaaGreatPBd7
namespace Go.Proofs.YtifnmbmijljhfaaGreat.E
open Go
theorem size_ok (bb R : Nat) (cs : List Value) (bytes n : Nat) (w : World) (ho : Own w ⟨bb, 53, .int .i64 (R : Nat) :: cs⟩) (hR : 1 ≤ R ∧ R ≤ 64) (hb : bytes ≤ 1000000) (hn : n ≤ 1000000) : Calls Tryz.prog 24 [.pointer (some ⟨bb, 0, none⟩), .int .i64 (bytes : Nat), .int .i64 (n : Nat)].toArray w (Rt fun r w' => r = .int .i64 ((szB R bytes n : Nat) : Int) ∧ Upd [] w w') := by
 have hM0 : Mem w [] w [] := Mem.nil w []
 obtain ⟨q, hqe⟩ : ∃ q, q = (n + R - 1) / R := ⟨_, rfl⟩
 have hq : q ≤ n + R - 1 := by rw [hqe]; exact Nat.div_le_self _ _
 refine calls_vc mixed Tryz.func24 rfl C24 (by simp [Tryz.ntmps24]) <| seq fun _ h1 => mv <| h1 _ _ <| seq fun _ h2 => seq fun _ h3 => mv <| bn rfl rfl <| h3 _ _ <| cndP rfl (fun c4 => ?_) (fun c4 => ?_)
 ·refine seq fun _ h5 => mv <| h5 _ _ <| ⟨(.int .i64 0), rfl, ⟨by unfold szB; rw [if_pos (by omega)]; rfl, hM0.upd⟩⟩
 refine h2 _ _ <| seq fun _ h6 => ?_
 intro wd e1 e2 e3 e4
 have hd := Upd.same e1 e2 e3 e4 []
 have hM7 := hM0.pure hd
 clear e1 e2 e3 e4
 refine ⟨none, ?_⟩
 show vd _ _ _ _ _ _ _
 refine dmv <| dmv <| dmv <| dq (v := .pointer (some ⟨bb, 0, none⟩)) (o_nilchk rfl rfl) <| dfa rfl <| dmv <| dq (v := .pointer (some ⟨bb, 0, none⟩)) (o_nilchk rfl rfl) <| dfa rfl <| dqld rfl (trivial) (v := .int .i64 (R : Nat)) ((ho.upd hM7.upd (by simp)).cell 0) <| dl (ld (v := .int .i64 (R : Nat)) rfl ((ho.upd hM7.upd (by simp)).cell 0) <| ⟨rfl, dq (v := .int .i64 ((n : Nat) + (R : Nat))) (o_bin rfl rfl (v_add64 (by omega))) <| dq (v := .int .i64 (((n : Nat) + (R : Nat)) - 1)) (o_bin rfl rfl (v_sub64 (by omega))) <| dq (v := .int .i64 (q : Nat)) (o_quo rfl rfl (by omega) ((v_quo (by omega) (by omega) (by simp only [inK]; omega)).trans (v_int (by rw [hqe, show ((n : Int) + (R : Int) - 1) = ((n + R - 1 : Nat) : Int) by omega]; rfl)))) <| dq (v := .int .i64 (4 * (q : Nat))) (o_bin rfl rfl (v_mul64 (by omega))) <| dq (v := .int .i64 ((bytes : Nat) + (4 * (q : Nat)))) (o_bin rfl rfl (v_add64 (by omega))) <| dq (v := .int .i64 (((bytes : Nat) + (4 * (q : Nat))) + 8)) (o_bin rfl rfl (v_add64 (by omega))) <| dmv <| h6 _ _ <| ⟨(.int .i64 (((bytes : Nat) + (4 * (q : Nat))) + 8)), rfl, ⟨by unfold szB; rw [if_neg (by omega), ← hqe]; exact v_int (by omega), hM7.upd⟩⟩⟩)
end Go.Proofs.YtifnmbmijljhfaaGreat.E
namespace Go.Proofs.YtifnmbmijljhfaaGreat.E
open Go
theorem NewBuilder_ok (R M : Nat) (w : World) (hR : 1 ≤ R ∧ R ≤ 64) (hM : 64 ≤ M ∧ M ≤ 65536) : Calls Tryz.prog 5 [.int .i64 (R : Nat), .int .i64 (M : Nat)].toArray w (Rt fun r w' => ∃ bb rs, r = .tuple #[.pointer (some ⟨bb, 0, none⟩), .int .i64 0] ∧ BldS bb R M [] [] [] 0 rs ∧ Mem w [] w' [rs]) := by
 have hM0 : Mem w [] w [] := Mem.nil w []
 refine calls_vc mixed Tryz.func5 rfl C5 (by simp [Tryz.ntmps5]) <| seq fun _ h1 => mv <| mv <| h1 _ _ <| seq fun _ h2 => seq fun _ h3 => mv <| bn rfl rfl <| mv <| splitP rfl (fun c4 => absurd c4 (by omega)) (fun c4 => gmv rfl <| gbn rfl rfl rfl <| pkF rfl ?_)
 refine mv <| splitP rfl (fun c5 => absurd c5 (by omega)) (fun c5 => gmv rfl <| gbn rfl rfl rfl <| pkF rfl <| mv <| splitP rfl (fun c6 => absurd c6 (by omega)) (fun c6 => gmv rfl <| gbn rfl rfl rfl <| pkF rfl <| h3 _ _ <| cndP rfl (fun c7 => absurd c7 (by omega)) (fun c7 => h2 _ _ <| seq fun _ h8 => ?_)))
 refine mv <| mv <| stp (v := .agg ([.int .i64 (R : Nat), .int .i64 (M : Nat), .slice none 0 0, .slice none 0 0, .string (str ([])), .int .i64 0] : List Value).toArray) (o_bld rfl rfl) <| m_bx (v := .agg ([.int .i64 (R : Nat), .int .i64 (M : Nat), .slice none 0 0, .slice none 0 0, .string (str ([])), .int .i64 0] : List Value).toArray) hM0 rfl rfl fun b9 w10 (hM10 : Mem _ _ w10 [[⟨b9, 53, [.int .i64 (R : Nat), .int .i64 (M : Nat), .slice none 0 0, .slice none 0 0, .string (str ([])), .int .i64 0]⟩]]) => mv <| mv <| h8 _ _ <| ⟨(.tuple [.pointer (some ⟨b9, 0, none⟩), .int .i64 0].toArray), rfl, ⟨_, _, rfl, ⟨_, _, [], [], rfl, Sl.nil 1 5, Sl.nil 1 3⟩, hM10.keep (by simp)⟩⟩
theorem Add_0 (bb R M : Nat) (raw : List UInt8) (st : List Int) (last : List UInt8) (n : Nat) (k v : List UInt8) (r0 : List Ent) (w : World) (hn : n = 0) (hB : BldS bb R M raw st last n r0) (hr : Res w r0) (hR : 1 ≤ R ∧ R ≤ 64) (hMl : M ≤ 65536) (hl : raw.length ≤ 65536 ∧ n ≤ 65536 ∧ st.length ≤ 65536 ∧ last.length ≤ 1024) (hk : k.length ≤ 140737488355328) (hv : v.length ≤ 140737488355328) : Calls Tryz.prog 7 [.pointer (some ⟨bb, 0, none⟩), .string (str k), .string (str v)].toArray w (Rt fun r w' => ∃ r', r = .int .i64 (addE R M raw last n k v) ∧ (¬ addE R M raw last n k v = 0 → BldS bb R M raw st last n r') ∧ (addE R M raw last n k v = 0 → BldS bb R M (raw ++ wrB (ahd R n last) k v) (if n % R = 0 then st ++ [(raw.length : Int)] else st) k (n + 1) r') ∧ Mem w (ids r0) w' [r']) := by
 obtain ⟨vr, vs, rr, rs, rfl, hvr, hvs⟩ := hB
 have hM0 : Mem w (ids (⟨bb, 53, [.int .i64 (R : Nat), .int .i64 (M : Nat), vr, vs, .string (str last), .int .i64 (n : Nat)]⟩ :: (rr ++ rs))) w [[⟨bb, 53, [.int .i64 (R : Nat), .int .i64 (M : Nat), vr, vs, .string (str last), .int .i64 (n : Nat)]⟩], rr, rs] := (Mem.start hr).keep (by simp)
 have hs : n % R = 0 := by rw [hn]; exact Nat.zero_mod R
 have ha : ahd R n last = [] := by unfold ahd; rw [if_pos hs]
 refine calls_vc mixed Tryz.func7 rfl C7 (by simp [Tryz.ntmps7]) <| seq fun _ h1 => mv <| h1 _ _ <| seq fun _ h2 => seq fun _ h3 => mv <| stp (v := .bool false) (o_isnil rfl rfl) <| h3 _ _ <| cndF rfl <| h2 _ _ <| seq fun _ h4 => seq fun _ h5 => mv ?_
 refine stp (v := .int .i64 (k.length : Nat)) (o_lens rfl rfl) <| bn rfl rfl <| mv <| splitP rfl (fun c6 => ?_) (fun c6 => ?_)
 ·refine gx rfl <| gx rfl <| gx rfl <| pkT rfl <| h5 _ _ <| cndT rfl <| seq fun _ h7 => mv <| h7 _ _ <| ⟨(.int .i64 2), rfl, ?_⟩
  have he : addE R M raw last n k v = 2 := by unfold addE; rw [if_pos (by omega)]
  rw [he]
  exact ⟨_, rfl, fun _ => ⟨_, _, _, _, rfl, hvr, hvs⟩, fun h => absurd h (by omega), hM0.keep (by simp)⟩
 refine gmv rfl <| stg rfl (v := .int .i64 (v.length : Nat)) (o_lens rfl rfl) <| gbn rfl rfl rfl <| pkF rfl <| h5 _ _ <| cndP rfl (fun c8 => ?_) (fun c8 => ?_)
 ·refine seq fun _ h9 => mv <| h9 _ _ <| ⟨(.int .i64 2), rfl, ?_⟩
  have he : addE R M raw last n k v = 2 := by unfold addE; rw [if_pos (by omega)]
  rw [he]
  exact ⟨_, rfl, fun _ => ⟨_, _, _, _, rfl, hvr, hvs⟩, fun h => absurd h (by omega), hM0.keep (by simp)⟩
 refine h4 _ _ <| seq fun _ h10 => seq fun _ h11 => mv <| nilchk rfl <| fa rfl <| m_ld (v := .int .i64 (n : Nat)) hM0 (i := 0) (j := 0) rfl rfl rfl rfl <| bn rfl rfl <| mv <| splitP rfl (fun c12 => absurd c12 (by omega)) (fun c12 => gx rfl <| gx rfl <| gx rfl <| gx rfl <| gxl rfl <| gxl rfl <| gx rfl <| pkF rfl <| h11 _ _ <| cndF rfl <| h10 _ _ <| seq fun _ h13 => ?_)
 intro wd e1 e2 e3 e4
 have hd := Upd.same e1 e2 e3 e4 []
 have hM14 := hM0.pure hd
 clear e1 e2 e3 e4
 refine ⟨none, ?_⟩
 show vd _ _ _ _ _ _ _
 refine dmv <| dq (v := .pointer (some ⟨bb, 0, none⟩)) (o_nilchk rfl rfl) <| dfa rfl <| dl (m_ld (v := .int .i64 (R : Nat)) hM14 (i := 0) (j := 0) rfl rfl rfl rfl <| ⟨rfl, dbn rfl rfl <| dmv <| dsplitP rfl (fun c15 => ?_) (fun c15 => (c15 (by omega)).elim)⟩)
 refine dgmv rfl <| dqg rfl (v := .pointer (some ⟨bb, 0, none⟩)) (o_nilchk rfl rfl) <| dgfa rfl rfl <| dgmv rfl <| dqg rfl (v := .pointer (some ⟨bb, 0, none⟩)) (o_nilchk rfl rfl) <| dgfa rfl rfl <| dqgyes rfl rfl <| dqld rfl (trivial) (v := .int .i64 (R : Nat)) ((hM14.at (i := 0) (j := 0) rfl rfl).cell 0) <| dgyesl rfl <| dl (m_ld (v := .int .i64 (n : Nat)) hM14 (i := 0) (j := 0) rfl rfl rfl rfl <| ⟨rfl, dqg rfl (v := .int .i64 (n % R : Nat)) (o_rem rfl rfl (by omega) ((v_rem (Int.natCast_nonneg _)).trans rfl)) <| dgbn rfl rfl rfl <| dpkT rfl <| dmv <| h13 _ _ <| seq fun _ h16 => mv <| nilchk rfl <| fa rfl <| m_ld (v := .string (str last)) hM14 (i := 0) (j := 0) rfl rfl rfl rfl <| mv <| h16 _ _ <| seq fun _ h17 => seq fun _ h18 => mv <| h18 _ _ <| cndP rfl (fun c19 => ?_) (fun c19 => (c19 (by omega)).elim)⟩)
 refine mv <| h17 _ _ <| seq fun _ h20 => mv <| mv <| mv <| m_call (written_ok ([]) k v wd (by first | assumption | omega | (simp; done)) (by omega) (by omega)) rfl fun v21 w21 ⟨rs21, hs21, hm21⟩ => ?_
 have hM21 : Mem w (ids (⟨bb, 53, [.int .i64 (R : Nat), .int .i64 (M : Nat), vr, vs, .string (str last), .int .i64 (n : Nat)]⟩ :: (rr ++ rs))) w21 [[⟨bb, 53, [.int .i64 (R : Nat), .int .i64 (M : Nat), vr, vs, .string (str last), .int .i64 (n : Nat)]⟩], rr, rs, rs21] := hM14.add hm21
 have hwl21 := wrB_len (a := ([])) (k := k) (v := v) (by omega) (by omega)
 refine mv <| h20 _ _ <| seq fun _ h22 => seq fun _ h23 => ?_
 intro wd e1 e2 e3 e4
 have hd := Upd.same e1 e2 e3 e4 []
 have hM24 := hM21.pure hd
 clear e1 e2 e3 e4
 refine ⟨(some [bb]), ?_⟩
 show vd _ _ _ _ _ _ _
 refine dmv <| dq (v := .pointer (some ⟨bb, 0, none⟩)) (o_nilchk rfl rfl) <| dfa rfl <| dl (m_ld (v := .int .i64 (n : Nat)) hM24 (i := 0) (j := 0) rfl rfl rfl rfl <| ⟨(fun b hb => rfl), dbn rfl rfl <| dmv <| dsplitP rfl (fun c25 => absurd c25 (by omega)) (fun c25 => dx rfl <| dx rfl <| dx rfl <| dx rfl <| dx rfl <| dx rfl <| dx rfl <| dx rfl <| dx rfl <| dx rfl <| dx rfl <| dx rfl <| dxq rfl <| dxq rfl <| dx rfl <| dxl rfl <| dx rfl <| dx rfl <| dxl rfl <| dx rfl <| dpkF rfl <| h23 _ _ <| cndF rfl <| h22 _ _ <| seq fun _ h26 => seq fun _ h27 => mv <| h27 _ _ <| cndP rfl (fun c28 => ?_) (fun c28 => (c28 (by omega)).elim))⟩)
 intro wd e1 e2 e3 e4
 have hd := Upd.same e1 e2 e3 e4 []
 have hM29 := hM24.pure hd
 clear e1 e2 e3 e4
 refine ⟨(some []), ?_⟩
 show vd _ _ _ _ _ _ _
 refine dmv <| dmv <| dq (v := .pointer (some ⟨bb, 0, none⟩)) (o_nilchk rfl rfl) <| dfa rfl <| dmv <| dq (v := .pointer (some ⟨bb, 0, none⟩)) (o_nilchk rfl rfl) <| dfa rfl ?_
 show _ ∧ _
 refine ⟨?_, ?_⟩
 ·show vd _ _ _ _ _ _ _
  refine dl (m_ld (v := vs) hM29 (i := 0) (j := 0) rfl rfl rfl rfl <| ⟨(fun b hb => by cases hb), dl (m_ld (v := vr) hM29 (i := 0) (j := 0) rfl rfl rfl rfl <| ⟨(fun b hb => by cases hb), dq (v := .int .i64 (raw.length : Nat)) (o_lenR (hvr.rd hM29 (i := 1) rfl) rfl rfl) <| dl (m_bs hM29 rfl fun b30 w31 (hM31 : Mem w (ids (⟨bb, 53, [.int .i64 (R : Nat), .int .i64 (M : Nat), vr, vs, .string (str last), .int .i64 (n : Nat)]⟩ :: (rr ++ rs))) w31 [[⟨bb, 53, [.int .i64 (R : Nat), .int .i64 (M : Nat), vr, vs, .string (str last), .int .i64 (n : Nat)]⟩], rr, rs, rs21, [⟨b30, 3, [.int .i64 (raw.length : Nat)]⟩]]) => ⟨(fun b hb => by cases hb), dl (m_appE hM31 (i := 2) rfl hvs rfl rfl (own_rdE (E := i64V) (l := [(((raw.length : Nat)) : Int)]) (hM31.at (i := 4) (j := 0) rfl rfl) rfl) (by first | omega | (simp; omega)) (by omega) fun v32 w32 r32 (hs32 : SlE i64V 3 v32 (st ++ ([(((raw.length : Nat)) : Int)])) r32) (hM32 : Mem _ _ w32 [_, _, r32, _, _]) => ⟨(fun b hb => by cases hb), dq (v := .pointer (some ⟨bb, 0, none⟩)) (o_nilchk rfl rfl) <| dfa rfl <| dl (m_st (v := v32) hM32 (i := 0) rfl rfl rfl (Sl.one hs32) (by simp) fun w33 (hM33 : Mem _ _ w33 [[⟨bb, 53, [.int .i64 (R : Nat), .int .i64 (M : Nat), vr, v32, .string (str last), .int .i64 (n : Nat)]⟩], _, _, _, _]) => ⟨(fun b hb => by cases hb), h26 _ _ ?_⟩)⟩)⟩)⟩)⟩)
  refine seq fun _ h34 => mv <| mv <| nilchk rfl <| fa rfl <| m_ld (v := vr) hM33 (i := 0) (j := 0) rfl rfl rfl rfl <| mv <| m_appE hM33 (i := 1) rfl hvr rfl rfl (hs21.rd hM33 (i := 3) rfl) (by first | omega | (simp; omega)) (by omega) fun v35 w35 r35 (hs35 : SlE byteV 5 v35 (raw ++ (wrB ([]) k v)) r35) (hM35 : Mem _ _ w35 [_, r35, _, _, _]) => nilchk rfl <| fa rfl <| m_st (v := v35) hM35 (i := 0) rfl rfl rfl (Sl.one hs35) (by simp) fun w36 (hM36 : Mem _ _ w36 [[⟨bb, 53, [.int .i64 (R : Nat), .int .i64 (M : Nat), v35, v32, .string (str last), .int .i64 (n : Nat)]⟩], _, _, _, _]) => h34 _ _ <| seq fun _ h37 => mv ?_
  refine mv <| nilchk rfl <| fa rfl <| m_st (v := .string (str k)) hM36 (i := 0) rfl rfl rfl rfl (by simp) fun w38 (hM38 : Mem _ _ w38 [[⟨bb, 53, [.int .i64 (R : Nat), .int .i64 (M : Nat), v35, v32, .string (str k), .int .i64 (n : Nat)]⟩], _, _, _, _]) => h37 _ _ <| seq fun _ h39 => mv <| nilchk rfl <| fa rfl <| m_ld (v := .int .i64 (n : Nat)) hM38 (i := 0) (j := 0) rfl rfl rfl rfl <| stp (v := .int .i64 ((n : Nat) + 1)) (o_bin rfl rfl (v_add64 (by omega))) <| nilchk rfl <| fa rfl <| m_st (v := .int .i64 ((n : Nat) + 1)) hM38 (i := 0) rfl rfl rfl rfl (by simp) fun w40 (hM40 : Mem _ _ w40 [[⟨bb, 53, [.int .i64 (R : Nat), .int .i64 (M : Nat), v35, v32, .string (str k), .int .i64 ((n : Nat) + 1)]⟩], _, _, _, _]) => ?_
  refine h39 _ _ <| seq fun _ h41 => mv <| h41 _ _ <| ⟨(.int .i64 0), rfl, ?_⟩
  have he : addE R M raw last n k v = 0 := by unfold addE; rw [if_neg (by omega), if_neg (by omega), if_neg (by first | omega | (rw [ha]; omega))]
  rw [he, ha, if_pos hs]
  exact ⟨_, rfl, fun h => absurd rfl h, fun _ => ⟨_, _, _, _, rfl, by assumption, by assumption⟩, hM40.keep (by simp)⟩
 show vd _ _ _ _ _ _ _
 refine dl (m_ld (v := vr) hM29 (i := 0) (j := 0) rfl rfl rfl rfl <| ⟨(fun b hb => by cases hb), dq (v := .int .i64 (raw.length : Nat)) (o_lenR (hvr.rd hM29 (i := 1) rfl) rfl rfl) ?_⟩)
 show _ ∧ _
 refine ⟨?_, ?_⟩
 ·show vd _ _ _ _ _ _ _
  refine dl (m_ld (v := vs) hM29 (i := 0) (j := 0) rfl rfl rfl rfl <| ⟨(fun b hb => by cases hb), dl (m_bs hM29 rfl fun b42 w43 (hM43 : Mem w (ids (⟨bb, 53, [.int .i64 (R : Nat), .int .i64 (M : Nat), vr, vs, .string (str last), .int .i64 (n : Nat)]⟩ :: (rr ++ rs))) w43 [[⟨bb, 53, [.int .i64 (R : Nat), .int .i64 (M : Nat), vr, vs, .string (str last), .int .i64 (n : Nat)]⟩], rr, rs, rs21, [⟨b42, 3, [.int .i64 (raw.length : Nat)]⟩]]) => ⟨(fun b hb => by cases hb), dl (m_appE hM43 (i := 2) rfl hvs rfl rfl (own_rdE (E := i64V) (l := [(((raw.length : Nat)) : Int)]) (hM43.at (i := 4) (j := 0) rfl rfl) rfl) (by first | omega | (simp; omega)) (by omega) fun v44 w44 r44 (hs44 : SlE i64V 3 v44 (st ++ ([(((raw.length : Nat)) : Int)])) r44) (hM44 : Mem _ _ w44 [_, _, r44, _, _]) => ⟨(fun b hb => by cases hb), dq (v := .pointer (some ⟨bb, 0, none⟩)) (o_nilchk rfl rfl) <| dfa rfl <| dl (m_st (v := v44) hM44 (i := 0) rfl rfl rfl (Sl.one hs44) (by simp) fun w45 (hM45 : Mem _ _ w45 [[⟨bb, 53, [.int .i64 (R : Nat), .int .i64 (M : Nat), vr, v44, .string (str last), .int .i64 (n : Nat)]⟩], _, _, _, _]) => ⟨(fun b hb => by cases hb), h26 _ _ <| seq fun _ h46 => mv <| mv ?_⟩)⟩)⟩)⟩)
  refine nilchk rfl <| fa rfl <| m_ld (v := vr) hM45 (i := 0) (j := 0) rfl rfl rfl rfl <| mv <| m_appE hM45 (i := 1) rfl hvr rfl rfl (hs21.rd hM45 (i := 3) rfl) (by first | omega | (simp; omega)) (by omega) fun v47 w47 r47 (hs47 : SlE byteV 5 v47 (raw ++ (wrB ([]) k v)) r47) (hM47 : Mem _ _ w47 [_, r47, _, _, _]) => nilchk rfl <| fa rfl <| m_st (v := v47) hM47 (i := 0) rfl rfl rfl (Sl.one hs47) (by simp) fun w48 (hM48 : Mem _ _ w48 [[⟨bb, 53, [.int .i64 (R : Nat), .int .i64 (M : Nat), v47, v44, .string (str last), .int .i64 (n : Nat)]⟩], _, _, _, _]) => h46 _ _ <| seq fun _ h49 => mv <| mv <| nilchk rfl <| fa rfl ?_
  refine m_st (v := .string (str k)) hM48 (i := 0) rfl rfl rfl rfl (by simp) fun w50 (hM50 : Mem _ _ w50 [[⟨bb, 53, [.int .i64 (R : Nat), .int .i64 (M : Nat), v47, v44, .string (str k), .int .i64 (n : Nat)]⟩], _, _, _, _]) => h49 _ _ <| seq fun _ h51 => mv <| nilchk rfl <| fa rfl <| m_ld (v := .int .i64 (n : Nat)) hM50 (i := 0) (j := 0) rfl rfl rfl rfl <| stp (v := .int .i64 ((n : Nat) + 1)) (o_bin rfl rfl (v_add64 (by omega))) <| nilchk rfl <| fa rfl <| m_st (v := .int .i64 ((n : Nat) + 1)) hM50 (i := 0) rfl rfl rfl rfl (by simp) fun w52 (hM52 : Mem _ _ w52 [[⟨bb, 53, [.int .i64 (R : Nat), .int .i64 (M : Nat), v47, v44, .string (str k), .int .i64 ((n : Nat) + 1)]⟩], _, _, _, _]) => h51 _ _ <| seq fun _ h53 => mv ?_
  refine h53 _ _ <| ⟨(.int .i64 0), rfl, ?_⟩
  have he : addE R M raw last n k v = 0 := by unfold addE; rw [if_neg (by omega), if_neg (by omega), if_neg (by first | omega | (rw [ha]; omega))]
  rw [he, ha, if_pos hs]
  exact ⟨_, rfl, fun h => absurd rfl h, fun _ => ⟨_, _, _, _, rfl, by assumption, by assumption⟩, hM52.keep (by simp)⟩
 show vd _ _ _ _ _ _ _
 refine dl (m_bs hM29 rfl fun b54 w55 (hM55 : Mem w (ids (⟨bb, 53, [.int .i64 (R : Nat), .int .i64 (M : Nat), vr, vs, .string (str last), .int .i64 (n : Nat)]⟩ :: (rr ++ rs))) w55 [[⟨bb, 53, [.int .i64 (R : Nat), .int .i64 (M : Nat), vr, vs, .string (str last), .int .i64 (n : Nat)]⟩], rr, rs, rs21, [⟨b54, 3, [.int .i64 (raw.length : Nat)]⟩]]) => ⟨(fun b hb => by cases hb), dl (m_ld (v := vs) hM55 (i := 0) (j := 0) rfl rfl rfl rfl <| ⟨(fun b hb => by cases hb), dl (m_appE hM55 (i := 2) rfl hvs rfl rfl (own_rdE (E := i64V) (l := [(((raw.length : Nat)) : Int)]) (hM55.at (i := 4) (j := 0) rfl rfl) rfl) (by first | omega | (simp; omega)) (by omega) fun v56 w56 r56 (hs56 : SlE i64V 3 v56 (st ++ ([(((raw.length : Nat)) : Int)])) r56) (hM56 : Mem _ _ w56 [_, _, r56, _, _]) => ⟨(fun b hb => by cases hb), dq (v := .pointer (some ⟨bb, 0, none⟩)) (o_nilchk rfl rfl) <| dfa rfl <| dl (m_st (v := v56) hM56 (i := 0) rfl rfl rfl (Sl.one hs56) (by simp) fun w57 (hM57 : Mem _ _ w57 [[⟨bb, 53, [.int .i64 (R : Nat), .int .i64 (M : Nat), vr, v56, .string (str last), .int .i64 (n : Nat)]⟩], _, _, _, _]) => ⟨(fun b hb => by cases hb), h26 _ _ <| seq fun _ h58 => mv <| mv <| nilchk rfl <| fa rfl <| m_ld (v := vr) hM57 (i := 0) (j := 0) rfl rfl rfl rfl <| mv <| m_appE hM57 (i := 1) rfl hvr rfl rfl (hs21.rd hM57 (i := 3) rfl) (by first | omega | (simp; omega)) (by omega) fun v59 w59 r59 (hs59 : SlE byteV 5 v59 (raw ++ (wrB ([]) k v)) r59) (hM59 : Mem _ _ w59 [_, r59, _, _, _]) => nilchk rfl <| fa rfl <| m_st (v := v59) hM59 (i := 0) rfl rfl rfl (Sl.one hs59) (by simp) fun w60 (hM60 : Mem _ _ w60 [[⟨bb, 53, [.int .i64 (R : Nat), .int .i64 (M : Nat), v59, v56, .string (str last), .int .i64 (n : Nat)]⟩], _, _, _, _]) => h58 _ _ <| seq fun _ h61 => mv <| mv <| nilchk rfl <| fa rfl <| m_st (v := .string (str k)) hM60 (i := 0) rfl rfl rfl rfl (by simp) fun w62 (hM62 : Mem _ _ w62 [[⟨bb, 53, [.int .i64 (R : Nat), .int .i64 (M : Nat), v59, v56, .string (str k), .int .i64 (n : Nat)]⟩], _, _, _, _]) => h61 _ _ <| seq fun _ h63 => mv <| nilchk rfl <| fa rfl <| m_ld (v := .int .i64 (n : Nat)) hM62 (i := 0) (j := 0) rfl rfl rfl rfl <| stp (v := .int .i64 ((n : Nat) + 1)) (o_bin rfl rfl (v_add64 (by omega))) <| nilchk rfl <| fa rfl <| m_st (v := .int .i64 ((n : Nat) + 1)) hM62 (i := 0) rfl rfl rfl rfl (by simp) fun w64 (hM64 : Mem _ _ w64 [[⟨bb, 53, [.int .i64 (R : Nat), .int .i64 (M : Nat), v59, v56, .string (str k), .int .i64 ((n : Nat) + 1)]⟩], _, _, _, _]) => h63 _ _ <| seq fun _ h65 => mv <| h65 _ _ <| ⟨(.int .i64 0), rfl, ?_⟩⟩)⟩)⟩)⟩)
 have he : addE R M raw last n k v = 0 := by unfold addE; rw [if_neg (by omega), if_neg (by omega), if_neg (by first | omega | (rw [ha]; omega))]
 rw [he, ha, if_pos hs]
 exact ⟨_, rfl, fun h => absurd rfl h, fun _ => ⟨_, _, _, _, rfl, by assumption, by assumption⟩, hM64.keep (by simp)⟩
theorem Add_1 (bb R M : Nat) (raw : List UInt8) (st : List Int) (last : List UInt8) (n : Nat) (k v : List UInt8) (r0 : List Ent) (w : World) (hn : 0 < n) (hs : n % R = 0) (hB : BldS bb R M raw st last n r0) (hr : Res w r0) (hR : 1 ≤ R ∧ R ≤ 64) (hMl : M ≤ 65536) (hl : raw.length ≤ 65536 ∧ n ≤ 65536 ∧ st.length ≤ 65536 ∧ last.length ≤ 1024) (hk : k.length ≤ 140737488355328) (hv : v.length ≤ 140737488355328) : Calls Tryz.prog 7 [.pointer (some ⟨bb, 0, none⟩), .string (str k), .string (str v)].toArray w (Rt fun r w' => ∃ r', r = .int .i64 (addE R M raw last n k v) ∧ (¬ addE R M raw last n k v = 0 → BldS bb R M raw st last n r') ∧ (addE R M raw last n k v = 0 → BldS bb R M (raw ++ wrB (ahd R n last) k v) (if n % R = 0 then st ++ [(raw.length : Int)] else st) k (n + 1) r') ∧ Mem w (ids r0) w' [r']) := by
 obtain ⟨vr, vs, rr, rs, rfl, hvr, hvs⟩ := hB
 have hM0 : Mem w (ids (⟨bb, 53, [.int .i64 (R : Nat), .int .i64 (M : Nat), vr, vs, .string (str last), .int .i64 (n : Nat)]⟩ :: (rr ++ rs))) w [[⟨bb, 53, [.int .i64 (R : Nat), .int .i64 (M : Nat), vr, vs, .string (str last), .int .i64 (n : Nat)]⟩], rr, rs] := (Mem.start hr).keep (by simp)
 have ha : ahd R n last = [] := by unfold ahd; rw [if_pos hs]
 refine calls_vc mixed Tryz.func7 rfl C7 (by simp [Tryz.ntmps7]) <| seq fun _ h1 => mv <| h1 _ _ <| seq fun _ h2 => seq fun _ h3 => mv <| stp (v := .bool false) (o_isnil rfl rfl) <| h3 _ _ <| cndF rfl <| h2 _ _ <| seq fun _ h4 => seq fun _ h5 => mv ?_
 refine stp (v := .int .i64 (k.length : Nat)) (o_lens rfl rfl) <| bn rfl rfl <| mv <| splitP rfl (fun c6 => ?_) (fun c6 => ?_)
 ·refine gx rfl <| gx rfl <| gx rfl <| pkT rfl <| h5 _ _ <| cndT rfl <| seq fun _ h7 => mv <| h7 _ _ <| ⟨(.int .i64 2), rfl, ?_⟩
  have he : addE R M raw last n k v = 2 := by unfold addE; rw [if_pos (by omega)]
  rw [he]
  exact ⟨_, rfl, fun _ => ⟨_, _, _, _, rfl, hvr, hvs⟩, fun h => absurd h (by omega), hM0.keep (by simp)⟩
 refine gmv rfl <| stg rfl (v := .int .i64 (v.length : Nat)) (o_lens rfl rfl) <| gbn rfl rfl rfl <| pkF rfl <| h5 _ _ <| cndP rfl (fun c8 => ?_) (fun c8 => ?_)
 ·refine seq fun _ h9 => mv <| h9 _ _ <| ⟨(.int .i64 2), rfl, ?_⟩
  have he : addE R M raw last n k v = 2 := by unfold addE; rw [if_pos (by omega)]
  rw [he]
  exact ⟨_, rfl, fun _ => ⟨_, _, _, _, rfl, hvr, hvs⟩, fun h => absurd h (by omega), hM0.keep (by simp)⟩
 refine h4 _ _ <| seq fun _ h10 => seq fun _ h11 => mv <| nilchk rfl <| fa rfl <| m_ld (v := .int .i64 (n : Nat)) hM0 (i := 0) (j := 0) rfl rfl rfl rfl <| bn rfl rfl <| mv <| splitP rfl (fun c12 => ?_) (fun c12 => (c12 (by omega)).elim)
 refine gmv rfl <| gmv rfl <| stg rfl (v := .pointer (some ⟨bb, 0, none⟩)) (o_nilchk rfl rfl) <| gfa rfl rfl <| gyesl rfl <| m_ld (v := .string (str last)) hM0 (i := 0) (j := 0) rfl rfl rfl rfl <| gyesl rfl <| m_call (Compare_ok k last w (by first | omega | (simp; done) | (simp; omega)) (by first | omega | (simp; done) | (simp; omega))) rfl fun v13 w13 ⟨hr13, hu13⟩ => ?_
 have hM13 : Mem _ _ w13 [_, _, _] := hM0.pure hu13
 subst hr13
 refine gbn rfl rfl rfl <| pkT rfl <| h11 _ _ <| cndP rfl (fun c14 => ?_) (fun c14 => ?_)
 ·refine seq fun _ h15 => mv <| h15 _ _ <| ⟨(.int .i64 61), rfl, ?_⟩
  have he : addE R M raw last n k v = 61 := by unfold addE; rw [if_neg (by omega), if_pos (by omega)]
  rw [he]
  exact ⟨_, rfl, fun _ => ⟨_, _, _, _, rfl, hvr, hvs⟩, fun h => absurd h (by omega), hM13.keep (by simp)⟩
 refine h10 _ _ <| seq fun _ h16 => ?_
 intro wd e1 e2 e3 e4
 have hd := Upd.same e1 e2 e3 e4 []
 have hM17 := hM13.pure hd
 clear e1 e2 e3 e4
 refine ⟨none, ?_⟩
 show vd _ _ _ _ _ _ _
 refine dmv <| dq (v := .pointer (some ⟨bb, 0, none⟩)) (o_nilchk rfl rfl) <| dfa rfl <| dl (m_ld (v := .int .i64 (R : Nat)) hM17 (i := 0) (j := 0) rfl rfl rfl rfl <| ⟨rfl, dbn rfl rfl <| dmv <| dsplitP rfl (fun c18 => ?_) (fun c18 => (c18 (by omega)).elim)⟩)
 refine dgmv rfl <| dqg rfl (v := .pointer (some ⟨bb, 0, none⟩)) (o_nilchk rfl rfl) <| dgfa rfl rfl <| dgmv rfl <| dqg rfl (v := .pointer (some ⟨bb, 0, none⟩)) (o_nilchk rfl rfl) <| dgfa rfl rfl <| dqgyes rfl rfl <| dqld rfl (trivial) (v := .int .i64 (R : Nat)) ((hM17.at (i := 0) (j := 0) rfl rfl).cell 0) <| dgyesl rfl <| dl (m_ld (v := .int .i64 (n : Nat)) hM17 (i := 0) (j := 0) rfl rfl rfl rfl <| ⟨rfl, dqg rfl (v := .int .i64 (n % R : Nat)) (o_rem rfl rfl (by omega) ((v_rem (Int.natCast_nonneg _)).trans rfl)) <| dgbn rfl rfl rfl <| dpkT rfl <| dmv <| h16 _ _ <| seq fun _ h19 => mv <| nilchk rfl <| fa rfl <| m_ld (v := .string (str last)) hM17 (i := 0) (j := 0) rfl rfl rfl rfl <| mv <| h19 _ _ <| seq fun _ h20 => seq fun _ h21 => mv <| h21 _ _ <| cndP rfl (fun c22 => ?_) (fun c22 => (c22 (by omega)).elim)⟩)
 refine mv <| h20 _ _ <| seq fun _ h23 => mv <| mv <| mv <| m_call (written_ok ([]) k v wd (by first | assumption | omega | (simp; done)) (by omega) (by omega)) rfl fun v24 w24 ⟨rs24, hs24, hm24⟩ => ?_
 have hM24 : Mem w (ids (⟨bb, 53, [.int .i64 (R : Nat), .int .i64 (M : Nat), vr, vs, .string (str last), .int .i64 (n : Nat)]⟩ :: (rr ++ rs))) w24 [[⟨bb, 53, [.int .i64 (R : Nat), .int .i64 (M : Nat), vr, vs, .string (str last), .int .i64 (n : Nat)]⟩], rr, rs, rs24] := hM17.add hm24
 have hwl24 := wrB_len (a := ([])) (k := k) (v := v) (by omega) (by omega)
 refine mv <| h23 _ _ <| seq fun _ h25 => seq fun _ h26 => ?_
 intro wd e1 e2 e3 e4
 have hd := Upd.same e1 e2 e3 e4 []
 have hM27 := hM24.pure hd
 clear e1 e2 e3 e4
 refine ⟨(some [bb]), ?_⟩
 show vd _ _ _ _ _ _ _
 refine dmv <| dq (v := .pointer (some ⟨bb, 0, none⟩)) (o_nilchk rfl rfl) <| dfa rfl <| dl (m_ld (v := .int .i64 (n : Nat)) hM27 (i := 0) (j := 0) rfl rfl rfl rfl <| ⟨(fun b hb => rfl), dbn rfl rfl <| dmv <| dsplitP rfl (fun c28 => ?_) (fun c28 => (c28 (by omega)).elim)⟩)
 refine dgmv rfl <| dgmv rfl <| dqg rfl (v := .pointer (some ⟨bb, 0, none⟩)) (o_nilchk rfl rfl) <| dgfa rfl rfl <| dgmv rfl <| dqg rfl (v := .int .i64 ((wrB ([]) k v).length : Nat)) (o_lenR (hs24.rd hM27 (i := 3) rfl) rfl rfl) <| dgmv rfl <| dqg rfl (v := .pointer (some ⟨bb, 0, none⟩)) (o_nilchk rfl rfl) <| dgfa rfl rfl <| dgmv rfl <| dqg rfl (v := .pointer (some ⟨bb, 0, none⟩)) (o_nilchk rfl rfl) <| dgfa rfl rfl <| dqgyes rfl rfl <| dqld rfl (by simp [isHeld]) (v := .int .i64 (M : Nat)) ((hM27.at (i := 0) (j := 0) rfl rfl).cell 1) <| dqgyes rfl rfl <| dqld rfl (by simp [isHeld]) (v := .int .i64 (n : Nat)) ((hM27.at (i := 0) (j := 0) rfl rfl).cell 5) <| dqg rfl (v := .int .i64 (n + 1 : Nat)) (o_bin rfl rfl ((v_add64 (by omega)).trans (v_int (by omega)))) <| dgyesl rfl <| dl (m_ld (v := vr) hM27 (i := 0) (j := 0) rfl rfl rfl rfl <| ⟨(fun b hb => rfl), dqg rfl (v := .int .i64 (raw.length : Nat)) (o_lenR (hvr.rd hM27 (i := 1) rfl) rfl rfl) <| dqg rfl (v := .int .i64 (raw.length + (wrB [] k v).length : Nat)) (o_bin rfl rfl ((v_add64 (by omega)).trans (v_int (by omega)))) <| dgyesl rfl <| dl (m_call (size_ok bb R _ (raw.length + (wrB [] k v).length : Nat) (n + 1) wd (hM27.at (i := 0) (j := 0) rfl rfl) hR (by omega) (by omega)) rfl fun v29 w29 ⟨hr29, hu29⟩ => ?_)⟩)
 have hM29 : Mem w (ids (⟨bb, 53, [.int .i64 (R : Nat), .int .i64 (M : Nat), vr, vs, .string (str last), .int .i64 (n : Nat)]⟩ :: (rr ++ rs))) w29 [[⟨bb, 53, [.int .i64 (R : Nat), .int .i64 (M : Nat), vr, vs, .string (str last), .int .i64 (n : Nat)]⟩], rr, rs, rs24] := hM27.pure hu29
 subst hr29
 have hh29 := held_upd (wr := wd) (bs := [bb]) hu29 (fun b hb => by
  simp only [List.mem_cons, List.not_mem_nil, or_false] at hb
  rw [hb]; exact ⟨(hM27.at (i := 0) (j := 0) rfl rfl).lt, by simp⟩) (fun b hb => rfl)
 refine ⟨hh29, dgbn rfl rfl rfl <| dpkT rfl <| h26 _ _ <| cndP rfl (fun c30 => ?_) (fun c30 => ?_)⟩
 ·refine seq fun _ h31 => mv <| h31 _ _ <| ⟨(.int .i64 62), rfl, ?_⟩
  have he : addE R M raw last n k v = 62 := by unfold addE; rw [if_neg (by omega), if_neg (by omega), if_pos (by rw [ha]; omega)]
  rw [he]
  exact ⟨_, rfl, fun _ => ⟨_, _, _, _, rfl, hvr, hvs⟩, fun h => absurd h (by omega), hM29.keep (by simp)⟩
 refine h25 _ _ <| seq fun _ h32 => seq fun _ h33 => mv <| h33 _ _ <| cndP rfl (fun c34 => ?_) (fun c34 => (c34 (by omega)).elim)
 intro wd e1 e2 e3 e4
 have hd := Upd.same e1 e2 e3 e4 []
 have hM35 := hM29.pure hd
 clear e1 e2 e3 e4
 refine ⟨(some []), ?_⟩
 show vd _ _ _ _ _ _ _
 refine dmv <| dmv <| dq (v := .pointer (some ⟨bb, 0, none⟩)) (o_nilchk rfl rfl) <| dfa rfl <| dmv <| dq (v := .pointer (some ⟨bb, 0, none⟩)) (o_nilchk rfl rfl) <| dfa rfl ?_
 show _ ∧ _
 refine ⟨?_, ?_⟩
 ·show vd _ _ _ _ _ _ _
  refine dl (m_ld (v := vs) hM35 (i := 0) (j := 0) rfl rfl rfl rfl <| ⟨(fun b hb => by cases hb), dl (m_ld (v := vr) hM35 (i := 0) (j := 0) rfl rfl rfl rfl <| ⟨(fun b hb => by cases hb), dq (v := .int .i64 (raw.length : Nat)) (o_lenR (hvr.rd hM35 (i := 1) rfl) rfl rfl) <| dl (m_bs hM35 rfl fun b36 w37 (hM37 : Mem w (ids (⟨bb, 53, [.int .i64 (R : Nat), .int .i64 (M : Nat), vr, vs, .string (str last), .int .i64 (n : Nat)]⟩ :: (rr ++ rs))) w37 [[⟨bb, 53, [.int .i64 (R : Nat), .int .i64 (M : Nat), vr, vs, .string (str last), .int .i64 (n : Nat)]⟩], rr, rs, rs24, [⟨b36, 3, [.int .i64 (raw.length : Nat)]⟩]]) => ⟨(fun b hb => by cases hb), dl (m_appE hM37 (i := 2) rfl hvs rfl rfl (own_rdE (E := i64V) (l := [(((raw.length : Nat)) : Int)]) (hM37.at (i := 4) (j := 0) rfl rfl) rfl) (by first | omega | (simp; omega)) (by omega) fun v38 w38 r38 (hs38 : SlE i64V 3 v38 (st ++ ([(((raw.length : Nat)) : Int)])) r38) (hM38 : Mem _ _ w38 [_, _, r38, _, _]) => ⟨(fun b hb => by cases hb), dq (v := .pointer (some ⟨bb, 0, none⟩)) (o_nilchk rfl rfl) <| dfa rfl <| dl (m_st (v := v38) hM38 (i := 0) rfl rfl rfl (Sl.one hs38) (by simp) fun w39 (hM39 : Mem _ _ w39 [[⟨bb, 53, [.int .i64 (R : Nat), .int .i64 (M : Nat), vr, v38, .string (str last), .int .i64 (n : Nat)]⟩], _, _, _, _]) => ⟨(fun b hb => by cases hb), h32 _ _ ?_⟩)⟩)⟩)⟩)⟩)
  refine seq fun _ h40 => mv <| mv <| nilchk rfl <| fa rfl <| m_ld (v := vr) hM39 (i := 0) (j := 0) rfl rfl rfl rfl <| mv <| m_appE hM39 (i := 1) rfl hvr rfl rfl (hs24.rd hM39 (i := 3) rfl) (by first | omega | (simp; omega)) (by omega) fun v41 w41 r41 (hs41 : SlE byteV 5 v41 (raw ++ (wrB ([]) k v)) r41) (hM41 : Mem _ _ w41 [_, r41, _, _, _]) => nilchk rfl <| fa rfl <| m_st (v := v41) hM41 (i := 0) rfl rfl rfl (Sl.one hs41) (by simp) fun w42 (hM42 : Mem _ _ w42 [[⟨bb, 53, [.int .i64 (R : Nat), .int .i64 (M : Nat), v41, v38, .string (str last), .int .i64 (n : Nat)]⟩], _, _, _, _]) => h40 _ _ <| seq fun _ h43 => mv ?_
  refine mv <| nilchk rfl <| fa rfl <| m_st (v := .string (str k)) hM42 (i := 0) rfl rfl rfl rfl (by simp) fun w44 (hM44 : Mem _ _ w44 [[⟨bb, 53, [.int .i64 (R : Nat), .int .i64 (M : Nat), v41, v38, .string (str k), .int .i64 (n : Nat)]⟩], _, _, _, _]) => h43 _ _ <| seq fun _ h45 => mv <| nilchk rfl <| fa rfl <| m_ld (v := .int .i64 (n : Nat)) hM44 (i := 0) (j := 0) rfl rfl rfl rfl <| stp (v := .int .i64 ((n : Nat) + 1)) (o_bin rfl rfl (v_add64 (by omega))) <| nilchk rfl <| fa rfl <| m_st (v := .int .i64 ((n : Nat) + 1)) hM44 (i := 0) rfl rfl rfl rfl (by simp) fun w46 (hM46 : Mem _ _ w46 [[⟨bb, 53, [.int .i64 (R : Nat), .int .i64 (M : Nat), v41, v38, .string (str k), .int .i64 ((n : Nat) + 1)]⟩], _, _, _, _]) => ?_
  refine h45 _ _ <| seq fun _ h47 => mv <| h47 _ _ <| ⟨(.int .i64 0), rfl, ?_⟩
  have he : addE R M raw last n k v = 0 := by unfold addE; rw [if_neg (by omega), if_neg (by omega), if_neg (by first | omega | (rw [ha]; omega))]
  rw [he, ha, if_pos hs]
  exact ⟨_, rfl, fun h => absurd rfl h, fun _ => ⟨_, _, _, _, rfl, by assumption, by assumption⟩, hM46.keep (by simp)⟩
 show vd _ _ _ _ _ _ _
 refine dl (m_ld (v := vr) hM35 (i := 0) (j := 0) rfl rfl rfl rfl <| ⟨(fun b hb => by cases hb), dq (v := .int .i64 (raw.length : Nat)) (o_lenR (hvr.rd hM35 (i := 1) rfl) rfl rfl) ?_⟩)
 show _ ∧ _
 refine ⟨?_, ?_⟩
 ·show vd _ _ _ _ _ _ _
  refine dl (m_ld (v := vs) hM35 (i := 0) (j := 0) rfl rfl rfl rfl <| ⟨(fun b hb => by cases hb), dl (m_bs hM35 rfl fun b48 w49 (hM49 : Mem w (ids (⟨bb, 53, [.int .i64 (R : Nat), .int .i64 (M : Nat), vr, vs, .string (str last), .int .i64 (n : Nat)]⟩ :: (rr ++ rs))) w49 [[⟨bb, 53, [.int .i64 (R : Nat), .int .i64 (M : Nat), vr, vs, .string (str last), .int .i64 (n : Nat)]⟩], rr, rs, rs24, [⟨b48, 3, [.int .i64 (raw.length : Nat)]⟩]]) => ⟨(fun b hb => by cases hb), dl (m_appE hM49 (i := 2) rfl hvs rfl rfl (own_rdE (E := i64V) (l := [(((raw.length : Nat)) : Int)]) (hM49.at (i := 4) (j := 0) rfl rfl) rfl) (by first | omega | (simp; omega)) (by omega) fun v50 w50 r50 (hs50 : SlE i64V 3 v50 (st ++ ([(((raw.length : Nat)) : Int)])) r50) (hM50 : Mem _ _ w50 [_, _, r50, _, _]) => ⟨(fun b hb => by cases hb), dq (v := .pointer (some ⟨bb, 0, none⟩)) (o_nilchk rfl rfl) <| dfa rfl <| dl (m_st (v := v50) hM50 (i := 0) rfl rfl rfl (Sl.one hs50) (by simp) fun w51 (hM51 : Mem _ _ w51 [[⟨bb, 53, [.int .i64 (R : Nat), .int .i64 (M : Nat), vr, v50, .string (str last), .int .i64 (n : Nat)]⟩], _, _, _, _]) => ⟨(fun b hb => by cases hb), h32 _ _ <| seq fun _ h52 => mv <| mv ?_⟩)⟩)⟩)⟩)
  refine nilchk rfl <| fa rfl <| m_ld (v := vr) hM51 (i := 0) (j := 0) rfl rfl rfl rfl <| mv <| m_appE hM51 (i := 1) rfl hvr rfl rfl (hs24.rd hM51 (i := 3) rfl) (by first | omega | (simp; omega)) (by omega) fun v53 w53 r53 (hs53 : SlE byteV 5 v53 (raw ++ (wrB ([]) k v)) r53) (hM53 : Mem _ _ w53 [_, r53, _, _, _]) => nilchk rfl <| fa rfl <| m_st (v := v53) hM53 (i := 0) rfl rfl rfl (Sl.one hs53) (by simp) fun w54 (hM54 : Mem _ _ w54 [[⟨bb, 53, [.int .i64 (R : Nat), .int .i64 (M : Nat), v53, v50, .string (str last), .int .i64 (n : Nat)]⟩], _, _, _, _]) => h52 _ _ <| seq fun _ h55 => mv <| mv <| nilchk rfl <| fa rfl ?_
  refine m_st (v := .string (str k)) hM54 (i := 0) rfl rfl rfl rfl (by simp) fun w56 (hM56 : Mem _ _ w56 [[⟨bb, 53, [.int .i64 (R : Nat), .int .i64 (M : Nat), v53, v50, .string (str k), .int .i64 (n : Nat)]⟩], _, _, _, _]) => h55 _ _ <| seq fun _ h57 => mv <| nilchk rfl <| fa rfl <| m_ld (v := .int .i64 (n : Nat)) hM56 (i := 0) (j := 0) rfl rfl rfl rfl <| stp (v := .int .i64 ((n : Nat) + 1)) (o_bin rfl rfl (v_add64 (by omega))) <| nilchk rfl <| fa rfl <| m_st (v := .int .i64 ((n : Nat) + 1)) hM56 (i := 0) rfl rfl rfl rfl (by simp) fun w58 (hM58 : Mem _ _ w58 [[⟨bb, 53, [.int .i64 (R : Nat), .int .i64 (M : Nat), v53, v50, .string (str k), .int .i64 ((n : Nat) + 1)]⟩], _, _, _, _]) => h57 _ _ <| seq fun _ h59 => mv ?_
  refine h59 _ _ <| ⟨(.int .i64 0), rfl, ?_⟩
  have he : addE R M raw last n k v = 0 := by unfold addE; rw [if_neg (by omega), if_neg (by omega), if_neg (by first | omega | (rw [ha]; omega))]
  rw [he, ha, if_pos hs]
  exact ⟨_, rfl, fun h => absurd rfl h, fun _ => ⟨_, _, _, _, rfl, by assumption, by assumption⟩, hM58.keep (by simp)⟩
 show vd _ _ _ _ _ _ _
 refine dl (m_bs hM35 rfl fun b60 w61 (hM61 : Mem w (ids (⟨bb, 53, [.int .i64 (R : Nat), .int .i64 (M : Nat), vr, vs, .string (str last), .int .i64 (n : Nat)]⟩ :: (rr ++ rs))) w61 [[⟨bb, 53, [.int .i64 (R : Nat), .int .i64 (M : Nat), vr, vs, .string (str last), .int .i64 (n : Nat)]⟩], rr, rs, rs24, [⟨b60, 3, [.int .i64 (raw.length : Nat)]⟩]]) => ⟨(fun b hb => by cases hb), dl (m_ld (v := vs) hM61 (i := 0) (j := 0) rfl rfl rfl rfl <| ⟨(fun b hb => by cases hb), dl (m_appE hM61 (i := 2) rfl hvs rfl rfl (own_rdE (E := i64V) (l := [(((raw.length : Nat)) : Int)]) (hM61.at (i := 4) (j := 0) rfl rfl) rfl) (by first | omega | (simp; omega)) (by omega) fun v62 w62 r62 (hs62 : SlE i64V 3 v62 (st ++ ([(((raw.length : Nat)) : Int)])) r62) (hM62 : Mem _ _ w62 [_, _, r62, _, _]) => ⟨(fun b hb => by cases hb), dq (v := .pointer (some ⟨bb, 0, none⟩)) (o_nilchk rfl rfl) <| dfa rfl <| dl (m_st (v := v62) hM62 (i := 0) rfl rfl rfl (Sl.one hs62) (by simp) fun w63 (hM63 : Mem _ _ w63 [[⟨bb, 53, [.int .i64 (R : Nat), .int .i64 (M : Nat), vr, v62, .string (str last), .int .i64 (n : Nat)]⟩], _, _, _, _]) => ⟨(fun b hb => by cases hb), h32 _ _ <| seq fun _ h64 => mv <| mv <| nilchk rfl <| fa rfl <| m_ld (v := vr) hM63 (i := 0) (j := 0) rfl rfl rfl rfl <| mv <| m_appE hM63 (i := 1) rfl hvr rfl rfl (hs24.rd hM63 (i := 3) rfl) (by first | omega | (simp; omega)) (by omega) fun v65 w65 r65 (hs65 : SlE byteV 5 v65 (raw ++ (wrB ([]) k v)) r65) (hM65 : Mem _ _ w65 [_, r65, _, _, _]) => nilchk rfl <| fa rfl <| m_st (v := v65) hM65 (i := 0) rfl rfl rfl (Sl.one hs65) (by simp) fun w66 (hM66 : Mem _ _ w66 [[⟨bb, 53, [.int .i64 (R : Nat), .int .i64 (M : Nat), v65, v62, .string (str last), .int .i64 (n : Nat)]⟩], _, _, _, _]) => h64 _ _ <| seq fun _ h67 => mv <| mv <| nilchk rfl <| fa rfl <| m_st (v := .string (str k)) hM66 (i := 0) rfl rfl rfl rfl (by simp) fun w68 (hM68 : Mem _ _ w68 [[⟨bb, 53, [.int .i64 (R : Nat), .int .i64 (M : Nat), v65, v62, .string (str k), .int .i64 (n : Nat)]⟩], _, _, _, _]) => h67 _ _ <| seq fun _ h69 => mv <| nilchk rfl <| fa rfl <| m_ld (v := .int .i64 (n : Nat)) hM68 (i := 0) (j := 0) rfl rfl rfl rfl <| stp (v := .int .i64 ((n : Nat) + 1)) (o_bin rfl rfl (v_add64 (by omega))) <| nilchk rfl <| fa rfl <| m_st (v := .int .i64 ((n : Nat) + 1)) hM68 (i := 0) rfl rfl rfl rfl (by simp) fun w70 (hM70 : Mem _ _ w70 [[⟨bb, 53, [.int .i64 (R : Nat), .int .i64 (M : Nat), v65, v62, .string (str k), .int .i64 ((n : Nat) + 1)]⟩], _, _, _, _]) => h69 _ _ <| seq fun _ h71 => mv <| h71 _ _ <| ⟨(.int .i64 0), rfl, ?_⟩⟩)⟩)⟩)⟩)
 have he : addE R M raw last n k v = 0 := by unfold addE; rw [if_neg (by omega), if_neg (by omega), if_neg (by first | omega | (rw [ha]; omega))]
 rw [he, ha, if_pos hs]
 exact ⟨_, rfl, fun h => absurd rfl h, fun _ => ⟨_, _, _, _, rfl, by assumption, by assumption⟩, hM70.keep (by simp)⟩
theorem Add_2 (bb R M : Nat) (raw : List UInt8) (st : List Int) (last : List UInt8) (n : Nat) (k v : List UInt8) (r0 : List Ent) (w : World) (hn : 0 < n) (hs : ¬ n % R = 0) (hB : BldS bb R M raw st last n r0) (hr : Res w r0) (hR : 1 ≤ R ∧ R ≤ 64) (hMl : M ≤ 65536) (hl : raw.length ≤ 65536 ∧ n ≤ 65536 ∧ st.length ≤ 65536 ∧ last.length ≤ 1024) (hk : k.length ≤ 140737488355328) (hv : v.length ≤ 140737488355328) : Calls Tryz.prog 7 [.pointer (some ⟨bb, 0, none⟩), .string (str k), .string (str v)].toArray w (Rt fun r w' => ∃ r', r = .int .i64 (addE R M raw last n k v) ∧ (¬ addE R M raw last n k v = 0 → BldS bb R M raw st last n r') ∧ (addE R M raw last n k v = 0 → BldS bb R M (raw ++ wrB (ahd R n last) k v) (if n % R = 0 then st ++ [(raw.length : Int)] else st) k (n + 1) r') ∧ Mem w (ids r0) w' [r']) := by
 obtain ⟨vr, vs, rr, rs, rfl, hvr, hvs⟩ := hB
 have hM0 : Mem w (ids (⟨bb, 53, [.int .i64 (R : Nat), .int .i64 (M : Nat), vr, vs, .string (str last), .int .i64 (n : Nat)]⟩ :: (rr ++ rs))) w [[⟨bb, 53, [.int .i64 (R : Nat), .int .i64 (M : Nat), vr, vs, .string (str last), .int .i64 (n : Nat)]⟩], rr, rs] := (Mem.start hr).keep (by simp)
 have ha : ahd R n last = last := by unfold ahd; rw [if_neg hs]
 refine calls_vc mixed Tryz.func7 rfl C7 (by simp [Tryz.ntmps7]) <| seq fun _ h1 => mv <| h1 _ _ <| seq fun _ h2 => seq fun _ h3 => mv <| stp (v := .bool false) (o_isnil rfl rfl) <| h3 _ _ <| cndF rfl <| h2 _ _ <| seq fun _ h4 => seq fun _ h5 => mv ?_
 refine stp (v := .int .i64 (k.length : Nat)) (o_lens rfl rfl) <| bn rfl rfl <| mv <| splitP rfl (fun c6 => ?_) (fun c6 => ?_)
 ·refine gx rfl <| gx rfl <| gx rfl <| pkT rfl <| h5 _ _ <| cndT rfl <| seq fun _ h7 => mv <| h7 _ _ <| ⟨(.int .i64 2), rfl, ?_⟩
  have he : addE R M raw last n k v = 2 := by unfold addE; rw [if_pos (by omega)]
  rw [he]
  exact ⟨_, rfl, fun _ => ⟨_, _, _, _, rfl, hvr, hvs⟩, fun h => absurd h (by omega), hM0.keep (by simp)⟩
 refine gmv rfl <| stg rfl (v := .int .i64 (v.length : Nat)) (o_lens rfl rfl) <| gbn rfl rfl rfl <| pkF rfl <| h5 _ _ <| cndP rfl (fun c8 => ?_) (fun c8 => ?_)
 ·refine seq fun _ h9 => mv <| h9 _ _ <| ⟨(.int .i64 2), rfl, ?_⟩
  have he : addE R M raw last n k v = 2 := by unfold addE; rw [if_pos (by omega)]
  rw [he]
  exact ⟨_, rfl, fun _ => ⟨_, _, _, _, rfl, hvr, hvs⟩, fun h => absurd h (by omega), hM0.keep (by simp)⟩
 refine h4 _ _ <| seq fun _ h10 => seq fun _ h11 => mv <| nilchk rfl <| fa rfl <| m_ld (v := .int .i64 (n : Nat)) hM0 (i := 0) (j := 0) rfl rfl rfl rfl <| bn rfl rfl <| mv <| splitP rfl (fun c12 => ?_) (fun c12 => (c12 (by omega)).elim)
 refine gmv rfl <| gmv rfl <| stg rfl (v := .pointer (some ⟨bb, 0, none⟩)) (o_nilchk rfl rfl) <| gfa rfl rfl <| gyesl rfl <| m_ld (v := .string (str last)) hM0 (i := 0) (j := 0) rfl rfl rfl rfl <| gyesl rfl <| m_call (Compare_ok k last w (by first | omega | (simp; done) | (simp; omega)) (by first | omega | (simp; done) | (simp; omega))) rfl fun v13 w13 ⟨hr13, hu13⟩ => ?_
 have hM13 : Mem _ _ w13 [_, _, _] := hM0.pure hu13
 subst hr13
 refine gbn rfl rfl rfl <| pkT rfl <| h11 _ _ <| cndP rfl (fun c14 => ?_) (fun c14 => ?_)
 ·refine seq fun _ h15 => mv <| h15 _ _ <| ⟨(.int .i64 61), rfl, ?_⟩
  have he : addE R M raw last n k v = 61 := by unfold addE; rw [if_neg (by omega), if_pos (by omega)]
  rw [he]
  exact ⟨_, rfl, fun _ => ⟨_, _, _, _, rfl, hvr, hvs⟩, fun h => absurd h (by omega), hM13.keep (by simp)⟩
 refine h10 _ _ <| seq fun _ h16 => ?_
 intro wd e1 e2 e3 e4
 have hd := Upd.same e1 e2 e3 e4 []
 have hM17 := hM13.pure hd
 clear e1 e2 e3 e4
 refine ⟨none, ?_⟩
 show vd _ _ _ _ _ _ _
 refine dmv <| dq (v := .pointer (some ⟨bb, 0, none⟩)) (o_nilchk rfl rfl) <| dfa rfl <| dl (m_ld (v := .int .i64 (R : Nat)) hM17 (i := 0) (j := 0) rfl rfl rfl rfl <| ⟨rfl, dbn rfl rfl <| dmv <| dsplitP rfl (fun c18 => ?_) (fun c18 => (c18 (by omega)).elim)⟩)
 refine dgmv rfl <| dqg rfl (v := .pointer (some ⟨bb, 0, none⟩)) (o_nilchk rfl rfl) <| dgfa rfl rfl <| dgmv rfl <| dqg rfl (v := .pointer (some ⟨bb, 0, none⟩)) (o_nilchk rfl rfl) <| dgfa rfl rfl <| dqgyes rfl rfl <| dqld rfl (trivial) (v := .int .i64 (R : Nat)) ((hM17.at (i := 0) (j := 0) rfl rfl).cell 0) <| dgyesl rfl <| dl (m_ld (v := .int .i64 (n : Nat)) hM17 (i := 0) (j := 0) rfl rfl rfl rfl <| ⟨rfl, dqg rfl (v := .int .i64 (n % R : Nat)) (o_rem rfl rfl (by omega) ((v_rem (Int.natCast_nonneg _)).trans rfl)) <| dgbn rfl rfl rfl <| dpkT rfl <| dmv <| h16 _ _ <| seq fun _ h19 => mv <| nilchk rfl <| fa rfl <| m_ld (v := .string (str last)) hM17 (i := 0) (j := 0) rfl rfl rfl rfl <| mv <| h19 _ _ <| seq fun _ h20 => seq fun _ h21 => mv <| h21 _ _ <| cndP rfl (fun c22 => absurd c22 (by omega)) (fun c22 => h20 _ _ <| seq fun _ h23 => mv <| mv <| mv <| m_call (written_ok last k v wd (by first | assumption | omega | (simp; done)) (by omega) (by omega)) rfl fun v24 w24 ⟨rs24, hs24, hm24⟩ => ?_)⟩)
 have hM24 : Mem w (ids (⟨bb, 53, [.int .i64 (R : Nat), .int .i64 (M : Nat), vr, vs, .string (str last), .int .i64 (n : Nat)]⟩ :: (rr ++ rs))) w24 [[⟨bb, 53, [.int .i64 (R : Nat), .int .i64 (M : Nat), vr, vs, .string (str last), .int .i64 (n : Nat)]⟩], rr, rs, rs24] := hM17.add hm24
 have hwl24 := wrB_len (a := last) (k := k) (v := v) (by omega) (by omega)
 refine mv <| h23 _ _ <| seq fun _ h25 => seq fun _ h26 => ?_
 intro wd e1 e2 e3 e4
 have hd := Upd.same e1 e2 e3 e4 []
 have hM27 := hM24.pure hd
 clear e1 e2 e3 e4
 refine ⟨(some [bb]), ?_⟩
 show vd _ _ _ _ _ _ _
 refine dmv <| dq (v := .pointer (some ⟨bb, 0, none⟩)) (o_nilchk rfl rfl) <| dfa rfl <| dl (m_ld (v := .int .i64 (n : Nat)) hM27 (i := 0) (j := 0) rfl rfl rfl rfl <| ⟨(fun b hb => rfl), dbn rfl rfl <| dmv <| dsplitP rfl (fun c28 => ?_) (fun c28 => (c28 (by omega)).elim)⟩)
 refine dgmv rfl <| dgmv rfl <| dqg rfl (v := .pointer (some ⟨bb, 0, none⟩)) (o_nilchk rfl rfl) <| dgfa rfl rfl <| dgmv rfl <| dqg rfl (v := .int .i64 ((wrB last k v).length : Nat)) (o_lenR (hs24.rd hM27 (i := 3) rfl) rfl rfl) <| dgmv rfl <| dqg rfl (v := .pointer (some ⟨bb, 0, none⟩)) (o_nilchk rfl rfl) <| dgfa rfl rfl <| dgmv rfl <| dqg rfl (v := .pointer (some ⟨bb, 0, none⟩)) (o_nilchk rfl rfl) <| dgfa rfl rfl <| dqgyes rfl rfl <| dqld rfl (by simp [isHeld]) (v := .int .i64 (M : Nat)) ((hM27.at (i := 0) (j := 0) rfl rfl).cell 1) <| dqgyes rfl rfl <| dqld rfl (by simp [isHeld]) (v := .int .i64 (n : Nat)) ((hM27.at (i := 0) (j := 0) rfl rfl).cell 5) <| dqg rfl (v := .int .i64 (n + 1 : Nat)) (o_bin rfl rfl ((v_add64 (by omega)).trans (v_int (by omega)))) <| dgyesl rfl <| dl (m_ld (v := vr) hM27 (i := 0) (j := 0) rfl rfl rfl rfl <| ⟨(fun b hb => rfl), dqg rfl (v := .int .i64 (raw.length : Nat)) (o_lenR (hvr.rd hM27 (i := 1) rfl) rfl rfl) <| dqg rfl (v := .int .i64 (raw.length + (wrB last k v).length : Nat)) (o_bin rfl rfl ((v_add64 (by omega)).trans (v_int (by omega)))) <| dgyesl rfl <| dl (m_call (size_ok bb R _ (raw.length + (wrB last k v).length : Nat) (n + 1) wd (hM27.at (i := 0) (j := 0) rfl rfl) hR (by omega) (by omega)) rfl fun v29 w29 ⟨hr29, hu29⟩ => ?_)⟩)
 have hM29 : Mem w (ids (⟨bb, 53, [.int .i64 (R : Nat), .int .i64 (M : Nat), vr, vs, .string (str last), .int .i64 (n : Nat)]⟩ :: (rr ++ rs))) w29 [[⟨bb, 53, [.int .i64 (R : Nat), .int .i64 (M : Nat), vr, vs, .string (str last), .int .i64 (n : Nat)]⟩], rr, rs, rs24] := hM27.pure hu29
 subst hr29
 have hh29 := held_upd (wr := wd) (bs := [bb]) hu29 (fun b hb => by
  simp only [List.mem_cons, List.not_mem_nil, or_false] at hb
  rw [hb]; exact ⟨(hM27.at (i := 0) (j := 0) rfl rfl).lt, by simp⟩) (fun b hb => rfl)
 refine ⟨hh29, dgbn rfl rfl rfl <| dpkT rfl <| h26 _ _ <| cndP rfl (fun c30 => ?_) (fun c30 => ?_)⟩
 ·refine seq fun _ h31 => mv <| h31 _ _ <| ⟨(.int .i64 62), rfl, ?_⟩
  have he : addE R M raw last n k v = 62 := by unfold addE; rw [if_neg (by omega), if_neg (by omega), if_pos (by rw [ha]; omega)]
  rw [he]
  exact ⟨_, rfl, fun _ => ⟨_, _, _, _, rfl, hvr, hvs⟩, fun h => absurd h (by omega), hM29.keep (by simp)⟩
 refine h25 _ _ <| seq fun _ h32 => seq fun _ h33 => mv <| h33 _ _ <| cndP rfl (fun c34 => absurd c34 (by omega)) (fun c34 => h32 _ _ <| seq fun _ h35 => mv <| mv <| nilchk rfl <| fa rfl <| m_ld (v := vr) hM29 (i := 0) (j := 0) rfl rfl rfl rfl <| mv <| m_appE hM29 (i := 1) rfl hvr rfl rfl (hs24.rd hM29 (i := 3) rfl) (by first | omega | (simp; omega)) (by omega) fun v36 w36 r36 (hs36 : SlE byteV 5 v36 (raw ++ (wrB last k v)) r36) (hM36 : Mem _ _ w36 [_, r36, _, _]) => nilchk rfl <| fa rfl <| m_st (v := v36) hM36 (i := 0) rfl rfl rfl (Sl.one hs36) (by simp) fun w37 (hM37 : Mem _ _ w37 [[⟨bb, 53, [.int .i64 (R : Nat), .int .i64 (M : Nat), v36, vs, .string (str last), .int .i64 (n : Nat)]⟩], _, _, _]) => h35 _ _ <| seq fun _ h38 => mv <| mv <| nilchk rfl <| fa rfl <| m_st (v := .string (str k)) hM37 (i := 0) rfl rfl rfl rfl (by simp) fun w39 (hM39 : Mem _ _ w39 [[⟨bb, 53, [.int .i64 (R : Nat), .int .i64 (M : Nat), v36, vs, .string (str k), .int .i64 (n : Nat)]⟩], _, _, _]) => h38 _ _ <| seq fun _ h40 => mv <| nilchk rfl <| fa rfl <| m_ld (v := .int .i64 (n : Nat)) hM39 (i := 0) (j := 0) rfl rfl rfl rfl <| stp (v := .int .i64 ((n : Nat) + 1)) (o_bin rfl rfl (v_add64 (by omega))) <| nilchk rfl <| fa rfl <| m_st (v := .int .i64 ((n : Nat) + 1)) hM39 (i := 0) rfl rfl rfl rfl (by simp) fun w41 (hM41 : Mem _ _ w41 [[⟨bb, 53, [.int .i64 (R : Nat), .int .i64 (M : Nat), v36, vs, .string (str k), .int .i64 ((n : Nat) + 1)]⟩], _, _, _]) => h40 _ _ <| seq fun _ h42 => mv <| h42 _ _ <| ⟨(.int .i64 0), rfl, ?_⟩)
 have he : addE R M raw last n k v = 0 := by unfold addE; rw [if_neg (by omega), if_neg (by omega), if_neg (by first | omega | (rw [ha]; omega))]
 rw [he, ha, if_neg hs]
 exact ⟨_, rfl, fun h => absurd rfl h, fun _ => ⟨_, _, _, _, rfl, by assumption, by assumption⟩, hM41.keep (by simp)⟩
theorem Add_ok (bb R M : Nat) (raw : List UInt8) (st : List Int) (last : List UInt8) (n : Nat) (k v : List UInt8) (r0 : List Ent) (w : World) (hB : BldS bb R M raw st last n r0) (hr : Res w r0) (hR : 1 ≤ R ∧ R ≤ 64) (hMl : M ≤ 65536) (hl : raw.length ≤ 65536 ∧ n ≤ 65536 ∧ st.length ≤ 65536 ∧ last.length ≤ 1024) (hk : k.length ≤ 140737488355328) (hv : v.length ≤ 140737488355328) : Calls Tryz.prog 7 [.pointer (some ⟨bb, 0, none⟩), .string (str k), .string (str v)].toArray w (Rt fun r w' => ∃ r', r = .int .i64 (addE R M raw last n k v) ∧ (¬ addE R M raw last n k v = 0 → BldS bb R M raw st last n r') ∧ (addE R M raw last n k v = 0 → BldS bb R M (raw ++ wrB (ahd R n last) k v) (if n % R = 0 then st ++ [(raw.length : Int)] else st) k (n + 1) r') ∧ Mem w (ids r0) w' [r']) := by
 by_cases hn : n = 0
 ·exact Add_0 bb R M raw st last n k v r0 w hn hB hr hR hMl hl hk hv
 by_cases hs : n % R = 0
 ·exact Add_1 bb R M raw st last n k v r0 w (by omega) hs hB hr hR hMl hl hk hv
 exact Add_2 bb R M raw st last n k v r0 w (by omega) hs hB hr hR hMl hl hk hv
end Go.Proofs.YtifnmbmijljhfaaGreat.E
namespace Go.Proofs.YtifnmbmijljhfaaGreat.E.Lz
open Go
structure Tk where
 ad : Option Addr
 ln : Nat
 cp : Nat
 bs : List UInt8
 d : Int
 n : Int
abbrev Tk.lit (t : Tk) : Value := .slice t.ad t.ln t.cp
def tokC (t : Tk) : List Value := [.slice t.ad t.ln t.cp, .int .i64 t.d, .int .i64 t.n]
instance : Enc tokC 3 := ⟨fun _ => rfl, by omega, fun c => by intro v hv; simp only [tokC, List.mem_cons, List.not_mem_nil, or_false] at hv; rcases hv with rfl | rfl | rfl <;> rfl⟩
def tz : Tk := ⟨none, 0, 0, [], 0, 0⟩
abbrev Pk := List UInt8 × Int × Int
abbrev Tk.p (t : Tk) : Pk := (t.bs, t.d, t.n)
def Tk.ok (w : World) (t : Tk) : Prop := RdE byteV w t.lit t.bs ∧ inK .i64 t.d ∧ inK .i64 t.n ∧ t.bs.length ≤ 140737488351232
def agn (text : List UInt8) (d : Nat) : Nat → List UInt8
 | 0 => text
 | k + 1 => agn text d k ++ [(agn text d k).getD ((agn text d k).length - d) 0]
theorem agn_len (text : List UInt8) (d : Nat) : ∀ k, (agn text d k).length = text.length + k
 | 0 => rfl
 | k + 1 => by rw [agn, List.length_append, agn_len text d k]; rfl
def noneT (t : Pk) : Prop := t.2.1 = 0 ∧ t.2.2 = 0
instance (t : Pk) : Decidable (noneT t) := by unfold noneT; infer_instance
def okT (t : Pk) (m : Int) (last : Bool) : Prop := if noneT t then last = true ∧ 0 < t.1.length else 4 ≤ t.2.2 ∧ t.2.2 ≤ 259 ∧ 1 ≤ t.2.1 ∧ t.2.1 ≤ 32768 ∧ t.2.1 ≤ m
instance (t : Pk) (m : Int) (last : Bool) : Decidable (okT t m last) := by unfold okT; infer_instance
theorem okT_none {t : Pk} {m : Int} {last : Bool} (h : noneT t) : okT t m last ↔ last = true ∧ 0 < t.1.length := by unfold okT; rw [if_pos h]
theorem okT_some {t : Pk} {m : Int} {last : Bool} (h : ¬ noneT t) : okT t m last ↔ 4 ≤ t.2.2 ∧ t.2.2 ≤ 259 ∧ 1 ≤ t.2.1 ∧ t.2.1 ≤ 32768 ∧ t.2.1 ≤ m := by unfold okT; rw [if_neg h]
theorem okT_bd {t : Pk} {m : Int} {last : Bool} (h : okT t m last) : 0 ≤ t.2.2 ∧ t.2.2 ≤ 259 ∧ 0 ≤ t.2.1 ∧ t.2.1 ≤ 32768 ∧ (0 < t.2.2 → 1 ≤ t.2.1 ∧ t.2.1 ≤ m) ∧ (t.2.2 = 0 ↔ noneT t) ∧ (t.2.2 = 0 → 0 < t.1.length) ∧ (¬ t.2.2 = 0 → 4 ≤ t.2.2) := by
 by_cases c : noneT t
 ·rw [okT_none c] at h
  unfold noneT at c ⊢; omega
 rw [okT_some c] at h
 refine ⟨by omega, by omega, by omega, by omega, fun _ => by omega, ⟨fun h => by omega, fun h => absurd h c⟩, by omega, by omega⟩
def expG : List Pk → List UInt8 → List UInt8 × Int
 | [], text => (text, 0)
 | t :: ts, text => if ¬ okT t (text.length + t.1.length : Nat) (decide (ts = [])) then ([], 31) else if 65536 < ((text.length + t.1.length : Nat) : Int) + t.2.2 then ([], 2) else expG ts (agn (text ++ t.1) t.2.1.toNat t.2.2.toNat)
def expF (ts : List Pk) : List UInt8 × Int := expG ts []
def pz : Pk := ([], 0, 0)
theorem last_iff {α : Type} {l : List α} {i : Nat} (h : i < l.length) : (l.drop (i + 1) = []) ↔ (i : Int) = (l.length : Int) - 1 := by
 rw [List.drop_eq_nil_iff]; omega
theorem exp_tok {ts : List Pk} {i : Nat} {T : List UInt8} (h : i < ts.length) (hE : expF ts = expG (ts.drop i) T) (h1 : ¬ okT (ts.getD i pz) (T.length + (ts.getD i pz).1.length : Nat) (decide ((i : Int) = (ts.length : Int) - 1))) : expF ts = ([], 31) := by
 rw [hE, dropG pz h, expG, if_pos]
 rw [decide_eq_decide.2 (last_iff h)]; exact h1
theorem exp_long {ts : List Pk} {i : Nat} {T : List UInt8} (h : i < ts.length) (hE : expF ts = expG (ts.drop i) T) (h1 : okT (ts.getD i pz) (T.length + (ts.getD i pz).1.length : Nat) (decide ((i : Int) = (ts.length : Int) - 1))) (h2 : 65536 < ((T.length + (ts.getD i pz).1.length : Nat) : Int) + (ts.getD i pz).2.2) : expF ts = ([], 2) := by
 rw [hE, dropG pz h, expG, if_neg, if_pos h2]
 rw [decide_eq_decide.2 (last_iff h)]; exact fun h => h h1
theorem exp_go {ts : List Pk} {i : Nat} {T : List UInt8} (h : i < ts.length) (hE : expF ts = expG (ts.drop i) T) (h1 : okT (ts.getD i pz) (T.length + (ts.getD i pz).1.length : Nat) (decide ((i : Int) = (ts.length : Int) - 1))) (h2 : ¬ 65536 < ((T.length + (ts.getD i pz).1.length : Nat) : Int) + (ts.getD i pz).2.2) : expF ts = expG (ts.drop (i + 1)) (agn (T ++ (ts.getD i pz).1) (ts.getD i pz).2.1.toNat (ts.getD i pz).2.2.toNat) := by
 rw [hE, dropG pz h, expG, if_neg, if_neg h2]
 rw [decide_eq_decide.2 (last_iff h)]; exact fun h => h h1
theorem exp_end {ts : List Pk} {i : Nat} {T : List UInt8} (h : ts.length ≤ i) (hE : expF ts = expG (ts.drop i) T) : expF ts = (T, 0) := by
 rw [hE, List.drop_eq_nil_of_le h]; rfl
theorem expG_bd : ∀ (ts : List Pk) (T : List UInt8), (expG ts T).2 = 0 → (∀ t ∈ ts, 0 ≤ t.2.2 ∧ t.2.2 ≤ 259 ∧ 0 ≤ t.2.1 ∧ t.2.1 ≤ 32768 ∧ (t.2.2 = 0 ↔ noneT t)) ∧ (ts.length : Nat) + (ts.map fun t => t.1.length).sum + T.length ≤ (expG ts T).1.length + 1 * ts.length ∧ T.length + ts.length ≤ (expG ts T).1.length
 | [], T, _ => by simp [expG]
 | t :: ts, T, h => by
  rw [expG] at h ⊢
  split at h
  ·simp at h
  rename_i h1
  have h1 := Decidable.not_not.1 h1
  split at h
  ·simp at h
  rename_i h2
  have hb := okT_bd h1
  obtain ⟨k1, k2, k3⟩ := expG_bd ts _ h
  rw [if_neg (fun h => h h1), if_neg h2]
  rw [agn_len, List.length_append] at k2 k3
  refine ⟨?_, ?_, ?_⟩
  ·intro x hx
   rcases List.mem_cons.1 hx with rfl | hx
   ·exact ⟨hb.1, hb.2.1, hb.2.2.1, hb.2.2.2.1, hb.2.2.2.2.2.1⟩
   exact k1 x hx
  ·simp only [List.length_cons, List.map_cons, List.sum_cons]; omega
  simp only [List.length_cons]
  have := hb.2.2.2.2.2.2.1; have := hb.2.2.2.2.2.2.2
  omega
theorem expG_le : ∀ (ts : List Pk) (T : List UInt8), T.length ≤ 65536 → (expG ts T).1.length ≤ 65536
 | [], T, h => h
 | t :: ts, T, h => by
  rw [expG]
  split
  ·simp
  split
  ·simp
  rename_i h1 h2
  have hb := okT_bd (Decidable.not_not.1 h1)
  exact expG_le ts _ (by rw [agn_len, List.length_append]; omega)
theorem expF_le (ts : List Pk) : (expF ts).1.length ≤ 65536 := expG_le ts [] (by simp)
def tokB (t : Pk) : List UInt8 := putI (t.1.length : Nat) ++ t.1 ++ (if noneT t then [] else putI (t.2.2 - 4) ++ putI t.2.1)
def toksB (ts : List Pk) : List UInt8 := ts.flatMap tokB
def wrF (ts : List Pk) : List UInt8 × Int := if (expF ts).2 = 0 then (toksB ts, 0) else ([], (expF ts).2)
theorem wrF_ok {ts : List Pk} (h : (expF ts).2 = 0) : wrF ts = (toksB ts, 0) := by unfold wrF; rw [if_pos h]
theorem wrF_no {ts : List Pk} (h : ¬ (expF ts).2 = 0) : wrF ts = ([], (expF ts).2) := by unfold wrF; rw [if_neg h]
theorem toksB_snoc {ts : List Pk} {i : Nat} (h : i < ts.length) : toksB (ts.take (i + 1)) = toksB (ts.take i) ++ tokB (ts.getD i pz) := by
 unfold toksB; rw [takeG pz h, List.flatMap_append]; simp
theorem bool_iff {p q : Prop} [Decidable p] [Decidable q] (h : p ↔ q) : Value.bool (decide p) = .bool (decide q) := by rw [decide_eq_decide.2 h]
theorem bool_no {q : Prop} [Decidable q] (h : ¬ q) : Value.bool false = .bool (decide q) := by rw [decide_eq_false h]
theorem mapG (ts : List Tk) (i : Nat) : (ts.map Tk.p).getD i pz = (ts.getD i tz).p := by
 rw [List.getD_eq_getElem?_getD, List.getD_eq_getElem?_getD, List.getElem?_map]
 cases ts[i]? <;> rfl
section
variable {ts : List Tk} {i : Nat} {T : List UInt8}
theorem exT_tok (h : i < ts.length) (hE : expF (ts.map Tk.p) = expG ((ts.map Tk.p).drop i) T) (h1 : ¬ okT (ts.getD i tz).p (T.length + (ts.getD i tz).bs.length : Nat) (decide ((i : Int) = (ts.length : Int) - 1))) : expF (ts.map Tk.p) = ([], 31) := by
 refine exp_tok (i := i) (T := T) (by simpa using h) hE ?_
 rw [mapG, List.length_map]; exact h1
theorem exT_long (h : i < ts.length) (hE : expF (ts.map Tk.p) = expG ((ts.map Tk.p).drop i) T) (h1 : okT (ts.getD i tz).p (T.length + (ts.getD i tz).bs.length : Nat) (decide ((i : Int) = (ts.length : Int) - 1))) (h2 : 65536 < ((T.length + (ts.getD i tz).bs.length : Nat) : Int) + (ts.getD i tz).n) : expF (ts.map Tk.p) = ([], 2) := by
 refine exp_long (i := i) (T := T) (by simpa using h) hE ?_ ?_
 ·rw [mapG, List.length_map]; exact h1
 rw [mapG]; exact h2
theorem exT_go (h : i < ts.length) (hE : expF (ts.map Tk.p) = expG ((ts.map Tk.p).drop i) T) (h1 : okT (ts.getD i tz).p (T.length + (ts.getD i tz).bs.length : Nat) (decide ((i : Int) = (ts.length : Int) - 1))) (h2 : ¬ 65536 < ((T.length + (ts.getD i tz).bs.length : Nat) : Int) + (ts.getD i tz).n) : expF (ts.map Tk.p) = expG ((ts.map Tk.p).drop (i + 1)) (agn (T ++ (ts.getD i tz).bs) (ts.getD i tz).d.toNat (ts.getD i tz).n.toNat) := by
 have := exp_go (ts := ts.map Tk.p) (i := i) (T := T) (by simpa using h) hE (by rw [mapG, List.length_map]; exact h1) (by rw [mapG]; exact h2)
 rwa [mapG] at this
theorem exT_end (h : ts.length ≤ i) (hE : expF (ts.map Tk.p) = expG ((ts.map Tk.p).drop i) T) : expF (ts.map Tk.p) = (T, 0) := exp_end (i := i) (by simpa using h) hE
theorem toksT_snoc (h : i < ts.length) : toksB ((ts.take (i + 1)).map Tk.p) = toksB ((ts.take i).map Tk.p) ++ tokB (ts.getD i tz).p := by
 have := toksB_snoc (ts := ts.map Tk.p) (i := i) (by simpa using h)
 rwa [mapG, ← List.map_take, ← List.map_take] at this
end
theorem exT_sum {ts : List Tk} (h : (expF (ts.map Tk.p)).2 = 0) : (ts.map fun t => t.bs.length).sum ≤ 65536 ∧ ts.length ≤ 65536 ∧ (∀ i, i < ts.length → 0 ≤ (ts.getD i tz).n ∧ (ts.getD i tz).n ≤ 259 ∧ 0 ≤ (ts.getD i tz).d ∧ (ts.getD i tz).d ≤ 32768 ∧ ((ts.getD i tz).n = 0 ↔ noneT (ts.getD i tz).p)) := by
 obtain ⟨h1, h2, h3⟩ := expG_bd (ts.map Tk.p) [] h
 have hle := expF_le (ts.map Tk.p)
 unfold expF at hle
 have hm : (List.map (fun t : Pk => t.1.length) (List.map Tk.p ts)) = ts.map fun t => t.bs.length := by rw [List.map_map]; rfl
 rw [hm] at h2
 simp only [List.length_map, List.length_nil] at h2 h3
 refine ⟨by omega, by omega, fun i hi => h1 (ts.getD i tz).p (List.mem_map.2 ⟨_, getD_memG tz hi, rfl⟩)⟩
def sumL (ts : List Tk) (i : Nat) : Nat := ((ts.take i).map fun t => t.bs.length).sum
theorem sumL_succ {ts : List Tk} {i : Nat} (h : i < ts.length) : sumL ts (i + 1) = sumL ts i + (ts.getD i tz).bs.length := by
 unfold sumL; rw [takeG tz h, List.map_append, List.sum_append]; simp
theorem sum_app_le (a b : List Nat) : a.sum ≤ (a ++ b).sum := by rw [List.sum_append]; omega
theorem sumL_le (ts : List Tk) (i : Nat) : sumL ts i ≤ (ts.map fun t => t.bs.length).sum := by
 unfold sumL
 have : (ts.map fun t => t.bs.length) = ((ts.take i).map fun t => t.bs.length) ++ ((ts.drop i).map fun t => t.bs.length) := by rw [← List.map_append, List.take_append_drop]
 rw [this]; exact sum_app_le _ _
theorem okK_none {t : Tk} {m : Int} {last : Bool} (h : noneT t.p) : okT t.p m last ↔ last = true ∧ 0 < t.bs.length := okT_none h
theorem okK_some {t : Tk} {m : Int} {last : Bool} (h : ¬ noneT t.p) : okT t.p m last ↔ 4 ≤ t.n ∧ t.n ≤ 259 ∧ 1 ≤ t.d ∧ t.d ≤ 32768 ∧ t.d ≤ m := okT_some h
theorem noneK {t : Tk} : noneT t.p ↔ t.d = 0 ∧ t.n = 0 := Iff.rfl
theorem okK_bd {t : Tk} {m : Int} {last : Bool} (h : okT t.p m last) : 0 ≤ t.n ∧ t.n ≤ 259 ∧ 0 ≤ t.d ∧ t.d ≤ 32768 ∧ (0 < t.n → 1 ≤ t.d ∧ t.d ≤ m) ∧ (t.n = 0 ↔ noneT t.p) ∧ (t.n = 0 → 0 < t.bs.length) ∧ (¬ t.n = 0 → 4 ≤ t.n) := okT_bd h
theorem tokB_len {t : Tk} (h1 : t.bs.length ≤ 140737488355328) (h2 : inK .i64 (t.n - 4)) (h3 : inK .i64 t.d) : (tokB t.p).length ≤ t.bs.length + 27 := by
 have a1 := putI_len (v := ((t.bs.length : Nat) : Int)) (by omega)
 simp only [inK] at h2 h3
 have a2 := putI_len (v := t.n - 4) (by omega)
 have a3 := putI_len (v := t.d) (by omega)
 unfold tokB
 rw [List.length_append, List.length_append]
 split
 ·simp only [List.length_nil]; omega
 rw [List.length_append]; simp only [Tk.p]; omega
theorem tokB_none {t : Tk} (h : noneT t.p) : tokB t.p = putI (t.bs.length : Nat) ++ t.bs := by unfold tokB; rw [if_pos h, List.append_nil]
theorem tokB_some {t : Tk} (h : ¬ noneT t.p) : tokB t.p = putI (t.bs.length : Nat) ++ t.bs ++ putI (t.n - 4) ++ putI t.d := by unfold tokB; rw [if_neg h, List.append_assoc (putI _ ++ _)]
end Go.Proofs.YtifnmbmijljhfaaGreat.E.Lz
namespace Go.Proofs.YtifnmbmijljhfaaGreat.E.Lz
open Go
theorem none_ok (t : Tk) (w : World) : Calls Tryz.prog 111 [.agg (tokC t).toArray].toArray w (Rt fun r w' => r = .bool (decide (noneT t.p)) ∧ Upd [] w w') := by
 have hM0 : Mem w [] w [] := Mem.nil w []
 refine calls_vc mixed Tryz.func111 rfl C111 (by simp [Tryz.ntmps111]) <| seq fun _ h1 => m_bx (v := .agg ([t.lit, .int .i64 t.d, .int .i64 t.n] : List Value).toArray) hM0 rfl rfl fun b2 w3 (hM3 : Mem _ _ w3 [[⟨b2, 125, [t.lit, .int .i64 t.d, .int .i64 t.n]⟩]]) => mv <| h1 _ _ <| seq fun _ h4 => fa rfl <| m_ld (v := .int .i64 t.d) hM3 (i := 0) (j := 0) rfl rfl rfl rfl <| bn rfl rfl <| mv <| splitP rfl (fun c5 => ?_) (fun c5 => ?_)
 ·refine gfa rfl rfl <| gyesl rfl <| m_ld (v := .int .i64 t.n) hM3 (i := 0) (j := 0) rfl rfl rfl rfl <| gbn rfl rfl rfl <| pkT rfl <| mv <| h4 _ _ <| ⟨(.bool (decide (t.n = 0))), rfl, ⟨bool_iff (by rw [noneK]; omega), hM3.upd⟩⟩
 refine gx rfl <| gxl rfl <| gx rfl <| pkF rfl <| mv <| h4 _ _ <| ⟨(.bool false), rfl, ⟨bool_no (by rw [noneK]; omega), hM3.upd⟩⟩
theorem fits_ok (t : Tk) (m : Nat) (last : Bool) (w : World) (ht : RdE byteV w t.lit t.bs) (hm : m ≤ 140737488355328) (hl : t.bs.length ≤ 140737488355328) : Calls Tryz.prog 122 [.agg (tokC t).toArray, .int .i64 ((m : Nat) : Int), .bool last].toArray w (Rt fun r w' => r = .bool (decide (okT t.p ((m + t.bs.length : Nat) : Int) last)) ∧ Upd [] w w') := by
 have hM0 : Mem w [] w [] := Mem.nil w []
 refine calls_vc mixed Tryz.func122 rfl C122 (by simp [Tryz.ntmps122]) <| seq fun _ h1 => m_bx (v := .agg ([t.lit, .int .i64 ((t).d), .int .i64 ((t).n)] : List Value).toArray) hM0 rfl rfl fun b2 w3 (hM3 : Mem _ _ w3 [[⟨b2, 125, [t.lit, .int .i64 ((t).d), .int .i64 ((t).n)]⟩]]) => mv <| h1 _ _ <| seq fun _ h4 => seq fun _ h5 => fa rfl <| m_ld (v := .int .i64 ((t).d)) hM3 (i := 0) (j := 0) rfl rfl rfl rfl <| bn rfl rfl <| mv <| splitP rfl (fun c6 => ?_) (fun c6 => ?_)
 ·refine gfa rfl rfl <| gyesl rfl <| m_ld (v := .int .i64 ((t).n)) hM3 (i := 0) (j := 0) rfl rfl rfl rfl <| gbn rfl rfl rfl <| pkT rfl <| h5 _ _ <| cndP rfl (fun c7 => ?_) (fun c7 => ?_)
  ·refine seq fun _ h8 => mv <| mv <| split rfl (fun c9 => ?_) (fun c9 => ?_)
   ·refine gfa rfl rfl <| gyesl rfl <| m_ld (v := t.lit) hM3 (i := 0) (j := 0) rfl rfl rfl rfl <| stg rfl (v := .int .i64 (t.bs.length : Nat)) (o_lenR (ht.upd hM3.upd) rfl rfl) <| gbn rfl rfl rfl <| pkT rfl <| mv <| h8 _ _ <| ⟨(.bool (decide ((0 : Int) < ((t.bs.length : Nat) : Int)))), rfl, ⟨bool_iff (by rw [okK_none (by first | assumption | (rw [noneK]; omega))]; exact ⟨fun h => ⟨by assumption, by omega⟩, fun h => by have := h.2; omega⟩), hM3.upd⟩⟩
   refine gx rfl <| gxl rfl <| gx rfl <| gx rfl <| pkF rfl <| mv <| h8 _ _ <| ⟨(.bool false), rfl, ⟨bool_no (by rw [okK_none (by first | assumption | (rw [noneK]; omega))]; intro h; exact absurd h.1 (by simp [*])), hM3.upd⟩⟩
  refine h4 _ _ <| seq fun _ h10 => mv <| fa rfl <| m_ld (v := t.lit) hM3 (i := 0) (j := 0) rfl rfl rfl rfl <| stp (v := .int .i64 (t.bs.length : Nat)) (o_lenR (ht.upd hM3.upd) rfl rfl) <| stp (v := .int .i64 ((m : Nat) + (t.bs.length : Nat))) (o_bin rfl rfl (v_add64 (by omega))) <| mv <| h10 _ _ <| seq fun _ h11 => fa rfl <| m_ld (v := .int .i64 ((t).n)) hM3 (i := 0) (j := 0) rfl rfl rfl rfl <| bn rfl rfl <| mv <| splitP rfl (fun c12 => ?_) (fun c12 => ?_)
  ·refine gfa rfl rfl <| gyesl rfl <| m_ld (v := .int .i64 ((t).n)) hM3 (i := 0) (j := 0) rfl rfl rfl rfl <| gbn rfl rfl rfl <| pkT rfl <| mv <| splitP rfl (fun c13 => ?_) (fun c13 => ?_)
   ·refine gfa rfl rfl <| gyesl rfl <| m_ld (v := .int .i64 ((t).d)) hM3 (i := 0) (j := 0) rfl rfl rfl rfl <| gbn rfl rfl rfl <| pkT rfl <| mv <| splitP rfl (fun c14 => ?_) (fun c14 => ?_)
    ·refine gfa rfl rfl <| gyesl rfl <| m_ld (v := .int .i64 ((t).d)) hM3 (i := 0) (j := 0) rfl rfl rfl rfl <| gbn rfl rfl rfl <| pkT rfl <| mv <| splitP rfl (fun c15 => ?_) (fun c15 => ?_)
     ·refine gfa rfl rfl <| gyesl rfl <| m_ld (v := .int .i64 ((t).d)) hM3 (i := 0) (j := 0) rfl rfl rfl rfl <| gmv rfl <| gbn rfl rfl rfl <| pkT rfl <| mv <| h11 _ _ <| ⟨(.bool (decide (((t).d) ≤ ((m : Nat) + (t.bs.length : Nat))))), rfl, ?_⟩
      exfalso
      omega
     refine gx rfl <| gxl rfl <| gx rfl <| gx rfl <| pkF rfl <| mv <| h11 _ _ <| ⟨(.bool false), rfl, ?_⟩
     exfalso
     omega
    refine gx rfl <| gxl rfl <| gx rfl <| pkF rfl <| mv <| splitF rfl <| gx rfl <| gxl rfl <| gx rfl <| gx rfl <| pkF rfl <| mv <| h11 _ _ <| ⟨(.bool false), rfl, ⟨bool_no (by rw [okK_some (by first | assumption | (rw [noneK]; omega))]; omega), hM3.upd⟩⟩
   refine gx rfl <| gxl rfl <| gx rfl <| pkF rfl <| mv <| splitF rfl <| gx rfl <| gxl rfl <| gx rfl <| pkF rfl <| mv <| splitF rfl <| gx rfl <| gxl rfl <| gx rfl <| gx rfl <| pkF rfl <| mv <| h11 _ _ <| ⟨(.bool false), rfl, ⟨bool_no (by rw [okK_some (by first | assumption | (rw [noneK]; omega))]; omega), hM3.upd⟩⟩
  refine gx rfl <| gxl rfl <| gx rfl <| pkF rfl <| mv <| splitF rfl <| gx rfl <| gxl rfl <| gx rfl <| pkF rfl <| mv <| splitF rfl <| gx rfl <| gxl rfl <| gx rfl <| pkF rfl <| mv <| splitF rfl <| gx rfl <| gxl rfl <| gx rfl <| gx rfl <| pkF rfl <| mv <| h11 _ _ <| ⟨(.bool false), rfl, ⟨bool_no (by rw [okK_some (by first | assumption | (rw [noneK]; omega))]; omega), hM3.upd⟩⟩
 refine gx rfl <| gxl rfl <| gx rfl <| pkF rfl <| h5 _ _ <| cndF rfl <| h4 _ _ <| seq fun _ h16 => mv <| fa rfl <| m_ld (v := t.lit) hM3 (i := 0) (j := 0) rfl rfl rfl rfl <| stp (v := .int .i64 (t.bs.length : Nat)) (o_lenR (ht.upd hM3.upd) rfl rfl) <| stp (v := .int .i64 ((m : Nat) + (t.bs.length : Nat))) (o_bin rfl rfl (v_add64 (by omega))) <| mv <| h16 _ _ <| seq fun _ h17 => fa rfl <| m_ld (v := .int .i64 ((t).n)) hM3 (i := 0) (j := 0) rfl rfl rfl rfl <| bn rfl rfl <| mv <| splitP rfl (fun c18 => ?_) (fun c18 => ?_)
 ·refine gfa rfl rfl <| gyesl rfl <| m_ld (v := .int .i64 ((t).n)) hM3 (i := 0) (j := 0) rfl rfl rfl rfl <| gbn rfl rfl rfl <| pkT rfl <| mv <| splitP rfl (fun c19 => ?_) (fun c19 => ?_)
  ·refine gfa rfl rfl <| gyesl rfl <| m_ld (v := .int .i64 ((t).d)) hM3 (i := 0) (j := 0) rfl rfl rfl rfl <| gbn rfl rfl rfl <| pkT rfl <| mv <| splitP rfl (fun c20 => ?_) (fun c20 => ?_)
   ·refine gfa rfl rfl <| gyesl rfl <| m_ld (v := .int .i64 ((t).d)) hM3 (i := 0) (j := 0) rfl rfl rfl rfl <| gbn rfl rfl rfl <| pkT rfl <| mv <| splitP rfl (fun c21 => ?_) (fun c21 => ?_)
    ·refine gfa rfl rfl <| gyesl rfl <| m_ld (v := .int .i64 ((t).d)) hM3 (i := 0) (j := 0) rfl rfl rfl rfl <| gmv rfl <| gbn rfl rfl rfl <| pkT rfl <| mv <| h17 _ _ <| ⟨(.bool (decide (((t).d) ≤ ((m : Nat) + (t.bs.length : Nat))))), rfl, ⟨bool_iff (by rw [okK_some (by first | assumption | (rw [noneK]; omega))]; omega), hM3.upd⟩⟩
    refine gx rfl <| gxl rfl <| gx rfl <| gx rfl <| pkF rfl <| mv <| h17 _ _ <| ⟨(.bool false), rfl, ⟨bool_no (by rw [okK_some (by first | assumption | (rw [noneK]; omega))]; omega), hM3.upd⟩⟩
   refine gx rfl <| gxl rfl <| gx rfl <| pkF rfl <| mv <| splitF rfl <| gx rfl <| gxl rfl <| gx rfl <| gx rfl <| pkF rfl <| mv <| h17 _ _ <| ⟨(.bool false), rfl, ⟨bool_no (by rw [okK_some (by first | assumption | (rw [noneK]; omega))]; omega), hM3.upd⟩⟩
  refine gx rfl <| gxl rfl <| gx rfl <| pkF rfl <| mv <| splitF rfl <| gx rfl <| gxl rfl <| gx rfl <| pkF rfl <| mv <| splitF rfl <| gx rfl <| gxl rfl <| gx rfl <| gx rfl <| pkF rfl <| mv <| h17 _ _ <| ⟨(.bool false), rfl, ⟨bool_no (by rw [okK_some (by first | assumption | (rw [noneK]; omega))]; omega), hM3.upd⟩⟩
 refine gx rfl <| gxl rfl <| gx rfl <| pkF rfl <| mv <| splitF rfl <| gx rfl <| gxl rfl <| gx rfl <| pkF rfl <| mv <| splitF rfl <| gx rfl <| gxl rfl <| gx rfl <| pkF rfl <| mv <| splitF rfl <| gx rfl <| gxl rfl <| gx rfl <| gx rfl <| pkF rfl <| mv <| h17 _ _ <| ⟨(.bool false), rfl, ⟨bool_no (by rw [okK_some (by first | assumption | (rw [noneK]; omega))]; omega), hM3.upd⟩⟩
theorem refExpand_ok (x : Value) (ts : List Tk) (w : World) (hx : RdS tokC w x ts) (hts : ∀ t ∈ ts, t.ok w) (hl : ts.length ≤ 1152921504606846976) : Calls Tryz.prog 94 [x].toArray w (Rt fun r w' => ∃ v rs, r = .tuple [v, .int .i64 (expF (ts.map Tk.p)).2].toArray ∧ SlE byteV 5 v (expF (ts.map Tk.p)).1 rs ∧ Mem w [] w' [rs]) := by
 have hM0 : Mem w [] w [] := Mem.nil w []
 refine calls_vc mixed Tryz.func94 rfl C94 (by simp [Tryz.ntmps94]) <| seq fun _ h1 => mv <| mv <| h1 _ _ <| seq fun _ h2 => mv <| h2 _ _ <| seq fun _ h3 => seq fun _ h4 => mv <| h4 _ _ ?_
 have hM5 : Mem _ _ w [[]] := hM0.addNil
 have hs5 : SlE byteV 5 (.slice none 0 0) [] [] := Sl.nil 1 5
 refine lp (n := fun _ _ => False) (ι := (Nat) × (List UInt8) × (Value) × (List Ent)) (fun ⟨i, T, y4_, r4_⟩ f w' => f 4 = y4_ ∧ f 5 = .int .i64 (i : Nat) ∧ f 0 = x ∧ Mem w [] w' [r4_] ∧ (i ≤ ts.length) ∧ (T.length ≤ 65536) ∧ (expF (ts.map Tk.p) = expG ((ts.map Tk.p).drop i) T) ∧ (SlE byteV 5 y4_ (T) r4_)) (fun ⟨i, T, y4_, r4_⟩ => ts.length - i) (0, [], ((.slice none 0 0)), ([])) ?_ ?_
 ·exact ⟨rfl, vi, rfl, hM5, by omega, by simp, rfl, by first | exact hs5 | simpa using hs5⟩
 rintro ⟨i, T, y4_, r4_⟩ f w6 ⟨e6_4, e6_5, e6_0, hM6, hi, hT, hE, hy4_⟩ K7 h7
 obtain ⟨frm, rfl⟩ := re3 e6_4 e6_5 e6_0
 refine seq fun _ h8 => seq fun _ h9 => mv <| mv <| stp (v := .int .i64 (ts.length : Nat)) (o_lenR (hx.upd hM6.upd) rfl rfl) <| bn rfl rfl <| h9 _ _ <| cndP rfl (fun c10 => ?_) (fun c10 => ?_)
 ·refine h8 _ _ <| seq fun _ h11 => seq fun _ h12 => mv <| mv <| m_idxS tz (j := i) (hx.upd hM6.upd) rfl rfl (by omega) fun b13 o13 hp13 => ldA (cs := [(ts.getD i tz).lit, .int .i64 (((ts.getD i tz)).d), .int .i64 (((ts.getD i tz)).n)]) rfl rfl (hp13.row (k := 0) rfl rfl) <| m_al hM6 fun b14 w15 (hM15 : Mem w [] w15 [r4_, [⟨b14, 125, [.slice none 0 0, .int .i64 0, .int .i64 0]⟩]]) => m_stA (l := [(ts.getD i tz).lit, .int .i64 (((ts.getD i tz)).d), .int .i64 (((ts.getD i tz)).n)]) hM15 (i := 1) rfl rfl rfl rfl (by simp [oneCells, Value.oneCell', byteV]) (by simp) fun w16 (hM16 : Mem _ _ w16 [_, [⟨b14, 125, [(ts.getD i tz).lit, .int .i64 (((ts.getD i tz)).d), .int .i64 (((ts.getD i tz)).n)]⟩]]) => h12 _ _ <| seq fun _ h17 => ?_
  have hti := hts _ (getD_memG tz (l := ts) (i := i) (by omega))
  obtain ⟨_, hti2, hti3, hti4⟩ := hti
  simp only [inK] at hti2 hti3
  refine m_ldA (l := [(ts.getD i tz).lit, .int .i64 (((ts.getD i tz)).d), .int .i64 (((ts.getD i tz)).n)]) hM16 (i := 1) (j := 0) rfl rfl rfl rfl rfl <| mv <| stp (v := .int .i64 (T.length : Nat)) (o_lenR (hy4_.rd hM16 (i := 0) rfl) rfl rfl) <| mv <| mv <| stp (v := .int .i64 (ts.length : Nat)) (o_lenR (hx.upd hM16.upd) rfl rfl) <| stp (v := .int .i64 ((ts.length : Nat) - 1)) (o_bin rfl rfl (v_sub64 (by omega))) <| bn rfl rfl <| m_call (fits_ok (ts.getD i tz) T.length (decide (((i : Nat) : Int) = ((ts.length : Nat) - 1))) w16 ((hts _ (getD_memG tz (by omega))).1.upd hM16.upd) (by omega) (by omega)) rfl fun v18 w18 ⟨hr18, hu18⟩ => ?_
  have hM18 : Mem _ _ w18 [_, _] := hM16.pure hu18
  subst hr18
  refine mv <| h17 _ _ <| seq fun _ h19 => seq fun _ h20 => mv <| stp (v := .bool (decide (¬ (okT (ts.getD i tz).p ((T.length + (ts.getD i tz).bs.length : Nat) : Int) (decide (((i : Nat) : Int) = ((ts.length : Nat) - 1))))))) (o_not rfl v_not) <| h20 _ _ <| cndP rfl (fun c21 => ?_) (fun c21 => ?_)
  ·refine seq fun _ h22 => mv <| mv <| h22 _ _ <| ⟨(.tuple [.slice none 0 0, .int .i64 31].toArray), rfl, ?_⟩
   have he := exT_tok (by omega) hE (by assumption)
   exact ⟨.slice none 0 0, [], by rw [he], by rw [he]; exact Sl.nil 1 5, hM18.keep (by simp)⟩
  refine h19 _ _ <| seq fun _ h23 => seq fun _ h24 => ?_
  have hok := Decidable.not_not.1 (by assumption : ¬ ¬ okT (ts.getD i tz).p ((T.length + (ts.getD i tz).bs.length : Nat) : Int) (decide ((i : Int) = (ts.length : Int) - 1)))
  have hob := okK_bd hok
  refine mv <| stp (v := .int .i64 (T.length : Nat)) (o_lenR (hy4_.rd hM18 (i := 0) rfl) rfl rfl) <| fa rfl <| m_ld (v := (ts.getD i tz).lit) hM18 (i := 1) (j := 0) rfl rfl rfl rfl <| stp (v := .int .i64 (((ts.getD i tz).bs).length : Nat)) (o_lenR ((hts _ (getD_memG tz (by omega))).1.upd hM18.upd) rfl rfl) <| stp (v := .int .i64 (T.length + (ts.getD i tz).bs.length : Nat)) (o_bin rfl rfl ((v_add64 (by omega)).trans (v_int (by omega)))) <| fa rfl <| m_ld (v := .int .i64 (((ts.getD i tz)).n)) hM18 (i := 1) (j := 0) rfl rfl rfl rfl <| stp (v := .int .i64 ((T.length + (ts.getD i tz).bs.length : Nat) + (((ts.getD i tz)).n))) (o_bin rfl rfl (v_add64 (by omega))) <| bn rfl rfl <| h24 _ _ <| cndP rfl (fun c25 => ?_) (fun c25 => ?_)
  ·refine seq fun _ h26 => mv <| mv <| h26 _ _ <| ⟨(.tuple [.slice none 0 0, .int .i64 2].toArray), rfl, ?_⟩
   have he := exT_long (by omega) hE hok (by omega)
   exact ⟨.slice none 0 0, [], by rw [he], by rw [he]; exact Sl.nil 1 5, hM18.keep (by simp)⟩
  refine h23 _ _ <| seq fun _ h27 => mv <| fa rfl <| m_ld (v := (ts.getD i tz).lit) hM18 (i := 1) (j := 0) rfl rfl rfl rfl <| m_appE hM18 (i := 0) rfl hy4_ rfl rfl ((hts _ (getD_memG tz (by omega))).1.upd hM18.upd) (by first | omega | (simp; omega)) (by omega) fun v28 w28 r28 (hs28 : SlE byteV 5 v28 (T ++ ((ts.getD i tz).bs)) r28) (hM28 : Mem _ _ w28 [r28, _]) => mv <| h27 _ _ <| seq fun _ h29 => mv <| h29 _ _ <| lp (n := fun _ _ => False) (ι := (Nat) × (Value) × (List Ent)) (fun ⟨k, y4_, r4_⟩ f w' => f 4 = y4_ ∧ f 8 = .int .i64 (k : Nat) ∧ f 0 = x ∧ f 5 = .int .i64 (i : Nat) ∧ f 6 = .pointer (some ⟨b14, 0, none⟩) ∧ Mem w [] w' [r4_, [⟨b14, 125, [(ts.getD i tz).lit, .int .i64 (((ts.getD i tz)).d), .int .i64 (((ts.getD i tz)).n)]⟩]] ∧ (k ≤ (ts.getD i tz).n.toNat) ∧ ((agn (T ++ (ts.getD i tz).bs) (ts.getD i tz).d.toNat k).length = T.length + (ts.getD i tz).bs.length + k) ∧ (SlE byteV 5 y4_ (agn (T ++ (ts.getD i tz).bs) (ts.getD i tz).d.toNat k) r4_)) (fun ⟨k, y4_, r4_⟩ => (ts.getD i tz).n.toNat - k) (0, v28, r28) ?_ ?_
  ·exact ⟨rfl, vi, rfl, vi, rfl, hM28, by omega, by rw [agn_len, List.length_append], by first | exact hs28 | simpa using hs28⟩
  rintro ⟨k, y4_, r4_⟩ f w30 ⟨e30_4, e30_8, e30_0, e30_5, e30_6, hM30, hk, hq, hy4_⟩ K31 h31
  obtain ⟨frm, rfl⟩ := re5 e30_4 e30_8 e30_0 e30_5 e30_6
  refine seq fun _ h32 => seq fun _ h33 => mv <| fa rfl <| m_ld (v := .int .i64 (((ts.getD i tz)).n)) hM30 (i := 1) (j := 0) rfl rfl rfl rfl <| bn rfl rfl <| h33 _ _ <| cndP rfl (fun c34 => ?_) (fun c34 => ?_)
  ·refine h32 _ _ <| seq fun _ h35 => seq fun _ h36 => mv <| mv <| stp (v := .int .i64 ((agn (T ++ (ts.getD i tz).bs) (ts.getD i tz).d.toNat k).length : Nat)) (o_lenR (hy4_.rd hM30 (i := 0) rfl) rfl rfl) <| fa rfl <| m_ld (v := .int .i64 (((ts.getD i tz)).d)) hM30 (i := 1) (j := 0) rfl rfl rfl rfl <| stp (v := .int .i64 (((agn (T ++ (ts.getD i tz).bs) (ts.getD i tz).d.toNat k).length : Nat) - (((ts.getD i tz)).d))) (o_bin rfl rfl (v_sub64 (by omega))) <| m_idxE 0 (j := ((agn (T ++ (ts.getD i tz).bs) (ts.getD i tz).d.toNat k).length - (ts.getD i tz).d.toNat)) (hy4_.rd hM30 (i := 0) rfl) rfl (v_int (by omega)) (by omega) fun b37 o37 hp37 => ld (v := byteV ((agn (T ++ (ts.getD i tz).bs) (ts.getD i tz).d.toNat k).getD ((agn (T ++ (ts.getD i tz).bs) (ts.getD i tz).d.toNat k).length - (ts.getD i tz).d.toNat) 0)) rfl (hp37) <| mv <| h36 _ _ <| mv ?_
   refine mv <| m_app1 (E := byteV) (q := (agn (T ++ (ts.getD i tz).bs) (ts.getD i tz).d.toNat k).getD ((agn (T ++ (ts.getD i tz).bs) (ts.getD i tz).d.toNat k).length - (ts.getD i tz).d.toNat) 0) hM30 (i := 0) rfl hy4_ rfl (by simp) (rfl) (by omega) (by omega) fun v38 w38 r38 u38 (hs38 : SlE byteV 5 v38 ((agn (T ++ (ts.getD i tz).bs) (ts.getD i tz).d.toNat k) ++ [(agn (T ++ (ts.getD i tz).bs) (ts.getD i tz).d.toNat k).getD ((agn (T ++ (ts.getD i tz).bs) (ts.getD i tz).d.toNat k).length - (ts.getD i tz).d.toNat) 0]) r38) (hM38 : Mem w [] w38 [r38, [⟨b14, 125, [(ts.getD i tz).lit, .int .i64 (((ts.getD i tz)).d), .int .i64 (((ts.getD i tz)).n)]⟩]]) => mv <| h35 _ _ <| mv <| stp (v := .int .i64 ((k : Nat) + 1)) (o_bin rfl rfl (v_add64 (by omega))) <| mv <| h31 (k + 1, v38, r38) _ _ ⟨rfl, vi, rfl, vi, rfl, hM38, by omega, by rw [agn_len, List.length_append] <;> omega, by rw [agn]; exact hs38⟩ (by (try dsimp only); omega)
  refine h11 _ _ <| mv <| stp (v := .int .i64 ((i : Nat) + 1)) (o_bin rfl rfl (v_add64 (by omega))) <| mv <| h7 (i + 1, (agn (T ++ (ts.getD i tz).bs) (ts.getD i tz).d.toNat k), y4_, r4_) _ _ ⟨rfl, vi, rfl, hM30.keep (by simp), by omega, by omega, by (obtain rfl : k = (ts.getD i tz).n.toNat := by omega); exact exT_go (by omega) hE hok (by omega), by first | exact hy4_ | simpa using hy4_⟩ (by (try dsimp only); omega)
 refine h3 _ _ <| seq fun _ h39 => mv <| mv <| mv <| h39 _ _ <| ⟨(.tuple [y4_, .int .i64 0].toArray), rfl, ?_⟩
 have he := exT_end (by omega) hE
 exact ⟨_, _, by rw [he], by rw [he]; exact hy4_, hM6.keep (by simp)⟩
theorem bytes_ok (t : Tk) (w : World) (ht : RdE byteV w t.lit t.bs) (hl : t.bs.length ≤ 140737488355328) (hn : -9223372036854775808 ≤ t.n - 4 ∧ t.n ≤ 9223372036854775807) (hd : -9223372036854775808 ≤ t.d ∧ t.d ≤ 9223372036854775807) : Calls Tryz.prog 81 [.agg (tokC t).toArray].toArray w (Rt fun r w' => ∃ rs, SlE byteV 5 r (tokB t.p) rs ∧ Mem w [] w' [rs]) := by
 have hM0 : Mem w [] w [] := Mem.nil w []
 refine calls_vc mixed Tryz.func81 rfl C81 (by simp [Tryz.ntmps81]) <| seq fun _ h1 => m_bx (v := .agg ([t.lit, .int .i64 ((t).d), .int .i64 ((t).n)] : List Value).toArray) hM0 rfl rfl fun b2 w3 (hM3 : Mem _ _ w3 [[⟨b2, 125, [t.lit, .int .i64 ((t).d), .int .i64 ((t).n)]⟩]]) => mv <| h1 _ _ <| seq fun _ h4 => ?_
 intro wd e1 e2 e3 e4
 have hd := Upd.same e1 e2 e3 e4 []
 have hM5 := hM3.pure hd
 clear e1 e2 e3 e4
 refine ⟨(some [b2]), ?_⟩
 show vd _ _ _ _ _ _ _
 refine dfa rfl <| dfa rfl <| dqld rfl (by simp [isHeld]) (v := t.lit) ((hM5.at (i := 0) (j := 0) rfl rfl).cell 0) <| dl (m_ld (v := t.lit) hM5 (i := 0) (j := 0) rfl rfl rfl rfl <| ⟨(fun b hb => rfl), dq (v := .int .i64 (t.bs.length : Nat)) (o_lenR (ht.upd hM5.upd) rfl rfl) <| dl (m_call (Put_ok (t.bs.length : Nat) (by simp only [inK]; omega) wd) rfl fun v6 w6 ⟨rs6, hs6, hm6⟩ => ?_)⟩)
 have hM6 : Mem w [] w6 [[⟨b2, 125, [t.lit, .int .i64 ((t).d), .int .i64 ((t).n)]⟩], rs6] := hM5.add hm6
 have hn6 := putI_len (v := (t.bs.length : Nat)) (by omega)
 have hh6 := held_upd (wr := wd) (bs := [b2]) hm6.upd (fun b hb => by
  simp only [List.mem_cons, List.not_mem_nil, or_false] at hb
  rw [hb]; exact ⟨(hM5.at (i := 0) (j := 0) rfl rfl).lt, by simp⟩) (fun b hb => rfl)
 refine ⟨hh6, dl (m_appEU hM6 (i := 1) rfl hs6 rfl rfl (ht.upd hM6.upd) (by first | omega | (simp; omega)) (by omega) fun v7 w7 r7 (hs7 : SlE byteV 5 v7 ((putI (t.bs.length : Nat)) ++ t.bs) r7) hup7 (hM7 : Mem _ _ w7 [_, r7]) => ?_)⟩
 have hh7 := held_upd (wr := wd) (bs := [b2]) hup7 (fun b hb => by
  simp only [List.mem_cons, List.not_mem_nil, or_false] at hb
  rw [hb]; exact ⟨(hM6.at (i := 0) (j := 0) rfl rfl).lt, hM6.apart (i := 0) (j := 0) (k := 1) rfl rfl rfl (by decide)⟩) hh6
 refine ⟨hh7, dmv <| h4 _ _ <| seq fun _ h8 => seq fun _ h9 => m_ldA (l := [t.lit, .int .i64 ((t).d), .int .i64 ((t).n)]) hM7 (i := 0) (j := 0) rfl rfl rfl rfl rfl <| m_call (none_ok t w7) rfl fun v10 w10 ⟨hr10, hu10⟩ => ?_⟩
 have hM10 : Mem _ _ w10 [_, _] := hM7.pure hu10
 subst hr10
 refine h9 _ _ <| cndP rfl (fun c11 => ?_) (fun c11 => ?_)
 ·refine seq fun _ h12 => mv <| mv <| h12 _ _ <| ⟨v7, rfl, ⟨_, by rw [tokB_none (by assumption)]; exact hs7, hM10.keep (by simp)⟩⟩
 refine h8 _ _ <| seq fun _ h13 => mv <| fa rfl <| m_ld (v := .int .i64 ((t).n)) hM10 (i := 0) (j := 0) rfl rfl rfl rfl <| stp (v := .int .i64 (((t).n) - 4)) (o_bin rfl rfl (v_sub64 (by omega))) <| m_call (Put_ok (((t).n) - 4) (by simp only [inK]; omega) w10) rfl fun v14 w14 ⟨rs14, hs14, hm14⟩ => ?_
 have hM14 : Mem _ _ w14 [_, _, rs14] := hM10.add hm14
 have hn14 := putI_len (v := ((t).n) - 4) (by omega)
 refine m_appE hM14 (i := 1) rfl hs7 rfl rfl (hs14.rd hM14 (i := 2) rfl) (by first | omega | (simp; omega)) (by omega) fun v15 w15 r15 (hs15 : SlE byteV 5 v15 (((putI (t.bs.length : Nat)) ++ t.bs) ++ (putI (((t).n) - 4))) r15) (hM15 : Mem _ _ w15 [_, r15, _]) => mv <| h13 _ _ <| seq fun _ h16 => mv <| fa rfl <| m_ld (v := .int .i64 ((t).d)) hM15 (i := 0) (j := 0) rfl rfl rfl rfl <| m_call (Put_ok ((t).d) (by simp only [inK]; omega) w15) rfl fun v17 w17 ⟨rs17, hs17, hm17⟩ => ?_
 have hM17 : Mem _ _ w17 [_, _, _, rs17] := hM15.add hm17
 have hn17 := putI_len (v := (t).d) (by omega)
 refine m_appE hM17 (i := 1) rfl hs15 rfl rfl (hs17.rd hM17 (i := 3) rfl) (by first | omega | (simp; omega)) (by omega) fun v18 w18 r18 (hs18 : SlE byteV 5 v18 ((((putI (t.bs.length : Nat)) ++ t.bs) ++ (putI (((t).n) - 4))) ++ (putI ((t).d))) r18) (hM18 : Mem _ _ w18 [_, r18, _, _]) => mv <| h16 _ _ <| ⟨v18, rfl, ⟨_, by rw [tokB_some (by assumption)]; exact hs18, hM18.keep (by simp)⟩⟩
theorem refWrite_ok (x : Value) (ts : List Tk) (w : World) (hx : RdS tokC w x ts) (hts : ∀ t ∈ ts, t.ok w) (hl : ts.length ≤ 1152921504606846976) : Calls Tryz.prog 60 [x].toArray w (Rt fun r w' => ∃ v rs, r = .tuple [v, .int .i64 (wrF (ts.map Tk.p)).2].toArray ∧ SlE byteV 5 v (wrF (ts.map Tk.p)).1 rs ∧ Mem w [] w' [rs]) := by
 have hM0 : Mem w [] w [] := Mem.nil w []
 refine calls_vc mixed Tryz.func60 rfl C60 (by simp [Tryz.ntmps60]) <| seq fun _ h1 => mv <| mv <| h1 _ _ <| seq fun _ h2 => mv <| m_call (refExpand_ok _ ts w (hx.upd hM0.upd) (fun t ht => ⟨(hts t ht).1.upd hM0.upd, (hts t ht).2⟩) (by first | omega | (simp; done) | (simp; omega))) rfl fun v3 w3 ⟨y3, rs3, hr3, hs3, hm3⟩ => ?_
 have hM3 : Mem _ _ w3 [rs3] := hM0.add hm3
 subst hr3
 refine mv <| ext rfl rfl <| ext rfl rfl <| mv <| mv <| h2 _ _ <| seq fun _ h4 => seq fun _ h5 => mv <| bneq rfl rfl <| h5 _ _ <| cndP rfl (fun c6 => ?_) (fun c6 => ?_)
 ·refine seq fun _ h7 => mv <| mv <| mv <| h7 _ _ <| ⟨(.tuple [.slice none 0 0, .int .i64 ((expF (List.map Tk.p ts)).2)].toArray), rfl, ?_⟩
  have he := wrF_no (ts := ts.map Tk.p) (by omega)
  exact ⟨.slice none 0 0, [], by rw [he], by rw [he]; exact Sl.nil 1 5, hM3.keep (by simp)⟩
 refine h4 _ _ <| seq fun _ h8 => mv <| h8 _ _ <| seq fun _ h9 => seq fun _ h10 => mv <| h10 _ _ ?_
 have hM11 : Mem _ _ w3 [_, []] := hM3.addNil
 have hs11 : SlE byteV 5 (.slice none 0 0) [] [] := Sl.nil 1 5
 refine lp (n := fun _ _ => False) (ι := (Nat) × (Value) × (List Ent)) (fun ⟨i, y6_, r6_⟩ f w' => f 6 = y6_ ∧ f 7 = .int .i64 (i : Nat) ∧ f 0 = x ∧ Mem w [] w' [rs3, r6_] ∧ (i ≤ ts.length) ∧ ((toksB ((ts.take i).map Tk.p)).length ≤ sumL ts i + 27 * i) ∧ (SlE byteV 5 y6_ (toksB ((ts.take i).map Tk.p)) r6_)) (fun ⟨i, y6_, r6_⟩ => ts.length - i) (0, ((.slice none 0 0)), ([])) ?_ ?_
 ·exact ⟨rfl, vi, rfl, hM11, by omega, by simp [toksB], by first | exact hs11 | simpa using hs11⟩
 rintro ⟨i, y6_, r6_⟩ f w12 ⟨e12_6, e12_7, e12_0, hM12, hi, hB, hy6_⟩ K13 h13
 obtain ⟨frm, rfl⟩ := re3 e12_6 e12_7 e12_0
 refine seq fun _ h14 => seq fun _ h15 => mv <| mv <| stp (v := .int .i64 (ts.length : Nat)) (o_lenR (hx.upd hM12.upd) rfl rfl) <| bn rfl rfl <| h15 _ _ <| cndP rfl (fun c16 => ?_) (fun c16 => ?_)
 ·refine h14 _ _ <| seq fun _ h17 => seq fun _ h18 => mv <| mv <| m_idxS tz (j := i) (hx.upd hM12.upd) rfl rfl (by omega) fun b19 o19 hp19 => ?_
  have hes := exT_sum (ts := ts) (by omega)
  have hsl := sumL_le ts i
  have heb := hes.2.2 i (by omega)
  have hti := hts _ (getD_memG tz (l := ts) (i := i) (by omega))
  have htk := tokB_len (t := ts.getD i tz) (by have := hti.2.2.2; omega) (by simp only [inK]; omega) (by simp only [inK]; omega)
  have hti4 := hti.2.2.2
  refine ldA (cs := [(ts.getD i tz).lit, .int .i64 (((ts.getD i tz)).d), .int .i64 (((ts.getD i tz)).n)]) rfl rfl (hp19.row (k := 0) rfl rfl) <| m_al hM12 fun b20 w21 (hM21 : Mem w [] w21 [rs3, r6_, [⟨b20, 125, [.slice none 0 0, .int .i64 0, .int .i64 0]⟩]]) => m_stA (l := [(ts.getD i tz).lit, .int .i64 (((ts.getD i tz)).d), .int .i64 (((ts.getD i tz)).n)]) hM21 (i := 2) rfl rfl rfl rfl (by simp [oneCells, Value.oneCell', byteV]) (by simp) fun w22 (hM22 : Mem _ _ w22 [_, _, [⟨b20, 125, [(ts.getD i tz).lit, .int .i64 (((ts.getD i tz)).d), .int .i64 (((ts.getD i tz)).n)]⟩]]) => h18 _ _ <| seq fun _ h23 => mv <| fa rfl <| m_ld (v := (ts.getD i tz).lit) hM22 (i := 2) (j := 0) rfl rfl rfl rfl <| stp (v := .int .i64 (((ts.getD i tz).bs).length : Nat)) (o_lenR ((hts _ (getD_memG tz (by omega))).1.upd hM22.upd) rfl rfl) <| m_call (refPut_ok (((ts.getD i tz).bs).length : Nat) (by simp only [inK]; omega) w22) rfl fun v24 w24 ⟨rs24, hs24, hm24⟩ => ?_
  have hM24 : Mem _ _ w24 [_, _, _, rs24] := hM22.add hm24
  have hn24 := putI_len (v := (((ts.getD i tz).bs).length : Nat)) (by omega)
  refine m_appE hM24 (i := 1) rfl hy6_ rfl rfl (hs24.rd hM24 (i := 3) rfl) (by first | omega | (simp; omega)) (by omega) fun v25 w25 r25 (hs25 : SlE byteV 5 v25 ((toksB ((ts.take i).map Tk.p)) ++ (putI (((ts.getD i tz).bs).length : Nat))) r25) (hM25 : Mem _ _ w25 [_, r25, _, _]) => mv <| h23 _ _ <| seq fun _ h26 => mv <| fa rfl <| m_ld (v := (ts.getD i tz).lit) hM25 (i := 2) (j := 0) rfl rfl rfl rfl <| m_appE hM25 (i := 1) rfl hs25 rfl rfl ((hts _ (getD_memG tz (by omega))).1.upd hM25.upd) (by simp only [List.length_append]; omega) (by omega) fun v27 w27 r27 (hs27 : SlE byteV 5 v27 (((toksB ((ts.take i).map Tk.p)) ++ (putI (((ts.getD i tz).bs).length : Nat))) ++ ((ts.getD i tz).bs)) r27) (hM27 : Mem _ _ w27 [_, r27, _, _]) => mv <| h26 _ _ <| seq fun _ h28 => fa rfl <| m_ld (v := .int .i64 (((ts.getD i tz)).n)) hM27 (i := 2) (j := 0) rfl rfl rfl rfl <| bn rfl rfl ?_
  refine h28 _ _ <| cndP rfl (fun c29 => ?_) (fun c29 => ?_)
  ·refine seq fun _ h30 => mv <| fa rfl <| m_ld (v := .int .i64 (((ts.getD i tz)).n)) hM27 (i := 2) (j := 0) rfl rfl rfl rfl <| stp (v := .int .i64 ((((ts.getD i tz)).n) - 4)) (o_bin rfl rfl (v_sub64 (by omega))) <| m_call (refPut_ok ((((ts.getD i tz)).n) - 4) (by simp only [inK]; omega) w27) rfl fun v31 w31 ⟨rs31, hs31, hm31⟩ => ?_
   have hM31 : Mem _ _ w31 [_, _, _, _, rs31] := hM27.add hm31
   have hn31 := putI_len (v := (((ts.getD i tz)).n) - 4) (by omega)
   refine m_appE hM31 (i := 1) rfl hs27 rfl rfl (hs31.rd hM31 (i := 4) rfl) (by simp only [List.length_append]; omega) (by omega) fun v32 w32 r32 (hs32 : SlE byteV 5 v32 ((((toksB ((ts.take i).map Tk.p)) ++ (putI (((ts.getD i tz).bs).length : Nat))) ++ ((ts.getD i tz).bs)) ++ (putI ((((ts.getD i tz)).n) - 4))) r32) (hM32 : Mem _ _ w32 [_, r32, _, _, _]) => mv <| h30 _ _ <| mv <| fa rfl <| m_ld (v := .int .i64 (((ts.getD i tz)).d)) hM32 (i := 2) (j := 0) rfl rfl rfl rfl <| m_call (refPut_ok (((ts.getD i tz)).d) (by simp only [inK]; omega) w32) rfl fun v33 w33 ⟨rs33, hs33, hm33⟩ => ?_
   have hM33 : Mem _ _ w33 [_, _, _, _, _, rs33] := hM32.add hm33
   have hn33 := putI_len (v := ((ts.getD i tz)).d) (by omega)
   refine m_appE hM33 (i := 1) rfl hs32 rfl rfl (hs33.rd hM33 (i := 5) rfl) (by simp only [List.length_append]; omega) (by omega) fun v34 w34 r34 (hs34 : SlE byteV 5 v34 (((((toksB ((ts.take i).map Tk.p)) ++ (putI (((ts.getD i tz).bs).length : Nat))) ++ ((ts.getD i tz).bs)) ++ (putI ((((ts.getD i tz)).n) - 4))) ++ (putI (((ts.getD i tz)).d))) r34) (hM34 : Mem _ _ w34 [_, r34, _, _, _, _]) => mv <| h17 _ _ <| mv <| stp (v := .int .i64 ((i : Nat) + 1)) (o_bin rfl rfl (v_add64 (by omega))) <| mv <| h13 (i + 1, v34, r34) _ _ ⟨rfl, vi, rfl, hM34.keep (by simp), by omega, by rw [toksT_snoc (by omega), List.length_append, sumL_succ (by omega)]; omega, by rw [toksT_snoc (by omega), tokB_some (by rw [← heb.2.2.2.2]; omega)]; simpa using hs34⟩ (by (try dsimp only); omega)
  refine h17 _ _ <| mv <| stp (v := .int .i64 ((i : Nat) + 1)) (o_bin rfl rfl (v_add64 (by omega))) <| mv <| h13 (i + 1, v27, r27) _ _ ⟨rfl, vi, rfl, hM27.keep (by simp), by omega, by rw [toksT_snoc (by omega), List.length_append, sumL_succ (by omega)]; omega, by rw [toksT_snoc (by omega), tokB_none (by rw [← heb.2.2.2.2]; omega)]; simpa using hs27⟩ (by (try dsimp only); omega)
 refine h9 _ _ <| seq fun _ h35 => mv <| mv <| mv <| h35 _ _ <| ⟨(.tuple [y6_, .int .i64 0].toArray), rfl, ?_⟩
 have he := wrF_ok (ts := ts.map Tk.p) (by omega)
 obtain rfl : i = ts.length := by omega
 rw [List.take_length] at hy6_
 exact ⟨_, _, by rw [he], by rw [he]; exact hy6_, hM12.keep (by simp)⟩
end Go.Proofs.YtifnmbmijljhfaaGreat.E.Lz
namespace Go.Proofs.YtifnmbmijljhfaaGreat.E
open Go
def CurS (bc : Nat) (b : List UInt8) (a : Nat) (e : Int) (r : List Ent) : Prop := ∃ vb rb, r = ⟨bc, 150, [vb, .int .i64 (a : Nat), .int .i64 e]⟩ :: rb ∧ SlE byteV 5 vb b rb ∧ a ≤ b.length
theorem CurS.le {bc : Nat} {b : List UInt8} {a : Nat} {e : Int} {r : List Ent} (h : CurS bc b a e r) : a ≤ b.length := by obtain ⟨_, _, _, _, h⟩ := h; exact h
end Go.Proofs.YtifnmbmijljhfaaGreat.E
namespace Go.Proofs.YtifnmbmijljhfaaGreat.E.Lz
open Go
def nV (b : List UInt8) (a : Nat) : Nat := (get (b.drop a)).1
def nK (b : List UInt8) (a : Nat) : Nat := (get (b.drop a)).2.1
def nE (b : List UInt8) (a : Nat) : Int := (get (b.drop a)).2.2
def aL (b : List UInt8) (a : Nat) : Nat := a + nK b a
def aM (b : List UInt8) (a : Nat) : Nat := aL b a + nV b a
def aD (b : List UInt8) (a : Nat) : Nat := aM b a + nK b (aM b a)
def aZ (b : List UInt8) (a : Nat) : Nat := aD b a + nK b (aD b a)
def litT (b : List UInt8) (a : Nat) : List UInt8 := (b.drop (aL b a)).take (nV b a)
def hdT (b : List UInt8) (n a made : Nat) : Prop := nE b a = 0 ∧ made + nV b a ≤ n ∧ aM b a ≤ b.length
instance (b : List UInt8) (n a made : Nat) : Decidable (hdT b n a made) := by unfold hdT; infer_instance
def mtT (b : List UInt8) (n a made : Nat) : Prop := nE b (aM b a) = 0 ∧ nE b (aD b a) = 0 ∧ nV b (aM b a) ≤ 255 ∧ made + nV b a + nV b (aM b a) + 4 ≤ n ∧ 1 ≤ nV b (aD b a) ∧ nV b (aD b a) ≤ 32768 ∧ nV b (aD b a) ≤ made + nV b a
instance (b : List UInt8) (n a made : Nat) : Decidable (mtT b n a made) := by unfold mtT; infer_instance
def mtP (b : List UInt8) (a : Nat) : Pk := (litT b a, (nV b (aD b a) : Int), (nV b (aM b a) : Int) + 4)
def rdK (b : List UInt8) (n : Nat) : Nat → Nat → Nat → Option (List Pk)
 | 0, _, _ => none
 | k + 1, a, made => if made = n then (if a = b.length then some [] else none)
  else if hdT b n a made then (if made + nV b a = n then (if aM b a = b.length ∧ 0 < nV b a then some [(litT b a, 0, 0)] else none)
   else if mtT b n a made then (rdK b n k (aZ b a) (made + nV b a + nV b (aM b a) + 4)).map (fun l => mtP b a :: l) else none) else none
def rdF (b : List UInt8) (n : Nat) : Option (List Pk) := rdK b n (n + 1) 0 0
theorem rdK_end {b : List UInt8} {n k : Nat} : rdK b n (k + 1) b.length n = some [] := by rw [rdK, if_pos rfl, if_pos rfl]
theorem rdK_over {b : List UInt8} {n k a : Nat} (h : ¬ a = b.length) : rdK b n (k + 1) a n = none := by rw [rdK, if_pos rfl, if_neg h]
theorem rdK_last {b : List UInt8} {n k a made : Nat} (h : ¬ made = n) (hd : hdT b n a made) (hn : made + nV b a = n) (h2 : aM b a = b.length) (h3 : 0 < nV b a) : rdK b n (k + 1) a made = some [(litT b a, 0, 0)] := by rw [rdK, if_neg h, if_pos hd, if_pos hn, if_pos ⟨h2, h3⟩]
structure RdI (b : List UInt8) (n : Nat) (toks : List Pk) (k a made : Nat) : Prop where
 e : rdF b n = (rdK b n k a made).map (fun l => toks ++ l)
 k : n < made + k
 m : made ≤ n
 a : a ≤ b.length
theorem RdI.init (b : List UInt8) (n : Nat) : RdI b n [] (n + 1) 0 0 := ⟨by unfold rdF; cases rdK b n (n + 1) 0 0 <;> rfl, by omega, by omega, by omega⟩
theorem RdI.no {b : List UInt8} {n k a made : Nat} {toks : List Pk} (h : RdI b n toks k a made) (hn : ∀ j, rdK b n (j + 1) a made = none) : rdF b n = none := by
 have hk := h.k; have hm := h.m
 have e := hn (k - 1)
 rw [show k - 1 + 1 = k by omega] at e
 rw [h.e, e]; rfl
theorem RdI.over {b : List UInt8} {n k a : Nat} {toks : List Pk} (h : RdI b n toks k a n) (hl : a < b.length) : rdF b n = none := h.no fun j => rdK_over (by omega)
theorem RdI.done {b : List UInt8} {n k : Nat} {toks : List Pk} (h : RdI b n toks k b.length n) : rdF b n = some toks := by
 have hk := h.k
 rw [h.e, show k = k - 1 + 1 by omega, rdK_end]; simp
theorem RdI.last {b : List UInt8} {n k a made : Nat} {toks : List Pk} (h : RdI b n toks k a made) (hl : a < b.length) (hd : nE b a = 0) (hz : aM b a = b.length) (h0 : 0 < nV b a) (hn : made + nV b a = n) : RdI b n (toks ++ [(litT b a, 0, 0)]) 1 b.length n := by
 have hk := h.k
 refine ⟨?_, by omega, Nat.le_refl _, Nat.le_refl _⟩
 rw [h.e, show k = k - 1 + 1 by omega, rdK_last (by omega) ⟨hd, by omega, by omega⟩ hn hz h0, rdK_end]; simp
end Go.Proofs.YtifnmbmijljhfaaGreat.E.Lz
namespace Go.Proofs.YtifnmbmijljhfaaGreat.E.Lz
open Go
abbrev MK4 : List UInt8 := [165, 90, 167, 91]
def RmB (t : Tk) (a : List Ent) : Prop := ∃ b, t.ad = some ⟨b, 0, none⟩ ∧ t.ln = t.bs.length ∧ (t.bs ++ MK4).length ≤ t.cp ∧ SlE byteV 5 (.slice (some ⟨b, 0, none⟩) (t.bs ++ MK4).length t.cp) (t.bs ++ MK4) a
theorem RmB.own {t : Tk} {a : List Ent} (h : RmB t a) : OwnP byteV 5 Tk.lit Tk.bs t a := by
 obtain ⟨b, h1, h2, _, h3⟩ := h
 obtain ⟨ad, ln, cp, bs, d, n⟩ := t
 simp only at h1 h2
 subst h1 h2
 exact h3.cutTo
theorem toksB_len : ∀ (ts : List Pk), (∀ t ∈ ts, 0 ≤ t.2.2 ∧ t.2.2 ≤ 259 ∧ 0 ≤ t.2.1 ∧ t.2.1 ≤ 32768 ∧ (t.2.2 = 0 ↔ noneT t)) → (ts.map fun t => t.1.length).sum ≤ 65536 → (toksB ts).length ≤ (ts.map fun t => t.1.length).sum + 27 * ts.length
 | [], _, _ => by simp [toksB]
 | t :: ts, h, hs => by
  simp only [List.map_cons, List.sum_cons, List.length_cons] at hs ⊢
  have ih := toksB_len ts (fun x hx => h x (List.mem_cons_of_mem _ hx)) (by omega)
  have hb := h t (by simp)
  have hk : (tokB t).length ≤ t.1.length + 27 := by
   have := tokB_len (t := ⟨none, 0, 0, t.1, t.2.1, t.2.2⟩) (by simp only; omega) (by simp only [inK]; omega) (by simp only [inK]; omega)
   exact this
  have e : toksB (t :: ts) = tokB t ++ toksB ts := by simp [toksB]
  rw [e, List.length_append]; omega
theorem wrF_len (ps : List Pk) : (wrF ps).1.length ≤ 1835008 := by
 by_cases c : (expF ps).2 = 0
 ·rw [wrF_ok c]
  obtain ⟨h1, h2, h3⟩ := expG_bd ps [] c
  have hle := expF_le ps
  unfold expF at hle
  simp only [List.length_nil] at h2 h3
  have := toksB_len ps h1 (by omega)
  simp only; omega
 rw [wrF_no c]; simp
section
variable {P : Program} {r : List MI} {f : Fr} {w w0 : World} {S : List Nat} {R : List (List Ent)} {K : Fr → World → Prop} {d : Nat}
theorem m_alU {t : TypeId} {cs : List Value} (hM : Mem w0 S w R) (h : ∀ b w', Upd [] w w' → Mem w0 S w' (R ++ [[⟨b, t, cs⟩]]) → vr P r (upd f d (.pointer (some ⟨b, 0, none⟩))) w' K) : vr P (.l none (some d) (.al t cs) :: r) f w K :=
 m_al (Mem.nil w []) fun b w' hM' => h b w' hM'.upd (hM.add hM')
end
theorem perm2 {a b : List Ent} : [b, a].flatten.Perm [a, b].flatten := by
 simp only [List.flatten_cons, List.flatten_nil, List.append_nil]
 exact List.perm_append_comm
end Go.Proofs.YtifnmbmijljhfaaGreat.E.Lz
namespace Go.Proofs.YtifnmbmijljhfaaGreat.E.Lz
open Go
theorem tokP_none {t : Pk} (h : noneT t) : tokB t = putI (t.1.length : Nat) ++ t.1 := by unfold tokB; rw [if_pos h, List.append_nil]
theorem tokP_some {t : Pk} (h : ¬ noneT t) : tokB t = putI (t.1.length : Nat) ++ (t.1 ++ (putI (t.2.2 - 4) ++ putI t.2.1)) := by unfold tokB; rw [if_neg h, List.append_assoc]
theorem toksB_cons (t : Pk) (ts : List Pk) : toksB (t :: ts) = tokB t ++ toksB ts := by simp [toksB]
end Go.Proofs.YtifnmbmijljhfaaGreat.E.Lz
namespace Go.Proofs.YtifnmbmijljhfaaGreat.E.Lz
open Go
def lcp : List UInt8 → List UInt8 → Nat
 | a :: xs, b :: bs => if a = b then lcp xs bs + 1 else 0
 | _, _ => 0
theorem lcp_le : ∀ (a b : List UInt8), lcp a b ≤ a.length
 | [], _ => by simp [lcp]
 | _ :: _, [] => by simp [lcp]
 | a :: xs, b :: bs => by
  rw [lcp]; split
  ·have := lcp_le xs bs; simp only [List.length_cons]; omega
  omega
theorem lcp_at : ∀ (a b : List UInt8) (k : Nat), k < lcp a b → a.getD k 0 = b.getD k 0
 | [], _, _, h => by simp [lcp] at h
 | _ :: _, [], _, h => by simp [lcp] at h
 | a :: xs, b :: bs, k, h => by
  rw [lcp] at h
  split at h
  ·rename_i e
   cases k with
   | zero => simpa using e
   | succ k => simpa using lcp_at xs bs k (by omega)
  omega
theorem lcp_is : ∀ (a b : List UInt8) (n : Nat), n ≤ a.length → n ≤ b.length → (∀ k, k < n → a.getD k 0 = b.getD k 0) → (n = a.length ∨ (n < b.length ∧ ¬ a.getD n 0 = b.getD n 0)) → lcp a b = n
 | [], b, n, h, _, _, _ => by simp at h; subst h; cases b <;> rfl
 | a :: xs, [], n, _, h, _, h4 => by
  simp at h; subst h
  rcases h4 with h4 | h4
  ·simp at h4
  exact absurd h4.1 (by simp)
 | a :: xs, b :: bs, n, h1, h2, h3, h4 => by
  cases n with
  | zero =>
   rcases h4 with h4 | h4
   ·simp at h4
   rw [lcp, if_neg (by simpa using h4.2)]
  | succ n =>
   have e := h3 0 (by omega)
   simp at e
   simp only [List.length_cons] at h1 h2 h4
   rw [lcp, if_pos e, lcp_is xs bs n (by omega) (by omega) (fun k hk => by simpa using h3 (k + 1) (by omega)) (by
    rcases h4 with h4 | h4
    ·exact .inl (by omega)
    exact .inr ⟨by omega, by simpa using h4.2⟩)]
def lcF (T : List UInt8) (i j : Nat) : Nat := lcp ((T.drop i).take 259) (T.drop j)
theorem getD_drop {T : List UInt8} {i k : Nat} : (T.drop i).getD k 0 = T.getD (i + k) 0 := by
 rw [List.getD_eq_getElem?_getD, List.getD_eq_getElem?_getD, List.getElem?_drop]
theorem getD_take {T : List UInt8} {m k : Nat} (h : k < m) : (T.take m).getD k 0 = T.getD k 0 := by
 rw [List.getD_eq_getElem?_getD, List.getD_eq_getElem?_getD, List.getElem?_take_of_lt h]
theorem lcF_le {T : List UInt8} {i j : Nat} : lcF T i j ≤ 259 ∧ lcF T i j ≤ T.length - i := by
 have := lcp_le ((T.drop i).take 259) (T.drop j)
 rw [List.length_take, List.length_drop] at this
 unfold lcF; omega
theorem lcF_at {T : List UInt8} {i j k : Nat} (h : k < lcF T i j) : T.getD (i + k) 0 = T.getD (j + k) 0 := by
 have hl := lcF_le (T := T) (i := i) (j := j)
 have := lcp_at _ _ k h
 rwa [getD_take (by omega), getD_drop, getD_drop] at this
theorem lcF_is {T : List UInt8} {i j n : Nat} (hj : j ≤ i) (h1 : n ≤ 259) (h2 : i + n ≤ T.length) (h3 : ∀ k, k < n → T.getD (i + k) 0 = T.getD (j + k) 0) (h4 : n = 259 ∨ i + n = T.length ∨ ¬ T.getD (i + n) 0 = T.getD (j + n) 0) : lcF T i j = n := by
 unfold lcF
 refine lcp_is _ _ n ?_ ?_ (fun k hk => ?_) ?_
 ·rw [List.length_take, List.length_drop]; omega
 ·rw [List.length_drop]; omega
 ·rw [getD_take (by omega), getD_drop, getD_drop]; exact h3 k hk
 by_cases c : n = 259 ∨ i + n = T.length
 ·refine .inl ?_
  rw [List.length_take, List.length_drop]; omega
 rcases h4 with h4 | h4 | h4
 ·exact absurd (.inl h4) c
 ·exact absurd (.inr h4) c
 refine .inr ⟨by rw [List.length_drop]; omega, ?_⟩
 rw [getD_take (by omega), getD_drop, getD_drop]; exact h4
def alk (T : List UInt8) (i j : Nat) : Prop := T.getD i 0 = T.getD j 0 ∧ T.getD (i + 1) 0 = T.getD (j + 1) 0 ∧ T.getD (i + 2) 0 = T.getD (j + 2) 0 ∧ T.getD (i + 3) 0 = T.getD (j + 3) 0
instance (T : List UInt8) (i j : Nat) : Decidable (alk T i j) := by unfold alk; infer_instance
theorem alk_lc {T : List UInt8} {i j : Nat} (hj : j ≤ i) (hi : i + 4 ≤ T.length) : alk T i j ↔ 4 ≤ lcF T i j := by
 constructor
 ·intro ⟨a0, a1, a2, a3⟩
  rcases Nat.lt_or_ge (lcF T i j) 4 with h | h
  ·exfalso
   -- the first place where they part is one of the four
   have hx : lcp ((T.drop i).take 259) (T.drop j) < 4 := h
   have key : ∀ (m : Nat) (a b : List UInt8), m ≤ a.length → m ≤ b.length → (∀ k, k < m → a.getD k 0 = b.getD k 0) → m ≤ lcp a b := by
    intro m
    induction m with
    | zero => intros; omega
    | succ m ih =>
     intro a b h1 h2 h3
     cases a with
     | nil => simp at h1
     | cons x xs =>
      cases b with
      | nil => simp at h2
      | cons y bs =>
       have e := h3 0 (by omega)
       simp at e
       simp only [List.length_cons] at h1 h2
       rw [lcp, if_pos e]
       have := ih xs bs (by omega) (by omega) (fun k hk => by simpa using h3 (k + 1) (by omega))
       omega
   have := key 4 ((T.drop i).take 259) (T.drop j) (by rw [List.length_take, List.length_drop]; omega) (by rw [List.length_drop]; omega) (fun k hk => by
    rw [getD_take (by omega), getD_drop, getD_drop]
    match k, hk with
    | 0, _ => exact a0
    | 1, _ => exact a1
    | 2, _ => exact a2
    | 3, _ => exact a3)
   omega
  exact h
 intro h
 exact ⟨lcF_at (k := 0) (by omega), lcF_at (k := 1) (by omega), lcF_at (k := 2) (by omega), lcF_at (k := 3) (by omega)⟩
def plen (v : Nat) : Nat := if v < 128 then 1 else if v < 16384 then 2 else 3
theorem plen_put {v : Int} (h0 : 0 ≤ v) (h : v < 2097152) : (putI v).length = plen v.toNat := by
 unfold plen
 by_cases c1 : v < 128
 ·rw [putI_lt h0 c1, if_pos (by omega)]; rfl
 rw [putI_ge (by omega), List.length_cons, if_neg (by omega)]
 by_cases c2 : v < 16384
 ·rw [putI_lt (by omega) (by omega), if_pos (by omega)]; rfl
 rw [putI_ge (by omega), List.length_cons, putI_lt (by omega) (by omega), if_neg (by omega)]; rfl
theorem plen_nat {v : Nat} (h : v < 2097152) : (putI (v : Nat)).length = plen v := plen_put (by omega) (by omega)
theorem plen_cases (v : Nat) : (v < 128 ∧ plen v = 1) ∨ (128 ≤ v ∧ v < 16384 ∧ plen v = 2) ∨ (16384 ≤ v ∧ plen v = 3) := by
 unfold plen
 by_cases c1 : v < 128
 ·exact .inl ⟨c1, if_pos c1⟩
 rw [if_neg c1]
 by_cases c2 : v < 16384
 ·exact .inr (.inl ⟨by omega, c2, if_pos c2⟩)
 exact .inr (.inr ⟨by omega, if_neg c2⟩)
theorem plen_bd (v : Nat) : 1 ≤ plen v ∧ plen v ≤ 3 := by have := plen_cases v; omega
def cands (T : List UInt8) (i : Nat) : Nat → List Nat
 | 0 => []
 | j + 1 => if alk T i j then j :: cands T i j else cands T i j
def pick (T : List UInt8) (i : Nat) : List Nat → Nat → Nat → Nat → Nat × Nat
 | [], _, d, b => (d, b)
 | j :: js, s, d, b => if i - j ≤ 32768 ∧ s < 16 then (if b < lcF T i j ∧ 3 + plen (i - j) ≤ lcF T i j then pick T i js (s + 1) (i - j) (lcF T i j) else pick T i js (s + 1) d b) else (d, b)
def bestF (T : List UInt8) (i : Nat) : Nat × Nat := if i + 4 ≤ T.length then pick T i (cands T i i) 0 0 0 else (0, 0)
def ownK (T : List UInt8) : Nat → Nat → Nat → List Pk
 | 0, _, j => if j < T.length then [(T.drop j, 0, 0)] else []
 | k + 1, i, j => if i < T.length then (if (bestF T i).2 = 0 then ownK T k (i + 1) j else ((T.take i).drop j, ((bestF T i).1 : Int), ((bestF T i).2 : Int)) :: ownK T k (i + (bestF T i).2) (i + (bestF T i).2)) else (if j < T.length then [(T.drop j, 0, 0)] else [])
def ownF (T : List UInt8) : List Pk := ownK T T.length 0 0
def encF (T : List UInt8) : List UInt8 × Int := if 65536 < T.length then ([], 2) else (toksB (ownF T), 0)
theorem encF_long {T : List UInt8} (h : 65536 < T.length) : encF T = ([], 2) := by unfold encF; rw [if_pos h]
theorem encF_ok {T : List UInt8} (h : T.length ≤ 65536) : encF T = (toksB (ownF T), 0) := by unfold encF; rw [if_neg (by omega)]
theorem cands_mem {T : List UInt8} {i j : Nat} : ∀ {m : Nat}, j ∈ cands T i m → j < m ∧ alk T i j
 | m + 1, h => by
  rw [cands] at h
  split at h
  ·rename_i c
   rcases List.mem_cons.1 h with rfl | h
   ·exact ⟨by omega, c⟩
   have := cands_mem h; exact ⟨by omega, this.2⟩
  have := cands_mem h; exact ⟨by omega, this.2⟩
theorem cands_skip {T : List UInt8} {i : Nat} : ∀ {m n : Nat}, n ≤ m → (∀ j, n ≤ j → j < m → ¬ alk T i j) → cands T i m = cands T i n
 | 0, n, h, _ => by rw [show n = 0 by omega]
 | m + 1, n, h, hn => by
  rcases Nat.lt_or_ge n (m + 1) with c | c
  ·rw [cands, if_neg (hn m (by omega) (by omega)), cands_skip (by omega) fun j a b => hn j a (by omega)]
  rw [show n = m + 1 by omega]
theorem pick_far {T : List UInt8} {i : Nat} {l : List Nat} {s d b : Nat} (h : ∀ j ∈ l, ¬ i - j ≤ 32768) : pick T i l s d b = (d, b) := by
 cases l with
 | nil => rfl
 | cons j js => rw [pick, if_neg (fun k => h j (by simp) k.1)]
theorem pick_16 {T : List UInt8} {i : Nat} {l : List Nat} {s d b : Nat} (h : 16 ≤ s) : pick T i l s d b = (d, b) := by
 cases l with
 | nil => rfl
 | cons j js => rw [pick, if_neg (fun k => by omega)]
theorem pick_most {T : List UInt8} {i : Nat} : ∀ (l : List Nat) (s d b : Nat), (b = 259 ∨ T.length ≤ i + b) → pick T i l s d b = (d, b)
 | [], _, _, _, _ => rfl
 | j :: js, s, d, b, h => by
  have := lcF_le (T := T) (i := i) (j := j)
  rw [pick, if_neg (c := b < lcF T i j ∧ _) (fun k => by omega)]
  split
  ·exact pick_most js _ d b h
  rfl
def fitM (T : List UInt8) (i : Nat) (p : Nat × Nat) : Prop := p.2 = 0 ∨ (1 ≤ p.1 ∧ p.1 ≤ i ∧ p.1 ≤ 32768 ∧ 3 + plen p.1 ≤ p.2 ∧ p.2 = lcF T i (i - p.1))
theorem pick_fit {T : List UInt8} {i : Nat} : ∀ (l : List Nat) (s d b : Nat), (∀ j ∈ l, j < i) → fitM T i (d, b) → fitM T i (pick T i l s d b)
 | [], _, _, _, _, h => h
 | j :: js, s, d, b, hl, h => by
  have hj := hl j (by simp)
  have hjs : ∀ j ∈ js, j < i := fun x hx => hl x (List.mem_cons_of_mem _ hx)
  rw [pick]
  split
  ·rename_i c
   split
   ·rename_i c2
    refine pick_fit js _ _ _ hjs (.inr ⟨by simp only; omega, by simp only; omega, c.1, c2.2, ?_⟩)
    simp only
    rw [show i - (i - j) = j by omega]
   exact pick_fit js _ _ _ hjs h
  exact h
theorem best_fit (T : List UInt8) (i : Nat) : fitM T i (bestF T i) := by
 unfold bestF
 split
 ·exact pick_fit _ _ _ _ (fun j hj => (cands_mem hj).1) (.inl rfl)
 exact .inl rfl
theorem best_le {T : List UInt8} {i : Nat} : (bestF T i).2 ≤ 259 ∧ (bestF T i).2 ≤ T.length - i ∧ (¬ (bestF T i).2 = 0 → 4 ≤ (bestF T i).2 ∧ i < T.length ∧ 1 ≤ (bestF T i).1 ∧ (bestF T i).1 ≤ i ∧ (bestF T i).1 ≤ 32768) := by
 have h := best_fit T i
 have hp := plen_bd (bestF T i).1
 rcases h with h | ⟨h1, h2, h3, h4, h5⟩
 ·exact ⟨by omega, by omega, fun k => absurd h k⟩
 have := lcF_le (T := T) (i := i) (j := i - (bestF T i).1)
 exact ⟨by omega, by omega, fun _ => by omega⟩
theorem agn_text {T : List UInt8} {i d : Nat} (hd : 1 ≤ d) (hdi : d ≤ i) : ∀ n, i + n ≤ T.length → (∀ k, k < n → T.getD (i + k) 0 = T.getD (i - d + k) 0) → agn (T.take i) d n = T.take (i + n)
 | 0, _, _ => rfl
 | n + 1, h, hk => by
  have ih := agn_text hd hdi n (by omega) fun k hk' => hk k (by omega)
  rw [agn, ih, List.length_take, Nat.min_eq_left (by omega), ← Nat.add_assoc, takeG 0 (by omega), getD_take (by omega)]
  rw [show i + n - d = i - d + n by omega, ← hk n (by omega)]
theorem own_exp {T : List UInt8} (hT : T.length ≤ 65536) : ∀ (k i j : Nat), j ≤ i → T.length ≤ i + k → (i ≤ T.length) → expG (ownK T k i j) (T.take j) = (T, 0)
 | 0, i, j, hj, hk, hi => by
  rw [ownK]
  split
  ·rename_i c
   have hl : (T.take j).length + (T.drop j).length = T.length := by rw [← List.length_append, List.take_append_drop]
   rw [expG, if_neg, if_neg]
   ·show expG [] (agn (T.take j ++ T.drop j) 0 0) = _
    rw [List.take_append_drop]; rfl
   ·show ¬ 65536 < (((T.take j).length + (T.drop j).length : Nat) : Int) + 0
    rw [hl]; omega
   refine fun h => h ((okT_none ⟨rfl, rfl⟩).2 ⟨by simp, ?_⟩)
   show 0 < (T.drop j).length
   rw [List.length_drop]; omega
  rename_i c
  rw [List.take_of_length_le (by omega)]; rfl
 | k + 1, i, j, hj, hk, hi => by
  rw [ownK]
  by_cases c : i < T.length
  ·rw [if_pos c]
   have hb := best_le (T := T) (i := i)
   by_cases c2 : (bestF T i).2 = 0
   ·rw [if_pos c2]; exact own_exp hT k (i + 1) j (by omega) (by omega) (by omega)
   rw [if_neg c2]
   obtain ⟨b1, b2, b3, b4, b5⟩ := hb.2.2 c2
   have hl : (T.take j).length + ((T.take i).drop j).length = i := by rw [List.length_take, List.length_drop, List.length_take]; omega
   have hcut : T.take j ++ (T.take i).drop j = T.take i := by
    have := List.take_append_drop j (T.take i)
    rwa [List.take_take, Nat.min_eq_left hj] at this
   have hf : ∀ k, k < (bestF T i).2 → T.getD (i + k) 0 = T.getD (i - (bestF T i).1 + k) 0 := by
    intro k hk
    rcases best_fit T i with h | h
    ·exact absurd h c2
    exact lcF_at (by rw [← h.2.2.2.2]; exact hk)
   rw [expG, if_neg, if_neg]
   ·show expG _ (agn (T.take j ++ (T.take i).drop j) ((bestF T i).1 : Int).toNat ((bestF T i).2 : Int).toNat) = _
    rw [hcut, Int.toNat_natCast, Int.toNat_natCast, agn_text b3 b4 _ (by omega) hf]
    exact own_exp hT k _ _ (by omega) (by omega) (by omega)
   ·show ¬ 65536 < (((T.take j).length + ((T.take i).drop j).length : Nat) : Int) + ((bestF T i).2 : Int)
    rw [hl]; omega
   refine fun h => h ((okT_some (fun hn => ?_)).2 ?_)
   ·have := hn.2; simp only at this; omega
   simp only
   rw [hl]; omega
  rw [if_neg c]
  by_cases c2 : j < T.length
  ·rw [if_pos c2]
   have := own_exp hT 0 i j hj (by omega) hi
   rw [ownK, if_pos c2] at this; exact this
  rw [if_neg c2, List.take_of_length_le (by omega)]; rfl
theorem own_text {T : List UInt8} (h : T.length ≤ 65536) : expF (ownF T) = (T, 0) := own_exp h T.length 0 0 (by omega) (by omega) (by omega)
theorem tok_cost {t : Pk} (h1 : t.1.length ≤ 65536) (h : ¬ noneT t) (h2 : 4 ≤ t.2.2) (h3 : t.2.2 ≤ 259) (h4 : 1 ≤ t.2.1 ∧ t.2.1 ≤ 32768) (h5 : 3 + plen t.2.1.toNat ≤ t.2.2.toNat) : (tokB t).length + 2 ≤ t.1.length + t.2.2.toNat + plen t.1.length := by
 have e : (tokB t).length = (putI (t.1.length : Nat)).length + (t.1.length + ((putI (t.2.2 - 4)).length + (putI t.2.1).length)) := by rw [tokP_some h]; simp only [List.length_append]
 rw [plen_nat (by omega), plen_put (by omega) (by omega), plen_put (by omega) (by omega)] at e
 have hb := plen_bd t.2.1.toNat
 have : plen (t.2.2 - 4).toNat ≤ 2 ∧ (128 ≤ (t.2.2 - 4) ∨ plen (t.2.2 - 4).toNat = 1) := by
  unfold plen
  by_cases c : (t.2.2 - 4).toNat < 128
  ·rw [if_pos c]; omega
  rw [if_neg c, if_pos (by omega)]; omega
 omega
def Cost (n : Nat) (B L : Nat) : Prop := (n < 128 → B ≤ L + 1) ∧ (n < 16384 → B ≤ L + 2) ∧ ∃ k f, B ≤ L + k + f ∧ k * 16388 + (if f = 3 then 16384 else 0) ≤ L ∧ f ≤ 3
theorem cost_own {T : List UInt8} (hT : T.length ≤ 65536) : ∀ (k i j : Nat), j ≤ i → i ≤ T.length → T.length ≤ i + k → Cost T.length (toksB (ownK T k i j)).length (T.length - j)
 | 0, i, j, hj, hi, hk => by
  rw [ownK]
  split
  ·rename_i c
   have e : (toksB [((T.drop j, 0, 0) : Pk)]).length = plen (T.length - j) + (T.length - j) := by
    rw [toksB_cons, tokP_none ⟨rfl, rfl⟩]
    show (putI ((T.drop j).length : Nat) ++ T.drop j ++ []).length = _
    rw [List.append_nil, List.length_append, plen_nat (by rw [List.length_drop]; omega), List.length_drop]
   rw [e]
   have hb := plen_bd (T.length - j)
   have hc := plen_cases (T.length - j)
   refine ⟨fun h => by omega, fun h => by omega, 0, plen (T.length - j), by omega, ?_, by omega⟩
   by_cases c3 : plen (T.length - j) = 3
   ·rw [if_pos c3]; omega
   rw [if_neg c3]; simp
  exact ⟨fun _ => by simp [toksB], fun _ => by simp [toksB], 0, 0, by simp [toksB], by simp, by omega⟩
 | k + 1, i, j, hj, hi, hk => by
  rw [ownK]
  by_cases c : i < T.length
  ·rw [if_pos c]
   have hb := best_le (T := T) (i := i)
   by_cases c2 : (bestF T i).2 = 0
   ·rw [if_pos c2]; exact cost_own hT k (i + 1) j (by omega) (by omega) (by omega)
   rw [if_neg c2]
   obtain ⟨b1, b2, b3, b4, b5⟩ := hb.2.2 c2
   obtain ⟨i1, i2, K, f, i3, i4, i5⟩ := cost_own hT k (i + (bestF T i).2) (i + (bestF T i).2) (by omega) (by omega) (by omega)
   have hl : ((T.take i).drop j).length = i - j := by rw [List.length_drop, List.length_take]; omega
   have hpp : 3 + plen (bestF T i).1 ≤ (bestF T i).2 := by
    rcases best_fit T i with h | h
    ·exact absurd h c2
    exact h.2.2.2.1
   have hc := tok_cost (t := ((T.take i).drop j, ((bestF T i).1 : Int), ((bestF T i).2 : Int))) (by simp only; omega) (fun hn => by have := hn.2; simp only at this; omega) (by simp only; omega) (by simp only; omega) (by simp only; omega) (by simpa using hpp)
   simp only [hl, Int.toNat_natCast] at hc
   rw [toksB_cons, List.length_append]
   have hp := plen_bd (i - j)
   refine ⟨fun h => ?_, fun h => ?_, ?_⟩
   ·have := plen_cases (i - j)
    have := i1 h; omega
   ·have : plen (i - j) ≤ 2 := by have := plen_cases (i - j); omega
    have := i2 h; omega
   by_cases c3 : plen (i - j) = 3
   ·have := plen_cases (i - j)
    refine ⟨K + 1, f, ?_, ?_, i5⟩
    ·clear i4 i1 i2; omega
    rw [Nat.add_mul, Nat.one_mul, Nat.add_right_comm]
    refine Nat.le_trans (Nat.add_le_add_right i4 _) ?_
    clear i1 i2 i3 i4; omega
   have i6 := plen_cases (i - j)
   refine ⟨K, f, ?_, ?_, i5⟩
   ·clear i4 i1 i2; omega
   refine Nat.le_trans i4 ?_
   clear i4 i1 i2; omega
  rw [if_neg c]
  have := cost_own hT 0 i j hj hi (by omega)
  rw [ownK] at this; exact this
theorem enc_bound {T : List UInt8} (h : T.length ≤ 65536) : (encF T).1.length ≤ T.length + 5 ∧ (T.length < 16384 → (encF T).1.length ≤ T.length + 2) ∧ (T.length < 128 → (encF T).1.length ≤ T.length + 1) ∧ (T.length = 0 → (encF T).1.length = 0) := by
 rw [encF_ok h]
 obtain ⟨h1, h2, k, f, h3, h4, h5⟩ := cost_own h T.length 0 0 (by omega) (by omega) (by omega)
 simp only [Nat.sub_zero] at h1 h2 h3 h4
 refine ⟨?_, h2, h1, fun h0 => ?_⟩
 ·show (toksB (ownK T T.length 0 0)).length ≤ _
  have : k + f ≤ 5 := by
   rcases Nat.lt_or_ge k 3 with c | c
   ·omega
   rcases Nat.lt_or_ge k 4 with c2 | c2
   ·obtain rfl : k = 3 := by omega
    by_cases c3 : f = 3
    ·rw [if_pos c3] at h4; omega
    omega
   have := Nat.mul_le_mul_right 16388 c2; omega
  omega
 have : T = [] := List.length_eq_zero_iff.1 h0
 subst this; rfl
theorem enc_len {T : List UInt8} : (encF T).1.length ≤ 65541 := by
 by_cases c : 65536 < T.length
 ·rw [encF_long c]; simp
 have := (enc_bound (T := T) (by omega)).1; omega
theorem own_tail {T : List UInt8} : ∀ (k i j : Nat), T.length < i + 4 → T.length ≤ i + k → ownK T k i j = if j < T.length then [(T.drop j, 0, 0)] else []
 | 0, _, _, _, _ => rfl
 | k + 1, i, j, h, hk => by
  rw [ownK]
  split
  ·have e : bestF T i = (0, 0) := by unfold bestF; rw [if_neg (by omega)]
   rw [e, if_pos rfl]; exact own_tail k (i + 1) j (by omega) (by omega)
  rfl
theorem wr_enc {T : List UInt8} (h : T.length ≤ 65536) : wrF (ownF T) = ((encF T).1, 0) := by rw [wrF_ok (by rw [own_text h]), encF_ok h]
end Go.Proofs.YtifnmbmijljhfaaGreat.E.Lz
namespace Go.Proofs.YtifnmbmijljhfaaGreat.E.Lz
open Go
def pv (h : Nat → Nat) (v : Nat) : Nat → Nat
 | 0 => 0
 | m + 1 => if h m = v then m + 1 else pv h v m
theorem pv_le (h : Nat → Nat) (v : Nat) : ∀ m, pv h v m ≤ m
 | 0 => Nat.le_refl _
 | m + 1 => by
  have := pv_le h v m
  rw [pv]; split <;> omega
theorem pv_is (h : Nat → Nat) (v : Nat) : ∀ m, 0 < pv h v m → h (pv h v m - 1) = v
 | 0, k => by simp [pv] at k
 | m + 1, k => by
  rw [pv] at k ⊢
  split
  ·assumption
  rename_i c; rw [if_neg c] at k; exact pv_is h v m k
theorem pv_gap (h : Nat → Nat) (v : Nat) : ∀ m j, pv h v m ≤ j → j < m → ¬ h j = v
 | m + 1, j, k, hj => by
  rw [pv] at k
  split at k
  ·omega
  rename_i c
  by_cases e : j = m
  ·rw [e]; exact c
  exact pv_gap h v m j k (by omega)
def Hsh (T : List UInt8) (h : Nat → Nat) : Prop := ∀ i j, alk T i j → h i = h j
theorem cands_pv {T : List UInt8} {h : Nat → Nat} (hh : Hsh T h) {i m : Nat} : cands T i m = cands T i (pv h (h i) m) :=
 cands_skip (pv_le _ _ _) fun j a b c => pv_gap h (h i) m j a b (hh i j c).symm
structure Srch (T : List UInt8) (h : Nat → Nat) (i p s d b : Nat) : Prop where
 he : bestF T i = pick T i (cands T i p) s d b
 hp : p ≤ i
 hh : 0 < p → h (p - 1) = h i
 hb : b ≤ 259 ∧ d ≤ i ∧ d ≤ 32768
theorem Srch.init {T : List UInt8} {h : Nat → Nat} (hh : Hsh T h) {i : Nat} (hi : i + 4 ≤ T.length) : Srch T h i (pv h (h i) i) 0 0 0 :=
 ⟨by unfold bestF; rw [if_pos hi, cands_pv hh], pv_le _ _ _, fun k => pv_is _ _ _ k, by omega, by omega, by omega⟩
theorem Srch.stop {T : List UInt8} {h : Nat → Nat} {i p s d b : Nat} (H : Srch T h i p s d b) (hs : p = 0 ∨ 32768 < i - (p - 1) ∨ 16 ≤ s) : bestF T i = (d, b) := by
 rw [H.he]
 rcases hs with hs | hs | hs
 ·subst hs; rfl
 ·exact pick_far fun j hj => by have := (cands_mem hj).1; omega
 exact pick_16 hs
theorem Srch.skip {T : List UInt8} {h : Nat → Nat} (hh : Hsh T h) {i p s d b : Nat} (H : Srch T h i p s d b) (hp : 0 < p) (hn : ¬ alk T i (p - 1)) : Srch T h i (pv h (h (p - 1)) (p - 1)) s d b := by
 have hpl := pv_le h (h (p - 1)) (p - 1)
 have hpp := H.hp
 refine ⟨?_, by omega, fun k => ?_, H.hb⟩
 ·rw [H.he, show p = p - 1 + 1 by omega, cands, if_neg hn, Nat.add_sub_cancel, cands_pv hh, H.hh hp]
 rw [pv_is _ _ _ k, H.hh hp]
theorem Srch.look {T : List UInt8} {h : Nat → Nat} (hh : Hsh T h) {i p s d b : Nat} (H : Srch T h i p s d b) (hp : 0 < p) (ha : alk T i (p - 1)) (hw : i - (p - 1) ≤ 32768) (hs : s < 16) :
 bestF T i = (if b < lcF T i (p - 1) ∧ 3 + plen (i - (p - 1)) ≤ lcF T i (p - 1) then pick T i (cands T i (pv h (h (p - 1)) (p - 1))) (s + 1) (i - (p - 1)) (lcF T i (p - 1)) else pick T i (cands T i (pv h (h (p - 1)) (p - 1))) (s + 1) d b) := by
 rw [H.he]
 conv => lhs; rw [show p = p - 1 + 1 by omega, cands, if_pos ha, pick, if_pos ⟨hw, hs⟩]
 rw [cands_pv hh, H.hh hp]
theorem Srch.worse {T : List UInt8} {h : Nat → Nat} (hh : Hsh T h) {i p s d b : Nat} (H : Srch T h i p s d b) (hp : 0 < p) (ha : alk T i (p - 1)) (hw : i - (p - 1) ≤ 32768) (hs : s < 16) (hn : ¬ (b < lcF T i (p - 1) ∧ 3 + plen (i - (p - 1)) ≤ lcF T i (p - 1))) : Srch T h i (pv h (h (p - 1)) (p - 1)) (s + 1) d b := by
 have hpl := pv_le h (h (p - 1)) (p - 1)
 have hpp := H.hp
 refine ⟨?_, by omega, fun k => ?_, H.hb⟩
 ·rw [H.look hh hp ha hw hs, if_neg hn]
 rw [pv_is _ _ _ k, H.hh hp]
theorem Srch.better {T : List UInt8} {h : Nat → Nat} (hh : Hsh T h) {i p s d b : Nat} (H : Srch T h i p s d b) (hp : 0 < p) (ha : alk T i (p - 1)) (hw : i - (p - 1) ≤ 32768) (hs : s < 16) (hn : b < lcF T i (p - 1) ∧ 3 + plen (i - (p - 1)) ≤ lcF T i (p - 1)) : Srch T h i (pv h (h (p - 1)) (p - 1)) (s + 1) (i - (p - 1)) (lcF T i (p - 1)) := by
 have hpl := pv_le h (h (p - 1)) (p - 1)
 have hpp := H.hp
 have := lcF_le (T := T) (i := i) (j := p - 1)
 refine ⟨?_, by omega, fun k => ?_, by omega, by omega, by omega⟩
 ·rw [H.look hh hp ha hw hs, if_pos hn]
 rw [pv_is _ _ _ k, H.hh hp]
theorem Srch.most {T : List UInt8} {h : Nat → Nat} (hh : Hsh T h) {i p s d b : Nat} (H : Srch T h i p s d b) (hp : 0 < p) (ha : alk T i (p - 1)) (hw : i - (p - 1) ≤ 32768) (hs : s < 16) (hn : b < lcF T i (p - 1) ∧ 3 + plen (i - (p - 1)) ≤ lcF T i (p - 1)) (hm : lcF T i (p - 1) = 259 ∨ T.length ≤ i + lcF T i (p - 1)) : bestF T i = (i - (p - 1), lcF T i (p - 1)) := by
 rw [H.look hh hp ha hw hs, if_pos hn, pick_most _ _ _ _ hm]
structure Tab (h : Nat → Nat) (n : Nat) (m : Nat) (H A : List Int) (off : Int) : Prop where
 hl : H.length = n
 hv : ∀ v, v < n → H.getD v 0 = (pv h v m : Nat)
 av : ∀ j, j < m → A.getD j 0 = (pv h (h j) j : Nat) - off
theorem Tab.init (h : Nat → Nat) (n k : Nat) (off : Int) : Tab h n 0 (List.replicate n 0) (List.replicate k 0) off :=
 ⟨by simp, fun v hv => by rw [repG 0 hv]; rfl, fun j hj => by omega⟩
theorem Tab.step {h : Nat → Nat} {n m : Nat} {H A : List Int} {off : Int} (t : Tab h n m H A off) (hm : m < A.length) (hh : h m < n) : Tab h n (m + 1) (H.set (h m) ((m : Int) + 1)) (A.set m (H.getD (h m) 0 - off)) off := by
 refine ⟨by rw [List.length_set]; exact t.hl, fun v hv => ?_, fun j hj => ?_⟩
 ·rw [set_getD 0 (by rw [t.hl]; exact hv), pv]
  split
  ·rfl
  exact t.hv v hv
 rw [set_getD 0 (by omega)]
 split
 ·rename_i e; subst e; rw [t.hv _ hh]
 exact t.av j (by omega)
def hsh4 (a b c d : UInt8) : Int := orI .u32 (orI .u32 (orI .u32 (a.toNat : Int) (shlI .u32 (b.toNat : Int) 8)) (shlI .u32 (c.toNat : Int) 16)) (shlI .u32 (d.toNat : Int) 24)
def hashP (T : List UInt8) (i : Nat) : Nat := (hsh4 (T.getD i 0) (T.getD (i + 1) 0) (T.getD (i + 2) 0) (T.getD (i + 3) 0) * 2654435761 % 4294967296 / 131072).toNat
theorem hashP_lt (T : List UInt8) (i : Nat) : hashP T i < 32768 := by unfold hashP; omega
theorem hashP_h (T : List UInt8) : Hsh T (hashP T) := fun i j ⟨h0, h1, h2, h3⟩ => by unfold hashP; rw [h0, h1, h2, h3]
def slotR (T : List UInt8) (i : Nat) : Nat := ((T.getD i 0).toNat + 7 * (T.getD (i + 1) 0).toNat + 61 * (T.getD (i + 2) 0).toNat + 509 * (T.getD (i + 3) 0).toNat) % 4096
theorem slotR_lt (T : List UInt8) (i : Nat) : slotR T i < 4096 := by unfold slotR; omega
theorem slotR_h (T : List UInt8) : Hsh T (slotR T) := fun i j ⟨h0, h1, h2, h3⟩ => by unfold slotR; rw [h0, h1, h2, h3]
theorem hash_ok (bf : Nat) (x : Value) (cs : List Value) (T : List UInt8) (i : Nat) (w : World) (ho : Own w ⟨bf, 119, x :: cs⟩) (hx : RdE byteV w x T) (hi : i + 4 ≤ T.length) (hl : T.length ≤ 65536) : Calls Tryz.prog 110 [.pointer (some ⟨bf, 0, none⟩), .int .i64 ((i : Nat) : Int)].toArray w (Rt fun r w' => r = .int .i64 ((hashP T i : Nat) : Int) ∧ Upd [] w w') := by
 have hM0 : Mem w [] w [] := Mem.nil w []
 refine calls_vc mixed Tryz.func110 rfl C110 (by simp [Tryz.ntmps110]) <| seq fun _ h1 => mv <| h1 _ _ <| seq fun _ h2 => ?_
 intro wd e1 e2 e3 e4
 have hd := Upd.same e1 e2 e3 e4 []
 have hM3 := hM0.pure hd
 clear e1 e2 e3 e4
 refine ⟨none, ?_⟩
 show vd _ _ _ _ _ _ _
 refine dmv <| dq (v := .pointer (some ⟨bf, 0, none⟩)) (o_nilchk rfl rfl) <| dfa rfl <| dmv <| dmv <| dq (v := .pointer (some ⟨bf, 0, none⟩)) (o_nilchk rfl rfl) <| dfa rfl <| dmv <| dq (v := .int .i64 ((i : Nat) + 1)) (o_bin rfl rfl (v_add64 (by omega))) <| dmv <| dq (v := .pointer (some ⟨bf, 0, none⟩)) (o_nilchk rfl rfl) <| dfa rfl <| dmv <| dq (v := .int .i64 ((i : Nat) + 2)) (o_bin rfl rfl (v_add64 (by omega))) ?_
 refine dmv <| dq (v := .pointer (some ⟨bf, 0, none⟩)) (o_nilchk rfl rfl) <| dfa rfl <| dmv <| dq (v := .int .i64 ((i : Nat) + 3)) (o_bin rfl rfl (v_add64 (by omega))) <| dqld rfl (trivial) (v := x) ((ho.upd hM3.upd (by simp)).cell 0) <| dqp (m_idxE 0 (j := ((i) + 3)) (hx.upd hM3.upd) rfl (v_int (by omega)) (by omega) fun b4 o4 hp4 => ?_)
 show vd _ _ _ _ _ _ _
 refine dqld rfl (trivial) (v := x) ((ho.upd hM3.upd (by simp)).cell 0) <| dqp (m_idxE 0 (j := ((i) + 2)) (hx.upd hM3.upd) rfl (v_int (by omega)) (by omega) fun b5 o5 hp5 => ?_)
 show vd _ _ _ _ _ _ _
 refine dqld rfl (trivial) (v := x) ((ho.upd hM3.upd (by simp)).cell 0) <| dqp (m_idxE 0 (j := ((i) + 1)) (hx.upd hM3.upd) rfl (v_int (by omega)) (by omega) fun b6 o6 hp6 => ?_)
 show vd _ _ _ _ _ _ _
 refine dqld rfl (trivial) (v := x) ((ho.upd hM3.upd (by simp)).cell 0) <| dqp (m_idxE 0 (j := i) (hx.upd hM3.upd) rfl rfl (by omega) fun b7 o7 hp7 => ?_)
 show vd _ _ _ _ _ _ _
 refine dqld rfl (trivial) (v := byteV (T.getD ((i) + 3) 0)) (hp4) <| dq (v := .int .u32 ((T.getD ((i) + 3) 0).toNat : Int)) (o_conv rfl (v_byteTo (by decide))) <| dq (v := .int .u32 (shlI .u32 ((T.getD ((i) + 3) 0).toNat : Int) 24)) (o_shl rfl rfl (by omega) rfl) <| dqld rfl (trivial) (v := byteV (T.getD ((i) + 2) 0)) (hp5) <| dq (v := .int .u32 ((T.getD ((i) + 2) 0).toNat : Int)) (o_conv rfl (v_byteTo (by decide))) <| dq (v := .int .u32 (shlI .u32 ((T.getD ((i) + 2) 0).toNat : Int) 16)) (o_shl rfl rfl (by omega) rfl) <| dqld rfl (trivial) (v := byteV (T.getD ((i) + 1) 0)) (hp6) <| dq (v := .int .u32 ((T.getD ((i) + 1) 0).toNat : Int)) (o_conv rfl (v_byteTo (by decide))) <| dq (v := .int .u32 (shlI .u32 ((T.getD ((i) + 1) 0).toNat : Int) 8)) (o_shl rfl rfl (by omega) rfl) <| dl (ld (v := byteV (T.getD i 0)) rfl (hp7) <| ⟨rfl, dq (v := .int .u32 ((T.getD i 0).toNat : Int)) (o_conv rfl (v_byteTo (by decide))) <| dq (v := .int .u32 (orI .u32 ((T.getD i 0).toNat : Int) (shlI .u32 ((T.getD ((i) + 1) 0).toNat : Int) 8))) (o_bin rfl rfl rfl) <| dq (v := .int .u32 (orI .u32 (orI .u32 ((T.getD i 0).toNat : Int) (shlI .u32 ((T.getD ((i) + 1) 0).toNat : Int) 8)) (shlI .u32 ((T.getD ((i) + 2) 0).toNat : Int) 16))) (o_bin rfl rfl rfl) ?_⟩)
 refine dq (v := .int .u32 (orI .u32 (orI .u32 (orI .u32 ((T.getD i 0).toNat : Int) (shlI .u32 ((T.getD ((i) + 1) 0).toNat : Int) 8)) (shlI .u32 ((T.getD ((i) + 2) 0).toNat : Int) 16)) (shlI .u32 ((T.getD ((i) + 3) 0).toNat : Int) 24))) (o_bin rfl rfl rfl) <| dmv <| h2 _ _ <| seq fun _ h8 => mv <| stp (v := .int .u32 (((orI .u32 (orI .u32 (orI .u32 ((T.getD i 0).toNat : Int) (shlI .u32 ((T.getD ((i) + 1) 0).toNat : Int) 8)) (shlI .u32 ((T.getD ((i) + 2) 0).toNat : Int) 16)) (shlI .u32 ((T.getD ((i) + 3) 0).toNat : Int) 24)) * 2654435761) % 4294967296)) (o_bin rfl rfl (v_u32 _)) <| stp (v := .int .u32 ((((orI .u32 (orI .u32 (orI .u32 ((T.getD i 0).toNat : Int) (shlI .u32 ((T.getD ((i) + 1) 0).toNat : Int) 8)) (shlI .u32 ((T.getD ((i) + 2) 0).toNat : Int) 16)) (shlI .u32 ((T.getD ((i) + 3) 0).toNat : Int) 24)) * 2654435761) % 4294967296) / 131072)) (o_shr rfl rfl (by omega) (v_shr 17 (by decide))) <| stp (v := .int .i64 ((((orI .u32 (orI .u32 (orI .u32 ((T.getD i 0).toNat : Int) (shlI .u32 ((T.getD ((i) + 1) 0).toNat : Int) 8)) (shlI .u32 ((T.getD ((i) + 2) 0).toNat : Int) 16)) (shlI .u32 ((T.getD ((i) + 3) 0).toNat : Int) 24)) * 2654435761) % 4294967296) / 131072)) (o_conv rfl (v_same (by simp only [inK]; omega))) <| mv <| h8 _ _ <| ⟨(.int .i64 ((((orI .u32 (orI .u32 (orI .u32 ((T.getD i 0).toNat : Int) (shlI .u32 ((T.getD ((i) + 1) 0).toNat : Int) 8)) (shlI .u32 ((T.getD ((i) + 2) 0).toNat : Int) 16)) (shlI .u32 ((T.getD ((i) + 3) 0).toNat : Int) 24)) * 2654435761) % 4294967296) / 131072)), rfl, ⟨v_int (by unfold hashP hsh4; omega), hM3.upd⟩⟩
theorem slot_ok (x : Value) (T : List UInt8) (i : Nat) (w : World) (hx : RdE byteV w x T) (hi : i + 4 ≤ T.length) (hl : T.length ≤ 65536) : Calls Tryz.prog 95 [x, .int .i64 ((i : Nat) : Int)].toArray w (Rt fun r w' => r = .int .i64 ((slotR T i : Nat) : Int) ∧ Upd [] w w') := by
 have hM0 : Mem w [] w [] := Mem.nil w []
 have a0 := (T.getD i 0).toNat_lt
 have a1 := (T.getD (i + 1) 0).toNat_lt
 have a2 := (T.getD (i + 2) 0).toNat_lt
 have a3 := (T.getD (i + 3) 0).toNat_lt
 refine calls_vc mixed Tryz.func95 rfl C95 (by simp [Tryz.ntmps95]) <| seq fun _ h1 => mv <| h1 _ _ <| seq fun _ h2 => ?_
 intro wd e1 e2 e3 e4
 have hd := Upd.same e1 e2 e3 e4 []
 have hM3 := hM0.pure hd
 clear e1 e2 e3 e4
 refine ⟨none, ?_⟩
 show vd _ _ _ _ _ _ _
 refine dmv <| dmv <| dqp (m_idxE 0 (j := i) (hx.upd hM3.upd) rfl rfl (by omega) fun b4 o4 hp4 => ?_)
 show vd _ _ _ _ _ _ _
 refine dmv <| dmv <| dq (v := .int .i64 ((i : Nat) + 1)) (o_bin rfl rfl (v_add64 (by omega))) <| dqp (m_idxE 0 (j := ((i) + 1)) (hx.upd hM3.upd) rfl (v_int (by omega)) (by omega) fun b5 o5 hp5 => ?_)
 show vd _ _ _ _ _ _ _
 refine dmv <| dmv <| dq (v := .int .i64 ((i : Nat) + 2)) (o_bin rfl rfl (v_add64 (by omega))) <| dqp (m_idxE 0 (j := ((i) + 2)) (hx.upd hM3.upd) rfl (v_int (by omega)) (by omega) fun b6 o6 hp6 => ?_)
 show vd _ _ _ _ _ _ _
 refine dmv <| dmv <| dq (v := .int .i64 ((i : Nat) + 3)) (o_bin rfl rfl (v_add64 (by omega))) <| dqp (m_idxE 0 (j := ((i) + 3)) (hx.upd hM3.upd) rfl (v_int (by omega)) (by omega) fun b7 o7 hp7 => ?_)
 show vd _ _ _ _ _ _ _
 refine dqld rfl (trivial) (v := byteV (T.getD ((i) + 3) 0)) (hp7) <| dq (v := .int .i64 ((T.getD ((i) + 3) 0).toNat : Int)) (o_conv rfl (v_byteTo (by decide))) <| dq (v := .int .i64 (509 * ((T.getD ((i) + 3) 0).toNat : Int))) (o_bin rfl rfl (v_mul64 (by omega))) <| dqld rfl (trivial) (v := byteV (T.getD ((i) + 2) 0)) (hp6) <| dq (v := .int .i64 ((T.getD ((i) + 2) 0).toNat : Int)) (o_conv rfl (v_byteTo (by decide))) <| dq (v := .int .i64 (61 * ((T.getD ((i) + 2) 0).toNat : Int))) (o_bin rfl rfl (v_mul64 (by omega))) <| dqld rfl (trivial) (v := byteV (T.getD ((i) + 1) 0)) (hp5) <| dq (v := .int .i64 ((T.getD ((i) + 1) 0).toNat : Int)) (o_conv rfl (v_byteTo (by decide))) <| dq (v := .int .i64 (7 * ((T.getD ((i) + 1) 0).toNat : Int))) (o_bin rfl rfl (v_mul64 (by omega))) <| dl (ld (v := byteV (T.getD i 0)) rfl (hp4) <| ⟨rfl, dq (v := .int .i64 ((T.getD i 0).toNat : Int)) (o_conv rfl (v_byteTo (by decide))) <| dq (v := .int .i64 (((T.getD i 0).toNat : Int) + (7 * ((T.getD ((i) + 1) 0).toNat : Int)))) (o_bin rfl rfl (v_add64 (by omega))) <| dq (v := .int .i64 ((((T.getD i 0).toNat : Int) + (7 * ((T.getD ((i) + 1) 0).toNat : Int))) + (61 * ((T.getD ((i) + 2) 0).toNat : Int)))) (o_bin rfl rfl (v_add64 (by omega))) ?_⟩)
 refine dq (v := .int .i64 (((((T.getD i 0).toNat : Int) + (7 * ((T.getD ((i) + 1) 0).toNat : Int))) + (61 * ((T.getD ((i) + 2) 0).toNat : Int))) + (509 * ((T.getD ((i) + 3) 0).toNat : Int)))) (o_bin rfl rfl (v_add64 (by omega))) <| dmv <| h2 _ _ <| seq fun _ h8 => mv <| stp (v := .int .i64 ((((((T.getD i 0).toNat : Int) + (7 * ((T.getD ((i) + 1) 0).toNat : Int))) + (61 * ((T.getD ((i) + 2) 0).toNat : Int))) + (509 * ((T.getD ((i) + 3) 0).toNat : Int))) % 4096)) (o_rem rfl rfl (by omega) (v_rem (by omega))) <| mv <| h8 _ _ <| ⟨(.int .i64 ((((((T.getD i 0).toNat : Int) + (7 * ((T.getD ((i) + 1) 0).toNat : Int))) + (61 * ((T.getD ((i) + 2) 0).toNat : Int))) + (509 * ((T.getD ((i) + 3) 0).toNat : Int))) % 4096)), rfl, ⟨v_int (by unfold slotR; omega), hM3.upd⟩⟩
theorem alike_ok (x : Value) (T : List UInt8) (i j : Nat) (w : World) (hx : RdE byteV w x T) (hi : i + 4 ≤ T.length) (hj : j ≤ i) (hl : T.length ≤ 65536) : Calls Tryz.prog 96 [x, .int .i64 ((i : Nat) : Int), .int .i64 ((j : Nat) : Int)].toArray w (Rt fun r w' => r = .bool (decide (alk T i j)) ∧ Upd [] w w') := by
 have hM0 : Mem w [] w [] := Mem.nil w []
 refine calls_vc mixed Tryz.func96 rfl C96 (by simp [Tryz.ntmps96]) <| seq fun _ h1 => mv <| h1 _ _ <| seq fun _ h2 => ?_
 intro wd e1 e2 e3 e4
 have hd := Upd.same e1 e2 e3 e4 []
 have hM3 := hM0.pure hd
 clear e1 e2 e3 e4
 refine ⟨none, ?_⟩
 show vd _ _ _ _ _ _ _
 refine dmv <| dmv <| dqp (m_idxE 0 (j := i) (hx.upd hM3.upd) rfl rfl (by omega) fun b4 o4 hp4 => ?_)
 show vd _ _ _ _ _ _ _
 refine dmv <| dmv <| dqp (m_idxE 0 (j := j) (hx.upd hM3.upd) rfl rfl (by omega) fun b5 o5 hp5 => ?_)
 show vd _ _ _ _ _ _ _
 refine dqld rfl (trivial) (v := byteV (T.getD j 0)) (hp5) <| dl (ld (v := byteV (T.getD i 0)) rfl (hp4) <| ⟨rfl, dbn rfl rfl <| dmv <| dsplitP rfl (fun c6 => ?_) (fun c6 => ?_)⟩)
 ·refine dgmv rfl <| dgmv rfl <| dqg rfl (v := .int .i64 ((i : Nat) + 1)) (o_bin rfl rfl (v_add64 (by omega))) <| dgyes rfl rfl (dqp (m_idxE 0 (j := ((i) + 1)) (hx.upd hM3.upd) rfl (v_int (by omega)) (by omega) fun b7 o7 hp7 => ?_))
  show vd _ _ _ _ _ _ _
  refine dgmv rfl <| dgmv rfl <| dqg rfl (v := .int .i64 ((j : Nat) + 1)) (o_bin rfl rfl (v_add64 (by omega))) <| dgyes rfl rfl (dqp (m_idxE 0 (j := ((j) + 1)) (hx.upd hM3.upd) rfl (v_int (by omega)) (by omega) fun b8 o8 hp8 => ?_))
  show vd _ _ _ _ _ _ _
  refine dqgyes rfl rfl <| dqld rfl (trivial) (v := byteV (T.getD ((j) + 1) 0)) (hp8) <| dgyesl rfl <| dl (ld (v := byteV (T.getD ((i) + 1) 0)) rfl (hp7) <| ⟨rfl, dgbn rfl rfl rfl <| dpkT rfl <| dmv <| dsplitP rfl (fun c9 => ?_) (fun c9 => ?_)⟩)
  ·refine dgmv rfl <| dgmv rfl <| dqg rfl (v := .int .i64 ((i : Nat) + 2)) (o_bin rfl rfl (v_add64 (by omega))) <| dgyes rfl rfl (dqp (m_idxE 0 (j := ((i) + 2)) (hx.upd hM3.upd) rfl (v_int (by omega)) (by omega) fun b10 o10 hp10 => ?_))
   show vd _ _ _ _ _ _ _
   refine dgmv rfl <| dgmv rfl <| dqg rfl (v := .int .i64 ((j : Nat) + 2)) (o_bin rfl rfl (v_add64 (by omega))) <| dgyes rfl rfl (dqp (m_idxE 0 (j := ((j) + 2)) (hx.upd hM3.upd) rfl (v_int (by omega)) (by omega) fun b11 o11 hp11 => ?_))
   show vd _ _ _ _ _ _ _
   refine dqgyes rfl rfl <| dqld rfl (trivial) (v := byteV (T.getD ((j) + 2) 0)) (hp11) <| dgyesl rfl <| dl (ld (v := byteV (T.getD ((i) + 2) 0)) rfl (hp10) <| ⟨rfl, dgbn rfl rfl rfl <| dpkT rfl <| dmv <| dsplitP rfl (fun c12 => ?_) (fun c12 => ?_)⟩)
   ·refine dgmv rfl <| dgmv rfl <| dqg rfl (v := .int .i64 ((i : Nat) + 3)) (o_bin rfl rfl (v_add64 (by omega))) <| dgyes rfl rfl (dqp (m_idxE 0 (j := ((i) + 3)) (hx.upd hM3.upd) rfl (v_int (by omega)) (by omega) fun b13 o13 hp13 => ?_))
    show vd _ _ _ _ _ _ _
    refine dgmv rfl <| dgmv rfl <| dqg rfl (v := .int .i64 ((j : Nat) + 3)) (o_bin rfl rfl (v_add64 (by omega))) <| dgyes rfl rfl (dqp (m_idxE 0 (j := ((j) + 3)) (hx.upd hM3.upd) rfl (v_int (by omega)) (by omega) fun b14 o14 hp14 => ?_))
    show vd _ _ _ _ _ _ _
    refine dqgyes rfl rfl <| dqld rfl (trivial) (v := byteV (T.getD ((j) + 3) 0)) (hp14) <| dgyesl rfl <| dl (ld (v := byteV (T.getD ((i) + 3) 0)) rfl (hp13) <| ⟨rfl, dgbn rfl rfl rfl <| dpkT rfl <| dmv <| h2 _ _ <| ⟨(.bool (decide (((T.getD ((i) + 3) 0).toNat : Int) = ((T.getD ((j) + 3) 0).toNat : Int)))), rfl, ⟨by unfold alk; first | exact bool_no (fun ⟨h0, h1, h2, h3⟩ => by first | exact ‹¬ ((_ : Nat) : Int) = _› (by rw [h0]) | exact ‹¬ ((_ : Nat) : Int) = _› (by rw [h1]) | exact ‹¬ ((_ : Nat) : Int) = _› (by rw [h2])) | exact bool_iff ⟨fun h => ⟨u8_eq ‹_›, u8_eq ‹_›, u8_eq ‹_›, u8_eq h⟩, fun h => by rw [h.2.2.2]⟩, hM3.upd⟩⟩⟩)
   refine dx rfl <| dx rfl <| dx rfl <| dx rfl <| dx rfl <| dx rfl <| dx rfl <| dx rfl <| dxq rfl <| dxl rfl <| dx rfl <| dpkF rfl <| dmv <| h2 _ _ <| ⟨(.bool false), rfl, ⟨by unfold alk; first | exact bool_no (fun ⟨h0, h1, h2, h3⟩ => by first | exact ‹¬ ((_ : Nat) : Int) = _› (by rw [h0]) | exact ‹¬ ((_ : Nat) : Int) = _› (by rw [h1]) | exact ‹¬ ((_ : Nat) : Int) = _› (by rw [h2])) | exact bool_iff ⟨fun h => ⟨u8_eq ‹_›, u8_eq ‹_›, u8_eq ‹_›, u8_eq h⟩, fun h => by rw [h.2.2.2]⟩, hM3.upd⟩⟩
  refine dx rfl <| dx rfl <| dx rfl <| dx rfl <| dx rfl <| dx rfl <| dx rfl <| dx rfl <| dxq rfl <| dxl rfl <| dx rfl <| dpkF rfl <| dmv <| dsplitF rfl <| dx rfl <| dx rfl <| dx rfl <| dx rfl <| dx rfl <| dx rfl <| dx rfl <| dx rfl <| dxq rfl <| dxl rfl <| dx rfl <| dpkF rfl <| dmv <| h2 _ _ <| ⟨(.bool false), rfl, ⟨by unfold alk; first | exact bool_no (fun ⟨h0, h1, h2, h3⟩ => by first | exact ‹¬ ((_ : Nat) : Int) = _› (by rw [h0]) | exact ‹¬ ((_ : Nat) : Int) = _› (by rw [h1]) | exact ‹¬ ((_ : Nat) : Int) = _› (by rw [h2])) | exact bool_iff ⟨fun h => ⟨u8_eq ‹_›, u8_eq ‹_›, u8_eq ‹_›, u8_eq h⟩, fun h => by rw [h.2.2.2]⟩, hM3.upd⟩⟩
 refine dx rfl <| dx rfl <| dx rfl <| dx rfl <| dx rfl <| dx rfl <| dx rfl <| dx rfl <| dxq rfl <| dxl rfl <| dx rfl <| dpkF rfl <| dmv <| dsplitF rfl <| dx rfl <| dx rfl <| dx rfl <| dx rfl <| dx rfl <| dx rfl <| dx rfl <| dx rfl <| dxq rfl <| dxl rfl <| dx rfl <| dpkF rfl <| dmv <| dsplitF rfl <| dx rfl <| dx rfl <| dx rfl <| dx rfl <| dx rfl <| dx rfl <| dx rfl <| dx rfl <| dxq rfl <| dxl rfl <| dx rfl <| dpkF rfl <| dmv <| h2 _ _ <| ⟨(.bool false), rfl, ⟨by unfold alk; first | exact bool_no (fun ⟨h0, h1, h2, h3⟩ => by first | exact ‹¬ ((_ : Nat) : Int) = _› (by rw [h0]) | exact ‹¬ ((_ : Nat) : Int) = _› (by rw [h1]) | exact ‹¬ ((_ : Nat) : Int) = _› (by rw [h2])) | exact bool_iff ⟨fun h => ⟨u8_eq ‹_›, u8_eq ‹_›, u8_eq ‹_›, u8_eq h⟩, fun h => by rw [h.2.2.2]⟩, hM3.upd⟩⟩
theorem or3 {a b c : Prop} (h : a ∨ b) : a ∨ b ∨ c := h.elim .inl fun h => .inr (.inl h)
theorem heads_at {H : List Int} {x va : Value} {v : Nat} (h : v < H.length) : (x :: (H.map i64V ++ [va]))[1 + v]? = some (.int .i64 (H.getD v 0)) := by
 rw [Nat.add_comm, List.getElem?_cons_succ, List.getElem?_append_left (by simpa using h), List.getElem?_map, List.getD_eq_getElem?_getD, List.getElem?_eq_getElem h]; rfl
theorem ahead_at {H : List Int} {x va : Value} (h : H.length = 32768) : (x :: (H.map i64V ++ [va]))[32769]? = some va := by
 rw [List.getElem?_cons_succ, List.getElem?_append_right (by simp [h]), List.length_map, h]; rfl
theorem match_ok (bf : Nat) (x va : Value) (T : List UInt8) (H A : List Int) (i : Nat) (w : World) (ho : Own w ⟨bf, 119, x :: (H.map i64V ++ [va])⟩) (hA : RdE i64V w va A) (hAl : A.length = T.length) (ht : Tab (hashP T) 32768 (min i (T.length - 3)) H A 1) (hx : RdE byteV w x T) (hi : i < T.length) (hl : T.length ≤ 65536) : Calls Tryz.prog 79 [.pointer (some ⟨bf, 0, none⟩), .int .i64 ((i : Nat) : Int)].toArray w (Rt fun r w' => r = .tuple [.int .i64 (((bestF T i).1 : Nat) : Int), .int .i64 (((bestF T i).2 : Nat) : Int)].toArray ∧ Upd [] w w') := by
 have hM0 : Mem w [] w [] := Mem.nil w []
 have hhl := hashP_lt T i
 have hhv := ht.hv (hashP T i) hhl
 have hpl := pv_le (hashP T) (hashP T i) (min i (T.length - 3))
 refine calls_vc mixed Tryz.func79 rfl C79 (by simp [Tryz.ntmps79]) <| seq fun _ h1 => mv <| mv <| h1 _ _ <| seq fun _ h2 => seq fun _ h3 => mv <| stp (v := .int .i64 ((i : Nat) + 4)) (o_bin rfl rfl (v_add64 (by omega))) <| mv <| nilchk rfl <| fa rfl <| ld (v := x) rfl ((ho.upd hM0.upd (by simp)).cell 0) <| stp (v := .int .i64 (T.length : Nat)) (o_lenR (hx.upd hM0.upd) rfl rfl) ?_
 refine bn rfl rfl <| h3 _ _ <| cndP rfl (fun c4 => ?_) (fun c4 => ?_)
 ·refine seq fun _ h5 => mv <| mv <| h5 _ _ <| ⟨(.tuple [.int .i64 0, .int .i64 0].toArray), rfl, ⟨by unfold bestF; rw [if_neg (by omega)]; rfl, hM0.upd⟩⟩
 refine h2 _ _ <| seq fun _ h6 => mv <| h6 _ _ <| seq fun _ h7 => ?_
 have hmi : min i (T.length - 3) = i := by omega
 rw [hmi] at ht hhv hpl
 refine mv <| nilchk rfl <| fa rfl <| ld (v := x) rfl ((ho.upd hM0.upd (by simp)).cell 0) <| stp (v := .int .i64 (T.length : Nat)) (o_lenR (hx.upd hM0.upd) rfl rfl) <| mv <| stp (v := .int .i64 ((T.length : Nat) - (i : Nat))) (o_bin rfl rfl (v_sub64 (by omega))) <| stp (v := .int .i64 ((min 259 (T.length - i) : Nat) : Int)) (o_mm rfl rfl (by show Value.int .i64 (min _ _) = _; exact v_int (by omega))) <| mv <| h7 _ _ <| seq fun _ h8 => h8 _ _ <| seq fun _ h9 => seq fun _ h10 => ?_
 intro wd e1 e2 e3 e4
 have hd := Upd.same e1 e2 e3 e4 []
 have hM11 := hM0.pure hd
 clear e1 e2 e3 e4
 refine ⟨(some []), ?_⟩
 show vd _ _ _ _ _ _ _
 refine dmv <| dmv <| dmv <| dq (v := .pointer (some ⟨bf, 0, none⟩)) (o_nilchk rfl rfl) <| dfa rfl <| dl (m_call (hash_ok bf x _ T i wd (ho.upd hM11.upd (by simp)) (hx.upd hM11.upd) (by omega) (by omega)) rfl fun v12 w12 ⟨hr12, hu12⟩ => ?_)
 have hM12 : Mem w [] w12 [] := hM11.pure hu12
 subst hr12
 refine ⟨(fun b hb => by cases hb), dq (v := .pointer (some ⟨bf, 1 + hashP T i, none⟩)) (o_idxa rfl rfl (by omega) (v_ptr (by first | (rw [Int.toNat_natCast, Nat.mul_one]; done) | (simp; done) | omega))) <| dl (ld (v := .int .i64 (H.getD (hashP T i) 0)) rfl (((ho.upd hM12.upd (by simp)).cell _).trans (heads_at (by rw [ht.hl]; exact hashP_lt _ _))) <| ⟨(fun b hb => by cases hb), dq (v := .int .i64 ((H.getD (hashP T i) 0) - 1)) (o_bin rfl rfl (v_sub64 (by omega))) <| dmv <| h10 _ _ <| lp (n := fun _ _ => False) (ι := (Nat) × (Nat) × (Nat) × (Nat)) (fun ⟨p, s, d, b⟩ f w' => f 4 = .int .i64 (d : Nat) ∧ f 5 = .int .i64 (b : Nat) ∧ f 6 = .int .i64 (s : Nat) ∧ f 8 = .int .i64 ((p : Nat) - 1) ∧ f 0 = .pointer (some ⟨bf, 0, none⟩) ∧ f 1 = .int .i64 (i : Nat) ∧ f 7 = .int .i64 ((min 259 (T.length - i) : Nat) : Int) ∧ Mem w [] w' [] ∧ (Srch T (hashP T) i p s d b) ∧ (s ≤ 16)) (fun ⟨p, s, d, b⟩ => p) (pv (hashP T) (hashP T i) i, 0, 0, 0) ?_ ?_⟩)⟩
 ·exact ⟨vi, vi, vi, vi, rfl, vi, vi, hM12, Srch.init (hashP_h T) (by omega), by omega⟩
 rintro ⟨p, s, d, b⟩ f w13 ⟨e13_4, e13_5, e13_6, e13_8, e13_0, e13_1, e13_7, hM13, hS, hs⟩ K14 h14
 obtain ⟨frm, rfl⟩ := re7 e13_4 e13_5 e13_6 e13_8 e13_0 e13_1 e13_7
 refine seq fun _ h15 => seq fun _ h16 => ?_
 have hSp := hS.hp
 have hSb := hS.hb
 refine mv <| bn rfl rfl <| mv <| splitP rfl (fun c17 => ?_) (fun c17 => ?_)
 ·refine gmv rfl <| gmv rfl <| stg rfl (v := .int .i64 ((i : Nat) - ((p : Nat) - 1))) (o_bin rfl rfl (v_sub64 (by omega))) <| gbn rfl rfl rfl <| pkT rfl <| mv <| splitP rfl (fun c18 => ?_) (fun c18 => ?_)
  ·refine gmv rfl <| gbn rfl rfl rfl <| pkT rfl <| h16 _ _ <| cndP rfl (fun c19 => ?_) (fun c19 => ?_)
   ·refine h15 _ _ <| seq fun _ h20 => seq fun _ h21 => mv <| h21 _ _ <| seq fun _ h22 => lp (n := fun _ _ => False) (ι := (Nat)) (fun n f w' => f 9 = .int .i64 (n : Nat) ∧ f 0 = .pointer (some ⟨bf, 0, none⟩) ∧ f 1 = .int .i64 (i : Nat) ∧ f 4 = .int .i64 (d : Nat) ∧ f 5 = .int .i64 (b : Nat) ∧ f 6 = .int .i64 (s : Nat) ∧ f 7 = .int .i64 ((min 259 (T.length - i) : Nat) : Int) ∧ f 8 = .int .i64 ((p : Nat) - 1) ∧ Mem w [] w' [] ∧ (n ≤ min 259 (T.length - i)) ∧ (∀ k, k < n → T.getD (i + k) 0 = T.getD (p - 1 + k) 0)) (fun n => min 259 (T.length - i) - n) (0) ?_ ?_
    ·exact ⟨vi, rfl, vi, vi, vi, vi, vi, vi, hM13, by omega, fun k hk => by omega⟩
    rintro n f w23 ⟨e23_9, e23_0, e23_1, e23_4, e23_5, e23_6, e23_7, e23_8, hM23, hn, hk⟩ K24 h24
    obtain ⟨frm, rfl⟩ := re8 e23_9 e23_0 e23_1 e23_4 e23_5 e23_6 e23_7 e23_8
    refine seq fun _ h25 => seq fun _ h26 => ?_
    intro wd e1 e2 e3 e4
    have hd := Upd.same e1 e2 e3 e4 []
    have hM27 := hM23.pure hd
    clear e1 e2 e3 e4
    refine ⟨none, ?_⟩
    show vd _ _ _ _ _ _ _
    refine dmv <| dmv <| dbn rfl rfl <| dmv <| dsplitP rfl (fun c28 => ?_) (fun c28 => ?_)
    ·refine dgmv rfl <| dqg rfl (v := .pointer (some ⟨bf, 0, none⟩)) (o_nilchk rfl rfl) <| dgfa rfl rfl <| dgmv rfl <| dgmv rfl <| dqg rfl (v := .int .i64 ((i : Nat) + (n : Nat))) (o_bin rfl rfl (v_add64 (by omega))) <| dgmv rfl <| dqg rfl (v := .pointer (some ⟨bf, 0, none⟩)) (o_nilchk rfl rfl) <| dgfa rfl rfl <| dgmv rfl <| dgmv rfl <| dqg rfl (v := .int .i64 (((p : Nat) - 1) + (n : Nat))) (o_bin rfl rfl (v_add64 (by omega))) <| dqgyes rfl rfl <| dqld rfl (trivial) (v := x) ((ho.upd hM27.upd (by simp)).cell 0) ?_
     refine dgyes rfl rfl (dqp (m_idxE 0 (j := (p - 1 + n)) (hx.upd hM27.upd) rfl (v_int (by omega)) (by omega) fun b29 o29 hp29 => ?_))
     show vd _ _ _ _ _ _ _
     refine dqgyes rfl rfl <| dqld rfl (trivial) (v := x) ((ho.upd hM27.upd (by simp)).cell 0) <| dgyes rfl rfl (dqp (m_idxE 0 (j := ((i) + (n))) (hx.upd hM27.upd) rfl (v_int (by omega)) (by omega) fun b30 o30 hp30 => ?_))
     show vd _ _ _ _ _ _ _
     refine dqgyes rfl rfl <| dqld rfl (trivial) (v := byteV (T.getD (p - 1 + n) 0)) (hp29) <| dgyesl rfl <| dl (ld (v := byteV (T.getD ((i) + (n)) 0)) rfl (hp30) <| ⟨rfl, dgbn rfl rfl rfl <| dpkT rfl <| h26 _ _ <| cndP rfl (fun c31 => ?_) (fun c31 => ?_)⟩)
     ·refine h25 _ _ <| mv <| stp (v := .int .i64 ((n : Nat) + 1)) (o_bin rfl rfl (v_add64 (by omega))) <| mv ?_
      refine h24 (n + 1) _ _ ⟨vi, rfl, vi, vi, vi, vi, vi, vi, hM27, by omega, fun k hk9 => by
       rcases Nat.lt_or_ge k n with h9 | h9
       ·exact hk k h9
       (obtain rfl : k = n := by omega); exact u8_eq (by assumption)⟩ (by (try dsimp only); omega)
     refine h22 _ _ <| seq fun _ h32 => seq fun _ h33 => ?_
     have hL : lcF T i (p - 1) = n := lcF_is (by omega) (by omega) (by omega) hk (by first | exact .inr (.inr (nat_neG (by assumption))) | exact or3 (by omega))
     have hA4 := alk_lc (T := T) (i := i) (j := p - 1) (by omega) (by omega)
     rw [hL] at hA4
     refine mv <| bn rfl rfl <| h33 _ _ <| cndP rfl (fun c34 => ?_) (fun c34 => ?_)
     ·refine h20 _ _ ?_
      have hav := ht.av (p - 1) (by omega)
      have hpq := pv_le (hashP T) (hashP T (p - 1)) (p - 1)
      refine mv <| nilchk rfl <| fa rfl <| ld (v := va) rfl (((ho.upd hM27.upd (by simp)).cell _).trans (ahead_at ht.hl)) <| mv <| m_idxE 0 (j := (p - 1)) (hA.upd hM27.upd) rfl (v_int (by omega)) (by omega) fun b35 o35 hp35 => ld (v := .int .i64 (A.getD (p - 1) 0)) rfl (hp35) <| mv <| h14 (pv (hashP T) (hashP T (p - 1)) (p - 1), s, d, b) _ _ ⟨vi, vi, vi, vi, rfl, vi, vi, hM27, hS.skip (hashP_h T) (by omega) (fun h => by have := hA4.1 h; omega), by omega⟩ (by (try dsimp only); omega)
     refine h32 _ _ <| seq fun _ h36 => mv <| stp (v := .int .i64 ((s : Nat) + 1)) (o_bin rfl rfl (v_add64 (by omega))) <| mv <| h36 _ _ <| seq fun _ h37 => seq fun _ h38 => mv <| mv <| bn rfl rfl <| mv <| splitP rfl (fun c39 => ?_) (fun c39 => ?_)
     ·refine gx rfl <| gx rfl <| gx rfl <| gx rfl <| gxl rfl <| gx rfl <| gx rfl <| gx rfl <| pkT rfl <| h38 _ _ <| cndT rfl <| h20 _ _ ?_
      have hav := ht.av (p - 1) (by omega)
      have hpq := pv_le (hashP T) (hashP T (p - 1)) (p - 1)
      refine mv <| nilchk rfl <| fa rfl <| ld (v := va) rfl (((ho.upd hM27.upd (by simp)).cell _).trans (ahead_at ht.hl)) <| mv <| m_idxE 0 (j := (p - 1)) (hA.upd hM27.upd) rfl (v_int (by omega)) (by omega) fun b40 o40 hp40 => ld (v := .int .i64 (A.getD (p - 1) 0)) rfl (hp40) <| mv <| h14 (pv (hashP T) (hashP T (p - 1)) (p - 1), s + 1, d, b) _ _ ⟨vi, vi, vi, vi, rfl, vi, vi, hM27, hS.worse (hashP_h T) (by omega) (hA4.2 (by omega)) (by omega) (by omega) (by rw [hL]; omega), by omega⟩ (by (try dsimp only); omega)
     refine gmv rfl <| gmv rfl <| gmv rfl <| stg rfl (v := .int .i64 ((i : Nat) - ((p : Nat) - 1))) (o_bin rfl rfl (v_sub64 (by omega))) <| gyesl rfl <| m_call (Put_ok ((i : Nat) - ((p : Nat) - 1)) (by simp only [inK]; omega) wd) rfl fun v41 w41 ⟨rs41, hs41, hm41⟩ => ?_
     have hM41 : Mem w [] w41 [rs41] := hM27.add hm41
     have hn41 := putI_len (v := (i : Nat) - ((p : Nat) - 1)) (by omega)
     have hpl2 := plen_put (v := (i : Nat) - ((p : Nat) - 1)) (by omega) (by omega)
     rw [show ((i : Nat) - ((p : Nat) - 1) : Int).toNat = i - (p - 1) by omega] at hpl2
     refine stg rfl (v := .int .i64 ((putI ((i : Nat) - ((p : Nat) - 1))).length : Nat)) (o_lenR (hs41.rd hM41 (i := 0) rfl) rfl rfl) <| stg rfl (v := .int .i64 (3 + ((putI ((i : Nat) - ((p : Nat) - 1))).length : Nat))) (o_bin rfl rfl (v_add64 (by omega))) <| gbn rfl rfl rfl <| pkF rfl <| h38 _ _ <| cndP rfl (fun c42 => ?_) (fun c42 => ?_)
     ·refine h20 _ _ ?_
      have hav := ht.av (p - 1) (by omega)
      have hpq := pv_le (hashP T) (hashP T (p - 1)) (p - 1)
      refine mv <| nilchk rfl <| fa rfl <| ld (v := va) rfl (((ho.upd hM41.upd (by simp)).cell _).trans (ahead_at ht.hl)) <| mv <| m_idxE 0 (j := (p - 1)) (hA.upd hM41.upd) rfl (v_int (by omega)) (by omega) fun b43 o43 hp43 => ld (v := .int .i64 (A.getD (p - 1) 0)) rfl (hp43) <| mv <| h14 (pv (hashP T) (hashP T (p - 1)) (p - 1), s + 1, d, b) _ _ ⟨vi, vi, vi, vi, rfl, vi, vi, hM41.keep (by simp), hS.worse (hashP_h T) (by omega) (hA4.2 (by omega)) (by omega) (by omega) (by rw [hL]; omega), by omega⟩ (by (try dsimp only); omega)
     refine h37 _ _ <| seq fun _ h44 => mv <| mv <| stp (v := .int .i64 ((i : Nat) - ((p : Nat) - 1))) (o_bin rfl rfl (v_sub64 (by omega))) <| mv <| mv <| mv <| h44 _ _ <| seq fun _ h45 => mv <| mv <| bn rfl rfl <| h45 _ _ <| cndP rfl (fun c46 => ?_) (fun c46 => ?_)
     ·refine h9 _ _ <| seq fun _ h47 => mv <| mv <| mv <| mv <| h47 _ _ <| ⟨(.tuple [.int .i64 ((i : Nat) - ((p : Nat) - 1)), .int .i64 (n : Nat)].toArray), rfl, ⟨by rw [hS.most (hashP_h T) (by omega) (hA4.2 (by omega)) (by omega) (by omega) (by rw [hL]; omega) (by rw [hL]; omega), hL]; rw [show ((i : Nat) : Int) - (((p : Nat) : Int) - 1) = ((i - (p - 1) : Nat) : Int) by omega], hM41.upd⟩⟩
     refine h20 _ _ ?_
     have hav := ht.av (p - 1) (by omega)
     have hpq := pv_le (hashP T) (hashP T (p - 1)) (p - 1)
     refine mv <| nilchk rfl <| fa rfl <| ld (v := va) rfl (((ho.upd hM41.upd (by simp)).cell _).trans (ahead_at ht.hl)) <| mv <| m_idxE 0 (j := (p - 1)) (hA.upd hM41.upd) rfl (v_int (by omega)) (by omega) fun b48 o48 hp48 => ld (v := .int .i64 (A.getD (p - 1) 0)) rfl (hp48) <| mv <| h14 (pv (hashP T) (hashP T (p - 1)) (p - 1), s + 1, i - (p - 1), n) _ _ ⟨vi, vi, vi, vi, rfl, vi, vi, hM41.keep (by simp), by have h9 := hS.better (hashP_h T) (by omega) (hA4.2 (by omega)) (by omega) (by omega) (by rw [hL]; omega); rw [hL] at h9; exact h9, by omega⟩ (by (try dsimp only); omega)
    refine dx rfl <| dx rfl <| dx rfl <| dx rfl <| dx rfl <| dx rfl <| dx rfl <| dx rfl <| dx rfl <| dx rfl <| dx rfl <| dx rfl <| dxq rfl <| dx rfl <| dxq rfl <| dx rfl <| dxq rfl <| dxl rfl <| dx rfl <| dpkF rfl <| h26 _ _ <| cndF rfl <| h22 _ _ <| seq fun _ h49 => seq fun _ h50 => ?_
    have hL : lcF T i (p - 1) = n := lcF_is (by omega) (by omega) (by omega) hk (by first | exact .inr (.inr (nat_neG (by assumption))) | exact or3 (by omega))
    have hA4 := alk_lc (T := T) (i := i) (j := p - 1) (by omega) (by omega)
    rw [hL] at hA4
    refine mv <| bn rfl rfl <| h50 _ _ <| cndP rfl (fun c51 => ?_) (fun c51 => ?_)
    ·refine h20 _ _ ?_
     have hav := ht.av (p - 1) (by omega)
     have hpq := pv_le (hashP T) (hashP T (p - 1)) (p - 1)
     refine mv <| nilchk rfl <| fa rfl <| ld (v := va) rfl (((ho.upd hM27.upd (by simp)).cell _).trans (ahead_at ht.hl)) <| mv <| m_idxE 0 (j := (p - 1)) (hA.upd hM27.upd) rfl (v_int (by omega)) (by omega) fun b52 o52 hp52 => ld (v := .int .i64 (A.getD (p - 1) 0)) rfl (hp52) <| mv <| h14 (pv (hashP T) (hashP T (p - 1)) (p - 1), s, d, b) _ _ ⟨vi, vi, vi, vi, rfl, vi, vi, hM27, hS.skip (hashP_h T) (by omega) (fun h => by have := hA4.1 h; omega), by omega⟩ (by (try dsimp only); omega)
    refine h49 _ _ <| seq fun _ h53 => mv <| stp (v := .int .i64 ((s : Nat) + 1)) (o_bin rfl rfl (v_add64 (by omega))) <| mv <| h53 _ _ <| seq fun _ h54 => seq fun _ h55 => mv <| mv <| bn rfl rfl <| mv <| splitP rfl (fun c56 => ?_) (fun c56 => ?_)
    ·refine gx rfl <| gx rfl <| gx rfl <| gx rfl <| gxl rfl <| gx rfl <| gx rfl <| gx rfl <| pkT rfl <| h55 _ _ <| cndT rfl <| h20 _ _ ?_
     have hav := ht.av (p - 1) (by omega)
     have hpq := pv_le (hashP T) (hashP T (p - 1)) (p - 1)
     refine mv <| nilchk rfl <| fa rfl <| ld (v := va) rfl (((ho.upd hM27.upd (by simp)).cell _).trans (ahead_at ht.hl)) <| mv <| m_idxE 0 (j := (p - 1)) (hA.upd hM27.upd) rfl (v_int (by omega)) (by omega) fun b57 o57 hp57 => ld (v := .int .i64 (A.getD (p - 1) 0)) rfl (hp57) <| mv <| h14 (pv (hashP T) (hashP T (p - 1)) (p - 1), s + 1, d, b) _ _ ⟨vi, vi, vi, vi, rfl, vi, vi, hM27, hS.worse (hashP_h T) (by omega) (hA4.2 (by omega)) (by omega) (by omega) (by rw [hL]; omega), by omega⟩ (by (try dsimp only); omega)
    refine gmv rfl <| gmv rfl <| gmv rfl <| stg rfl (v := .int .i64 ((i : Nat) - ((p : Nat) - 1))) (o_bin rfl rfl (v_sub64 (by omega))) <| gyesl rfl <| m_call (Put_ok ((i : Nat) - ((p : Nat) - 1)) (by simp only [inK]; omega) wd) rfl fun v58 w58 ⟨rs58, hs58, hm58⟩ => ?_
    have hM58 : Mem w [] w58 [rs58] := hM27.add hm58
    have hn58 := putI_len (v := (i : Nat) - ((p : Nat) - 1)) (by omega)
    have hpl2 := plen_put (v := (i : Nat) - ((p : Nat) - 1)) (by omega) (by omega)
    rw [show ((i : Nat) - ((p : Nat) - 1) : Int).toNat = i - (p - 1) by omega] at hpl2
    refine stg rfl (v := .int .i64 ((putI ((i : Nat) - ((p : Nat) - 1))).length : Nat)) (o_lenR (hs58.rd hM58 (i := 0) rfl) rfl rfl) <| stg rfl (v := .int .i64 (3 + ((putI ((i : Nat) - ((p : Nat) - 1))).length : Nat))) (o_bin rfl rfl (v_add64 (by omega))) <| gbn rfl rfl rfl <| pkF rfl <| h55 _ _ <| cndP rfl (fun c59 => ?_) (fun c59 => ?_)
    ·refine h20 _ _ ?_
     have hav := ht.av (p - 1) (by omega)
     have hpq := pv_le (hashP T) (hashP T (p - 1)) (p - 1)
     refine mv <| nilchk rfl <| fa rfl <| ld (v := va) rfl (((ho.upd hM58.upd (by simp)).cell _).trans (ahead_at ht.hl)) <| mv <| m_idxE 0 (j := (p - 1)) (hA.upd hM58.upd) rfl (v_int (by omega)) (by omega) fun b60 o60 hp60 => ld (v := .int .i64 (A.getD (p - 1) 0)) rfl (hp60) <| mv <| h14 (pv (hashP T) (hashP T (p - 1)) (p - 1), s + 1, d, b) _ _ ⟨vi, vi, vi, vi, rfl, vi, vi, hM58.keep (by simp), hS.worse (hashP_h T) (by omega) (hA4.2 (by omega)) (by omega) (by omega) (by rw [hL]; omega), by omega⟩ (by (try dsimp only); omega)
    refine h54 _ _ <| seq fun _ h61 => mv <| mv <| stp (v := .int .i64 ((i : Nat) - ((p : Nat) - 1))) (o_bin rfl rfl (v_sub64 (by omega))) <| mv <| mv <| mv <| h61 _ _ <| seq fun _ h62 => mv <| mv <| bn rfl rfl <| h62 _ _ <| cndP rfl (fun c63 => ?_) (fun c63 => ?_)
    ·refine h9 _ _ <| seq fun _ h64 => mv <| mv <| mv <| mv <| h64 _ _ <| ⟨(.tuple [.int .i64 ((i : Nat) - ((p : Nat) - 1)), .int .i64 (n : Nat)].toArray), rfl, ⟨by rw [hS.most (hashP_h T) (by omega) (hA4.2 (by omega)) (by omega) (by omega) (by rw [hL]; omega) (by rw [hL]; omega), hL]; rw [show ((i : Nat) : Int) - (((p : Nat) : Int) - 1) = ((i - (p - 1) : Nat) : Int) by omega], hM58.upd⟩⟩
    refine h20 _ _ ?_
    have hav := ht.av (p - 1) (by omega)
    have hpq := pv_le (hashP T) (hashP T (p - 1)) (p - 1)
    refine mv <| nilchk rfl <| fa rfl <| ld (v := va) rfl (((ho.upd hM58.upd (by simp)).cell _).trans (ahead_at ht.hl)) <| mv <| m_idxE 0 (j := (p - 1)) (hA.upd hM58.upd) rfl (v_int (by omega)) (by omega) fun b65 o65 hp65 => ld (v := .int .i64 (A.getD (p - 1) 0)) rfl (hp65) <| mv <| h14 (pv (hashP T) (hashP T (p - 1)) (p - 1), s + 1, i - (p - 1), n) _ _ ⟨vi, vi, vi, vi, rfl, vi, vi, hM58.keep (by simp), by have h9 := hS.better (hashP_h T) (by omega) (hA4.2 (by omega)) (by omega) (by omega) (by rw [hL]; omega); rw [hL] at h9; exact h9, by omega⟩ (by (try dsimp only); omega)
   refine h9 _ _ <| seq fun _ h66 => mv <| mv <| mv <| mv <| h66 _ _ <| ⟨(.tuple [.int .i64 (d : Nat), .int .i64 (b : Nat)].toArray), rfl, ⟨by rw [hS.stop (by omega)], hM13.upd⟩⟩
  refine gx rfl <| gx rfl <| pkF rfl <| h16 _ _ <| cndF rfl <| h9 _ _ <| seq fun _ h67 => mv <| mv <| mv <| mv <| h67 _ _ <| ⟨(.tuple [.int .i64 (d : Nat), .int .i64 (b : Nat)].toArray), rfl, ⟨by rw [hS.stop (by omega)], hM13.upd⟩⟩
 refine gx rfl <| gx rfl <| gx rfl <| gx rfl <| pkF rfl <| mv <| splitF rfl <| gx rfl <| gx rfl <| pkF rfl <| h16 _ _ <| cndF rfl <| h9 _ _ <| seq fun _ h68 => mv <| mv <| mv <| mv <| h68 _ _ <| ⟨(.tuple [.int .i64 (d : Nat), .int .i64 (b : Nat)].toArray), rfl, ⟨by rw [hS.stop (by omega)], hM13.upd⟩⟩
end Go.Proofs.YtifnmbmijljhfaaGreat.E.Lz
namespace Go.Proofs.YtifnmbmijljhfaaGreat.E.Lz
open Go
def FndS (T : List UInt8) (bf : Nat) (x : Value) (m : Nat) (r : List Ent) : Prop := ∃ (va : Value) (H A : List Int) (ra : List Ent), r = ⟨bf, 119, x :: (H.map i64V ++ [va])⟩ :: ra ∧ SlE i64V 3 va A ra ∧ A.length = T.length ∧ Tab (hashP T) 32768 m H A 1
theorem cs_heads {H : List Int} {x va : Value} {v : Nat} {q : Int} (h : v < H.length) : (x :: (H.map i64V ++ [va])).set (1 + v) (.int .i64 q) = x :: ((H.set v q).map i64V ++ [va]) := by
 rw [Nat.add_comm, List.set_cons_succ, List.set_append_left _ _ (by simpa using h), List.map_set]; rfl
theorem add_ok (bf : Nat) (x : Value) (T : List UInt8) (i : Nat) (r0 : List Ent) (w : World) (hf : FndS T bf x (min i (T.length - 3)) r0) (hr : Res w r0) (hfar : ∀ w', Upd (ids r0) w w' → RdE byteV w' x T) (hi : i < T.length) (hl : T.length ≤ 65536) : Calls Tryz.prog 80 [.pointer (some ⟨bf, 0, none⟩), .int .i64 ((i : Nat) : Int)].toArray w (Rt fun _ w' => ∃ r', FndS T bf x (min (i + 1) (T.length - 3)) r' ∧ Mem w (ids r0) w' [r']) := by
 obtain ⟨va, H, A, ra, rfl, hA, hAl, ht⟩ := hf
 have hM0 : Mem w (ids (⟨bf, 119, (x :: (H.map i64V ++ [va]))⟩ :: ra)) w [[⟨bf, 119, (x :: (H.map i64V ++ [va]))⟩], ra] := Mem.start2 hr
 refine calls_vc mixed Tryz.func80 rfl C80 (by simp [Tryz.ntmps80]) <| seq fun _ h1 => seq fun _ h2 => mv <| stp (v := .int .i64 ((i : Nat) + 4)) (o_bin rfl rfl (v_add64 (by omega))) <| mv <| nilchk rfl <| fa rfl <| ld (v := x) rfl ((hM0.at (i := 0) (j := 0) rfl rfl).cell 0) <| stp (v := .int .i64 (T.length : Nat)) (o_lenR ((hfar _ hM0.upd)) rfl rfl) <| bn rfl rfl <| h2 _ _ <| cndP rfl (fun c3 => ?_) (fun c3 => ?_)
 ·refine ⟨(.tuple [].toArray), rfl, ⟨_, ⟨va, H, A, ra, rfl, hA, hAl, by rw [show min (i + 1) (T.length - 3) = min i (T.length - 3) by omega]; exact ht⟩, hM0.keep (by simp)⟩⟩
 refine h1 _ _ <| seq fun _ h4 => ?_
 have hmi : min i (T.length - 3) = i := by omega
 rw [hmi] at ht
 have hhl := hashP_lt T i
 have hhv := ht.hv (hashP T i) hhl
 have hpl := pv_le (hashP T) (hashP T i) i
 have hHl := ht.hl
 refine mv <| mv <| m_call (hash_ok bf x _ T i w (hM0.at (i := 0) (j := 0) rfl rfl) ((hfar _ hM0.upd)) (by omega) (by omega)) rfl fun v5 w5 ⟨hr5, hu5⟩ => ?_
 have hM5 : Mem _ _ w5 [_, _] := hM0.pure hu5
 subst hr5
 refine mv <| h4 _ _ <| seq fun _ h6 => ?_
 intro wd e1 e2 e3 e4
 have hd := Upd.same e1 e2 e3 e4 []
 have hM7 := hM5.pure hd
 clear e1 e2 e3 e4
 refine ⟨(some [bf]), ?_⟩
 show vd _ _ _ _ _ _ _
 refine dmv <| dq (v := .pointer (some ⟨bf, 0, none⟩)) (o_nilchk rfl rfl) <| dfa rfl <| dmv <| dmv <| dmv <| dq (v := .pointer (some ⟨bf, 0, none⟩)) (o_nilchk rfl rfl) <| dfa rfl <| dq (v := .pointer (some ⟨bf, 1 + hashP T i, none⟩)) (o_idxa rfl rfl (by omega) (v_ptr (by first | (rw [Int.toNat_natCast, Nat.mul_one]; done) | (simp; done) | omega))) <| dqld rfl (by simp [isHeld]) (v := va) (((hM7.at (i := 0) (j := 0) rfl rfl).cell 32769).trans (ahead_at ht.hl)) <| dl (ld (v := .int .i64 (H.getD (hashP T i) 0)) rfl (((hM7.at (i := 0) (j := 0) rfl rfl).cell _).trans (heads_at (by omega))) <| ⟨(fun b hb => rfl), dq (v := .int .i64 ((H.getD (hashP T i) 0) - 1)) (o_bin rfl rfl (v_sub64 (by omega))) <| dset (m_setU (E := i64V) (q := (H.getD (hashP T i) 0) - 1) (j := i) hM7 (i := 1) rfl hA rfl rfl (by omega) (by simp) (rfl) fun w8 r8 u8 he8 hs8 (hM8 : Mem w (ids (⟨bf, 119, (x :: (H.map i64V ++ [va]))⟩ :: ra)) w8 [[⟨bf, 119, (x :: (H.map i64V ++ [va]))⟩], r8]) hup8 => ?_)⟩)
 have hh8 := held_upd (wr := wd) (bs := [bf]) hup8 (fun b hb => by
  simp only [List.mem_cons, List.not_mem_nil, or_false] at hb
  rw [hb]; exact ⟨(hM7.at (i := 0) (j := 0) rfl rfl).lt, hM7.apart (i := 0) (j := 0) (k := 1) rfl rfl rfl (by decide)⟩) (fun b hb => rfl)
 refine ⟨hh8, ?_⟩
 show vd _ _ _ _ _ _ _
 refine h6 _ _ <| mv <| mv <| mv <| stp (v := .int .i64 ((i : Nat) + 1)) (o_bin rfl rfl (v_add64 (by omega))) <| nilchk rfl <| fa rfl <| stp (v := .pointer (some ⟨bf, 1 + hashP T i, none⟩)) (o_idxa rfl rfl (by omega) (v_ptr (by first | (rw [Int.toNat_natCast, Nat.mul_one]; done) | (simp; done) | omega))) <| m_st (v := .int .i64 ((i : Nat) + 1)) hM8 (i := 0) rfl rfl rfl rfl (by simp; omega) fun w9 hm9 => ?_
 have hM9 : Mem w (ids (⟨bf, 119, (x :: (H.map i64V ++ [va]))⟩ :: ra)) w9 [[⟨bf, 119, (x :: ((H.set (hashP T i) ((i : Int) + 1)).map i64V ++ [va]))⟩], r8] := by
  have e : (x :: (H.map i64V ++ [va])).set (1 + hashP T i) (.int .i64 ((i : Nat) + 1)) = (x :: ((H.set (hashP T i) ((i : Int) + 1)).map i64V ++ [va])) := cs_heads (by omega)
  rw [← e]; exact hm9
 refine ⟨(.tuple [].toArray), rfl, ⟨_, ⟨va, _, _, _, rfl, hs8, by rw [List.length_set]; exact hAl, by rw [show min (i + 1) (T.length - 3) = i + 1 by omega]; exact ht.step (by omega) hhl⟩, hM9.keep (by simp)⟩⟩
theorem taken_ok (x : Value) (l : List UInt8) (w : World) (hx : RdE byteV w x l) (hl : l.length ≤ 140737488355328) : Calls Tryz.prog 82 [x].toArray w (Rt fun r w' => ∃ rs, SlE byteV 5 r l rs ∧ Mem w [] w' [rs]) := by
 have hM0 : Mem w [] w [] := Mem.nil w []
 refine calls_vc mixed Tryz.func82 rfl C82 (by simp [Tryz.ntmps82]) <| seq fun _ h1 => mv <| h1 _ _ <| seq fun _ h2 => mv <| stp (v := .int .i64 (l.length : Nat)) (o_lenR (hx.upd hM0.upd) rfl rfl) <| m_mksE (E := byteV) (z := 0) (n := l.length) (c := l.length) rfl hM0 rfl rfl (by omega) (by omega) (by omega) fun v3 w3 r3 hs3 (hM3 : Mem _ _ w3 [r3]) => mv <| h2 _ _ <| seq fun _ h4 => mv <| mv <| m_cpyE (E := byteV) hM3 (i := 0) rfl hs3 rfl rfl (hx.upd hM3.upd) fun w5 r5 hs5 (hM5 : Mem _ _ w5 [r5]) => ?_
 have hs5' := SlE.eqL (m := l) hs5 (by simp)
 refine h4 _ _ <| seq fun _ h6 => mv <| mv <| h6 _ _ <| ⟨v3, rfl, ⟨_, hs5', hM5⟩⟩
theorem _root_.Go.Proofs.YtifnmbmijljhfaaGreat.E.Mem.res1 {w : World} {e : Ent} {r : List Ent} (h : Res w (e :: r)) : Own w e ∧ ∀ x ∈ r, Own w x := ⟨h.1 e (by simp), fun x hx => h.1 x (List.mem_cons_of_mem _ hx)⟩
theorem match_okF (bf : Nat) (x : Value) (T : List UInt8) (i : Nat) (r0 : List Ent) (w : World) (hf : FndS T bf x (min i (T.length - 3)) r0) (hr : Res w r0) (hx : RdE byteV w x T) (hi : i < T.length) (hl : T.length ≤ 65536) : Calls Tryz.prog 79 [.pointer (some ⟨bf, 0, none⟩), .int .i64 ((i : Nat) : Int)].toArray w (Rt fun r w' => r = .tuple [.int .i64 (((bestF T i).1 : Nat) : Int), .int .i64 (((bestF T i).2 : Nat) : Int)].toArray ∧ Upd [] w w') := by
 obtain ⟨va, H, A, ra, rfl, hA, hAl, ht⟩ := hf
 have h1 := Mem.res1 hr
 exact match_ok bf x va T H A i w h1.1 (hA.rdOwn h1.2) hAl ht hx hi hl
def zeros : Nat → List Value → Bool
 | 0, [.slice none 0 0] => true
 | n + 1, .int .i64 0 :: l => zeros n l
 | _, _ => false
theorem zeros_is : ∀ (n : Nat) (l : List Value), zeros n l = true → l = List.replicate n (.int .i64 0) ++ [.slice none 0 0]
 | 0, l, h => by
  unfold zeros at h
  split at h <;> first | rfl | cases h | (rename_i e; cases e)
 | n + 1, l, h => by
  unfold zeros at h
  split at h
  ·rename_i e; cases e
  ·rename_i e
   cases e
   rw [zeros_is n _ h]; rfl
  cases h
def finderZ : List Value → Bool
 | .slice none 0 0 :: l => zeros 32768 l
 | _ => false
theorem finder_zero : zcOf Tryz.t119 = .slice none 0 0 :: (List.replicate 32768 (.int .i64 0) ++ [.slice none 0 0]) := by
 have h : finderZ (zcOf Tryz.t119) = true := by kernel_rfl
 revert h
 generalize zcOf Tryz.t119 = l
 intro h
 unfold finderZ at h
 split at h
 ·rw [zeros_is _ _ h]
 cases h
theorem fillG {x va z y y' : Value} (n : Nat) (hx : x.cells = #[x]) (ha : va.cells = #[va]) : fillC (y :: (List.replicate n z ++ [y'])) [(0, 1, x), (n + 1, 1, va)] = some (x :: (List.replicate n z ++ [va])) := by
 have e1 : (y :: (List.replicate n z ++ [y'])).length = n + 2 := by simp
 rw [fillC, hx, if_pos ⟨rfl, by rw [e1]; omega⟩, fillC, ha]
 have e2 : (List.take 0 (y :: (List.replicate n z ++ [y'])) ++ (#[x] : Array Value).toList ++ List.drop (0 + 1) (y :: (List.replicate n z ++ [y']))) = (x :: List.replicate n z) ++ [y'] := by simp
 rw [e2]
 have e3 : (x :: List.replicate n z).length = n + 1 := by simp
 rw [if_pos ⟨rfl, by rw [List.length_append, e3]; simp⟩, fillC]
 congr 1
 rw [List.take_left' e3, List.drop_eq_nil_of_le (by rw [List.length_append, e3]; simp)]
 simp
theorem fill56 {x va : Value} (hx : x.cells = #[x]) (ha : va.cells = #[va]) : fillC (zcOf Tryz.t119) [(0, 1, x), (32769, 1, va)] = some (x :: (List.replicate 32768 (.int .i64 0) ++ [va])) := by
 rw [finder_zero]
 exact fillG 32768 hx ha
theorem permF {a : Ent} {r : List Ent} : [a :: r].flatten.Perm [r, [a]].flatten := by
 simp only [List.flatten_cons, List.flatten_nil, List.append_nil]
 exact (List.perm_append_comm (l₁ := [a]) (l₂ := r))
section
variable {T : List UInt8} {k i j : Nat}
theorem own_miss (h : i < T.length) (hk : T.length ≤ i + k) (hb : (bestF T i).2 = 0) : ownK T k i j = ownK T (k - 1) (i + 1) j := by
 obtain ⟨k, rfl⟩ : ∃ m, k = m + 1 := ⟨k - 1, by omega⟩
 rw [ownK, if_pos h, if_pos hb]; rfl
theorem own_hit (h : i < T.length) (hk : T.length ≤ i + k) (hb : ¬ (bestF T i).2 = 0) : ownK T k i j = ((T.take i).drop j, ((bestF T i).1 : Int), ((bestF T i).2 : Int)) :: ownK T (k - 1) (i + (bestF T i).2) (i + (bestF T i).2) := by
 obtain ⟨k, rfl⟩ : ∃ m, k = m + 1 := ⟨k - 1, by omega⟩
 rw [ownK, if_pos h, if_neg hb]; rfl
theorem own_end (h : T.length ≤ i) : ownK T k i j = if j < T.length then [(T.drop j, 0, 0)] else [] := by
 cases k with
 | zero => rfl
 | succ k => rw [ownK, if_neg (by omega)]
end
theorem Encode_ok (x : Value) (T : List UInt8) (w : World) (hx : RdE byteV w x T) (hl : T.length ≤ 140737488355328) : Calls Tryz.prog 53 [x].toArray w (Rt fun r w' => ∃ v rs, r = .tuple [v, .int .i64 (encF T).2].toArray ∧ SlE byteV 5 v (encF T).1 rs ∧ Mem w [] w' [rs]) := by
 have hM0 : Mem w [] w [] := Mem.nil w []
 refine calls_vc mixed Tryz.func53 rfl C53 (by simp [Tryz.ntmps53]) <| seq fun _ h1 => mv <| mv <| h1 _ _ <| seq fun _ h2 => seq fun _ h3 => mv <| stp (v := .int .i64 (T.length : Nat)) (o_lenR (hx.upd hM0.upd) rfl rfl) <| bn rfl rfl <| h3 _ _ <| cndP rfl (fun c4 => ?_) (fun c4 => ?_)
 ·refine seq fun _ h5 => mv <| mv <| h5 _ _ <| ⟨(.tuple [.slice none 0 0, .int .i64 2].toArray), rfl, ⟨.slice none 0 0, [], by rw [encF_long (by omega)], by rw [encF_long (by omega)]; exact Sl.nil 1 5, hM0.keep (by simp)⟩⟩
 refine h2 _ _ <| seq fun _ h6 => mv <| mv <| stp (v := .int .i64 (T.length : Nat)) (o_lenR (hx.upd hM0.upd) rfl rfl) <| m_mksE (E := i64V) (z := 0) (n := T.length) (c := T.length) rfl hM0 rfl rfl (by omega) (by omega) (by omega) fun v7 w7 r7 hs7 (hM7 : Mem _ _ w7 [r7]) => stp (v := .agg ((x :: (List.replicate 32768 (Value.int .i64 0) ++ [v7])).toArray)) (o_bld (fill56 hx.cells1 hs7.cells1) rfl) <| m_bx (v := .agg (x :: (List.replicate 32768 (Value.int .i64 0) ++ [v7])).toArray) (cs := (x :: (List.replicate 32768 (Value.int .i64 0) ++ [v7]))) hM7 rfl rfl fun bf w18 (hM18 : Mem _ _ w18 [_, [⟨bf, 119, (x :: (List.replicate 32768 (Value.int .i64 0) ++ [v7]))⟩]]) => mv <| h6 _ _ <| seq fun _ h8 => ?_
 obtain ⟨rf, hrf⟩ : ∃ z, z = ⟨bf, 119, (x :: (List.replicate 32768 (Value.int .i64 0) ++ [v7]))⟩ :: r7 := ⟨_, rfl⟩
 have hF0 : FndS T bf x 0 rf := ⟨_, List.replicate 32768 0, _, _, by rw [List.map_replicate]; exact hrf, hs7, by simp, Tab.init _ _ _ _⟩
 have hM9 : Mem w [] w18 [rf] := by rw [hrf]; exact hM18.perm permF
 refine mv <| h8 _ _ <| seq fun _ h10 => mv <| h10 _ _ <| seq fun _ h11 => seq fun _ h12 => mv <| h12 _ _ ?_
 have hM13 : Mem _ _ w18 [_, []] := hM9.addNil
 have hs13 : SlE byteV 5 (.slice none 0 0) [] [] := Sl.nil 1 5
 refine lp (n := fun _ _ => False) (ι := (Nat) × (Nat) × (Nat) × (List UInt8) × (List Ent) × (Value) × (List Ent)) (fun ⟨i, j, k, B, rf, y5_, r5_⟩ f w' => f 4 = .pointer (some ⟨bf, 0, none⟩) ∧ f 5 = y5_ ∧ f 6 = .int .i64 (j : Nat) ∧ f 7 = .int .i64 (i : Nat) ∧ f 0 = x ∧ Mem w [] w' [rf, r5_] ∧ (FndS T bf x (min i (T.length - 3)) rf) ∧ (toksB (ownF T) = B ++ toksB (ownK T k i j)) ∧ (T.length ≤ i + k) ∧ (j ≤ i) ∧ (i ≤ T.length) ∧ (SlE byteV 5 y5_ (B) r5_)) (fun ⟨i, j, k, B, rf, y5_, r5_⟩ => T.length - i) (0, 0, T.length, [], rf, ((.slice none 0 0)), ([])) ?_ ?_
 ·exact ⟨rfl, rfl, vi, vi, rfl, hM13, by rw [Nat.zero_min]; exact hF0, rfl, by omega, by omega, by omega, by first | exact hs13 | simpa using hs13⟩
 rintro ⟨i, j, k, B, rf, y5_, r5_⟩ f w14 ⟨e14_4, e14_5, e14_6, e14_7, e14_0, hM14, hF, hE, hk, hj, hi, hy5_⟩ K15 h15
 obtain ⟨frm, rfl⟩ := re5 e14_4 e14_5 e14_6 e14_7 e14_0
 refine seq fun _ h16 => seq fun _ h17 => mv <| mv <| stp (v := .int .i64 (T.length : Nat)) (o_lenR (hx.upd hM14.upd) rfl rfl) <| bn rfl rfl <| h17 _ _ <| cndP rfl (fun c18 => ?_) (fun c18 => ?_)
 ·refine h16 _ _ <| seq fun _ h19 => mv <| mv <| m_call (match_okF bf x T i rf w14 hF (hM14.res (i := 0) rfl) (hx.upd hM14.upd) (by omega) (by omega)) rfl fun v20 w20 ⟨hr20, hu20⟩ => ?_
  have hM20 : Mem w [] w20 [rf, r5_] := hM14.pure hu20
  subst hr20
  have hbs20 := best_le (T := T) (i := i)
  refine mv <| ext rfl rfl <| ext rfl rfl <| mv <| mv <| h19 _ _ <| seq fun _ h21 => seq fun _ h22 => mv <| bn rfl rfl <| h22 _ _ <| cndP rfl (fun c23 => ?_) (fun c23 => ?_)
  ·refine seq fun _ h24 => mv <| mv <| m_call (add_ok bf x T i rf w20 hF (hM20.res (i := 0) rfl) (fun w9 hu9 => hx.upd (hM20.far (i := 0) rfl hu9)) (by omega) (by omega)) rfl fun v25 w25 ⟨r'25, hF25, hm25⟩ => ?_
   have hM25 : Mem _ _ w25 [r'25, _] := hM20.step 0 rfl hm25
   refine h24 _ _ <| seq fun _ h26 => mv <| stp (v := .int .i64 ((i : Nat) + 1)) (o_bin rfl rfl (v_add64 (by omega))) <| mv <| h26 _ _ <| h15 (i + 1, j, k - 1, B, r'25, y5_, r5_) _ _ ⟨rfl, rfl, vi, vi, rfl, hM25, hF25, by rw [← own_miss (by omega) hk (by omega)]; exact hE, by omega, by omega, by omega, by first | exact hy5_ | simpa using hy5_⟩ (by (try dsimp only); omega)
  refine h21 _ _ <| seq fun _ h27 => mv <| mv <| mv <| mv <| mv <| m_slcM j i (hx.upd hM20.upd) rfl (by omega) (by omega) rfl rfl rfl fun u28 hu28 => m_call (taken_ok _ ((T.take i).drop j) w20 (hu28) (by first | omega | (simp; done) | (simp; omega))) rfl fun v29 w29 ⟨rs29, hs29, hm29⟩ => ?_
  have hM29 : Mem _ _ w29 [_, _, rs29] := hM20.add hm29
  refine mv <| mv ?_
  obtain ⟨a30_, n30_, c30_, rfl⟩ := Sl.isSlice hs29
  refine stp (v := .agg ([(.slice a30_ n30_ c30_), .int .i64 ((bestF T i).1 : Nat), .int .i64 ((bestF T i).2 : Nat)] : List Value).toArray) (o_bld rfl rfl) ?_
  have hll : ((T.take i).drop j).length ≤ 65536 := by rw [List.length_drop, List.length_take]; omega
  refine m_call (bytes_ok (⟨a30_, n30_, c30_, (T.take i).drop j, ((bestF T i).1 : Nat), ((bestF T i).2 : Nat)⟩ : Tk) w29 (hs29.rd hM29 (i := 2) rfl) (by first | omega | (dsimp only; omega)) (by first | omega | (dsimp only; omega)) (by first | omega | (dsimp only; omega))) rfl fun v31 w31 ⟨rs31, hs31, hm31⟩ => ?_
  have hM31 : Mem _ _ w31 [_, _, _, rs31] := hM29.add hm31
  have hs31 : SlE byteV 5 v31 (tokB ((T.take i).drop j, ((bestF T i).1 : Nat), ((bestF T i).2 : Nat))) rs31 := hs31
  have hE3 : toksB (ownF T) = B ++ (tokB ((T.take i).drop j, ((bestF T i).1 : Int), ((bestF T i).2 : Int)) ++ toksB (ownK T (k - 1) (i + (bestF T i).2) (i + (bestF T i).2))) := by rw [hE, own_hit (by omega) hk (by omega), toksB_cons]
  have hE4 := congrArg List.length hE3
  simp only [List.length_append] at hE4
  have hE5 := enc_len (T := T)
  rw [encF_ok (by omega)] at hE5
  dsimp only at hE5
  refine m_appE hM31 (i := 1) rfl hy5_ rfl rfl (hs31.rd hM31 (i := 3) rfl) (by omega) (by omega) fun v32 w32 r32 (hs32 : SlE byteV 5 v32 (B ++ (tokB ((T.take i).drop j, ((bestF T i).1 : Nat), ((bestF T i).2 : Nat)))) r32) (hM32 : Mem _ _ w32 [_, r32, _, _]) => mv <| h27 _ _ <| seq fun _ h33 => seq fun _ h34 => mv <| mv <| h34 _ _ <| lp (n := fun _ _ => False) (ι := (Nat) × (List Ent)) (fun ⟨c, rf⟩ f w' => f 4 = .pointer (some ⟨bf, 0, none⟩) ∧ f 7 = .int .i64 (i + c : Nat) ∧ f 49 = .int .i64 (c : Nat) ∧ f 0 = x ∧ f 5 = v32 ∧ f 48 = .int .i64 ((bestF T i).2 : Nat) ∧ Mem w [] w' [rf, r32, rs29, rs31] ∧ (FndS T bf x (min (i + c) (T.length - 3)) rf) ∧ (c ≤ (bestF T i).2)) (fun ⟨c, rf⟩ => (bestF T i).2 - c) (0, rf) ?_ ?_
  ·exact ⟨rfl, vi, vi, rfl, rfl, vi, hM32, hF, by omega⟩
  rintro ⟨c, rf⟩ f w35 ⟨e35_4, e35_7, e35_49, e35_0, e35_5, e35_48, hM35, hF, hc⟩ K36 h36
  obtain ⟨frm, rfl⟩ := re6 e35_4 e35_7 e35_49 e35_0 e35_5 e35_48
  refine seq fun _ h37 => bn rfl rfl <| h37 _ _ <| seq fun _ h38 => cndP rfl (fun c39 => ?_) (fun c39 => ?_)
  ·refine h38 _ _ <| seq fun _ h40 => seq fun _ h41 => mv <| mv <| m_call (add_ok bf x T (i + c) rf w35 hF (hM35.res (i := 0) rfl) (fun w9 hu9 => hx.upd (hM35.far (i := 0) rfl hu9)) (by omega) (by omega)) rfl fun v42 w42 ⟨r'42, hF42, hm42⟩ => ?_
   have hM42 : Mem w [] w42 [r'42, r32, rs29, rs31] := hM35.step 0 rfl hm42
   refine h41 _ _ <| mv <| stp (v := .int .i64 ((i + c : Nat) + 1)) (o_bin rfl rfl (v_add64 (by omega))) <| mv <| h40 _ _ <| stp (v := .int .i64 ((c : Nat) + 1)) (o_bin rfl rfl (v_add64 (by omega))) <| mv <| h36 (c + 1, r'42) _ _ ⟨rfl, vi, vi, rfl, rfl, vi, hM42, hF42, by omega⟩ (by (try dsimp only); omega)
  refine h33 _ _ ?_
  have hcc : c = (bestF T i).2 := by omega
  refine mv <| mv <| h15 (i + (bestF T i).2, i + (bestF T i).2, k - 1, (B ++ (tokB ((T.take i).drop j, ((bestF T i).1 : Nat), ((bestF T i).2 : Nat)))), rf, v32, r32) _ _ ⟨rfl, rfl, vi, vi, rfl, hM35.keep (by simp), by rw [← hcc]; exact hF, by rw [hE3, List.append_assoc], by omega, by omega, by omega, by first | exact hs32 | simpa using hs32⟩ (by (try dsimp only); omega)
 refine h11 _ _ <| seq fun _ h43 => seq fun _ h44 => mv <| mv <| stp (v := .int .i64 (T.length : Nat)) (o_lenR (hx.upd hM14.upd) rfl rfl) <| bn rfl rfl <| h44 _ _ <| cndP rfl (fun c45 => ?_) (fun c45 => ?_)
 ·refine mv <| mv <| mv <| mv <| stp (v := .int .i64 (T.length : Nat)) (o_lenR (hx.upd hM14.upd) rfl rfl) <| mv <| stp (v := .int .i64 (T.length : Nat)) (o_lenR (hx.upd hM14.upd) rfl rfl) <| m_slcM j T.length (hx.upd hM14.upd) rfl (by omega) (by omega) rfl rfl rfl fun u46 hu46 => ?_
  have hu46' : RdE byteV w14 u46 (T.drop j) := by
   have e : (T.take T.length).drop j = (T.drop j) := by rw [List.take_length]
   rw [e] at hu46; exact hu46
  refine m_call (taken_ok _ (T.drop j) w14 (hu46') (by first | omega | (simp; done) | (simp; omega))) rfl fun v47 w47 ⟨rs47, hs47, hm47⟩ => ?_
  have hM47 : Mem w [] w47 [rf, r5_, rs47] := hM14.add hm47
  obtain ⟨a48_, n48_, c48_, rfl⟩ := Sl.isSlice hs47
  refine stp (v := .agg ([(.slice a48_ n48_ c48_), .int .i64 0, .int .i64 0] : List Value).toArray) (o_bld rfl rfl) ?_
  have hll : (T.drop j).length ≤ 65536 := by rw [List.length_drop]; omega
  refine m_call (bytes_ok (⟨a48_, n48_, c48_, T.drop j, 0, 0⟩ : Tk) w47 (hs47.rd hM47 (i := 2) rfl) (by first | omega | (dsimp only; omega)) (by first | omega | (dsimp only; omega)) (by first | omega | (dsimp only; omega))) rfl fun v49 w49 ⟨rs49, hs49, hm49⟩ => ?_
  have hM49 : Mem _ _ w49 [_, _, _, rs49] := hM47.add hm49
  have hs49 : SlE byteV 5 v49 (tokB (T.drop j, 0, 0)) rs49 := hs49
  have hE3 : toksB (ownF T) = B ++ tokB (T.drop j, 0, 0) := by rw [hE, own_end (by omega), if_pos (by omega), toksB_cons]; simp [toksB]
  have hE4 := congrArg List.length hE3
  simp only [List.length_append] at hE4
  have hE5 := enc_len (T := T)
  rw [encF_ok (by omega)] at hE5
  dsimp only at hE5
  refine m_appE hM49 (i := 1) rfl hy5_ rfl rfl (hs49.rd hM49 (i := 3) rfl) (by omega) (by omega) fun v50 w50 r50 (hs50 : SlE byteV 5 v50 (B ++ (tokB (T.drop j, 0, 0))) r50) (hM50 : Mem _ _ w50 [_, r50, _, _]) => mv <| h43 _ _ <| seq fun _ h51 => mv <| mv <| mv <| h51 _ _ <| ⟨(.tuple [v50, .int .i64 0].toArray), rfl, ⟨_, _, by rw [encF_ok (by omega)], by rw [encF_ok (by omega), hE3]; exact hs50, hM50.keep (by simp)⟩⟩
 refine h43 _ _ <| seq fun _ h52 => mv <| mv <| mv <| h52 _ _ <| ⟨(.tuple [y5_, .int .i64 0].toArray), rfl, ⟨_, _, by rw [encF_ok (by omega)], by rw [encF_ok (by omega), hE, own_end (by omega), if_neg (by omega)]; simpa [toksB] using hy5_, hM14.keep (by simp)⟩⟩
end Go.Proofs.YtifnmbmijljhfaaGreat.E.Lz
namespace Go.Proofs.YtifnmbmijljhfaaGreat.E.Lz
open Go
theorem le_sumN : ∀ {l : List Nat} {x : Nat}, x ∈ l → x ≤ l.sum
 | y :: l, x, h => by
  rw [List.sum_cons]
  rcases List.mem_cons.1 h with rfl | h
  ·omega
  have := le_sumN h; omega
theorem perm4 {a b c d e : List Ent} : [a ++ e, b, c, d].flatten.Perm [a, b, c, d, e].flatten := by
 simp only [List.flatten_cons, List.flatten_nil, List.append_nil, List.append_assoc]
 refine List.Perm.append_left _ ?_
 have h : b ++ (c ++ (d ++ e)) = (b ++ (c ++ d)) ++ e := by simp
 rw [h]
 exact List.perm_append_comm
theorem permU {a b c : List Ent} : [b, a ++ c].flatten.Perm [a, b, c].flatten := by
 simp only [List.flatten_cons, List.flatten_nil, List.append_nil]
 exact List.perm_append_comm_assoc _ _ _
theorem rsame_ok (x : Value) (T : List UInt8) (i j : Nat) (w : World) (hx : RdE byteV w x T) (hi : i + 4 ≤ T.length) (hj : j ≤ i) (hl : T.length ≤ 65536) : Calls Tryz.prog 97 [x, .int .i64 ((i : Nat) : Int), .int .i64 ((j : Nat) : Int)].toArray w (Rt fun r w' => r = .int .i64 ((lcF T i j : Nat) : Int) ∧ Upd [] w w') := by
 have hM0 : Mem w [] w [] := Mem.nil w []
 refine calls_vc mixed Tryz.func97 rfl C97 (by simp [Tryz.ntmps97]) <| seq fun _ h1 => mv <| h1 _ _ <| seq fun _ h2 => mv <| h2 _ _ <| seq fun _ h3 => lp (n := fun _ _ => False) (ι := (Nat)) (fun n f w' => f 7 = .int .i64 (n : Nat) ∧ f 0 = x ∧ f 1 = .int .i64 (i : Nat) ∧ f 2 = .int .i64 (j : Nat) ∧ Mem w [] w' [] ∧ (n ≤ 259 ∧ i + n ≤ T.length) ∧ (∀ k, k < n → T.getD (i + k) 0 = T.getD (j + k) 0)) (fun n => 259 - n) (0) ?_ ?_
 ·exact ⟨vi, rfl, vi, vi, hM0, by omega, fun k hk => by omega⟩
 rintro n f w4 ⟨e4_7, e4_0, e4_1, e4_2, hM4, hn, hk⟩ K5 h5
 obtain ⟨frm, rfl⟩ := re4 e4_7 e4_0 e4_1 e4_2
 refine seq fun _ h6 => seq fun _ h7 => ?_
 intro wd e1 e2 e3 e4
 have hd := Upd.same e1 e2 e3 e4 []
 have hM8 := hM4.pure hd
 clear e1 e2 e3 e4
 refine ⟨none, ?_⟩
 show vd _ _ _ _ _ _ _
 refine dmv <| dbn rfl rfl <| dmv <| dsplitP rfl (fun c9 => ?_) (fun c9 => ?_)
 ·refine dgmv rfl <| dgmv rfl <| dqg rfl (v := .int .i64 ((i : Nat) + (n : Nat))) (o_bin rfl rfl (v_add64 (by omega))) <| dgmv rfl <| dqg rfl (v := .int .i64 (T.length : Nat)) (o_lenR (hx.upd hM8.upd) rfl rfl) <| dgbn rfl rfl rfl <| dpkT rfl <| dmv <| dsplitP rfl (fun c10 => ?_) (fun c10 => ?_)
  ·refine dgmv rfl <| dgmv rfl <| dgmv rfl <| dqg rfl (v := .int .i64 ((i : Nat) + (n : Nat))) (o_bin rfl rfl (v_add64 (by omega))) <| dgyes rfl rfl (dqp (m_idxE 0 (j := ((i) + (n))) (hx.upd hM8.upd) rfl (v_int (by omega)) (by omega) fun b11 o11 hp11 => ?_))
   show vd _ _ _ _ _ _ _
   refine dgmv rfl <| dgmv rfl <| dgmv rfl <| dqg rfl (v := .int .i64 ((j : Nat) + (n : Nat))) (o_bin rfl rfl (v_add64 (by omega))) <| dgyes rfl rfl (dqp (m_idxE 0 (j := ((j) + (n))) (hx.upd hM8.upd) rfl (v_int (by omega)) (by omega) fun b12 o12 hp12 => ?_))
   show vd _ _ _ _ _ _ _
   refine dqgyes rfl rfl <| dqld rfl (trivial) (v := byteV (T.getD ((j) + (n)) 0)) (hp12) <| dgyesl rfl <| dl (ld (v := byteV (T.getD ((i) + (n)) 0)) rfl (hp11) <| ⟨rfl, dgbn rfl rfl rfl <| dpkT rfl <| h7 _ _ <| cndP rfl (fun c13 => ?_) (fun c13 => ?_)⟩)
   ·refine h6 _ _ <| mv <| stp (v := .int .i64 ((n : Nat) + 1)) (o_bin rfl rfl (v_add64 (by omega))) <| mv ?_
    refine h5 (n + 1) _ _ ⟨vi, rfl, vi, vi, hM8, by omega, fun k hk9 => by
     rcases Nat.lt_or_ge k n with h9 | h9
     ·exact hk k h9
     (obtain rfl : k = n := by omega); exact u8_eq (by assumption)⟩ (by (try dsimp only); omega)
   refine h3 _ _ <| seq fun _ h14 => ?_
   have hL : lcF T i j = n := lcF_is (by omega) (by omega) (by omega) hk (by first | exact .inr (.inr (nat_neG (by assumption))) | exact or3 (by omega))
   refine mv <| mv <| h14 _ _ <| ⟨(.int .i64 (n : Nat)), rfl, ⟨by rw [hL], hM8.upd⟩⟩
  refine dx rfl <| dx rfl <| dx rfl <| dx rfl <| dx rfl <| dx rfl <| dx rfl <| dx rfl <| dx rfl <| dx rfl <| dxq rfl <| dxl rfl <| dx rfl <| dpkF rfl <| h7 _ _ <| cndF rfl <| h3 _ _ <| seq fun _ h15 => ?_
  have hL : lcF T i j = n := lcF_is (by omega) (by omega) (by omega) hk (by first | exact .inr (.inr (nat_neG (by assumption))) | exact or3 (by omega))
  refine mv <| mv <| h15 _ _ <| ⟨(.int .i64 (n : Nat)), rfl, ⟨by rw [hL], hM8.upd⟩⟩
 refine dx rfl <| dx rfl <| dx rfl <| dx rfl <| dx rfl <| dx rfl <| dpkF rfl <| dmv <| dsplitF rfl <| dx rfl <| dx rfl <| dx rfl <| dx rfl <| dx rfl <| dx rfl <| dx rfl <| dx rfl <| dx rfl <| dx rfl <| dxq rfl <| dxl rfl <| dx rfl <| dpkF rfl <| h7 _ _ <| cndF rfl <| h3 _ _ <| seq fun _ h16 => ?_
 have hL : lcF T i j = n := lcF_is (by omega) (by omega) (by omega) hk (by first | exact .inr (.inr (nat_neG (by assumption))) | exact or3 (by omega))
 refine mv <| mv <| h16 _ _ <| ⟨(.int .i64 (n : Nat)), rfl, ⟨by rw [hL], hM8.upd⟩⟩
theorem own_ok (x : Value) (T : List UInt8) (w : World) (hx : RdE byteV w x T) (hl : T.length ≤ 65536) : Calls Tryz.prog 61 [x].toArray w (Rt fun r w' => ∃ us rA rB, SlS tokC 3 125 r us rA ∧ Nst (OwnP byteV 5 Tk.lit Tk.bs) us rB ∧ us.map Tk.p = ownF T ∧ Mem w [] w' [rA, rB]) := by
 have hM0 : Mem w [] w [[]] := (Mem.nil w []).addNil
 refine calls_vc mixed Tryz.func61 rfl C61 (by simp [Tryz.ntmps61]) <| seq fun _ h1 => mv <| h1 _ _ <| seq fun _ h2 => mv <| h2 _ _ <| seq fun _ h3 => m_mksE (E := i64V) (z := 0) (n := 4096) (c := 4096) rfl hM0 (v_int (by omega)) (v_int (by omega)) (by omega) (by omega) (by omega) fun v4 w4 r4 hs4 (hM4 : Mem _ _ w4 [_, r4]) => mv <| h3 _ _ <| seq fun _ h5 => mv <| stp (v := .int .i64 (T.length : Nat)) (o_lenR (hx.upd hM4.upd) rfl rfl) ?_
 refine stp (v := .int .i64 ((T.length : Nat) + 1)) (o_bin rfl rfl (v_add64 (by omega))) <| m_mksE (E := i64V) (z := 0) (n := (T.length + 1)) (c := (T.length + 1)) rfl hM4 (v_int (by omega)) (v_int (by omega)) (by omega) (by omega) (by omega) fun v6 w6 r6 hs6 (hM6 : Mem _ _ w6 [_, _, r6]) => mv <| h5 _ _ <| seq fun _ h7 => mv <| h7 _ _ <| seq fun _ h8 => mv <| h8 _ _ <| seq fun _ h9 => seq fun _ h10 => mv <| h10 _ _ ?_
 have hM11 : Mem _ _ w6 [_, _, _, []] := hM6.addNil
 have hs11 : SlS tokC 3 125 (.slice none 0 0) [] [] := Sl.nil 3 125
 refine lp (n := fun _ _ => False) (ι := (Nat) × (Nat) × (Nat) × (Nat) × (List Int) × (List Int) × (List Tk) × (List Ent) × (Value) × (List Ent) × (Value) × (List Ent) × (Value) × (List Ent)) (fun ⟨i, j, k, m, H, A, us, rB, y4_, r4_, y5_, r5_, y3_, r3_⟩ f w' => f 4 = y4_ ∧ f 5 = y5_ ∧ f 3 = y3_ ∧ f 6 = .int .i64 (j : Nat) ∧ f 7 = .int .i64 (m : Nat) ∧ f 8 = .int .i64 (i : Nat) ∧ f 0 = x ∧ Mem w [] w' [rB, r4_, r5_, r3_] ∧ (Tab (slotR T) 4096 m H A 0) ∧ (A.length = T.length + 1) ∧ (ownF T = us.map Tk.p ++ ownK T k i j) ∧ (Nst (OwnP byteV 5 Tk.lit Tk.bs) us rB) ∧ (T.length ≤ i + k) ∧ (j ≤ i) ∧ (i ≤ T.length) ∧ (m ≤ i) ∧ (us.length ≤ i) ∧ (SlE i64V 3 y4_ (H) r4_) ∧ (SlE i64V 3 y5_ (A) r5_) ∧ (SlS tokC 3 125 y3_ (us) r3_)) (fun ⟨i, j, k, m, H, A, us, rB, y4_, r4_, y5_, r5_, y3_, r3_⟩ => T.length - i) (0, 0, T.length, 0, (List.replicate 4096 0), (List.replicate (T.length + 1) 0), [], [], v4, r4, v6, r6, ((.slice none 0 0)), ([])) ?_ ?_
 ·exact ⟨rfl, rfl, rfl, vi, vi, vi, rfl, hM11, Tab.init _ _ _ _, by simp, rfl, Nst.nil, by omega, by omega, by omega, by omega, by simp, by first | exact hs4 | simpa using hs4, by first | exact hs6 | simpa using hs6, by first | exact hs11 | simpa using hs11⟩
 rintro ⟨i, j, k, m, H, A, us, rB, y4_, r4_, y5_, r5_, y3_, r3_⟩ f w12 ⟨e12_4, e12_5, e12_3, e12_6, e12_7, e12_8, e12_0, hM12, ht, hAl, hE, hns, hk, hj, hi, hm, hul, hy4_, hy5_, hy3_⟩ K13 h13
 obtain ⟨frm, rfl⟩ := re7 e12_4 e12_5 e12_3 e12_6 e12_7 e12_8 e12_0
 refine seq fun _ h14 => seq fun _ h15 => mv <| stp (v := .int .i64 ((i : Nat) + 4)) (o_bin rfl rfl (v_add64 (by omega))) <| mv <| stp (v := .int .i64 (T.length : Nat)) (o_lenR (hx.upd hM12.upd) rfl rfl) <| bn rfl rfl <| h15 _ _ <| cndP rfl (fun c16 => ?_) (fun c16 => ?_)
 ·refine h14 _ _ <| seq fun _ h17 => lp (n := fun _ _ => False) (ι := (Nat) × (List Int) × (List Int) × (Value) × (List Ent) × (Value) × (List Ent)) (fun ⟨m, H, A, y4_, r4_, y5_, r5_⟩ f w' => f 4 = y4_ ∧ f 5 = y5_ ∧ f 7 = .int .i64 (m : Nat) ∧ f 0 = x ∧ f 3 = y3_ ∧ f 6 = .int .i64 (j : Nat) ∧ f 8 = .int .i64 (i : Nat) ∧ Mem w [] w' [rB, r4_, r5_, r3_] ∧ (Tab (slotR T) 4096 m H A 0) ∧ (A.length = T.length + 1) ∧ (m ≤ i) ∧ (SlE i64V 3 y4_ (H) r4_) ∧ (SlE i64V 3 y5_ (A) r5_)) (fun ⟨m, H, A, y4_, r4_, y5_, r5_⟩ => i - m) (m, H, A, y4_, r4_, y5_, r5_) ?_ ?_
  ·exact ⟨rfl, rfl, vi, rfl, rfl, vi, vi, hM12, ht, hAl, hm, by first | exact hy4_ | simpa using hy4_, by first | exact hy5_ | simpa using hy5_⟩
  rintro ⟨m, H, A, y4_, r4_, y5_, r5_⟩ f w18 ⟨e18_4, e18_5, e18_7, e18_0, e18_3, e18_6, e18_8, hM18, ht, hAl, hm, hy4_, hy5_⟩ K19 h19
  obtain ⟨frm, rfl⟩ := re7 e18_4 e18_5 e18_7 e18_0 e18_3 e18_6 e18_8
  refine seq fun _ h20 => seq fun _ h21 => mv <| mv <| bn rfl rfl <| h21 _ _ <| cndP rfl (fun c22 => ?_) (fun c22 => ?_)
  ·refine h20 _ _ <| seq fun _ h23 => mv <| mv <| m_call (slot_ok _ T m w18 (hx.upd hM18.upd) (by omega) (by omega)) rfl fun v24 w24 ⟨hr24, hu24⟩ => ?_
   have hM24 : Mem w [] w24 [rB, r4_, r5_, r3_] := hM18.pure hu24
   subst hr24
   refine mv <| h23 _ _ <| seq fun _ h25 => mv <| mv ?_
   have hsl := slotR_lt T m
   have hHl := ht.hl
   refine mv <| mv <| m_idxE 0 (j := slotR T m) (hy4_.rd hM24 (i := 1) rfl) rfl rfl (by omega) fun b26 o26 hp26 => ld (v := .int .i64 (H.getD (slotR T m) 0)) rfl (hp26) <| m_set (E := i64V) (q := (H.getD (slotR T m) 0 - 0)) (j := m) hM24 (i := 2) rfl hy5_ rfl rfl (by omega) (by simp) (v_int (by omega)) fun w27 r27 u27 he27 hs27 (hM27 : Mem _ _ w27 [_, _, r27, _]) => h25 _ _ <| seq fun _ h28 => mv <| mv <| mv <| stp (v := .int .i64 ((m : Nat) + 1)) (o_bin rfl rfl (v_add64 (by omega))) <| m_set (E := i64V) (q := (m : Nat) + 1) (j := slotR T m) hM27 (i := 1) rfl hy4_ rfl rfl (by omega) (by simp) (rfl) fun w29 r29 u29 he29 hs29 (hM29 : Mem _ _ w29 [_, r29, _, _]) => h28 _ _ <| mv ?_
   refine stp (v := .int .i64 ((m : Nat) + 1)) (o_bin rfl rfl (v_add64 (by omega))) <| mv <| h19 (m + 1, (H.set (slotR T m) ((m : Nat) + 1)), (A.set m (H.getD (slotR T m) 0 - 0)), y4_, r29, y5_, r27) _ _ ⟨rfl, rfl, vi, rfl, rfl, vi, vi, hM29, ht.step (by omega) hsl, by rw [List.length_set]; exact hAl, by omega, by first | exact hs29 | simpa using hs29, by first | exact hs27 | simpa using hs27⟩ (by (try dsimp only); omega)
  refine h17 _ _ <| seq fun _ h30 => mv <| h30 _ _ <| seq fun _ h31 => mv <| h31 _ _ <| seq fun _ h32 => mv <| h32 _ _ <| seq fun _ h33 => mv <| mv <| mv <| m_call (slot_ok _ T i w18 (hx.upd hM18.upd) (by omega) (by omega)) rfl fun v34 w34 ⟨hr34, hu34⟩ => ?_
  have hM34 : Mem w [] w34 [rB, r4_, r5_, r3_] := hM18.pure hu34
  subst hr34
  have hsl := slotR_lt T i
  have hHl := ht.hl
  have hmi : m = i := by omega
  have hhv := ht.hv _ hsl
  have hpl := pv_le (slotR T) (slotR T i) m
  rw [hmi] at hhv hpl
  refine m_idxE 0 (j := slotR T i) (hy4_.rd hM34 (i := 1) rfl) rfl rfl (by omega) fun b35 o35 hp35 => ld (v := .int .i64 (H.getD (slotR T i) 0)) rfl (hp35) <| stp (v := .int .i64 ((H.getD (slotR T i) 0) - 1)) (o_bin rfl rfl (v_sub64 (by omega))) <| mv <| h33 _ _ <| seq fun _ h36 => lp (n := fun _ _ => False) (ι := (Nat) × (Nat) × (Nat) × (Nat)) (fun ⟨p, s, d, b⟩ f w' => f 10 = .int .i64 (b : Nat) ∧ f 11 = .int .i64 (d : Nat) ∧ f 12 = .int .i64 (s : Nat) ∧ f 13 = .int .i64 ((p : Nat) - 1) ∧ f 0 = x ∧ f 3 = y3_ ∧ f 4 = y4_ ∧ f 5 = y5_ ∧ f 6 = .int .i64 (j : Nat) ∧ f 7 = .int .i64 (m : Nat) ∧ f 8 = .int .i64 (i : Nat) ∧ Mem w [] w' [rB, r4_, r5_, r3_] ∧ (Srch T (slotR T) i p s d b) ∧ (s ≤ 16)) (fun ⟨p, s, d, b⟩ => p) (pv (slotR T) (slotR T i) i, 0, 0, 0) ?_ ?_
  ·exact ⟨vi, vi, vi, vi, rfl, rfl, rfl, rfl, vi, vi, vi, hM34, Srch.init (slotR_h T) (by omega), by omega⟩
  rintro ⟨p, s, d, b⟩ f w37 ⟨e37_10, e37_11, e37_12, e37_13, e37_0, e37_3, e37_4, e37_5, e37_6, e37_7, e37_8, hM37, hS, hs⟩ K38 h38
  obtain ⟨frm, rfl⟩ := re11 e37_10 e37_11 e37_12 e37_13 e37_0 e37_3 e37_4 e37_5 e37_6 e37_7 e37_8
  refine seq fun _ h39 => seq fun _ h40 => mv <| bn rfl rfl <| mv <| splitP rfl (fun c41 => ?_) (fun c41 => ?_)
  ·have hSp := hS.hp
   have hSb := hS.hb
   refine gmv rfl <| gmv rfl <| stg rfl (v := .int .i64 ((i : Nat) - ((p : Nat) - 1))) (o_bin rfl rfl (v_sub64 (by omega))) <| gbn rfl rfl rfl <| pkT rfl <| mv <| splitP rfl (fun c42 => ?_) (fun c42 => ?_)
   ·refine gmv rfl <| gbn rfl rfl rfl <| pkT rfl <| h40 _ _ <| cndP rfl (fun c43 => ?_) (fun c43 => ?_)
    ·refine h39 _ _ <| seq fun _ h44 => seq fun _ h45 => mv <| mv <| stp (v := .int .i64 (p - 1 : Nat)) (o_mv (v_int (by omega))) <| m_call (alike_ok _ T i (p - 1) w37 (hx.upd hM37.upd) (by omega) (by omega) (by omega)) rfl fun v46 w46 ⟨hr46, hu46⟩ => ?_
     have hM46 : Mem w [] w46 [rB, r4_, r5_, r3_] := hM37.pure hu46
     subst hr46
     refine h45 _ _ <| cndP rfl (fun c47 => ?_) (fun c47 => ?_)
     ·refine seq fun _ h48 => mv <| stp (v := .int .i64 ((s : Nat) + 1)) (o_bin rfl rfl (v_add64 (by omega))) <| mv <| h48 _ _ <| seq fun _ h49 => mv <| mv <| stp (v := .int .i64 (p - 1 : Nat)) (o_mv (v_int (by omega))) <| m_call (rsame_ok _ T i (p - 1) w46 (hx.upd hM46.upd) (by omega) (by omega) (by omega)) rfl fun v50 w50 ⟨hr50, hu50⟩ => ?_
      have hM50 : Mem _ _ w50 [_, _, _, _] := hM46.pure hu50
      subst hr50
      refine mv <| h49 _ _ <| seq fun _ h51 => ?_
      have hlc := lcF_le (T := T) (i := i) (j := p - 1)
      refine mv <| mv <| bn rfl rfl <| mv <| splitP rfl (fun c52 => ?_) (fun c52 => ?_)
      ·refine gmv rfl <| gmv rfl <| stg rfl (v := .int .i64 (p - 1 : Nat)) (o_mv (v_int (by omega))) <| stg rfl (v := .int .i64 ((i : Nat) - (p - 1 : Nat))) (o_bin rfl rfl (v_sub64 (by omega))) <| gyesl rfl <| m_call (refPut_ok ((i : Nat) - (p - 1 : Nat)) (by simp only [inK]; omega) w50) rfl fun v53 w53 ⟨rs53, hs53, hm53⟩ => ?_
       have hM53 : Mem _ _ w53 [_, _, _, _, rs53] := hM50.add hm53
       have hn53 := putI_len (v := (i : Nat) - (p - 1 : Nat)) (by omega)
       have hpl2 := plen_put (v := (i : Nat) - ((p - 1 : Nat) : Int)) (by omega) (by omega)
       rw [show ((i : Nat) - ((p - 1 : Nat) : Int) : Int).toNat = i - (p - 1) by omega] at hpl2
       refine stg rfl (v := .int .i64 ((putI ((i : Nat) - (p - 1 : Nat))).length : Nat)) (o_lenR (hs53.rd hM53 (i := 4) rfl) rfl rfl) <| stg rfl (v := .int .i64 (3 + ((putI ((i : Nat) - (p - 1 : Nat))).length : Nat))) (o_bin rfl rfl (v_add64 (by omega))) <| gbn rfl rfl rfl <| pkT rfl <| h51 _ _ <| cndP rfl (fun c54 => ?_) (fun c54 => ?_)
       ·refine seq fun _ h55 => mv <| mv <| h55 _ _ <| mv <| mv <| stp (v := .int .i64 ((i - (p - 1) : Nat) : Int)) (o_bin rfl rfl ((v_sub64 (by omega)).trans (v_int (by omega)))) <| mv <| h44 _ _ ?_
        have hav := ht.av (p - 1) (by omega)
        have hpq := pv_le (slotR T) (slotR T (p - 1)) (p - 1)
        refine mv <| mv <| m_idxE 0 (j := (p - 1)) (hy5_.rd hM53 (i := 2) rfl) rfl (v_int (by omega)) (by omega) fun b56 o56 hp56 => ld (v := .int .i64 (A.getD (p - 1) 0)) rfl (hp56) <| stp (v := .int .i64 ((A.getD (p - 1) 0) - 1)) (o_bin rfl rfl (v_sub64 (by omega))) <| mv <| h38 (pv (slotR T) (slotR T (p - 1)) (p - 1), s + 1, i - (p - 1), lcF T i (p - 1)) _ _ ⟨vi, vi, vi, vi, rfl, rfl, rfl, rfl, vi, vi, vi, hM53.keep (by simp), hS.better (slotR_h T) (by omega) (by assumption) (by omega) (by omega) (by omega), by omega⟩ (by (try dsimp only); omega)
       refine h44 _ _ ?_
       have hav := ht.av (p - 1) (by omega)
       have hpq := pv_le (slotR T) (slotR T (p - 1)) (p - 1)
       refine mv <| mv <| m_idxE 0 (j := (p - 1)) (hy5_.rd hM53 (i := 2) rfl) rfl (v_int (by omega)) (by omega) fun b57 o57 hp57 => ld (v := .int .i64 (A.getD (p - 1) 0)) rfl (hp57) <| stp (v := .int .i64 ((A.getD (p - 1) 0) - 1)) (o_bin rfl rfl (v_sub64 (by omega))) <| mv <| h38 (pv (slotR T) (slotR T (p - 1)) (p - 1), s + 1, d, b) _ _ ⟨vi, vi, vi, vi, rfl, rfl, rfl, rfl, vi, vi, vi, hM53.keep (by simp), hS.worse (slotR_h T) (by omega) (by assumption) (by omega) (by omega) (by omega), by omega⟩ (by (try dsimp only); omega)
      refine gx rfl <| gx rfl <| gx rfl <| gx rfl <| gxl rfl <| gx rfl <| gx rfl <| gx rfl <| pkF rfl <| h51 _ _ <| cndF rfl <| h44 _ _ ?_
      have hav := ht.av (p - 1) (by omega)
      have hpq := pv_le (slotR T) (slotR T (p - 1)) (p - 1)
      refine mv <| mv <| m_idxE 0 (j := (p - 1)) (hy5_.rd hM50 (i := 2) rfl) rfl (v_int (by omega)) (by omega) fun b58 o58 hp58 => ld (v := .int .i64 (A.getD (p - 1) 0)) rfl (hp58) <| stp (v := .int .i64 ((A.getD (p - 1) 0) - 1)) (o_bin rfl rfl (v_sub64 (by omega))) <| mv <| h38 (pv (slotR T) (slotR T (p - 1)) (p - 1), s + 1, d, b) _ _ ⟨vi, vi, vi, vi, rfl, rfl, rfl, rfl, vi, vi, vi, hM50, hS.worse (slotR_h T) (by omega) (by assumption) (by omega) (by omega) (by omega), by omega⟩ (by (try dsimp only); omega)
     refine h44 _ _ ?_
     have hav := ht.av (p - 1) (by omega)
     have hpq := pv_le (slotR T) (slotR T (p - 1)) (p - 1)
     refine mv <| mv <| m_idxE 0 (j := (p - 1)) (hy5_.rd hM46 (i := 2) rfl) rfl (v_int (by omega)) (by omega) fun b59 o59 hp59 => ld (v := .int .i64 (A.getD (p - 1) 0)) rfl (hp59) <| stp (v := .int .i64 ((A.getD (p - 1) 0) - 1)) (o_bin rfl rfl (v_sub64 (by omega))) <| mv <| h38 (pv (slotR T) (slotR T (p - 1)) (p - 1), s, d, b) _ _ ⟨vi, vi, vi, vi, rfl, rfl, rfl, rfl, vi, vi, vi, hM46, hS.skip (slotR_h T) (by omega) (by assumption), by omega⟩ (by (try dsimp only); omega)
    refine h36 _ _ <| seq fun _ h60 => seq fun _ h61 => ?_
    have hBe := hS.stop (by omega)
    have hbl := best_le (T := T) (i := i)
    rw [hBe] at hbl
    dsimp only at hbl
    refine mv <| bn rfl rfl <| h61 _ _ <| cndP rfl (fun c62 => ?_) (fun c62 => ?_)
    ·refine seq fun _ h63 => mv <| stp (v := .int .i64 ((i : Nat) + 1)) (o_bin rfl rfl (v_add64 (by omega))) <| mv <| h63 _ _ <| h13 (i + 1, j, k - 1, m, H, A, us, rB, y4_, r4_, y5_, r5_, y3_, r3_) _ _ ⟨rfl, rfl, rfl, vi, vi, vi, rfl, hM37.keep (by simp), ht, hAl, by rw [← own_miss (by omega) hk (by rw [hBe]; omega)]; exact hE, hns, by omega, by omega, by omega, by omega, by omega, by first | exact hy4_ | simpa using hy4_, by first | exact hy5_ | simpa using hy5_, by first | exact hy3_ | simpa using hy3_⟩ (by (try dsimp only); omega)
    refine h60 _ _ <| seq fun _ h64 => mv <| m_bs hM37 rfl fun b65 w66 (hM66 : Mem w [] w66 [rB, r4_, r5_, r3_, [⟨b65, 5, []⟩]]) => mv <| mv <| mv <| m_slcE j i (hx) rfl (by omega) (by omega) ⟨_, rfl⟩ ⟨_, rfl⟩ fun u67 hu67 => ?_
    have hs68 : SlE byteV 5 (.slice (some ⟨b65, 0, none⟩) 0 0) [] [⟨b65, 5, []⟩] := SlE.lit (l := []) rfl
    refine m_appE hM66 (i := 4) rfl hs68 rfl rfl ((hu67.upd hM66.upd)) (by first | omega | (simp; omega)) (by omega) fun v69 w69 r69 (hs69 : SlE byteV 5 v69 ((T.take i).drop j) r69) (hM69 : Mem _ _ w69 [_, _, _, _, r69]) => mv <| mv ?_
    obtain ⟨a70_, n70_, c70_, rfl⟩ := Sl.isSlice hs69
    refine stp (v := .agg ([(.slice a70_ n70_ c70_), .int .i64 (d : Nat), .int .i64 (b : Nat)] : List Value).toArray) (o_bld rfl rfl) <| m_app1S (enc := tokC) (q := (⟨a70_, n70_, c70_, (T.take i).drop j, (d : Nat), (b : Nat)⟩ : Tk)) hM69 (i := 3) rfl hy3_ rfl (by simp) (rfl) (rfl) (by first | omega | (simp; omega)) (by omega) fun v71 w71 r71 u71 (hs71 : SlS tokC 3 125 v71 (us ++ [(⟨a70_, n70_, c70_, (T.take i).drop j, (d : Nat), (b : Nat)⟩ : Tk)]) r71) (hM71 : Mem _ _ w71 [_, _, _, r71, _]) => mv <| h64 _ _ <| seq fun _ h72 => mv <| mv <| stp (v := .int .i64 ((i : Nat) + (b : Nat))) (o_bin rfl rfl (v_add64 (by omega))) <| mv <| h72 _ _ <| mv <| mv <| h13 (i + b, i + b, k - 1, m, H, A, (us ++ [(⟨a70_, n70_, c70_, (T.take i).drop j, (d : Nat), (b : Nat)⟩ : Tk)]), rB ++ r69, y4_, r4_, y5_, r5_, v71, r71) _ _ ⟨rfl, rfl, rfl, vi, vi, vi, rfl, (hM71.keep (R' := [rB, r4_, r5_, r71, r69]) (by simp)).perm perm4, ht, hAl, by rw [hE, own_hit (by omega) hk (by rw [hBe]; omega), hBe, List.map_append, List.append_assoc]; rfl, hns.app hs69, by omega, by omega, by omega, by omega, by rw [List.length_append, List.length_singleton]; omega, by first | exact hy4_ | simpa using hy4_, by first | exact hy5_ | simpa using hy5_, by first | exact hs71 | simpa using hs71⟩ (by (try dsimp only); omega)
   refine gx rfl <| gx rfl <| pkF rfl <| h40 _ _ <| cndF rfl <| h36 _ _ <| seq fun _ h73 => seq fun _ h74 => ?_
   have hBe := hS.stop (by omega)
   have hbl := best_le (T := T) (i := i)
   rw [hBe] at hbl
   dsimp only at hbl
   refine mv <| bn rfl rfl <| h74 _ _ <| cndP rfl (fun c75 => ?_) (fun c75 => ?_)
   ·refine seq fun _ h76 => mv <| stp (v := .int .i64 ((i : Nat) + 1)) (o_bin rfl rfl (v_add64 (by omega))) <| mv <| h76 _ _ <| h13 (i + 1, j, k - 1, m, H, A, us, rB, y4_, r4_, y5_, r5_, y3_, r3_) _ _ ⟨rfl, rfl, rfl, vi, vi, vi, rfl, hM37.keep (by simp), ht, hAl, by rw [← own_miss (by omega) hk (by rw [hBe]; omega)]; exact hE, hns, by omega, by omega, by omega, by omega, by omega, by first | exact hy4_ | simpa using hy4_, by first | exact hy5_ | simpa using hy5_, by first | exact hy3_ | simpa using hy3_⟩ (by (try dsimp only); omega)
   refine h73 _ _ <| seq fun _ h77 => mv <| m_bs hM37 rfl fun b78 w79 (hM79 : Mem w [] w79 [rB, r4_, r5_, r3_, [⟨b78, 5, []⟩]]) => mv <| mv <| mv <| m_slcE j i (hx) rfl (by omega) (by omega) ⟨_, rfl⟩ ⟨_, rfl⟩ fun u80 hu80 => ?_
   have hs81 : SlE byteV 5 (.slice (some ⟨b78, 0, none⟩) 0 0) [] [⟨b78, 5, []⟩] := SlE.lit (l := []) rfl
   refine m_appE hM79 (i := 4) rfl hs81 rfl rfl ((hu80.upd hM79.upd)) (by first | omega | (simp; omega)) (by omega) fun v82 w82 r82 (hs82 : SlE byteV 5 v82 ((T.take i).drop j) r82) (hM82 : Mem _ _ w82 [_, _, _, _, r82]) => mv <| mv ?_
   obtain ⟨a83_, n83_, c83_, rfl⟩ := Sl.isSlice hs82
   refine stp (v := .agg ([(.slice a83_ n83_ c83_), .int .i64 (d : Nat), .int .i64 (b : Nat)] : List Value).toArray) (o_bld rfl rfl) <| m_app1S (enc := tokC) (q := (⟨a83_, n83_, c83_, (T.take i).drop j, (d : Nat), (b : Nat)⟩ : Tk)) hM82 (i := 3) rfl hy3_ rfl (by simp) (rfl) (rfl) (by first | omega | (simp; omega)) (by omega) fun v84 w84 r84 u84 (hs84 : SlS tokC 3 125 v84 (us ++ [(⟨a83_, n83_, c83_, (T.take i).drop j, (d : Nat), (b : Nat)⟩ : Tk)]) r84) (hM84 : Mem _ _ w84 [_, _, _, r84, _]) => mv <| h77 _ _ <| seq fun _ h85 => mv <| mv <| stp (v := .int .i64 ((i : Nat) + (b : Nat))) (o_bin rfl rfl (v_add64 (by omega))) <| mv <| h85 _ _ <| mv <| mv <| h13 (i + b, i + b, k - 1, m, H, A, (us ++ [(⟨a83_, n83_, c83_, (T.take i).drop j, (d : Nat), (b : Nat)⟩ : Tk)]), rB ++ r82, y4_, r4_, y5_, r5_, v84, r84) _ _ ⟨rfl, rfl, rfl, vi, vi, vi, rfl, (hM84.keep (R' := [rB, r4_, r5_, r84, r82]) (by simp)).perm perm4, ht, hAl, by rw [hE, own_hit (by omega) hk (by rw [hBe]; omega), hBe, List.map_append, List.append_assoc]; rfl, hns.app hs82, by omega, by omega, by omega, by omega, by rw [List.length_append, List.length_singleton]; omega, by first | exact hy4_ | simpa using hy4_, by first | exact hy5_ | simpa using hy5_, by first | exact hs84 | simpa using hs84⟩ (by (try dsimp only); omega)
  refine gx rfl <| gx rfl <| gx rfl <| gx rfl <| pkF rfl <| mv <| splitF rfl <| gx rfl <| gx rfl <| pkF rfl <| h40 _ _ <| cndF rfl <| h36 _ _ <| seq fun _ h86 => seq fun _ h87 => ?_
  have hBe := hS.stop (by omega)
  have hbl := best_le (T := T) (i := i)
  rw [hBe] at hbl
  dsimp only at hbl
  refine mv <| bn rfl rfl <| h87 _ _ <| cndP rfl (fun c88 => ?_) (fun c88 => ?_)
  ·refine seq fun _ h89 => mv <| stp (v := .int .i64 ((i : Nat) + 1)) (o_bin rfl rfl (v_add64 (by omega))) <| mv <| h89 _ _ <| h13 (i + 1, j, k - 1, m, H, A, us, rB, y4_, r4_, y5_, r5_, y3_, r3_) _ _ ⟨rfl, rfl, rfl, vi, vi, vi, rfl, hM37.keep (by simp), ht, hAl, by rw [← own_miss (by omega) hk (by rw [hBe]; omega)]; exact hE, hns, by omega, by omega, by omega, by omega, by omega, by first | exact hy4_ | simpa using hy4_, by first | exact hy5_ | simpa using hy5_, by first | exact hy3_ | simpa using hy3_⟩ (by (try dsimp only); omega)
  refine h86 _ _ <| seq fun _ h90 => mv <| m_bs hM37 rfl fun b91 w92 (hM92 : Mem w [] w92 [rB, r4_, r5_, r3_, [⟨b91, 5, []⟩]]) => mv <| mv <| mv <| m_slcE j i (hx) rfl (by omega) (by omega) ⟨_, rfl⟩ ⟨_, rfl⟩ fun u93 hu93 => ?_
  have hs94 : SlE byteV 5 (.slice (some ⟨b91, 0, none⟩) 0 0) [] [⟨b91, 5, []⟩] := SlE.lit (l := []) rfl
  refine m_appE hM92 (i := 4) rfl hs94 rfl rfl ((hu93.upd hM92.upd)) (by first | omega | (simp; omega)) (by omega) fun v95 w95 r95 (hs95 : SlE byteV 5 v95 ((T.take i).drop j) r95) (hM95 : Mem _ _ w95 [_, _, _, _, r95]) => mv <| mv ?_
  obtain ⟨a96_, n96_, c96_, rfl⟩ := Sl.isSlice hs95
  refine stp (v := .agg ([(.slice a96_ n96_ c96_), .int .i64 (d : Nat), .int .i64 (b : Nat)] : List Value).toArray) (o_bld rfl rfl) <| m_app1S (enc := tokC) (q := (⟨a96_, n96_, c96_, (T.take i).drop j, (d : Nat), (b : Nat)⟩ : Tk)) hM95 (i := 3) rfl hy3_ rfl (by simp) (rfl) (rfl) (by first | omega | (simp; omega)) (by omega) fun v97 w97 r97 u97 (hs97 : SlS tokC 3 125 v97 (us ++ [(⟨a96_, n96_, c96_, (T.take i).drop j, (d : Nat), (b : Nat)⟩ : Tk)]) r97) (hM97 : Mem _ _ w97 [_, _, _, r97, _]) => mv <| h90 _ _ <| seq fun _ h98 => mv <| mv <| stp (v := .int .i64 ((i : Nat) + (b : Nat))) (o_bin rfl rfl (v_add64 (by omega))) <| mv <| h98 _ _ <| mv <| mv <| h13 (i + b, i + b, k - 1, m, H, A, (us ++ [(⟨a96_, n96_, c96_, (T.take i).drop j, (d : Nat), (b : Nat)⟩ : Tk)]), rB ++ r95, y4_, r4_, y5_, r5_, v97, r97) _ _ ⟨rfl, rfl, rfl, vi, vi, vi, rfl, (hM97.keep (R' := [rB, r4_, r5_, r97, r95]) (by simp)).perm perm4, ht, hAl, by rw [hE, own_hit (by omega) hk (by rw [hBe]; omega), hBe, List.map_append, List.append_assoc]; rfl, hns.app hs95, by omega, by omega, by omega, by omega, by rw [List.length_append, List.length_singleton]; omega, by first | exact hy4_ | simpa using hy4_, by first | exact hy5_ | simpa using hy5_, by first | exact hs97 | simpa using hs97⟩ (by (try dsimp only); omega)
 refine h9 _ _ <| seq fun _ h99 => seq fun _ h100 => mv <| mv <| stp (v := .int .i64 (T.length : Nat)) (o_lenR (hx.upd hM12.upd) rfl rfl) <| bn rfl rfl <| h100 _ _ <| cndP rfl (fun c101 => ?_) (fun c101 => ?_)
 ·refine mv <| m_bs hM12 rfl fun b102 w103 (hM103 : Mem w [] w103 [rB, r4_, r5_, r3_, [⟨b102, 5, []⟩]]) => mv <| mv <| m_slcE j T.length (hx) rfl (by omega) (by omega) rfl ⟨_, rfl⟩ fun u104 hu104 => ?_
  have hu104' : RdE byteV w u104 (T.drop j) := by
   have e : (T.take T.length).drop j = (T.drop j) := by rw [List.take_length]
   rw [e] at hu104; exact hu104
  have hs105 : SlE byteV 5 (.slice (some ⟨b102, 0, none⟩) 0 0) [] [⟨b102, 5, []⟩] := SlE.lit (l := []) rfl
  refine m_appE hM103 (i := 4) rfl hs105 rfl rfl ((hu104'.upd hM103.upd)) (by first | omega | (simp; omega)) (by omega) fun v106 w106 r106 (hs106 : SlE byteV 5 v106 (T.drop j) r106) (hM106 : Mem _ _ w106 [_, _, _, _, r106]) => ?_
  obtain ⟨a107_, n107_, c107_, rfl⟩ := Sl.isSlice hs106
  refine stp (v := .agg ([(.slice a107_ n107_ c107_), .int .i64 0, .int .i64 0] : List Value).toArray) (o_bld rfl rfl) <| m_app1S (enc := tokC) (q := (⟨a107_, n107_, c107_, T.drop j, 0, 0⟩ : Tk)) hM106 (i := 3) rfl hy3_ rfl (by simp) (rfl) (rfl) (by first | omega | (simp; omega)) (by omega) fun v108 w108 r108 u108 (hs108 : SlS tokC 3 125 v108 (us ++ [(⟨a107_, n107_, c107_, T.drop j, 0, 0⟩ : Tk)]) r108) (hM108 : Mem _ _ w108 [_, _, _, r108, _]) => mv <| h99 _ _ <| seq fun _ h109 => mv <| mv <| h109 _ _ <| ⟨v108, rfl, ?_⟩
  have hE2 := hE
  rw [own_tail _ _ _ (by omega) hk, if_pos (by omega)] at hE2
  exact ⟨_, _, _, hs108, hns.app hs106, by rw [hE2, List.map_append]; rfl, (((hM108.drop 1).drop 2).keep (R' := [rB, r108, r106]) (by simp)).perm permU⟩
 refine h99 _ _ <| seq fun _ h110 => mv <| mv <| h110 _ _ <| ⟨y3_, rfl, ?_⟩
 have hE2 := hE
 rw [own_tail _ _ _ (by omega) hk, if_neg (by omega), List.append_nil] at hE2
 exact ⟨us, _, rB, hy3_, hns, hE2.symm, (((hM12.drop 1).drop 2).keep (R' := [rB, r3_]) (by simp)).perm perm2⟩
theorem ok_toks {ps : List Pk} {us : List Tk} {w : World} (he : (expF ps).2 = 0) (h : us.map Tk.p = ps) (hr : ∀ t ∈ us, RdE byteV w t.lit t.bs) : ∀ t ∈ us, t.ok w := by
 intro t ht
 have hm : t.p ∈ ps := by rw [← h]; exact List.mem_map.2 ⟨t, ht, rfl⟩
 have hb := expG_bd ps [] he
 have h1 := hb.1 _ hm
 have h5 : t.bs.length ≤ (ps.map fun t => t.1.length).sum := le_sumN (List.mem_map.2 ⟨t.p, hm, rfl⟩)
 have hle := expF_le ps
 unfold expF at hle
 have h2 := hb.2.1
 have h3 := hb.2.2
 simp only [List.length_nil] at h2 h3
 refine ⟨hr t ht, ?_, ?_, by omega⟩
 ·simp only [inK]; simp only at h1; omega
 simp only [inK]; simp only at h1; omega
theorem len_toks {ps : List Pk} {us : List Tk} (he : (expF ps).2 = 0) (h : us.map Tk.p = ps) : us.length ≤ 65536 := by
 have hb := (expG_bd ps [] he).2.2
 have hle := expF_le ps
 unfold expF at hle
 simp only [List.length_nil] at hb
 have := congrArg List.length h
 rw [List.length_map] at this
 omega
theorem ok_own {T : List UInt8} {us : List Tk} {w : World} (hT : T.length ≤ 65536) (h : us.map Tk.p = ownF T) (hr : ∀ t ∈ us, RdE byteV w t.lit t.bs) : ∀ t ∈ us, t.ok w := ok_toks (by rw [own_text hT]) h hr
theorem len_own {T : List UInt8} {us : List Tk} (hT : T.length ≤ 65536) (h : us.map Tk.p = ownF T) : us.length ≤ 65536 := len_toks (by rw [own_text hT]) h
theorem refEncode_ok (x : Value) (T : List UInt8) (w : World) (hx : RdE byteV w x T) (hl : T.length ≤ 140737488355328) : Calls Tryz.prog 32 [x].toArray w (Rt fun r w' => ∃ v rs, r = .tuple [v, .int .i64 (encF T).2].toArray ∧ SlE byteV 5 v (encF T).1 rs ∧ Mem w [] w' [rs]) := by
 have hM0 : Mem w [] w [] := Mem.nil w []
 refine calls_vc mixed Tryz.func32 rfl C32 (by simp [Tryz.ntmps32]) <| seq fun _ h1 => mv <| mv <| h1 _ _ <| seq fun _ h2 => seq fun _ h3 => mv <| stp (v := .int .i64 (T.length : Nat)) (o_lenR (hx.upd hM0.upd) rfl rfl) <| bn rfl rfl <| h3 _ _ <| cndP rfl (fun c4 => ?_) (fun c4 => ?_)
 ·refine seq fun _ h5 => mv <| mv <| h5 _ _ <| ⟨(.tuple [.slice none 0 0, .int .i64 2].toArray), rfl, ⟨.slice none 0 0, [], by rw [encF_long (by omega)], by rw [encF_long (by omega)]; exact Sl.nil 1 5, hM0.keep (by simp)⟩⟩
 refine h2 _ _ <| seq fun _ h6 => mv <| m_call (own_ok _ T w (hx.upd hM0.upd) (by omega)) rfl fun v7 w7 ⟨us7, rA7, rB7, hs7, hn7, hp7, hm7⟩ => ?_
 have hM7 : Mem _ _ w7 [rA7, rB7] := hM0.add2 hm7
 have hlu7 := len_own (by omega) hp7
 refine m_call (refWrite_ok _ us7 w7 (hs7.rd hM7 (i := 0) rfl) ((ok_own (w := w7) (by omega) hp7 (hn7.rdE hM7 (i := 1) rfl) : ∀ t ∈ us7, Tk.ok w7 t)) (by first | omega | (simp; done) | (simp; omega))) rfl fun v8 w8 ⟨y8, rs8, hr8, hs8, hm8⟩ => ?_
 have hM8 : Mem _ _ w8 [_, _, rs8] := hM7.add hm8
 rw [hp7] at hr8 hs8
 subst hr8
 have hln8 := wrF_len (ownF T)
 refine ext rfl rfl <| ext rfl rfl <| mv <| mv <| h6 _ _ <| ⟨(.tuple [y8, .int .i64 ((wrF (ownF T)).2)].toArray), rfl, ?_⟩
 have hwe := wr_enc (T := T) (by omega)
 have he2 := encF_ok (T := T) (by omega)
 exact ⟨_, _, by rw [hwe, he2], by have h9 := hs8; rw [hwe] at h9; exact h9, (hM8.drop 0).drop 1 |>.keep (by simp)⟩
end Go.Proofs.YtifnmbmijljhfaaGreat.E.Lz
namespace Go.Proofs.YtifnmbmijljhfaaGreat.E.Hf
open Go
section
variable {α : Type} (ρ : α → Int) (z : α)
theorem getD_setS {l : List α} {i j : Nat} {x : α} (hi : i < l.length) : (l.set i x).getD j z = if j = i then x else l.getD j z := by
 rw [List.getD_eq_getElem?_getD, List.getD_eq_getElem?_getD, List.getElem?_set]
 by_cases c : i = j
 ·subst c; rw [if_pos rfl, if_pos hi, if_pos rfl]; rfl
 rw [if_neg c, if_neg (fun e => c e.symm)]
def swp (l : List α) (i j : Nat) : List α := (l.set i (l.getD j z)).set j (l.getD i z)
theorem swp_len (l : List α) (i j : Nat) : (swp z l i j).length = l.length := by simp [swp]
theorem swp_get {l : List α} {i j : Nat} (hi : i < l.length) (hj : j < l.length) (q : Nat) : (swp z l i j).getD q z = if q = j then l.getD i z else if q = i then l.getD j z else l.getD q z := by
 unfold swp
 rw [getD_setS z (by simpa using hj), getD_setS z hi]
theorem swp_perm {l : List α} {i j : Nat} (hi : i < l.length) (hj : j < l.length) : (swp z l i j).Perm l := by
 have := List.set_set_perm hi hj
 unfold swp
 rw [List.getD_eq_getElem?_getD, List.getD_eq_getElem?_getD, List.getElem?_eq_getElem hi, List.getElem?_eq_getElem hj]
 exact this
def Srt (l : List α) (a b : Nat) : Prop := ∀ p q, a ≤ p → p < q → q < b → ρ (l.getD p z) < ρ (l.getD q z)
structure PostS (l lc : List α) (a b : Nat) : Prop where
 perm : lc.Perm l
 out : ∀ q, q < a ∨ b ≤ q → lc.getD q z = l.getD q z
 ins : ∀ q, a ≤ q → q < b → ∃ q', a ≤ q' ∧ q' < b ∧ lc.getD q z = l.getD q' z
 srt : Srt ρ z lc a b
variable {ρ z}
theorem PostS.refl {l : List α} {a b : Nat} (h : Srt ρ z l a b) : PostS ρ z l l a b := ⟨.refl _, fun _ _ => rfl, fun q h1 h2 => ⟨q, h1, h2, rfl⟩, h⟩
variable (w : α → Int) (ρ)
def Cr (x y : α) : Prop := (w y < w x → ρ y < ρ x) ∧ (¬ w y < w x → ρ x < ρ y)
def CrO (z : α) (l : List α) (a m b : Nat) : Prop := ∀ p q, a ≤ p → p < m → m ≤ q → q < b → Cr ρ w (l.getD p z) (l.getD q z)
variable {w ρ}
structure InsI (ρ : α → Int) (z : α) (l lc : List α) (a i j : Nat) : Prop where
 perm : lc.Perm l
 out : ∀ q, q < a ∨ i < q → lc.getD q z = l.getD q z
 at_ : lc.getD j z = l.getD i z
 ins : ∀ q, a ≤ q → q ≤ i → q ≠ j → ∃ q', a ≤ q' ∧ q' < i ∧ lc.getD q z = l.getD q' z
 srt : ∀ p q, a ≤ p → p < q → q ≤ i → q ≠ j → ρ (lc.getD p z) < ρ (lc.getD q z)
 rng : a ≤ j ∧ j ≤ i
theorem InsI.init {l lc : List α} {a i : Nat} (h : PostS ρ z l lc a i) (ha : a ≤ i) : InsI ρ z l lc a i i :=
 ⟨h.perm, fun q hq => h.out q (by omega), h.out i (by omega), fun q h1 h2 h3 => h.ins q h1 (by omega), fun p q h1 h2 h3 h4 => h.srt p q h1 h2 (by omega), by omega⟩
theorem InsI.step {l lc : List α} {a i j : Nat} (h : InsI ρ z l lc a i j) (hj : a < j) (hi : i < l.length) (hlt : ρ (lc.getD j z) < ρ (lc.getD (j - 1) z)) : InsI ρ z l (swp z lc j (j - 1)) a i (j - 1) := by
 have hn : lc.length = l.length := h.perm.length_eq
 have hr := h.rng
 have hg := swp_get z (l := lc) (i := j) (j := j - 1) (by omega) (by omega)
 refine ⟨(swp_perm z (by omega) (by omega)).trans h.perm, fun q hq => ?_, ?_, fun q h1 h2 h3 => ?_, fun p q h1 h2 h3 h4 => ?_, by omega⟩
 ·rw [hg, if_neg (by omega), if_neg (by omega)]; exact h.out q hq
 ·rw [hg, if_pos rfl]; exact h.at_
 ·rw [hg, if_neg h3]
  split
  ·exact h.ins (j - 1) (by omega) (by omega) (by omega)
  exact h.ins q h1 h2 (by omega)
 rw [hg, hg, if_neg h4]
 by_cases c1 : q = j
 ·rw [if_pos c1]
  by_cases c2 : p = j - 1
  ·rw [if_pos c2]; exact hlt
  rw [if_neg c2, if_neg (by omega)]; exact h.srt p (j - 1) h1 (by omega) (by omega) (by omega)
 rw [if_neg c1]
 by_cases c2 : p = j - 1
 ·rw [if_pos c2]; exact h.srt j q (by omega) (by omega) h3 c1
 rw [if_neg c2]
 by_cases c3 : p = j
 ·rw [if_pos c3]; exact h.srt (j - 1) q (by omega) (by omega) h3 c1
 rw [if_neg c3]; exact h.srt p q h1 h2 h3 c1
theorem InsI.done {l lc : List α} {a i j : Nat} (h : InsI ρ z l lc a i j) (hd : j = a ∨ ρ (lc.getD (j - 1) z) < ρ (lc.getD j z)) : PostS ρ z l lc a (i + 1) := by
 have hr := h.rng
 refine ⟨h.perm, fun q hq => h.out q (by omega), fun q h1 h2 => ?_, fun p q h1 h2 h3 => ?_⟩
 ·by_cases c : q = j
  ·subst c; exact ⟨i, by omega, by omega, h.at_⟩
  obtain ⟨q', k1, k2, k3⟩ := h.ins q h1 (by omega) c
  exact ⟨q', k1, by omega, k3⟩
 by_cases c : q = j
 ·subst c
  rcases hd with hd | hd
  ·omega
  by_cases c2 : p = q - 1
  ·rw [c2]; exact hd
  exact Int.lt_trans (h.srt p (q - 1) h1 (by omega) (by omega) (by omega)) hd
 exact h.srt p q h1 h2 (by omega) c
theorem InsI.cr {l lc : List α} {a i j : Nat} (h : InsI ρ z l lc a i j) (hj : a < j) (hc : ∀ p q, a ≤ p → p < q → q ≤ i → Cr ρ w (l.getD p z) (l.getD q z)) : Cr ρ w (lc.getD (j - 1) z) (lc.getD j z) := by
 have hr := h.rng
 obtain ⟨q', k1, k2, k3⟩ := h.ins (j - 1) (by omega) (by omega) (by omega)
 rw [k3, h.at_]
 exact hc _ _ k1 k2 (Nat.le_refl _)
def MvL (z : α) (l lc : List α) (a k : Nat) : Prop := lc.Perm l ∧ ∀ q, lc.getD q z = l.getD (if a ≤ q ∧ q < k then q + 1 else if q = k then a else q) z
theorem MvL.init {l : List α} {a : Nat} : MvL z l l a a := ⟨.refl _, fun q => by congr 1; (repeat' split) <;> omega⟩
theorem MvL.step {l lc : List α} {a k : Nat} (h : MvL z l lc a k) (ha : a ≤ k) (hk : k + 1 < l.length) : MvL z l (swp z lc k (k + 1)) a (k + 1) := by
 have hn : lc.length = l.length := h.1.length_eq
 refine ⟨(swp_perm z (by omega) (by omega)).trans h.1, fun q => ?_⟩
 rw [swp_get z (by omega) (by omega), h.2, h.2, h.2]
 by_cases c1 : q = k + 1
 ·rw [if_pos c1]; congr 1; (repeat' split) <;> omega
 rw [if_neg c1]
 by_cases c2 : q = k
 ·rw [if_pos c2]; congr 1; (repeat' split) <;> omega
 rw [if_neg c2]; congr 1; (repeat' split) <;> omega
theorem MvL.done {l lc : List α} {a b i k : Nat} (h : MvL z l lc a k) (hs : Srt ρ z l (a + 1) b) (hi : a + 1 ≤ i ∧ i ≤ b) (hk : k + 1 = i) (h1 : i = a + 1 ∨ ρ (l.getD (i - 1) z) < ρ (l.getD a z)) (h2 : i = b ∨ ρ (l.getD a z) < ρ (l.getD i z)) : PostS ρ z l lc a b := by
 have up : ∀ p q, a + 1 ≤ p → p ≤ q → q < b → ρ (l.getD p z) ≤ ρ (l.getD q z) := fun p q k1 k2 k3 => by
  by_cases c : p = q
  ·rw [c]; omega
  have := hs p q k1 (by omega) k3; omega
 refine ⟨h.1, fun q hq => ?_, fun q k1 k2 => ⟨_, ?_, ?_, h.2 q⟩, fun p q k1 k2 k3 => ?_⟩
 ·rw [h.2]; congr 1; (repeat' split) <;> omega
 ·(repeat' split) <;> omega
 ·(repeat' split) <;> omega
 rw [h.2, h.2]
 by_cases c1 : q < k
 ·rw [if_pos (by omega), if_pos (by omega)]; exact hs _ _ (by omega) (by omega) (by omega)
 rw [if_neg (c := a ≤ q ∧ q < k) (by omega)]
 by_cases c2 : q = k
 ·rw [if_pos c2, if_pos (by omega)]
  have := up (p + 1) (i - 1) (by omega) (by omega) (by omega)
  omega
 rw [if_neg c2]
 by_cases c3 : p < k
 ·rw [if_pos (by omega)]; exact hs _ _ (by omega) (by omega) (by omega)
 rw [if_neg (by omega)]
 by_cases c4 : p = k
 ·rw [if_pos c4]
  have := up i q (by omega) (by omega) (by omega)
  omega
 rw [if_neg c4]; exact hs _ _ (by omega) (by omega) (by omega)
def MvR (z : α) (l lc : List α) (m k : Nat) : Prop := lc.Perm l ∧ ∀ q, lc.getD q z = l.getD (if k < q ∧ q ≤ m then q - 1 else if q = k then m else q) z
theorem MvR.init {l : List α} {m : Nat} : MvR z l l m m := ⟨.refl _, fun q => by congr 1; (repeat' split) <;> omega⟩
theorem MvR.step {l lc : List α} {m k : Nat} (h : MvR z l lc m k) (hk : 0 < k) (hm : k ≤ m ∧ m < l.length) : MvR z l (swp z lc k (k - 1)) m (k - 1) := by
 have hn : lc.length = l.length := h.1.length_eq
 refine ⟨(swp_perm z (by omega) (by omega)).trans h.1, fun q => ?_⟩
 rw [swp_get z (by omega) (by omega), h.2, h.2, h.2]
 by_cases c1 : q = k - 1
 ·rw [if_pos c1]; congr 1; (repeat' split) <;> omega
 rw [if_neg c1]
 by_cases c2 : q = k
 ·rw [if_pos c2]; congr 1; (repeat' split) <;> omega
 rw [if_neg c2]; congr 1; (repeat' split) <;> omega
theorem MvR.done {l lc : List α} {a m i : Nat} (h : MvR z l lc m i) (hs : Srt ρ z l a m) (hi : a ≤ i ∧ i ≤ m) (h1 : i = a ∨ ρ (l.getD (i - 1) z) < ρ (l.getD m z)) (h2 : i = m ∨ ρ (l.getD m z) < ρ (l.getD i z)) : PostS ρ z l lc a (m + 1) := by
 have up : ∀ p q, a ≤ p → p ≤ q → q < m → ρ (l.getD p z) ≤ ρ (l.getD q z) := fun p q k1 k2 k3 => by
  by_cases c : p = q
  ·rw [c]; omega
  have := hs p q k1 (by omega) k3; omega
 refine ⟨h.1, fun q hq => ?_, fun q k1 k2 => ⟨_, ?_, ?_, h.2 q⟩, fun p q k1 k2 k3 => ?_⟩
 ·rw [h.2]; congr 1; (repeat' split) <;> omega
 ·(repeat' split) <;> omega
 ·(repeat' split) <;> omega
 rw [h.2, h.2]
 by_cases c1 : q < i
 ·rw [if_neg (by omega), if_neg (by omega), if_neg (by omega), if_neg (by omega)]; exact hs _ _ (by omega) (by omega) (by omega)
 by_cases c2 : q = i
 ·rw [if_neg (by omega), if_neg (by omega), if_neg (c := i < q ∧ q ≤ m) (by omega), if_pos c2]
  have := up p (i - 1) (by omega) (by omega) (by omega)
  omega
 rw [if_pos (c := i < q ∧ q ≤ m) (by omega)]
 by_cases c3 : p < i
 ·rw [if_neg (by omega), if_neg (by omega)]; exact hs _ _ (by omega) (by omega) (by omega)
 by_cases c4 : p = i
 ·rw [if_neg (by omega), if_pos c4]
  have := up i (q - 1) (by omega) (by omega) (by omega)
  omega
 rw [if_pos (by omega)]; exact hs _ _ (by omega) (by omega) (by omega)
def swIdx (a b n q : Nat) : Nat := if a ≤ q ∧ q < a + n then q + (b - a) else if b ≤ q ∧ q < b + n then q - (b - a) else q
def SwR (z : α) (l lc : List α) (a b n : Nat) : Prop := lc.Perm l ∧ ∀ q, lc.getD q z = l.getD (swIdx a b n q) z
theorem SwR.init {l : List α} {a b : Nat} : SwR z l l a b 0 := ⟨.refl _, fun q => by congr 1; unfold swIdx; (repeat' split) <;> omega⟩
theorem SwR.step {l lc : List α} {a b i : Nat} (h : SwR z l lc a b i) (hab : a + i < b) (hb : b + i < l.length) : SwR z l (swp z lc (a + i) (b + i)) a b (i + 1) := by
 have hn : lc.length = l.length := h.1.length_eq
 refine ⟨(swp_perm z (by omega) (by omega)).trans h.1, fun q => ?_⟩
 rw [swp_get z (by omega) (by omega), h.2, h.2, h.2]
 unfold swIdx
 by_cases c1 : q = b + i
 ·rw [if_pos c1]; congr 1; (repeat' split) <;> omega
 rw [if_neg c1]
 by_cases c2 : q = a + i
 ·rw [if_pos c2]; congr 1; (repeat' split) <;> omega
 rw [if_neg c2]; congr 1; (repeat' split) <;> omega
def rotIdx (s m e q : Nat) : Nat := if q < s ∨ e ≤ q then q else if q - s < e - m then q + (m - s) else q - (e - m)
theorem rot_o {s m e q : Nat} (h : q < s ∨ e ≤ q) : rotIdx s m e q = q := by unfold rotIdx; rw [if_pos h]
theorem rot_a {s m e q : Nat} (h : s ≤ q ∧ q < e) (h2 : q - s < e - m) : rotIdx s m e q = q + (m - s) := by unfold rotIdx; rw [if_neg (by omega), if_pos h2]
theorem rot_b {s m e q : Nat} (h : s ≤ q ∧ q < e) (h2 : ¬ q - s < e - m) : rotIdx s m e q = q - (e - m) := by unfold rotIdx; rw [if_neg (by omega), if_neg h2]
def RotR (z : α) (l lc : List α) (s m e : Nat) : Prop := lc.Perm l ∧ ∀ q, lc.getD q z = l.getD (rotIdx s m e q) z
def RotI (z : α) (l lc : List α) (s m e i j : Nat) : Prop := lc.Perm l ∧ (0 < i ∧ 0 < j ∧ s + i ≤ m ∧ m + j ≤ e) ∧ ∀ q, l.getD (rotIdx s m e q) z = lc.getD (rotIdx (m - i) m (m + j) q) z
theorem RotI.init {l : List α} {s m e : Nat} (h : s < m ∧ m < e) : RotI z l l s m e (m - s) (e - m) := ⟨.refl _, by omega, fun q => by congr 1; unfold rotIdx; (repeat' split) <;> omega⟩
theorem RotI.left {l lc l2 : List α} {s m e i j : Nat} (h : RotI z l lc s m e i j) (hij : j < i) (h2 : SwR z lc l2 (m - i) m j) : RotI z l l2 s m e (i - j) j := by
 obtain ⟨hp, hb, hr⟩ := h
 refine ⟨h2.1.trans hp, by omega, fun q => ?_⟩
 rw [hr, h2.2]; congr 1; unfold rotIdx swIdx; (repeat' split) <;> omega
theorem RotI.right {l lc l2 : List α} {s m e i j : Nat} (h : RotI z l lc s m e i j) (hij : i < j) (h2 : SwR z lc l2 (m - i) (m + j - i) i) : RotI z l l2 s m e i (j - i) := by
 obtain ⟨hp, hb, hr⟩ := h
 refine ⟨h2.1.trans hp, by omega, fun q => ?_⟩
 rw [hr, h2.2]; congr 1; unfold rotIdx swIdx; (repeat' split) <;> omega
theorem RotI.done {l lc l2 : List α} {s m e i : Nat} (h : RotI z l lc s m e i i) (h2 : SwR z lc l2 (m - i) m i) : RotR z l l2 s m e := by
 obtain ⟨hp, hb, hr⟩ := h
 refine ⟨h2.1.trans hp, fun q => ?_⟩
 rw [hr, h2.2]; congr 1; unfold rotIdx swIdx; (repeat' split) <;> omega
structure CutM (ρ : α → Int) (z : α) (l : List α) (a m b mid st : Nat) : Prop where
 hm : a < m ∧ m < b ∧ mid = (a + b) / 2
 s1 : Srt ρ z l a m
 s2 : Srt ρ z l m b
 rng : a ≤ st ∧ st ≤ mid ∧ st ≤ m ∧ m ≤ mid + m - st ∧ mid + m - st ≤ b
 lo : st = a ∨ mid + m - st = b ∨ ρ (l.getD (st - 1) z) < ρ (l.getD (mid + m - st) z)
 hi : st = m ∨ mid + m - st = m ∨ ρ (l.getD (mid + m - st - 1) z) < ρ (l.getD st z)
theorem CutM.lower {l l1 : List α} {a m b mid st : Nat} (h : CutM ρ z l a m b mid st) (hr : RotR z l l1 st m (mid + m - st)) : Srt ρ z l1 a st ∧ Srt ρ z l1 st mid := by
 obtain ⟨hm, s1, s2, rng, -, -⟩ := h
 refine ⟨fun p q h1 h2 h3 => ?_, fun p q h1 h2 h3 => ?_⟩ <;> rw [hr.2, hr.2]
 ·rw [rot_o (q := p) (by omega), rot_o (q := q) (by omega)]; exact s1 _ _ h1 h2 (by omega)
 rw [rot_a (q := p) (by omega) (by omega), rot_a (q := q) (by omega) (by omega)]; exact s2 _ _ (by omega) (by omega) (by omega)
theorem CutM.upper {l l1 : List α} {a m b mid st : Nat} (h : CutM ρ z l a m b mid st) (hr : RotR z l l1 st m (mid + m - st)) : Srt ρ z l1 mid (mid + m - st) ∧ Srt ρ z l1 (mid + m - st) b := by
 obtain ⟨hm, s1, s2, rng, -, -⟩ := h
 refine ⟨fun p q h1 h2 h3 => ?_, fun p q h1 h2 h3 => ?_⟩ <;> rw [hr.2, hr.2]
 ·rw [rot_b (q := p) (by omega) (by omega), rot_b (q := q) (by omega) (by omega)]; exact s1 _ _ (by omega) (by omega) (by omega)
 rw [rot_o (q := p) (by omega), rot_o (q := q) (by omega)]; exact s2 _ _ (by omega) h2 h3
theorem CutM.crLo {l l1 : List α} {a m b mid st : Nat} (h : CutM ρ z l a m b mid st) (hr : RotR z l l1 st m (mid + m - st)) (hc : CrO ρ w z l a m b) : CrO ρ w z l1 a st mid := by
 obtain ⟨hm, s1, s2, rng, -, -⟩ := h
 intro p q h1 h2 h3 h4
 rw [hr.2, hr.2, rot_o (q := p) (by omega), rot_a (q := q) (by omega) (by omega)]
 exact hc _ _ (by omega) (by omega) (by omega) (by omega)
theorem CutM.crHi {l l1 : List α} {a m b mid st : Nat} (h : CutM ρ z l a m b mid st) (hr : RotR z l l1 st m (mid + m - st)) (hc : CrO ρ w z l a m b) : CrO ρ w z l1 mid (mid + m - st) b := by
 obtain ⟨hm, s1, s2, rng, -, -⟩ := h
 intro p q h1 h2 h3 h4
 rw [hr.2, hr.2, rot_b (q := p) (by omega) (by omega), rot_o (q := q) (by omega)]
 exact hc _ _ (by omega) (by omega) (by omega) (by omega)
theorem CutM.below {l l1 : List α} {a m b mid st : Nat} (h : CutM ρ z l a m b mid st) (hr : RotR z l l1 st m (mid + m - st)) : ∀ p q, a ≤ p → p < mid → mid ≤ q → q < b → ρ (l1.getD p z) < ρ (l1.getD q z) := by
 obtain ⟨hm, s1, s2, rng, lo, hi⟩ := h
 have u1 : ∀ p q, a ≤ p → p ≤ q → q < m → ρ (l.getD p z) ≤ ρ (l.getD q z) := fun p q k1 k2 k3 => by
  by_cases c : p = q
  ·rw [c]; omega
  have := s1 p q k1 (by omega) k3; omega
 have u2 : ∀ p q, m ≤ p → p ≤ q → q < b → ρ (l.getD p z) ≤ ρ (l.getD q z) := fun p q k1 k2 k3 => by
  by_cases c : p = q
  ·rw [c]; omega
  have := s2 p q k1 (by omega) k3; omega
 intro p q h1 h2 h3 h4
 rw [hr.2, hr.2]
 by_cases c1 : p < st
 ·rw [rot_o (q := p) (by omega)]
  by_cases c2 : mid + m - st ≤ q
  ·rw [rot_o (q := q) (by omega)]
   rcases lo with lo | lo | lo
   ·omega
   ·omega
   have e1 := u1 p (st - 1) h1 (by omega) (by omega)
   have e2 := u2 (mid + m - st) q (by omega) c2 h4
   omega
  rw [rot_b (q := q) (by omega) (by omega)]
  exact s1 _ _ h1 (by omega) (by omega)
 rw [rot_a (q := p) (by omega) (by omega)]
 by_cases c2 : mid + m - st ≤ q
 ·rw [rot_o (q := q) (by omega)]
  exact s2 _ _ (by omega) (by omega) h4
 rw [rot_b (q := q) (by omega) (by omega)]
 rcases hi with hi | hi | hi
 ·omega
 ·omega
 have e1 := u2 (p + (m - st)) (mid + m - st - 1) (by omega) (by omega) (by omega)
 have e2 := u1 st (q - (mid + m - st - m)) (by omega) (by omega) (by omega)
 omega
theorem CutM.done {l l1 l2 l3 : List α} {a m b mid st : Nat} (h : CutM ρ z l a m b mid st) (hr : RotR z l l1 st m (mid + m - st)) (h2 : PostS ρ z l1 l2 a mid) (h3 : PostS ρ z l2 l3 mid b) : PostS ρ z l l3 a b := by
 have hb := h.below hr
 obtain ⟨hm, s1, s2, rng, lo, hi⟩ := h
 have hidx : ∀ q, a ≤ q → q < b → a ≤ rotIdx st m (mid + m - st) q ∧ rotIdx st m (mid + m - st) q < b := fun q k1 k2 => by unfold rotIdx; (repeat' split) <;> omega
 have hlo : ∀ q, a ≤ q → q < mid → ∃ q', a ≤ q' ∧ q' < mid ∧ l3.getD q z = l1.getD q' z := fun q k1 k2 => by
  obtain ⟨q', e1, e2, e3⟩ := h2.ins q k1 k2
  exact ⟨q', e1, e2, (h3.out q (by omega)).trans e3⟩
 have hhi : ∀ q, mid ≤ q → q < b → ∃ q', mid ≤ q' ∧ q' < b ∧ l3.getD q z = l1.getD q' z := fun q k1 k2 => by
  obtain ⟨q', e1, e2, e3⟩ := h3.ins q k1 k2
  exact ⟨q', e1, e2, e3.trans (h2.out q' (by omega))⟩
 refine ⟨h3.perm.trans (h2.perm.trans hr.1), fun q hq => ?_, fun q k1 k2 => ?_, fun p q k1 k2 k3 => ?_⟩
 ·rw [h3.out q (by omega), h2.out q (by omega), hr.2]; congr 1; unfold rotIdx; (repeat' split) <;> omega
 ·by_cases c : q < mid
  ·obtain ⟨q', e1, e2, e3⟩ := hlo q k1 c
   have := hidx q' e1 (by omega)
   exact ⟨_, this.1, this.2, e3.trans (hr.2 q')⟩
  obtain ⟨q', e1, e2, e3⟩ := hhi q (by omega) k2
  have := hidx q' (by omega) e2
  exact ⟨_, this.1, this.2, e3.trans (hr.2 q')⟩
 by_cases c : q < mid
 ·rw [h3.out p (by omega), h3.out q (by omega)]; exact h2.srt p q k1 k2 c
 by_cases c2 : p < mid
 ·obtain ⟨p', e1, e2, e3⟩ := hlo p k1 c2
  obtain ⟨q', f1, f2, f3⟩ := hhi q (by omega) k3
  rw [e3, f3]; exact hb p' q' e1 e2 f1 f2
 exact h3.srt p q (by omega) k2 k3
theorem CutM.lowOne {l l1 : List α} {a m b mid st : Nat} (h : CutM ρ z l a m b mid st) (hr : RotR z l l1 st m (mid + m - st)) (hs : st = a ∨ st = mid) : PostS ρ z l1 l1 a mid := by
 have hl := h.lower hr
 rcases hs with hs | hs
 ·rw [hs] at hl; exact PostS.refl hl.2
 rw [hs] at hl; exact PostS.refl hl.1
theorem CutM.upL2 {l l1 l2 : List α} {a m b mid st : Nat} (h : CutM ρ z l a m b mid st) (hr : RotR z l l1 st m (mid + m - st)) (h2 : PostS ρ z l1 l2 a mid) : Srt ρ z l2 mid (mid + m - st) ∧ Srt ρ z l2 (mid + m - st) b := by
 have hl := h.upper hr
 have hg := h.rng
 refine ⟨fun p q k1 k2 k3 => ?_, fun p q k1 k2 k3 => ?_⟩ <;> rw [h2.out p (by omega), h2.out q (by omega)]
 ·exact hl.1 p q k1 k2 k3
 exact hl.2 p q k1 k2 k3
theorem CutM.crHi2 {l l1 l2 : List α} {a m b mid st : Nat} (h : CutM ρ z l a m b mid st) (hr : RotR z l l1 st m (mid + m - st)) (hc : CrO ρ w z l a m b) (h2 : PostS ρ z l1 l2 a mid) : CrO ρ w z l2 mid (mid + m - st) b := by
 have hl := h.crHi hr hc
 have hg := h.rng
 intro p q k1 k2 k3 k4
 rw [h2.out p (by omega), h2.out q (by omega)]
 exact hl p q k1 k2 k3 k4
theorem CutM.upOne {l l1 l2 : List α} {a m b mid st : Nat} (h : CutM ρ z l a m b mid st) (hr : RotR z l l1 st m (mid + m - st)) (h2 : PostS ρ z l1 l2 a mid) (hs : mid + m - st = mid ∨ mid + m - st = b) : PostS ρ z l2 l2 mid b := by
 have hl := h.upL2 hr h2
 rcases hs with hs | hs
 ·rw [hs] at hl; exact PostS.refl hl.2
 rw [hs] at hl; exact PostS.refl hl.1
structure BlkS (ρ : α → Int) (z : α) (l0 l : List α) (s t a n : Nat) : Prop where
 len : l0.length = n
 perm : l.Perm l0
 lo : ∀ p q, p < q → q < n → q < a → p / t = q / t → ρ (l.getD p z) < ρ (l.getD q z)
 hi : ∀ p q, p < q → q < n → a ≤ p → p / s = q / s → ρ (l.getD p z) < ρ (l.getD q z)
 ilo : ∀ q, q < n → q < a → ∃ q', q' < n ∧ q' / t = q / t ∧ l.getD q z = l0.getD q' z
 ihi : ∀ q, q < n → a ≤ q → ∃ q', q' < n ∧ q' / s = q / s ∧ l.getD q z = l0.getD q' z
def Sizes (s t : Nat) : Prop := (s = 1 ∧ t = 20) ∨ (s = 20 ∧ t = 40) ∨ (s = 40 ∧ t = 80) ∨ (s = 80 ∧ t = 160) ∨ (s = 160 ∧ t = 320)
theorem BlkS.init {l : List α} {n : Nat} (h : l.length = n) : BlkS ρ z l l 1 20 0 n :=
 ⟨h, .refl _, fun p q _ _ h3 _ => by omega, fun p q h1 _ _ h4 => by omega, fun q _ h => by omega, fun q h1 h2 => ⟨q, h1, rfl, rfl⟩⟩
theorem BlkS.put {l0 l lc : List α} {s t a b n : Nat} (hst : Sizes s t) (h : BlkS ρ z l0 l s t a n) (ha : a % t = 0) (hb : a ≤ b ∧ b ≤ n ∧ (b = a + t ∨ (b = n ∧ n ≤ a + t))) (hp : PostS ρ z l lc a b) : BlkS ρ z l0 lc s t b n := by
 refine ⟨h.len, hp.perm.trans h.perm, fun p q h1 h2 h3 h4 => ?_, fun p q h1 h2 h3 h4 => ?_, fun q h1 h2 => ?_, fun q h1 h2 => ?_⟩
 ·by_cases c : q < a
  ·rw [hp.out p (by omega), hp.out q (by omega)]; exact h.lo p q h1 h2 c h4
  refine hp.srt p q ?_ h1 h3
  rcases hst with ⟨rfl, rfl⟩ | ⟨rfl, rfl⟩ | ⟨rfl, rfl⟩ | ⟨rfl, rfl⟩ | ⟨rfl, rfl⟩ <;> omega
 ·rw [hp.out p (by omega), hp.out q (by omega)]; exact h.hi p q h1 h2 (by omega) h4
 ·by_cases c : q < a
  ·rw [hp.out q (by omega)]; exact h.ilo q h1 c
  obtain ⟨q', e1, e2, e3⟩ := hp.ins q (by omega) h2
  obtain ⟨q2, f1, f2, f3⟩ := h.ihi q' (by omega) e1
  refine ⟨q2, f1, ?_, e3.trans f3⟩
  rcases hst with ⟨rfl, rfl⟩ | ⟨rfl, rfl⟩ | ⟨rfl, rfl⟩ | ⟨rfl, rfl⟩ | ⟨rfl, rfl⟩ <;> omega
 rw [hp.out q (by omega)]; exact h.ihi q h1 (by omega)
theorem BlkS.cr {l0 l : List α} {s t a n : Nat} (hst : Sizes s t) (h : BlkS ρ z l0 l s t a n) (hc : ∀ p q, p < q → q < n → Cr ρ w (l0.getD p z) (l0.getD q z)) {p q : Nat} (h1 : a ≤ p) (h2 : p < q) (h3 : q < n) (h4 : ¬ p / s = q / s) : Cr ρ w (l.getD p z) (l.getD q z) := by
 obtain ⟨p', e1, e2, e3⟩ := h.ihi p (by omega) h1
 obtain ⟨q', f1, f2, f3⟩ := h.ihi q h3 (by omega)
 rw [e3, f3]
 refine hc _ _ ?_ f1
 rcases hst with ⟨rfl, rfl⟩ | ⟨rfl, rfl⟩ | ⟨rfl, rfl⟩ | ⟨rfl, rfl⟩ | ⟨rfl, rfl⟩ <;> omega
theorem BlkS.crO {l0 l : List α} {s t a m b n : Nat} (hst : Sizes s t) (h : BlkS ρ z l0 l s t a n) (hc : ∀ p q, p < q → q < n → Cr ρ w (l0.getD p z) (l0.getD q z)) (ha : a % t = 0) (hm : m = a + s) (hb : b ≤ n) (hs : t = 2 * s) : CrO ρ w z l a m b := by
 intro p q h1 h2 h3 h4
 refine h.cr hst hc h1 (by omega) (by omega) ?_
 rcases hst with ⟨rfl, rfl⟩ | ⟨rfl, rfl⟩ | ⟨rfl, rfl⟩ | ⟨rfl, rfl⟩ | ⟨rfl, rfl⟩ <;> omega
theorem BlkS.crA {l0 l : List α} {t a n : Nat} (hst : Sizes 1 t) (h : BlkS ρ z l0 l 1 t a n) (hc : ∀ p q, p < q → q < n → Cr ρ w (l0.getD p z) (l0.getD q z)) : ∀ p q, a ≤ p → p < q → q < n → Cr ρ w (l.getD p z) (l.getD q z) :=
 fun _ _ h1 h2 h3 => h.cr hst hc h1 h2 h3 (by omega)
theorem BlkS.srt1 {l0 l : List α} {s t a n : Nat} (hst : Sizes s t) (h : BlkS ρ z l0 l s t a n) (ha : a % t = 0) (hs : t = 2 * s) : (∀ m, m ≤ a + s → m ≤ n → Srt ρ z l a m) ∧ ∀ b, b ≤ a + t → b ≤ n → Srt ρ z l (a + s) b := by
 refine ⟨fun m h1 h2 p q k1 k2 k3 => h.hi p q k2 (by omega) k1 ?_, fun b h1 h2 p q k1 k2 k3 => h.hi p q k2 (by omega) (by omega) ?_⟩ <;>
 rcases hst with ⟨rfl, rfl⟩ | ⟨rfl, rfl⟩ | ⟨rfl, rfl⟩ | ⟨rfl, rfl⟩ | ⟨rfl, rfl⟩ <;> omega
theorem BlkS.turn {l0 l : List α} {s t n : Nat} (h : BlkS ρ z l0 l s t n n) (t2 : Nat) : BlkS ρ z l0 l t t2 0 n :=
 ⟨h.len, h.perm, fun _ _ _ _ h3 _ => by omega, fun p q h1 h2 _ h4 => h.lo p q h1 h2 h2 h4, fun q _ h => by omega, fun q h1 _ => h.ilo q h1 h1⟩
theorem BlkS.done {l0 l : List α} {s t n : Nat} (h : BlkS ρ z l0 l s t 0 n) (hn : n ≤ s) : l.Perm l0 ∧ Srt ρ z l 0 n :=
 ⟨h.perm, fun p q h1 h2 h3 => h.hi p q h2 h3 h1 (by rw [Nat.div_eq_of_lt (by omega), Nat.div_eq_of_lt (by omega)])⟩
end
end Go.Proofs.YtifnmbmijljhfaaGreat.E.Hf
namespace Go.Proofs.YtifnmbmijljhfaaGreat.E.Hf
open Go
structure Th where
 w : Int
 f : Nat → Nat
 r : Int
def thC (t : Th) : List Value := .int .i64 t.w :: (List.range 256).map fun i => .int .u8 ((t.f i : Nat) : Int)
def th0 : Th := ⟨0, fun _ => 0, 0⟩
@[simp] theorem thC_len (t : Th) : (thC t).length = 257 := by simp [thC]
theorem thC_one (t : Th) : oneCells (thC t) := by
 intro v hv
 unfold thC at hv
 rcases List.mem_cons.1 hv with rfl | hv
 ·rfl
 obtain ⟨i, _, rfl⟩ := List.mem_map.1 hv; rfl
instance : Enc thC 257 := ⟨thC_len, by omega, thC_one⟩
theorem zcTh : zcOf Tryz.t169 = thC th0 := by kernel_rfl
@[simp] theorem zcTh_len : (zcOf Tryz.t169).length = 257 := by rw [zcTh]; exact thC_len _
theorem _root_.Go.Proofs.YtifnmbmijljhfaaGreat.E.Cells.all {w : World} {b o : Nat} {cs : List Value} (h : Cells w b o cs) : Row w (some ⟨b, o, none⟩) cs := h
theorem fill_big {cs zs : List Value} {n : Nat} (hz : zs.length = n) (hc : cs.length = n) : fillC zs [(0, n, .agg cs.toArray)] = some cs := by
 have hs : (Value.agg cs.toArray).cells.size = n := by simpa [Value.cells] using hc
 have hs2 : (Value.agg cs.toArray).cells.toList = cs := by simp [Value.cells]
 unfold fillC
 rw [if_pos ⟨hs, by omega⟩, hs2]
 unfold fillC
 rw [List.take_zero, List.nil_append, List.drop_eq_nil_of_le (by omega), List.append_nil]
def cmpW (x y : Th) : Int := if x.w < y.w then -1 else if y.w < x.w then 1 else 0
theorem cmpW_neg {x y : Th} : cmpW x y < 0 ↔ x.w < y.w := by
 unfold cmpW
 split
 ·rename_i h; exact ⟨fun _ => h, fun _ => by omega⟩
 rename_i h; split <;> exact ⟨fun k => by omega, fun k => absurd k h⟩
theorem rot_refl {α : Type} {z : α} {l : List α} {s m e : Nat} (h : s = m ∨ m = e) : RotR z l l s m e := ⟨.refl _, fun q => by congr 1; unfold rotIdx; (repeat' split) <;> omega⟩
theorem PostS.upto {α : Type} {ρ : α → Int} {z : α} {l lc : List α} {a b i : Nat} (h : PostS ρ z l lc a i) (hb : b ≤ i) (hi : i ≤ b ∨ lc = l) : PostS ρ z l lc a b := by
 rcases hi with hi | hi
 ·rw [show b = i by omega]; exact h
 subst hi; exact PostS.refl fun p q h1 h2 h3 => h.srt p q h1 h2 (by omega)
theorem CutM.mk' {ρ : Th → Int} {l : List Th} {a m b mid s0 q0 st r : Nat} (hm : a < m ∧ m < b ∧ mid = (a + b) / 2) (s1 : Srt ρ th0 l a m) (s2 : Srt ρ th0 l m b) (h0 : (s0 = a ∧ q0 = m ∧ m ≤ mid) ∨ (s0 = mid + m - b ∧ q0 = mid ∧ mid < m)) (hr : s0 ≤ st ∧ st ≤ r ∧ r ≤ q0) (he : ¬ st < r)
 (lo : st = s0 ∨ ρ (l.getD (st - 1) th0) < ρ (l.getD (mid + m - st) th0)) (hi : r = q0 ∨ ρ (l.getD (mid + m - 1 - r) th0) < ρ (l.getD r th0)) : CutM ρ th0 l a m b mid st := by
 obtain rfl : st = r := by omega
 refine ⟨hm, s1, s2, by omega, ?_, ?_⟩
 ·rcases lo with lo | lo
  ·rcases h0 with h | h
   ·exact .inl (by omega)
   exact .inr (.inl (by omega))
  exact .inr (.inr lo)
 rcases hi with hi | hi
 ·rcases h0 with h | h
  ·exact .inl (by omega)
  exact .inr (.inl (by omega))
 exact .inr (.inr (by rw [show mid + m - st - 1 = mid + m - 1 - st by omega]; exact hi))
theorem cmpW_ok (x y : Th) (w : World) : Calls Tryz.prog 129 [.agg (thC x).toArray, .agg (thC y).toArray].toArray w (Rt fun r w' => r = .int .i64 (cmpW x y) ∧ Upd [] w w') := by
 have hM0 : Mem w [] w [] := Mem.nil w []
 refine calls_vc mixed Tryz.func129 rfl C129 (by simp [Tryz.ntmps129]) <| seq fun _ h1 => m_bx (v := .agg ((thC x).toArray)) hM0 rfl rfl fun b2 w3 (hM3 : Mem _ _ w3 [[⟨b2, 169, (thC x)⟩]]) => m_bx (v := .agg ((thC y).toArray)) hM3 rfl rfl fun b4 w5 (hM5 : Mem _ _ w5 [_, [⟨b4, 169, (thC y)⟩]]) => mv <| h1 _ _ <| seq fun _ h6 => seq fun _ h7 => fa rfl <| m_ld (v := .int .i64 x.w) hM5 (i := 0) (j := 0) rfl rfl rfl rfl <| fa rfl <| m_ld (v := .int .i64 y.w) hM5 (i := 1) (j := 0) rfl rfl rfl rfl <| bn rfl rfl <| mv ?_
 refine h7 _ _ <| cndP rfl (fun c8 => ?_) (fun c8 => ?_)
 ·refine seq fun _ h9 => mv <| h9 _ _ <| ⟨(.int .i64 (-1)), rfl, ⟨by unfold cmpW; rw [if_pos (by assumption)], hM5.upd⟩⟩
 refine seq fun _ h10 => fa rfl <| m_ld (v := .int .i64 x.w) hM5 (i := 0) (j := 0) rfl rfl rfl rfl <| fa rfl <| m_ld (v := .int .i64 y.w) hM5 (i := 1) (j := 0) rfl rfl rfl rfl <| bn rfl rfl <| mv <| h10 _ _ <| cndP rfl (fun c11 => ?_) (fun c11 => ?_)
 ·refine seq fun _ h12 => mv <| h12 _ _ <| ⟨(.int .i64 1), rfl, ⟨by unfold cmpW; rw [if_neg (by assumption), if_pos (by assumption)], hM5.upd⟩⟩
 refine h6 _ _ <| seq fun _ h13 => mv <| h13 _ _ <| ⟨(.int .i64 0), rfl, ⟨by unfold cmpW; rw [if_neg (by assumption), if_neg (by assumption)], hM5.upd⟩⟩
theorem swap_ok (x : Value) (l : List Th) (r0 : List Ent) (w : World) (hs0 : SlS thC 257 169 x l r0) (hr : Res w r0) (hl : l.length ≤ 1000000) (a b n : Nat) (hb : a + n ≤ b ∧ b + n ≤ l.length) : Calls Tryz.prog 137 [x, .int .i64 (a : Nat), .int .i64 (b : Nat), .int .i64 (n : Nat), .func (.func 129) ([] : List Value).toArray ([] : List Value).toArray].toArray w (Rt fun _ w' => ∃ l' r', SwR th0 l l' a b n ∧ SlS thC 257 169 x l' r' ∧ Mem w (ids r0) w' [r']) := by
 have hM0 : Mem w (ids r0) w [r0] := Mem.start hr
 refine calls_vc mixed Tryz.func137 rfl C137 (by simp [Tryz.ntmps137]) <| seq fun _ h1 => mv <| h1 _ _ <| lp (n := fun _ _ => False) (ι := (Nat) × (List Th) × (List Ent)) (fun ⟨i, lc, r0_⟩ f w' => f 0 = x ∧ f 10 = .int .i64 (i : Nat) ∧ f 1 = .int .i64 (a : Nat) ∧ f 2 = .int .i64 (b : Nat) ∧ f 3 = .int .i64 (n : Nat) ∧ Mem w (ids r0) w' [r0_] ∧ (i ≤ n) ∧ (SwR th0 l lc a b i) ∧ (lc.length = l.length) ∧ (SlS thC 257 169 x (lc) r0_)) (fun ⟨i, lc, r0_⟩ => n - i) (0, l, r0) ?_ ?_
 ·exact ⟨rfl, vi, vi, vi, vi, hM0, by omega, SwR.init, rfl, by first | exact hs0 | simpa using hs0⟩
 rintro ⟨i, lc, r0_⟩ f w2 ⟨e2_0, e2_10, e2_1, e2_2, e2_3, hM2, hi, hS, hn, hy0_⟩ K3 h3
 obtain ⟨frm, rfl⟩ := re5 e2_0 e2_10 e2_1 e2_2 e2_3
 refine seq fun _ h4 => seq fun _ h5 => mv <| mv <| bn rfl rfl <| h5 _ _ <| cndP rfl (fun c6 => ?_) (fun c6 => ?_)
 ·refine h4 _ _ <| seq fun _ h7 => ?_
  intro wd e1 e2 e3 e4
  have hd := Upd.same e1 e2 e3 e4 []
  have hM8 := hM2.pure hd
  clear e1 e2 e3 e4
  refine ⟨(some []), ?_⟩
  show vd _ _ _ _ _ _ _
  refine dmv <| dmv <| dmv <| dq (v := .int .i64 ((a : Nat) + (i : Nat))) (o_bin rfl rfl (v_add64 (by omega))) <| dmv <| dmv <| dmv <| dq (v := .int .i64 ((b : Nat) + (i : Nat))) (o_bin rfl rfl (v_add64 (by omega))) <| dmv <| dmv <| dmv <| dq (v := .int .i64 ((b : Nat) + (i : Nat))) (o_bin rfl rfl (v_add64 (by omega))) <| dqp (m_idxS th0 (j := ((b) + (i))) (hy0_.rd hM8 (i := 0) rfl) rfl (v_int (by omega)) (by omega) fun b9 o9 hp9 => ?_)
  show vd _ _ _ _ _ _ _
  refine dmv <| dmv <| dmv <| dq (v := .int .i64 ((a : Nat) + (i : Nat))) (o_bin rfl rfl (v_add64 (by omega))) <| dqp (m_idxS th0 (j := ((a) + (i))) (hy0_.rd hM8 (i := 0) rfl) rfl (v_int (by omega)) (by omega) fun b10 o10 hp10 => ?_)
  show vd _ _ _ _ _ _ _
  show _ ∧ _
  refine ⟨?_, ?_⟩
  ·show vd _ _ _ _ _ _ _
   refine dl (ldA (cs := thC (lc.getD ((b) + (i)) th0)) rfl (thC_len _) (hp9.all) <| ⟨(fun b hb => by cases hb), dl (ldA (cs := thC (lc.getD ((a) + (i)) th0)) rfl (thC_len _) (hp10.all) <| ⟨(fun b hb => by cases hb), dset (m_setS (enc := thC) th0 (q := lc.getD ((b) + (i)) th0) (j := (a + i)) hM8 (i := 0) rfl hy0_ rfl (v_int (by omega)) (by omega) (by simp) (rfl) fun w11 r11 u11 he11 hs11 (hM11 : Mem w (ids r0) w11 [r11]) => ⟨(fun b hb => by cases hb), ?_⟩)⟩)⟩)
   show vd _ _ _ _ _ _ _
   refine dset (m_setS (enc := thC) th0 (q := lc.getD ((a) + (i)) th0) (j := (b + i)) hM11 (i := 0) rfl hs11 rfl (v_int (by omega)) (by rw [List.length_set]; omega) (by simp) (rfl) fun w12 r12 u12 he12 hs12 (hM12 : Mem _ _ w12 [r12]) => ⟨(fun b hb => by cases hb), ?_⟩)
   show vd _ _ _ _ _ _ _
   refine h7 _ _ <| mv <| stp (v := .int .i64 ((i : Nat) + 1)) (o_bin rfl rfl (v_add64 (by omega))) <| mv <| h3 (i + 1, swp th0 lc (a + i) (b + i), r12) _ _ ⟨rfl, vi, vi, vi, vi, hM12, by omega, hS.step (by omega) (by omega), by rw [swp_len]; exact hn, by first | exact hs12 | simpa using hs12⟩ (by (try dsimp only); omega)
  show vd _ _ _ _ _ _ _
  refine dl (ldA (cs := thC (lc.getD ((a) + (i)) th0)) rfl (thC_len _) (hp10.all) <| ⟨(fun b hb => by cases hb), dl (ldA (cs := thC (lc.getD ((b) + (i)) th0)) rfl (thC_len _) (hp9.all) <| ⟨(fun b hb => by cases hb), dset (m_setS (enc := thC) th0 (q := lc.getD ((b) + (i)) th0) (j := (a + i)) hM8 (i := 0) rfl hy0_ rfl (v_int (by omega)) (by omega) (by simp) (rfl) fun w13 r13 u13 he13 hs13 (hM13 : Mem w (ids r0) w13 [r13]) => ⟨(fun b hb => by cases hb), ?_⟩)⟩)⟩)
  show vd _ _ _ _ _ _ _
  refine dset (m_setS (enc := thC) th0 (q := lc.getD ((a) + (i)) th0) (j := (b + i)) hM13 (i := 0) rfl hs13 rfl (v_int (by omega)) (by rw [List.length_set]; omega) (by simp) (rfl) fun w14 r14 u14 he14 hs14 (hM14 : Mem _ _ w14 [r14]) => ⟨(fun b hb => by cases hb), ?_⟩)
  show vd _ _ _ _ _ _ _
  refine h7 _ _ <| mv <| stp (v := .int .i64 ((i : Nat) + 1)) (o_bin rfl rfl (v_add64 (by omega))) <| mv <| h3 (i + 1, swp th0 lc (a + i) (b + i), r14) _ _ ⟨rfl, vi, vi, vi, vi, hM14, by omega, hS.step (by omega) (by omega), by rw [swp_len]; exact hn, by first | exact hs14 | simpa using hs14⟩ (by (try dsimp only); omega)
 refine ⟨(.tuple [].toArray), rfl, ?_⟩
 obtain rfl : i = n := by omega
 exact ⟨_, _, hS, hy0_, hM2⟩
theorem rotate_ok (x : Value) (l : List Th) (r0 : List Ent) (w : World) (hs0 : SlS thC 257 169 x l r0) (hr : Res w r0) (hl : l.length ≤ 1000000) (s m e : Nat) (hb : s < m ∧ m < e ∧ e ≤ l.length) : Calls Tryz.prog 136 [x, .int .i64 (s : Nat), .int .i64 (m : Nat), .int .i64 (e : Nat), .func (.func 129) ([] : List Value).toArray ([] : List Value).toArray].toArray w (Rt fun _ w' => ∃ l' r', RotR th0 l l' s m e ∧ SlS thC 257 169 x l' r' ∧ Mem w (ids r0) w' [r']) := by
 have hM0 : Mem w (ids r0) w [r0] := Mem.start hr
 refine calls_vc mixed Tryz.func136 rfl C136 (by simp [Tryz.ntmps136]) <| seq fun _ h1 => mv <| mv <| stp (v := .int .i64 ((m : Nat) - (s : Nat))) (o_bin rfl rfl (v_sub64 (by omega))) <| mv <| h1 _ _ <| seq fun _ h2 => mv <| mv <| stp (v := .int .i64 ((e : Nat) - (m : Nat))) (o_bin rfl rfl (v_sub64 (by omega))) <| mv <| h2 _ _ <| seq fun _ h3 => ?_
 refine lp (n := fun _ _ => False) (ι := (Nat) × (Nat) × (List Th) × (List Ent)) (fun ⟨i, j, lc, r0_⟩ f w' => f 0 = x ∧ f 10 = .int .i64 (i : Nat) ∧ f 11 = .int .i64 (j : Nat) ∧ f 2 = .int .i64 (m : Nat) ∧ f 4 = .func (.func 129) [].toArray [].toArray ∧ Mem w (ids r0) w' [r0_] ∧ (RotI th0 l lc s m e i j) ∧ (lc.length = l.length) ∧ (0 < i ∧ 0 < j ∧ s + i ≤ m ∧ m + j ≤ e) ∧ (SlS thC 257 169 x (lc) r0_)) (fun ⟨i, j, lc, r0_⟩ => i + j) (m - s, e - m, l, r0) ?_ ?_
 ·exact ⟨rfl, vi, vi, vi, rfl, hM0, RotI.init (by omega), rfl, by omega, by first | exact hs0 | simpa using hs0⟩
 rintro ⟨i, j, lc, r0_⟩ f w4 ⟨e4_0, e4_10, e4_11, e4_2, e4_4, hM4, hI, hn, hij, hy0_⟩ K5 h5
 obtain ⟨frm, rfl⟩ := re5 e4_0 e4_10 e4_11 e4_2 e4_4
 refine seq fun _ h6 => seq fun _ h7 => mv <| mv <| bneq rfl rfl <| h7 _ _ <| cndP rfl (fun c8 => ?_) (fun c8 => ?_)
 ·refine h6 _ _ <| seq fun _ h9 => mv <| mv <| bn rfl rfl <| h9 _ _ <| cndP rfl (fun c10 => ?_) (fun c10 => ?_)
  ·refine seq fun _ h11 => mv <| mv <| mv <| stp (v := .int .i64 (m - i : Nat)) (o_bin rfl rfl ((v_sub64 (by omega)).trans (v_int (by omega)))) <| mv <| mv <| mv <| m_call (swap_ok _ lc r0_ w4 hy0_ (hM4.res (i := 0) rfl) (by omega) (m - i) m j (by omega)) rfl fun v12 w12 ⟨l12_, r'12, hP31, hs12, hm12⟩ => ?_
   have hM12 : Mem w (ids r0) w12 [r'12] := hM4.step 0 rfl hm12
   have hn12_ : l12_.length = lc.length := hP31.1.length_eq
   refine h11 _ _ <| mv <| mv <| stp (v := .int .i64 (i - j : Nat)) (o_bin rfl rfl ((v_sub64 (by omega)).trans (v_int (by omega)))) <| mv <| h5 (i - j, j, l12_, r'12) _ _ ⟨rfl, vi, vi, vi, rfl, hM12, hI.left (by omega) hP31, by omega, by omega, by first | exact hs12 | simpa using hs12⟩ (by (try dsimp only); omega)
  refine seq fun _ h13 => mv <| mv <| mv <| stp (v := .int .i64 (m - i : Nat)) (o_bin rfl rfl ((v_sub64 (by omega)).trans (v_int (by omega)))) <| mv <| mv <| stp (v := .int .i64 ((m : Nat) + (j : Nat))) (o_bin rfl rfl (v_add64 (by omega))) <| mv <| stp (v := .int .i64 (m + j - i : Nat)) (o_bin rfl rfl ((v_sub64 (by omega)).trans (v_int (by omega)))) <| mv <| mv <| m_call (swap_ok _ lc r0_ w4 hy0_ (hM4.res (i := 0) rfl) (by omega) (m - i) (m + j - i) i (by omega)) rfl fun v14 w14 ⟨l14_, r'14, hP46, hs14, hm14⟩ => ?_
  have hM14 : Mem w (ids r0) w14 [r'14] := hM4.step 0 rfl hm14
  have hn14_ : l14_.length = lc.length := hP46.1.length_eq
  refine h13 _ _ <| mv <| mv <| stp (v := .int .i64 (j - i : Nat)) (o_bin rfl rfl ((v_sub64 (by omega)).trans (v_int (by omega)))) <| mv <| h5 (i, j - i, l14_, r'14) _ _ ⟨rfl, vi, vi, vi, rfl, hM14, hI.right (by omega) hP46, by omega, by omega, by first | exact hs14 | simpa using hs14⟩ (by (try dsimp only); omega)
 refine h3 _ _ <| mv <| mv <| mv <| stp (v := .int .i64 (m - i : Nat)) (o_bin rfl rfl ((v_sub64 (by omega)).trans (v_int (by omega)))) <| mv <| mv <| mv <| m_call (swap_ok _ lc r0_ w4 hy0_ (hM4.res (i := 0) rfl) (by omega) (m - i) m i (by omega)) rfl fun v15 w15 ⟨l15_, r'15, hP57, hs15, hm15⟩ => ?_
 have hM15 : Mem w (ids r0) w15 [r'15] := hM4.step 0 rfl hm15
 have hn15_ : l15_.length = lc.length := hP57.1.length_eq
 refine ⟨(.tuple [].toArray), rfl, ?_⟩
 obtain rfl : i = j := by omega
 exact ⟨_, _, hI.done hP57, hs15, hM15⟩
theorem insert_ok (x : Value) (l : List Th) (r0 : List Ent) (w : World) (hs0 : SlS thC 257 169 x l r0) (hr : Res w r0) (hl : l.length ≤ 1000000) (a b : Nat) (hb : a ≤ l.length ∧ b ≤ l.length) (hc : ∀ p q, a ≤ p → p < q → q < b → Cr Th.r Th.w (l.getD p th0) (l.getD q th0)) : Calls Tryz.prog 134 [x, .int .i64 (a : Nat), .int .i64 (b : Nat), .func (.func 129) ([] : List Value).toArray ([] : List Value).toArray].toArray w (Rt fun _ w' => ∃ l' r', PostS Th.r th0 l l' a b ∧ SlS thC 257 169 x l' r' ∧ Mem w (ids r0) w' [r']) := by
 have hM0 : Mem w (ids r0) w [r0] := Mem.start hr
 refine calls_vc mixed Tryz.func134 rfl C134 (by simp [Tryz.ntmps134]) <| seq fun _ h1 => mv <| stp (v := .int .i64 ((a : Nat) + 1)) (o_bin rfl rfl (v_add64 (by omega))) <| mv <| h1 _ _ <| lp (n := fun _ _ => False) (ι := (Nat) × (List Th) × (List Ent)) (fun ⟨i, lc, r0_⟩ f w' => f 0 = x ∧ f 8 = .int .i64 (i : Nat) ∧ f 1 = .int .i64 (a : Nat) ∧ f 2 = .int .i64 (b : Nat) ∧ f 3 = .func (.func 129) [].toArray [].toArray ∧ Mem w (ids r0) w' [r0_] ∧ (PostS Th.r th0 l lc a i) ∧ (lc.length = l.length) ∧ (a + 1 ≤ i) ∧ (i ≤ b ∨ lc = l) ∧ (SlS thC 257 169 x (lc) r0_)) (fun ⟨i, lc, r0_⟩ => b - i) (a + 1, l, r0) ?_ ?_
 ·exact ⟨rfl, vi, vi, vi, rfl, hM0, PostS.refl fun p q h1 h2 h3 => by omega, rfl, by omega, .inr rfl, by first | exact hs0 | simpa using hs0⟩
 rintro ⟨i, lc, r0_⟩ f w2 ⟨e2_0, e2_8, e2_1, e2_2, e2_3, hM2, hP, hn, hia, hib, hy0_⟩ K3 h3
 obtain ⟨frm, rfl⟩ := re5 e2_0 e2_8 e2_1 e2_2 e2_3
 refine seq fun _ h4 => seq fun _ h5 => mv <| mv <| bn rfl rfl <| h5 _ _ <| cndP rfl (fun c6 => ?_) (fun c6 => ?_)
 ·refine h4 _ _ <| seq fun _ h7 => seq fun _ h8 => mv <| mv <| h8 _ _ <| lp (n := fun _ _ => False) (ι := (Nat) × (List Th) × (List Ent)) (fun ⟨j, l2, r0_⟩ f w' => f 0 = x ∧ f 9 = .int .i64 (j : Nat) ∧ f 1 = .int .i64 (a : Nat) ∧ f 2 = .int .i64 (b : Nat) ∧ f 3 = .func (.func 129) [].toArray [].toArray ∧ f 8 = .int .i64 (i : Nat) ∧ Mem w (ids r0) w' [r0_] ∧ (InsI Th.r th0 l l2 a i j) ∧ (l2.length = l.length) ∧ (a ≤ j ∧ j ≤ i) ∧ (SlS thC 257 169 x (l2) r0_)) (fun ⟨j, l2, r0_⟩ => j) (i, lc, r0_) ?_ ?_
  ·exact ⟨rfl, vi, vi, vi, rfl, vi, hM2, InsI.init hP (by omega), hn, by omega, by first | exact hy0_ | simpa using hy0_⟩
  rintro ⟨j, l2, r0_⟩ f w9 ⟨e9_0, e9_9, e9_1, e9_2, e9_3, e9_8, hM9, hI, hn2, hja, hy0_⟩ K10 h10
  obtain ⟨frm, rfl⟩ := re6 e9_0 e9_9 e9_1 e9_2 e9_3 e9_8
  refine seq fun _ h11 => seq fun _ h12 => ?_
  intro wd e1 e2 e3 e4
  have hd := Upd.same e1 e2 e3 e4 []
  have hM13 := hM9.pure hd
  clear e1 e2 e3 e4
  refine ⟨(some [(blkV x)]), ?_⟩
  show vd _ _ _ _ _ _ _
  refine dmv <| dmv <| dbn rfl rfl <| dmv <| dsplitP rfl (fun c14 => ?_) (fun c14 => ?_)
  ·refine dgmv rfl <| dgmv rfl <| dgmv rfl <| dgyes rfl rfl (dqp (m_idxS3 th0 (j := j) (hy0_.rd hM13 (i := 0) rfl) (hy0_.rd hM13 (i := 0) rfl) rfl rfl (by omega) fun b15 o15 hp15 hbb15 => ?_))
   show vd _ _ _ _ _ _ _
   subst hbb15
   refine dgmv rfl <| dgmv rfl <| dqg rfl (v := .int .i64 ((j : Nat) - 1)) (o_bin rfl rfl (v_sub64 (by omega))) <| dgyes rfl rfl (dqp (m_idxS3 th0 (j := (j - 1)) (hy0_.rd hM13 (i := 0) rfl) (hy0_.rd hM13 (i := 0) rfl) rfl (v_int (by omega)) (by omega) fun b16 o16 hp16 hbb16 => ?_))
   show vd _ _ _ _ _ _ _
   subst hbb16
   refine dqgyes rfl rfl <| dqldA (cs := thC (l2.getD (j - 1) th0)) rfl (by simp [isHeld]) (thC_len _) (hp16.all) <| dgyesl rfl <| dl (ldA (cs := thC (l2.getD j th0)) rfl (thC_len _) (hp15.all) <| ⟨(fun b hb => rfl), dgyesl rfl <| dl (m_callv rfl (by kernel_rfl) (cmpW_ok (l2.getD j th0) (l2.getD (j - 1) th0) wd) rfl fun v17 w17 ⟨hr17, hu17⟩ => ?_)⟩)
   have hM17 : Mem w (ids r0) w17 [r0_] := hM13.pure hu17
   subst hr17
   have hh17 := held_upd (wr := wd) (bs := [(blkV x)]) hu17 (fun b hb => by
    simp only [List.mem_cons, List.not_mem_nil, or_false] at hb
    rw [hb]; exact ⟨Rd.blkV_ltS (hy0_.rd hM13 (i := 0) rfl) (by omega), by simp⟩) (fun b hb => rfl)
   refine ⟨hh17, dgbn rfl rfl rfl <| dpkT rfl <| h12 _ _ <| cndP rfl (fun c18 => ?_) (fun c18 => ?_)⟩
   ·refine h11 _ _ <| seq fun _ h19 => ?_
    intro wd e1 e2 e3 e4
    have hd := Upd.same e1 e2 e3 e4 []
    have hM20 := hM17.pure hd
    clear e1 e2 e3 e4
    refine ⟨(some []), ?_⟩
    show vd _ _ _ _ _ _ _
    refine dmv <| dmv <| dmv <| dmv <| dq (v := .int .i64 ((j : Nat) - 1)) (o_bin rfl rfl (v_sub64 (by omega))) <| dmv <| dmv <| dq (v := .int .i64 ((j : Nat) - 1)) (o_bin rfl rfl (v_sub64 (by omega))) <| dqp (m_idxS th0 (j := (j - 1)) (hy0_.rd hM20 (i := 0) rfl) rfl (v_int (by omega)) (by omega) fun b21 o21 hp21 => ?_)
    show vd _ _ _ _ _ _ _
    refine dmv <| dmv <| dqp (m_idxS th0 (j := j) (hy0_.rd hM20 (i := 0) rfl) rfl rfl (by omega) fun b22 o22 hp22 => ?_)
    show vd _ _ _ _ _ _ _
    show _ ∧ _
    refine ⟨?_, ?_⟩
    ·show vd _ _ _ _ _ _ _
     refine dl (ldA (cs := thC (l2.getD (j - 1) th0)) rfl (thC_len _) (hp21.all) <| ⟨(fun b hb => by cases hb), dl (ldA (cs := thC (l2.getD j th0)) rfl (thC_len _) (hp22.all) <| ⟨(fun b hb => by cases hb), dset (m_setS (enc := thC) th0 (q := l2.getD (j - 1) th0) (j := j) hM20 (i := 0) rfl hy0_ rfl rfl (by omega) (by simp) (rfl) fun w23 r23 u23 he23 hs23 (hM23 : Mem w (ids r0) w23 [r23]) => ⟨(fun b hb => by cases hb), ?_⟩)⟩)⟩)
     show vd _ _ _ _ _ _ _
     refine dset (m_setS (enc := thC) th0 (q := l2.getD j th0) (j := (j - 1)) hM23 (i := 0) rfl hs23 rfl (v_int (by omega)) (by rw [List.length_set]; omega) (by simp) (rfl) fun w24 r24 u24 he24 hs24 (hM24 : Mem _ _ w24 [r24]) => ⟨(fun b hb => by cases hb), ?_⟩)
     show vd _ _ _ _ _ _ _
     refine h19 _ _ <| mv <| stp (v := .int .i64 ((j : Nat) - 1)) (o_bin rfl rfl (v_sub64 (by omega))) <| mv <| h10 (j - 1, swp th0 l2 j (j - 1), r24) _ _ ⟨rfl, vi, vi, vi, rfl, vi, hM24, hI.step (by omega) (by omega) ((hI.cr (by omega) fun p q k1 k2 k3 => hc p q k1 k2 (by omega)).1 (cmpW_neg.1 (by assumption))), by rw [swp_len]; exact hn2, by omega, by first | exact hs24 | simpa using hs24⟩ (by (try dsimp only); omega)
    show vd _ _ _ _ _ _ _
    refine dl (ldA (cs := thC (l2.getD j th0)) rfl (thC_len _) (hp22.all) <| ⟨(fun b hb => by cases hb), dl (ldA (cs := thC (l2.getD (j - 1) th0)) rfl (thC_len _) (hp21.all) <| ⟨(fun b hb => by cases hb), dset (m_setS (enc := thC) th0 (q := l2.getD (j - 1) th0) (j := j) hM20 (i := 0) rfl hy0_ rfl rfl (by omega) (by simp) (rfl) fun w25 r25 u25 he25 hs25 (hM25 : Mem w (ids r0) w25 [r25]) => ⟨(fun b hb => by cases hb), ?_⟩)⟩)⟩)
    show vd _ _ _ _ _ _ _
    refine dset (m_setS (enc := thC) th0 (q := l2.getD j th0) (j := (j - 1)) hM25 (i := 0) rfl hs25 rfl (v_int (by omega)) (by rw [List.length_set]; omega) (by simp) (rfl) fun w26 r26 u26 he26 hs26 (hM26 : Mem _ _ w26 [r26]) => ⟨(fun b hb => by cases hb), ?_⟩)
    show vd _ _ _ _ _ _ _
    refine h19 _ _ <| mv <| stp (v := .int .i64 ((j : Nat) - 1)) (o_bin rfl rfl (v_sub64 (by omega))) <| mv <| h10 (j - 1, swp th0 l2 j (j - 1), r26) _ _ ⟨rfl, vi, vi, vi, rfl, vi, hM26, hI.step (by omega) (by omega) ((hI.cr (by omega) fun p q k1 k2 k3 => hc p q k1 k2 (by omega)).1 (cmpW_neg.1 (by assumption))), by rw [swp_len]; exact hn2, by omega, by first | exact hs26 | simpa using hs26⟩ (by (try dsimp only); omega)
   refine h7 _ _ <| mv <| stp (v := .int .i64 ((i : Nat) + 1)) (o_bin rfl rfl (v_add64 (by omega))) <| mv <| h3 (i + 1, l2, r0_) _ _ ⟨rfl, vi, vi, vi, rfl, hM17, hI.done (.inr ((hI.cr (by omega) fun p q k1 k2 k3 => hc p q k1 k2 (by omega)).2 (fun k => absurd (cmpW_neg.2 k) (by assumption)))), by omega, by omega, .inl (by omega), by first | exact hy0_ | simpa using hy0_⟩ (by (try dsimp only); omega)
  refine dx rfl <| dx rfl <| dx rfl <| dx rfl <| dx rfl <| dx rfl <| dx rfl <| dx rfl <| dxq rfl <| dxl rfl <| dxl rfl <| dx rfl <| dpkF rfl <| h12 _ _ <| cndF rfl <| h7 _ _ <| mv <| stp (v := .int .i64 ((i : Nat) + 1)) (o_bin rfl rfl (v_add64 (by omega))) <| mv <| h3 (i + 1, l2, r0_) _ _ ⟨rfl, vi, vi, vi, rfl, hM13, hI.done (.inl (by omega)), by omega, by omega, .inl (by omega), by first | exact hy0_ | simpa using hy0_⟩ (by (try dsimp only); omega)
 refine ⟨(.tuple [].toArray), rfl, ⟨_, _, hP.upto (by omega) hib, hy0_, hM2⟩⟩
end Go.Proofs.YtifnmbmijljhfaaGreat.E.Hf
namespace Go.Proofs.YtifnmbmijljhfaaGreat.E.Hf
open Go
def SymOk (N : Nat) : Prop := ∀ (x : Value) (l : List Th) (r0 : List Ent) (w : World) (hs0 : SlS thC 257 169 x l r0) (hr : Res w r0) (hl : l.length ≤ 1000000) (a m b : Nat) (hb : a < m ∧ m < b ∧ b ≤ l.length) (h1 : Srt Th.r th0 l a m) (h2 : Srt Th.r th0 l m b) (hc : CrO Th.r Th.w th0 l a m b) (_ : b - a < N), Calls Tryz.prog 135 [x, .int .i64 (a : Nat), .int .i64 (m : Nat), .int .i64 (b : Nat), .func (.func 129) ([] : List Value).toArray ([] : List Value).toArray].toArray w (Rt fun _ w' => ∃ l' r', PostS Th.r th0 l l' a b ∧ SlS thC 257 169 x l' r' ∧ Mem w (ids r0) w' [r'])
end Go.Proofs.YtifnmbmijljhfaaGreat.E.Hf
