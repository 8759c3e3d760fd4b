/- Part 11 of the proof of what the last of these files says. -/
import Derived.Test.YtifnmbmijljhfaaPBt10
namespace Go.Proofs.Ytifnmbmijljhfaa.E
open Go
theorem BOpen_ok (x : Value) (tile : List UInt8) (n : Int) (w : World) (hx : RdE byteV w x tile) (hl : tile.length ≤ 140737488355328) (hn : inK .i64 n) : Calls Try.prog 9 [x, .int .i64 n].toArray w (Rt fun r w' => ∃ rs, OpnQ tile n r rs ∧ Mem w [] w' [rs]) := by
 have hM0 : Mem w [] w [] := Mem.nil w []
 simp only [inK] at hn
 refine calls_vc mixed Try.func9 rfl C9 (by simp [Try.ntmps9]) <| seq fun _ h1 => stp (v := .pointer none) (o_mv rfl) <| stp (v := .int .i64 0) (o_mv rfl) <| h1 _ _ <| seq fun _ h2 => seq fun _ h3 => stp (v := .int .i64 n) (o_mv rfl) <| stp (v := .bool (decide (n < 1))) (o_bin rfl rfl rfl) <| stp (v := .bool (decide (n < 1))) (o_mv rfl) <| splitP rfl (fun c4 => ?_) (fun c4 => ?_)
 ·refine gx rfl <| gx rfl <| stp (v := .bool true) (o_pickT rfl rfl) <| h3 _ _ <| cndT rfl <| seq fun _ h5 => stp (v := .pointer none) (o_mv rfl) <| stp (v := .int .i64 3) (o_mv rfl) <| h5 _ _ <| ⟨(.tuple [.pointer none, .int .i64 3].toArray), rfl, ⟨[], .inl ⟨_, rfl, .inl ⟨rfl, by omega⟩⟩, hM0.keep (by simp)⟩⟩
 refine stg rfl (v := .int .i64 n) (o_mv rfl) <| stg rfl (v := .bool (decide ((65536 : Int) < n))) (o_bin rfl rfl rfl) <| stp (v := .bool (decide ((65536 : Int) < n))) (o_pickF rfl rfl) <| h3 _ _ <| cndP rfl (fun c6 => ?_) (fun c6 => ?_)
 ·refine seq fun _ h7 => stp (v := .pointer none) (o_mv rfl) <| stp (v := .int .i64 3) (o_mv rfl) <| h7 _ _ <| ⟨(.tuple [.pointer none, .int .i64 3].toArray), rfl, ⟨[], .inl ⟨_, rfl, .inl ⟨rfl, by omega⟩⟩, hM0.keep (by simp)⟩⟩
 refine h2 _ _ <| seq fun _ h8 => stp (v := x) (o_mv rfl) <| m_call (Open_ok _ tile w (hx.upd hM0.upd) (by first | omega | (simp; done) | (simp; omega))) rfl fun v9 w9 ⟨v9_, rs9, hr9, hs9, hm9⟩ => ?_
 have hM9 : Mem w [] w9 [rs9] := hM0.add hm9
 subst hr9
 have hol9 := openF_len tile
 refine stp (v := .tuple [v9_, .int .i64 ((openF tile).2)].toArray) (o_mv rfl) <| stp (v := v9_) (o_ext rfl rfl) <| stp (v := .int .i64 ((openF tile).2)) (o_ext rfl rfl) <| stp (v := v9_) (o_mv rfl) <| stp (v := .int .i64 ((openF tile).2)) (o_mv rfl) <| h8 _ _ <| seq fun _ h10 => seq fun _ h11 => stp (v := .int .i64 ((openF tile).2)) (o_mv rfl) <| stp (v := .bool (decide (¬ ((openF tile).2) = 0))) (o_bin rfl rfl v_neq) <| h11 _ _ <| cndP rfl (fun c12 => ?_) (fun c12 => ?_)
 ·refine seq fun _ h13 => stp (v := .int .i64 ((openF tile).2)) (o_mv rfl) <| stp (v := .pointer none) (o_mv rfl) <| stp (v := .int .i64 ((openF tile).2)) (o_mv rfl) <| h13 _ _ <| ⟨(.tuple [.pointer none, .int .i64 ((openF tile).2)].toArray), rfl, ⟨[], .inl ⟨_, rfl, .inr (.inl ⟨by omega, by omega, rfl⟩)⟩, hM9.keep (by simp)⟩⟩
 refine h10 _ _ <| seq fun _ h14 => seq fun _ h15 => stp (v := v9_) (o_mv rfl) <| stp (v := .int .i64 (((openF tile).1).length : Nat)) (o_lenR (hs9.rd hM9 (i := 0) rfl) rfl rfl) <| stp (v := .bool (decide (((((openF tile).1).length : Nat) : Int) = 0))) (o_bin rfl rfl rfl) <| h15 _ _ <| cndP rfl (fun c16 => ?_) (fun c16 => ?_)
 ·refine seq fun _ h17 => stp (v := .pointer none) (o_mv rfl) <| stp (v := .int .i64 60) (o_mv rfl) <| h17 _ _ <| ⟨(.tuple [.pointer none, .int .i64 60].toArray), rfl, ⟨[], .inl ⟨_, rfl, .inr (.inr ⟨by omega, by omega, rfl, fun t ht => absurd ht (txt_no rfl (fun q => by have q1 := q.1; have q2 := q.2.1; have q3 := q.2.2.1; have q4 := q.2.2.2; omega))⟩)⟩, hM9.keep (by simp)⟩⟩
 refine h14 _ _ <| seq fun _ h18 => ?_
 intro wd e1 e2 e3 e4
 have hd := Upd.same e1 e2 e3 e4 []
 have hM19 := hM9.pure hd
 clear e1 e2 e3 e4
 refine ⟨none, ?_⟩
 show vd _ _ _ _ _ _ _
 refine dq (v := v9_) (o_mv rfl) <| dq (v := v9_) (o_mv rfl) <| dq (v := .int .i64 (((openF tile).1).length : Nat)) (o_lenR (hs9.rd hM19 (i := 0) rfl) rfl rfl) <| dq (v := .int .i64 ((((openF tile).1).length : Nat) - 1)) (o_bin rfl rfl (v_sub64 (by omega))) <| dqp (m_slcO ((openF tile).1.length - 1) (hs9) rfl (by omega) (⟨_, v_int (by omega)⟩) trivial fun u20 hu20 => ?_)
 show vd _ _ _ _ _ _ _
 refine dq (v := v9_) (o_mv rfl) <| dq (v := v9_) (o_mv rfl) <| dq (v := .int .i64 (((openF tile).1).length : Nat)) (o_lenR (hs9.rd hM19 (i := 0) rfl) rfl rfl) <| dq (v := .int .i64 ((((openF tile).1).length : Nat) - 1)) (o_bin rfl rfl (v_sub64 (by omega))) <| dqp (m_idxE 0 (j := ((openF tile).1.length - 1)) (hs9.rd hM19 (i := 0) rfl) rfl (v_int (by omega)) (by omega) fun b21 o21 hp21 => ?_)
 show vd _ _ _ _ _ _ _
 refine dq (v := u20) (o_mv rfl) <| dl (ld (v := byteV (((openF tile).1).getD ((openF tile).1.length - 1) 0)) rfl (hp21) <| ⟨rfl, ?_⟩)
 have htl : ((openF tile).1.take ((openF tile).1.length - 1)).length = (openF tile).1.length - 1 := by rw [List.length_take]; omega
 obtain ⟨fl, hfl⟩ : ∃ f, f = ((openF tile).1.getD ((openF tile).1.length - 1) 0).toNat := ⟨_, rfl⟩
 refine dq (v := .int .i64 (fl : Nat)) (o_conv rfl (by rw [hfl]; exact v_byteTo (by decide))) <| dq (v := .int .i64 (fl : Nat)) (o_mv rfl) <| h18 _ _ <| seq fun _ h22 => seq fun _ h23 => stp (v := .int .i64 (fl : Nat)) (o_mv rfl) <| m_call (codes_ok wd) rfl fun v24 w24 ⟨hr24, hu24⟩ => ?_
 have hM24 : Mem w [] w24 [rs9] := hM19.pure hu24
 subst hr24
 refine stp (v := .int .i64 3) (o_mv rfl) <| stp (v := .bool (decide ((3 : Int) ≤ ((fl : Nat) : Int)))) (o_bin rfl rfl rfl) <| stp (v := .bool (decide ((3 : Int) ≤ ((fl : Nat) : Int)))) (o_mv rfl) <| splitP rfl (fun c25 => ?_) (fun c25 => ?_)
 ·refine gx rfl <| gx rfl <| gx rfl <| gx rfl <| gx rfl <| stp (v := .bool true) (o_pickT rfl rfl) <| h23 _ _ <| cndT rfl <| seq fun _ h26 => stp (v := .pointer none) (o_mv rfl) <| stp (v := .int .i64 60) (o_mv rfl) <| h26 _ _ <| ⟨(.tuple [.pointer none, .int .i64 60].toArray), rfl, ⟨[], .inl ⟨_, rfl, .inr (.inr ⟨by omega, by omega, rfl, fun t ht => absurd ht (txt_no hfl (fun q => by have q1 := q.1; have q2 := q.2.1; have q3 := q.2.2.1; have q4 := q.2.2.2; omega))⟩)⟩, hM24.keep (by simp)⟩⟩
 refine stg rfl (v := u20) (o_mv rfl) <| stg rfl (v := .int .i64 ((((openF tile).1).take ((openF tile).1.length - 1)).length : Nat)) (o_lenR (hu20.rd hM24 (i := 0) rfl) rfl rfl) <| stg rfl (v := .int .i64 (64 * ((((openF tile).1).take ((openF tile).1.length - 1)).length : Nat))) (o_bin rfl rfl (v_mul64 (by omega))) <| stg rfl (v := .int .i64 n) (o_mv rfl) <| stg rfl (v := .bool (decide ((64 * ((((openF tile).1).take ((openF tile).1.length - 1)).length : Nat) : Int) < n))) (o_bin rfl rfl rfl) <| stp (v := .bool (decide ((64 * ((((openF tile).1).take ((openF tile).1.length - 1)).length : Nat) : Int) < n))) (o_pickF rfl rfl) <| h23 _ _ <| cndP rfl (fun c27 => ?_) (fun c27 => ?_)
 ·refine seq fun _ h28 => stp (v := .pointer none) (o_mv rfl) <| stp (v := .int .i64 60) (o_mv rfl) <| h28 _ _ <| ⟨(.tuple [.pointer none, .int .i64 60].toArray), rfl, ⟨[], .inl ⟨_, rfl, .inr (.inr ⟨by omega, by omega, rfl, fun t ht => absurd ht (txt_no hfl (fun q => by have q1 := q.1; have q2 := q.2.1; have q3 := q.2.2.1; have q4 := q.2.2.2; omega))⟩)⟩, hM24.keep (by simp)⟩⟩
 refine h22 _ _ <| seq fun _ h29 => m_call (codes_ok w24) rfl fun v30 w30 ⟨hr30, hu30⟩ => ?_
 have hM30 : Mem w [] w30 [rs9] := hM24.pure hu30
 subst hr30
 rcases (by omega : (fl = 0 ∧ (((openF tile).1.take ((openF tile).1.length - 1)).length : Int) = n) ∨ (fl = 0 ∧ ¬ (((openF tile).1.take ((openF tile).1.length - 1)).length : Int) = n) ∨ fl = 1 ∨ fl = 2) with ⟨rfl, hq⟩ | ⟨rfl, hq⟩ | rfl | rfl
 ·refine stp (v := .int .i64 (0 : Nat)) (o_mv rfl) <| stp (v := .agg ([.func (.func 50) [].toArray [].toArray, .func (.func 51) [].toArray [].toArray] : List Value).toArray) (o_idxv rfl rfl (by omega) rfl) <| stp (v := .func (.func 51) [].toArray [].toArray) (o_fld rfl rfl) <| stp (v := u20) (o_mv rfl) <| stp (v := .int .i64 n) (o_mv rfl) <| m_callv rfl (by kernel_rfl) (code2_ok u20 ((openF tile).1.take ((openF tile).1.length - 1)) n w30 (hu20.rd hM30 (i := 0) rfl) (by first | omega | (simp; done) | (simp; omega))) rfl fun v31 w31 ⟨hr31, hu31⟩ => ?_
  have hM31 : Mem w [] w31 [rs9] := hM30.pure hu31
  rw [if_pos hq, if_pos hq] at hr31
  subst hr31
  refine stp (v := .tuple [u20, .int .i64 0].toArray) (o_mv rfl) <| stp (v := u20) (o_ext rfl rfl) <| stp (v := .int .i64 0) (o_ext rfl rfl) <| stp (v := u20) (o_mv rfl) <| stp (v := .int .i64 0) (o_mv rfl) <| h29 _ _ <| seq fun _ h32 => seq fun _ h33 => stp (v := .int .i64 0) (o_mv rfl) <| stp (v := .bool false) (o_bin rfl rfl v_neF) <| h33 _ _ <| cndF rfl <| h32 _ _ <| seq fun _ h34 => ?_
  refine seq fun _ h35 => stp (v := u20) (o_mv rfl) <| m_call (parsed_ok _ (((openF tile).1).take ((openF tile).1.length - 1)) w31 (hu20.rd hM31 (i := 0) rfl) (by first | omega | (rw [htl]; omega))) rfl fun v36 w36 ⟨rsq, hmq, hpq⟩ => ?_
  have hM36 : Mem w [] w36 [rs9, rsq] := hM31.add hmq
  refine stp (v := v36) (o_mv rfl) <| h35 _ _ <| seq fun _ h37 => ?_
  rcases hpq with ⟨rfl, hno⟩ | ⟨br, R, es, rfl, hblk, hrd, hun⟩
  ·refine stp (v := .pointer none) (o_mv rfl) <| stp (v := .bool false) (o_isnil rfl rfl) <| h37 _ _ <| cndF rfl <| h34 _ _ <| seq fun _ h38 => stp (v := .pointer none) (o_mv rfl) <| stp (v := .int .i64 60) (o_mv rfl) <| h38 _ _ <| ⟨(.tuple [.pointer none, .int .i64 60].toArray), rfl, ⟨[], .inl ⟨_, rfl, .inr (.inr ⟨by omega, by omega, rfl, fun t ht => by rw [(txt (by omega) (by omega) hfl (by omega) (by omega) (dc_0 hq))] at ht; cases ht; exact hno⟩)⟩, hM36.keep (by simp)⟩⟩
  refine stp (v := .pointer (some ⟨br, 0, none⟩)) (o_mv rfl) <| stp (v := .bool true) (o_isnil rfl rfl) <| h37 _ _ <| cndT rfl <| seq fun _ h39 => stp (v := .pointer (some ⟨br, 0, none⟩)) (o_mv rfl) <| stp (v := .pointer (some ⟨br, 0, none⟩)) (o_mv rfl) <| stp (v := .int .i64 0) (o_mv rfl) <| h39 _ _ <| ⟨(.tuple [.pointer (some ⟨br, 0, none⟩), .int .i64 0].toArray), rfl, ⟨_, .inr ⟨br, R, es, _, rfl, by omega, (txt (by omega) (by omega) hfl (by omega) (by omega) (dc_0 hq)), hblk, hrd, hun⟩, hM36.keep (by simp; repeat first | exact List.Sublist.refl _ | refine List.Sublist.trans ?_ (List.sublist_append_right _ _))⟩⟩
 ·refine stp (v := .int .i64 (0 : Nat)) (o_mv rfl) <| stp (v := .agg ([.func (.func 50) [].toArray [].toArray, .func (.func 51) [].toArray [].toArray] : List Value).toArray) (o_idxv rfl rfl (by omega) rfl) <| stp (v := .func (.func 51) [].toArray [].toArray) (o_fld rfl rfl) <| stp (v := u20) (o_mv rfl) <| stp (v := .int .i64 n) (o_mv rfl) <| m_callv rfl (by kernel_rfl) (code2_ok u20 ((openF tile).1.take ((openF tile).1.length - 1)) n w30 (hu20.rd hM30 (i := 0) rfl) (by first | omega | (simp; done) | (simp; omega))) rfl fun v40 w40 ⟨hr40, hu40⟩ => ?_
  have hM40 : Mem w [] w40 [rs9] := hM30.pure hu40
  rw [if_neg hq, if_neg hq] at hr40
  subst hr40
  refine stp (v := .tuple [.slice none 0 0, .int .i64 60].toArray) (o_mv rfl) <| stp (v := .slice none 0 0) (o_ext rfl rfl) <| stp (v := .int .i64 60) (o_ext rfl rfl) <| stp (v := .slice none 0 0) (o_mv rfl) <| stp (v := .int .i64 60) (o_mv rfl) <| h29 _ _ <| seq fun _ h41 => seq fun _ h42 => stp (v := .int .i64 60) (o_mv rfl) <| stp (v := .bool (decide (¬ (60 : Int) = 0))) (o_bin rfl rfl v_neq) <| h42 _ _ <| cndP rfl (fun c43 => ?_) (fun c43 => (c43 (by omega)).elim)
  refine seq fun _ h44 => stp (v := .pointer none) (o_mv rfl) <| stp (v := .int .i64 60) (o_mv rfl) <| h44 _ _ <| ⟨(.tuple [.pointer none, .int .i64 60].toArray), rfl, ⟨[], .inl ⟨_, rfl, .inr (.inr ⟨by omega, by omega, rfl, fun t ht => absurd ht (txt_no hfl (fun q => by have q1 := q.1; have q2 := q.2.1; have q3 := q.2.2.1; have q4 := q.2.2.2; exact dn_0 hq q4))⟩)⟩, hM40.keep (by simp)⟩⟩
 ·refine stp (v := .int .i64 (1 : Nat)) (o_mv rfl) <| stp (v := .agg ([.func (.func 13) [].toArray [].toArray, .func (.func 11) [].toArray [].toArray] : List Value).toArray) (o_idxv rfl rfl (by omega) rfl) <| stp (v := .func (.func 11) [].toArray [].toArray) (o_fld rfl rfl) <| stp (v := u20) (o_mv rfl) <| stp (v := .int .i64 n) (o_mv rfl) <| m_callv rfl (by kernel_rfl) (Lz.Decode_ok _ ((openF tile).1.take ((openF tile).1.length - 1)) n w30 (hu20.rd hM30 (i := 0) rfl) (by first | omega | (simp; done) | (simp; omega)) (by simp only [inK]; omega)) rfl fun v45 w45 ⟨y45, rs45, hr45, hs45, hm45⟩ => ?_
  have hM45 : Mem w [] w45 [rs9, rs45] := hM30.add hm45
  subst hr45
  have hcl45 := decF_len ((openF tile).1.take ((openF tile).1.length - 1)) n
  refine stp (v := .tuple [y45, .int .i64 ((Lz.decF ((openF tile).1.take ((openF tile).1.length - 1)) n).2)].toArray) (o_mv rfl) <| stp (v := y45) (o_ext rfl rfl) <| stp (v := .int .i64 ((Lz.decF ((openF tile).1.take ((openF tile).1.length - 1)) n).2)) (o_ext rfl rfl) <| stp (v := y45) (o_mv rfl) <| stp (v := .int .i64 ((Lz.decF ((openF tile).1.take ((openF tile).1.length - 1)) n).2)) (o_mv rfl) <| h29 _ _ <| seq fun _ h46 => seq fun _ h47 => stp (v := .int .i64 ((Lz.decF ((openF tile).1.take ((openF tile).1.length - 1)) n).2)) (o_mv rfl) <| stp (v := .bool (decide (¬ ((Lz.decF ((openF tile).1.take ((openF tile).1.length - 1)) n).2) = 0))) (o_bin rfl rfl v_neq) <| h47 _ _ <| cndP rfl (fun c48 => ?_) (fun c48 => ?_)
  ·refine seq fun _ h49 => stp (v := .pointer none) (o_mv rfl) <| stp (v := .int .i64 60) (o_mv rfl) <| h49 _ _ <| ⟨(.tuple [.pointer none, .int .i64 60].toArray), rfl, ⟨[], .inl ⟨_, rfl, .inr (.inr ⟨by omega, by omega, rfl, fun t ht => absurd ht (txt_no hfl (fun q => by have q1 := q.1; have q2 := q.2.1; have q3 := q.2.2.1; have q4 := q.2.2.2; exact dn_1 (by omega) q4))⟩)⟩, hM45.keep (by simp)⟩⟩
  refine h46 _ _ <| seq fun _ h50 => seq fun _ h51 => stp (v := y45) (o_mv rfl) <| m_call (parsed_ok _ ((Lz.decF ((openF tile).1.take ((openF tile).1.length - 1)) n).1) w45 (hs45.rd hM45 (i := 1) rfl) (by first | omega | (rw [htl]; omega))) rfl fun v52 w52 ⟨rsq, hmq, hpq⟩ => ?_
  have hM52 : Mem w [] w52 [rs9, rs45, rsq] := hM45.add hmq
  refine stp (v := v52) (o_mv rfl) <| h51 _ _ <| seq fun _ h53 => ?_
  rcases hpq with ⟨rfl, hno⟩ | ⟨br, R, es, rfl, hblk, hrd, hun⟩
  ·refine stp (v := .pointer none) (o_mv rfl) <| stp (v := .bool false) (o_isnil rfl rfl) <| h53 _ _ <| cndF rfl <| h50 _ _ <| seq fun _ h54 => stp (v := .pointer none) (o_mv rfl) <| stp (v := .int .i64 60) (o_mv rfl) <| h54 _ _ <| ⟨(.tuple [.pointer none, .int .i64 60].toArray), rfl, ⟨[], .inl ⟨_, rfl, .inr (.inr ⟨by omega, by omega, rfl, fun t ht => by rw [(txt (by omega) (by omega) hfl (by omega) (by omega) (dc_1 (by omega)))] at ht; cases ht; exact hno⟩)⟩, hM52.keep (by simp)⟩⟩
  refine stp (v := .pointer (some ⟨br, 0, none⟩)) (o_mv rfl) <| stp (v := .bool true) (o_isnil rfl rfl) <| h53 _ _ <| cndT rfl <| seq fun _ h55 => stp (v := .pointer (some ⟨br, 0, none⟩)) (o_mv rfl) <| stp (v := .pointer (some ⟨br, 0, none⟩)) (o_mv rfl) <| stp (v := .int .i64 0) (o_mv rfl) <| h55 _ _ <| ⟨(.tuple [.pointer (some ⟨br, 0, none⟩), .int .i64 0].toArray), rfl, ⟨_, .inr ⟨br, R, es, _, rfl, by omega, (txt (by omega) (by omega) hfl (by omega) (by omega) (dc_1 (by omega))), hblk, hrd, hun⟩, hM52.keep (by simp; repeat first | exact List.Sublist.refl _ | refine List.Sublist.trans ?_ (List.sublist_append_right _ _))⟩⟩
 refine stp (v := .int .i64 (2 : Nat)) (o_mv rfl) <| stp (v := .agg ([.func (.func 14) [].toArray [].toArray, .func (.func 12) [].toArray [].toArray] : List Value).toArray) (o_idxv rfl rfl (by omega) rfl) <| stp (v := .func (.func 12) [].toArray [].toArray) (o_fld rfl rfl) <| stp (v := u20) (o_mv rfl) <| stp (v := .int .i64 n) (o_mv rfl) <| m_callv rfl (by kernel_rfl) (Hf.Decode_ok _ ((openF tile).1.take ((openF tile).1.length - 1)) n w30 (hu20.rd hM30 (i := 0) rfl) (by first | omega | (simp; done) | (simp; omega)) (by simp only [inK]; omega)) rfl fun v56 w56 ⟨y56, rs56, hr56, hs56, hm56⟩ => ?_
 have hM56 : Mem w [] w56 [rs9, rs56] := hM30.add hm56
 subst hr56
 have hcl56 := huffD_len ((openF tile).1.take ((openF tile).1.length - 1)) n
 refine stp (v := .tuple [y56, .int .i64 ((Hf.huffD ((openF tile).1.take ((openF tile).1.length - 1)) n).2)].toArray) (o_mv rfl) <| stp (v := y56) (o_ext rfl rfl) <| stp (v := .int .i64 ((Hf.huffD ((openF tile).1.take ((openF tile).1.length - 1)) n).2)) (o_ext rfl rfl) <| stp (v := y56) (o_mv rfl) <| stp (v := .int .i64 ((Hf.huffD ((openF tile).1.take ((openF tile).1.length - 1)) n).2)) (o_mv rfl) <| h29 _ _ <| seq fun _ h57 => seq fun _ h58 => stp (v := .int .i64 ((Hf.huffD ((openF tile).1.take ((openF tile).1.length - 1)) n).2)) (o_mv rfl) <| stp (v := .bool (decide (¬ ((Hf.huffD ((openF tile).1.take ((openF tile).1.length - 1)) n).2) = 0))) (o_bin rfl rfl v_neq) <| h58 _ _ <| cndP rfl (fun c59 => ?_) (fun c59 => ?_)
 ·refine seq fun _ h60 => stp (v := .pointer none) (o_mv rfl) <| stp (v := .int .i64 60) (o_mv rfl) <| h60 _ _ <| ⟨(.tuple [.pointer none, .int .i64 60].toArray), rfl, ⟨[], .inl ⟨_, rfl, .inr (.inr ⟨by omega, by omega, rfl, fun t ht => absurd ht (txt_no hfl (fun q => by have q1 := q.1; have q2 := q.2.1; have q3 := q.2.2.1; have q4 := q.2.2.2; exact dn_2 (by omega) q4))⟩)⟩, hM56.keep (by simp)⟩⟩
 refine h57 _ _ <| seq fun _ h61 => seq fun _ h62 => stp (v := y56) (o_mv rfl) <| m_call (parsed_ok _ ((Hf.huffD ((openF tile).1.take ((openF tile).1.length - 1)) n).1) w56 (hs56.rd hM56 (i := 1) rfl) (by first | omega | (rw [htl]; omega))) rfl fun v63 w63 ⟨rsq, hmq, hpq⟩ => ?_
 have hM63 : Mem w [] w63 [rs9, rs56, rsq] := hM56.add hmq
 refine stp (v := v63) (o_mv rfl) <| h62 _ _ <| seq fun _ h64 => ?_
 rcases hpq with ⟨rfl, hno⟩ | ⟨br, R, es, rfl, hblk, hrd, hun⟩
 ·refine stp (v := .pointer none) (o_mv rfl) <| stp (v := .bool false) (o_isnil rfl rfl) <| h64 _ _ <| cndF rfl <| h61 _ _ <| seq fun _ h65 => stp (v := .pointer none) (o_mv rfl) <| stp (v := .int .i64 60) (o_mv rfl) <| h65 _ _ <| ⟨(.tuple [.pointer none, .int .i64 60].toArray), rfl, ⟨[], .inl ⟨_, rfl, .inr (.inr ⟨by omega, by omega, rfl, fun t ht => by rw [(txt (by omega) (by omega) hfl (by omega) (by omega) (dc_2 (by omega)))] at ht; cases ht; exact hno⟩)⟩, hM63.keep (by simp)⟩⟩
 refine stp (v := .pointer (some ⟨br, 0, none⟩)) (o_mv rfl) <| stp (v := .bool true) (o_isnil rfl rfl) <| h64 _ _ <| cndT rfl <| seq fun _ h66 => stp (v := .pointer (some ⟨br, 0, none⟩)) (o_mv rfl) <| stp (v := .pointer (some ⟨br, 0, none⟩)) (o_mv rfl) <| stp (v := .int .i64 0) (o_mv rfl) <| h66 _ _ <| ⟨(.tuple [.pointer (some ⟨br, 0, none⟩), .int .i64 0].toArray), rfl, ⟨_, .inr ⟨br, R, es, _, rfl, by omega, (txt (by omega) (by omega) hfl (by omega) (by omega) (dc_2 (by omega))), hblk, hrd, hun⟩, hM63.keep (by simp; repeat first | exact List.Sublist.refl _ | refine List.Sublist.trans ?_ (List.sublist_append_right _ _))⟩⟩
end Go.Proofs.Ytifnmbmijljhfaa.E
namespace Go.Proofs.Ytifnmbmijljhfaa.E
open Go
theorem add_fit {R M : Nat} {tk : List Pr2} {k v : List UInt8} (hR : 1 ≤ R ∧ R ≤ 64) (hM : M ≤ 65536) (ho : okB tk) (h : addE R M (bldF R tk).raw (bldF R tk).last (bldF R tk).n k v = 0) : okB (tk ++ [(k, v)]) ∧ szB R (bldF R (tk ++ [(k, v)])).raw.length (tk.length + 1) ≤ 65536 := by
 have hn := bld_n R tk
 have hla := bld_last R tk
 unfold addE at h
 split at h
 ·omega
 rename_i c1
 split at h
 ·omega
 rename_i c2
 split at h
 ·omega
 rename_i c3
 have hraw : (bldF R (tk ++ [(k, v)])).raw = (bldF R tk).raw ++ wrB (ahd R (bldF R tk).n (bldF R tk).last) k v := by rw [bld_snoc]; rfl
 constructor
 ·intro j hj
  rw [List.length_append, List.length_singleton] at hj
  by_cases hje : j = tk.length
  ·subst hje
   rw [getD_snoc]
   refine ⟨by dsimp only; omega, by dsimp only; omega, fun h0 => ?_⟩
   rw [getD_lt _ _ _ (by omega)]
   show 0 ≤ cmp k (tk.getD (tk.length - 1) ([], [])).1
   have : (tk.getD (tk.length - 1) ([], [])).1 = (bldF R tk).last := hla.symm
   rw [this]; omega
  have := ho j (by omega)
  rw [getD_lt _ _ _ (by omega)]
  refine ⟨this.1, this.2.1, fun h0 => ?_⟩
  rw [getD_lt _ _ _ (by omega)]; exact this.2.2 h0
 have hw := (wrB_len (a := ahd R (bldF R tk).n (bldF R tk).last) (k := k) (v := v) (by omega) (by omega)).1
 by_cases h0 : 0 < tk.length
 ·rw [hraw, List.length_append, ← hn]; omega
 have ht : tk = [] := List.eq_nil_of_length_eq_zero (by omega)
 subst ht
 rw [hraw, List.length_append]
 show szB R (0 + _) 1 ≤ _
 unfold szB
 rw [if_neg (by omega), show (1 + R - 1) / R = 1 by rw [show 1 + R - 1 = R by omega]; exact Nat.div_self (by omega)]
 omega
theorem raw_sz {R : Nat} {tk : List Pr2} (hR : 1 ≤ R) (h0 : 0 < tk.length) : (rawB R (bldF R tk).raw (bldF R tk).st tk.length).length = szB R (bldF R tk).raw.length tk.length := by
 have hst := bld_st R hR tk
 unfold rawB szB
 rw [List.length_append, List.length_append, List.length_append, fix4_len, fix4_len, starts_len, hst, if_neg (by omega)]
 unfold cdiv
 omega
theorem st_bd (R : Nat) : ∀ tk, ∀ j, j < (bldF R tk).st.length → 0 ≤ (bldF R tk).st.getD j 0 ∧ (bldF R tk).st.getD j 0 ≤ ((bldF R tk).raw.length : Nat) := rev_ind (fun j hj => absurd hj (Nat.not_lt_zero _)) fun tk x ih j hj => by
 rw [bld_snoc] at hj ⊢
 have hr : ((bldF R tk).add R x).raw.length = (bldF R tk).raw.length + (wrB (ahd R (bldF R tk).n (bldF R tk).last) x.1 x.2).length := by show ((bldF R tk).raw ++ _).length = _; rw [List.length_append]
 rw [hr]
 have key : ((bldF R tk).add R x).st = if (bldF R tk).n % R = 0 then (bldF R tk).st ++ [((bldF R tk).raw.length : Int)] else (bldF R tk).st := rfl
 rw [key] at hj ⊢
 split at hj
 ·rename_i c
  rw [if_pos c]
  rw [List.length_append, List.length_singleton] at hj
  by_cases hje : j = (bldF R tk).st.length
  ·subst hje; rw [getD_snoc]; omega
  rw [getD_lt _ _ _ (by omega)]; have := ih j (by omega); omega
 rename_i c
 rw [if_neg c]; have := ih j hj; omega
end Go.Proofs.Ytifnmbmijljhfaa.E
namespace Go.Proofs.Ytifnmbmijljhfaa.E
open Go
def OKT (R : Nat) (tk : List Pr2) : Prop := okB tk ∧ (0 < tk.length → szB R (bldF R tk).raw.length tk.length ≤ 65536)
def BldT (bb R M : Nat) (tk : List Pr2) (r : List Ent) : Prop := BldS bb R M (bldF R tk).raw (bldF R tk).st (bldF R tk).last (bldF R tk).n r
def rawT (R : Nat) (tk : List Pr2) : List UInt8 := rawB R (bldF R tk).raw (bldF R tk).st tk.length
def tileT (R : Nat) (tk : List Pr2) : List UInt8 := sealF ((bestF (rawT R tk) 3).1 ++ [(bestF (rawT R tk) 3).2.toNat.toUInt8])
theorem OKT.nil (R : Nat) : OKT R [] := ⟨fun i hi => absurd hi (Nat.not_lt_zero _), fun h => absurd h (Nat.lt_irrefl _)⟩
theorem OKT.bd {R : Nat} {tk : List Pr2} (hR : 1 ≤ R) (h : OKT R tk) : (bldF R tk).raw.length ≤ 65536 ∧ (bldF R tk).n ≤ 65536 ∧ (bldF R tk).st.length ≤ 65536 ∧ (bldF R tk).last.length ≤ 1024 := by
 have hst := bld_st R hR tk
 have hn := bld_n R tk
 have hr := bld_raw (R := R) tk h.1
 rw [bld_last]
 by_cases h0 : 0 < tk.length
 ·have hs := h.2 h0
  have hz := raw_sz hR h0
  unfold rawB at hz
  rw [List.length_append, List.length_append, List.length_append, fix4_len, fix4_len, starts_len] at hz
  exact ⟨by omega, by omega, by omega, (h.1 _ (by omega)).1⟩
 have ht : tk = [] := List.eq_nil_of_length_eq_zero (by omega)
 subst ht
 exact ⟨Nat.zero_le _, Nat.zero_le _, Nat.zero_le _, Nat.zero_le _⟩
theorem OKT.len {R : Nat} {tk : List Pr2} (hR : 1 ≤ R) (h : OKT R tk) : tk.length ≤ 65536 := by
 have := h.bd hR
 have h2 := bld_n R tk
 omega
theorem OKT.raw {R : Nat} {tk : List Pr2} (hR : 1 ≤ R) (h : OKT R tk) (h0 : 0 < tk.length) : (rawT R tk).length ≤ 65536 := by
 unfold rawT; rw [raw_sz hR h0]; exact h.2 h0
theorem OKT.blk {R : Nat} {tk : List Pr2} (hR : 1 ≤ R ∧ R ≤ 64) (h : OKT R tk) (h0 : 0 < tk.length) : Blk R tk (rawT R tk) := ⟨hR, h0, h.1, rfl⟩
theorem AddT_ok (bb R M : Nat) (tk : List Pr2) (k v : List UInt8) (r0 : List Ent) (w : World) (hB : BldT bb R M tk r0) (hr : Res w r0) (hR : 1 ≤ R ∧ R ≤ 64) (hM : M ≤ 65536) (ho : OKT R tk) (hk : k.length ≤ 140737488355328) (hv : v.length ≤ 140737488355328) : Calls Try.prog 20 [.pointer (some ⟨bb, 0, none⟩), .string (str k), .string (str v)].toArray w (Rt fun r w' => ∃ e tk' r', r = .int .i64 e ∧ e = addE R M (bldF R tk).raw (bldF R tk).last (bldF R tk).n k v ∧ BldT bb R M tk' r' ∧ ((e = 0 ∧ tk' = tk ++ [(k, v)]) ∨ (¬ e = 0 ∧ tk' = tk)) ∧ OKT R tk' ∧ Mem w (ids r0) w' [r']) := by
 refine (Add_ok bb R M (bldF R tk).raw (bldF R tk).st (bldF R tk).last (bldF R tk).n k v r0 w hB hr hR hM (ho.bd hR.1) hk hv).mono fun en w2 h => h.elim fun v2 h => ⟨v2, h.1, ?_⟩
 obtain ⟨r', h1, h2, h3, h4⟩ := h.2
 by_cases he : addE R M (bldF R tk).raw (bldF R tk).last (bldF R tk).n k v = 0
 ·refine ⟨_, tk ++ [(k, v)], r', h1, rfl, ?_, .inl ⟨he, rfl⟩, ?_, h4⟩
  ·have h5 := h3 he
   unfold BldT
   rw [bld_snoc]
   exact h5
  have hf := add_fit hR hM ho.1 he
  exact ⟨hf.1, fun _ => by rw [List.length_append]; exact hf.2⟩
 exact ⟨_, tk, r', h1, rfl, h2 he, .inr ⟨he, rfl⟩, ho, h4⟩
theorem add_first {R M : Nat} : addE R M (bldF R []).raw (bldF R []).last (bldF R []).n [107] [118] = 0 := by
 unfold addE
 rw [if_neg (by decide), if_neg (fun h => absurd h.1 (Nat.lt_irrefl 0)), if_neg (fun h => absurd h.1 (Nat.lt_irrefl 0))]
theorem FinishT_ok (bb R M : Nat) (tk : List Pr2) (r0 : List Ent) (w : World) (hB : BldT bb R M tk r0) (hr : Res w r0) (hR : 1 ≤ R ∧ R ≤ 64) (ho : OKT R tk) (h0 : 0 < tk.length) : Calls Try.prog 24 [.pointer (some ⟨bb, 0, none⟩)].toArray w (Rt fun r w' => ∃ v rb rt, r = .tuple [v, .int .i64 ((rawT R tk).length : Nat), .int .i64 0].toArray ∧ SlE byteV 5 v (tileT R tk) rt ∧ BldT bb R M [] rb ∧ Mem w (ids r0) w' [rb, rt]) := by
 have hn := bld_n R tk
 have hb := ho.bd hR.1
 have hl := ho.raw hR.1 h0
 have e : rawT R tk = rawB R (bldF R tk).raw (bldF R tk).st (bldF R tk).n := by rw [hn]; rfl
 have h := Finish_ok bb R M (bldF R tk).raw (bldF R tk).st (bldF R tk).last (bldF R tk).n r0 w hB hr hR (by omega) (by rw [← e]; exact hl) (fun j hj => by have := st_bd R tk j hj; omega)
 rw [← e] at h
 exact h
theorem SizeT_ok (bb R M : Nat) (tk : List Pr2) (r0 : List Ent) (w : World) (hB : BldT bb R M tk r0) (hr : Res w r0) (hR : 1 ≤ R ∧ R ≤ 64) (ho : OKT R tk) (h0 : 0 < tk.length) : Calls Try.prog 21 [.pointer (some ⟨bb, 0, none⟩)].toArray w (Rt fun r w' => r = .int .i64 ((rawT R tk).length : Nat) ∧ Upd [] w w') := by
 have hb := ho.bd hR.1
 have h := Size_ok bb R M (bldF R tk).raw (bldF R tk).st (bldF R tk).last (bldF R tk).n r0 w hB hr hR ⟨hb.1, hb.2.1⟩
 rw [bld_n, ← raw_sz hR.1 h0] at h
 exact h
end Go.Proofs.Ytifnmbmijljhfaa.E
namespace Go.Proofs.Ytifnmbmijljhfaa.E
open Go
theorem built_ok (R M : Nat) (x : Value) (l : List Pr2) (w : World) (hR : 1 ≤ R ∧ R ≤ 64) (hM : 64 ≤ M ∧ M ≤ 65536) (hx : RdS pairC w x l) (hl : l.length ≤ 140737488351232) (hll : ∀ i, (l.getD i ([], [])).1.length ≤ 140737488355328 ∧ (l.getD i ([], [])).2.length ≤ 140737488355328) : Calls Try.prog 7 [.int .i64 (R : Nat), .int .i64 (M : Nat), x].toArray w (Rt fun r w' => ∃ v tk vt rv rt, r = .tuple [v, vt, .int .i64 ((rawT R tk).length : Nat), .bool true].toArray ∧ SlS pairC 2 50 v tk rv ∧ SlE byteV 5 vt (tileT R tk) rt ∧ OKT R tk ∧ 0 < tk.length ∧ Mem w [] w' [rv, rt]) := by
 have hM0 : Mem w [] w [] := Mem.nil w []
 refine calls_vc mixed Try.func7 rfl C7 (by simp [Try.ntmps7]) <| seq fun _ h1 => mv <| mv <| mv <| mv <| h1 _ _ <| seq fun _ h2 => mv <| mv <| m_call (NewBuilder_ok R M w hR hM) rfl fun v3 w3 ⟨bb3, rs3, hr3, hB3, hm3⟩ => ?_
 have hM3 : Mem w [] w3 [rs3] := hM0.add hm3
 subst hr3
 refine mv <| ext rfl rfl <| ext rfl rfl <| mv <| mv <| h2 _ _ <| seq fun _ h4 => seq fun _ h5 => mv <| stp (v := .bool false) (o_bin rfl rfl v_neF) <| mv <| splitF rfl <| gmv rfl <| stg rfl (v := .bool false) (o_isnil rfl rfl) ?_
 refine pkF rfl <| h5 _ _ <| cndF rfl <| h4 _ _ <| seq fun _ h6 => mv <| h6 _ _ <| seq fun _ h7 => mv <| h7 _ _ <| seq fun _ h8 => seq fun _ h9 => mv <| h9 _ _ ?_
 have hM10 : Mem w [] w3 [rs3, []] := hM3.addNil
 have hs10 : SlS pairC 2 50 (.slice none 0 0) [] [] := Sl.nil 2 50
 refine lp (n := fun _ _ => False) (ι := (Nat) × (List Pr2) × (Bool) × (List Ent) × (Value) × (List Ent)) (fun ⟨i, tk, fu, rB, y12_, r12_⟩ f w' => f 14 = .int .i64 (i : Nat) ∧ f 13 = .bool fu ∧ f 12 = y12_ ∧ f 10 = .pointer (some ⟨bb3, 0, none⟩) ∧ f 2 = x ∧ Mem w [] w' [rB, r12_] ∧ (i ≤ l.length) ∧ (BldT bb3 R M tk rB) ∧ (OKT R tk) ∧ (tk.length ≤ 65536) ∧ (SlS pairC 2 50 y12_ (tk) r12_)) (fun ⟨i, tk, fu, rB, y12_, r12_⟩ => l.length - i) (0, [], false, rs3, ((.slice none 0 0)), ([])) ?_ ?_
 ·exact ⟨vi, rfl, rfl, rfl, rfl, hM10, by omega, hB3, OKT.nil R, Nat.zero_le _, by first | exact hs10 | simpa using hs10⟩
 rintro ⟨i, tk, fu, rB, y12_, r12_⟩ f w11 ⟨e11_14, e11_13, e11_12, e11_10, e11_2, hM11, hi, hB, ho, htl, hy12_⟩ K12 h12
 obtain ⟨frm, rfl⟩ := re5 e11_14 e11_13 e11_12 e11_10 e11_2
 refine seq fun _ h13 => seq fun _ h14 => mv <| mv <| stp (v := .int .i64 (l.length : Nat)) (o_lenR (hx.upd hM11.upd) rfl rfl) <| bn rfl rfl <| mv <| splitP rfl (fun c15 => ?_) (fun c15 => ?_)
 ·refine gmv rfl <| stg rfl (v := .bool (!fu)) (o_not rfl rfl) <| pkT rfl <| h14 _ _ <| cnd rfl (fun c16 => ?_) (fun c16 => ?_)
  ·refine h13 _ _ <| seq fun _ h17 => seq fun _ h18 => ?_
   intro wd e1 e2 e3 e4
   have hd := Upd.same e1 e2 e3 e4 []
   have hM19 := hM11.pure hd
   clear e1 e2 e3 e4
   refine ⟨(some [(blkV x)]), ?_⟩
   show vd _ _ _ _ _ _ _
   refine dmv <| dmv <| dmv <| dqp (m_idxS3 ([], []) (j := i) (hx.upd hM19.upd) (hx.upd hM19.upd) rfl rfl (by omega) fun b20 o20 hp20 hbb20 => ?_)
   show vd _ _ _ _ _ _ _
   subst hbb20
   refine dfa rfl <| dmv <| dmv <| dqp (m_idxS3 ([], []) (j := i) (hx.upd hM19.upd) (hx.upd hM19.upd) rfl rfl (by omega) fun b21 o21 hp21 hbb21 => ?_)
   show vd _ _ _ _ _ _ _
   subst hbb21
   refine dfa rfl <| dqld rfl (by simp [isHeld]) (v := .string (str ((l.getD i ([], [])).2))) (hp21.get 1 rfl) <| dl (ld (v := .string (str ((l.getD i ([], [])).1))) rfl (hp20.get 0 rfl) <| ⟨(fun b hb => rfl), dl (m_call (AddT_ok bb3 R M tk ((l.getD i ([], [])).1) ((l.getD i ([], [])).2) rB wd hB (hM19.res (i := 0) rfl) hR hM.2 ho (by first | exact (hll _).1 | exact (hll _).2 | (simp; done)) (by first | exact (hll _).1 | exact (hll _).2 | (simp; done))) rfl fun v22 w22 ⟨eq_, tkq, r'22, hr22, heq, hBq, hq, hoq, hm22⟩ => ?_)⟩)
   have hM22 : Mem w [] w22 [r'22, r12_] := hM19.step 0 rfl hm22
   subst hr22
   have hh22 := held_upd (wr := wd) (bs := [(blkV x)]) hm22.upd (fun b hb => by
    simp only [List.mem_cons, List.not_mem_nil, or_false] at hb
    rw [hb]; exact ⟨Rd.blkV_ltS (hx.upd hM19.upd) (by omega), hM19.old (i := 0) rfl (Rd.blkV_ltS hx (by omega))⟩) (fun b hb => rfl)
   refine ⟨hh22, dmv <| h18 _ _ <| seq fun _ h23 => mv <| bn rfl rfl <| mv <| h23 _ _ <| seq fun _ h24 => mv <| bn rfl rfl <| h24 _ _ <| cndP rfl (fun c25 => ?_) (fun c25 => ?_)⟩
   ·refine mv <| mv <| mv <| m_idxS ([], []) (j := i) (hx.upd hM22.upd) rfl rfl (by omega) fun b26 o26 hp26 => ldA (cs := [.string (str ((l.getD i ([], [])).1)), .string (str ((l.getD i ([], [])).2))]) rfl rfl (hp26.row (k := 0) rfl rfl) <| m_app1S (enc := pairC) (q := (l.getD i ([], []))) hM22 (i := 1) rfl hy12_ rfl (by simp) (rfl) (rfl) (by first | omega | (simp; omega)) (by omega) fun v27 w27 r27 u27 (hs27 : SlS pairC 2 50 v27 (tk ++ [(l.getD i ([], []))]) r27) (hM27 : Mem w [] w27 [r'22, r27]) => mv <| h17 _ _ <| mv <| stp (v := .int .i64 ((i : Nat) + 1)) (o_bin rfl rfl (v_add64 (by omega))) <| mv ?_
    refine h12 (i + 1, tkq, decide (eq_ = 62), r'22, v27, r27) _ _ ⟨vi, rfl, rfl, rfl, rfl, hM27.keep (by simp), by omega, hBq, hoq, OKT.len hR.1 hoq, by
     rcases hq with ⟨_, h2⟩ | ⟨h1, _⟩
     ·rw [h2]; exact hs27
     exact absurd (by assumption) h1⟩ (by (try dsimp only); omega)
   refine h17 _ _ <| mv <| stp (v := .int .i64 ((i : Nat) + 1)) (o_bin rfl rfl (v_add64 (by omega))) <| mv ?_
   refine h12 (i + 1, tkq, decide (eq_ = 62), r'22, y12_, r12_) _ _ ⟨vi, rfl, rfl, rfl, rfl, hM22.keep (by simp), by omega, hBq, hoq, OKT.len hR.1 hoq, by
    rcases hq with ⟨h1, _⟩ | ⟨_, h2⟩
    ·exact absurd h1 (by assumption)
    rw [h2]; exact hy12_⟩ (by (try dsimp only); omega)
  refine h8 _ _ <| seq fun _ h28 => seq fun _ h29 => mv <| stp (v := .int .i64 (tk.length : Nat)) (o_lenR (hy12_.rd hM11 (i := 1) rfl) rfl rfl) <| bn rfl rfl <| h29 _ _ <| cndP rfl (fun c30 => ?_) (fun c30 => ?_)
  ·refine seq fun _ h31 => mv <| m_call (AddT_ok bb3 R M tk ([107]) ([118]) rB w11 hB (hM11.res (i := 0) rfl) hR hM.2 ho (by first | exact (hll _).1 | exact (hll _).2 | (simp; done)) (by first | exact (hll _).1 | exact (hll _).2 | (simp; done))) rfl fun v32 w32 ⟨eq_, tkq, r'32, hr32, heq, hBq, hq, hoq, hm32⟩ => ?_
   have hM32 : Mem w [] w32 [r'32, r12_] := hM11.step 0 rfl hm32
   subst hr32
   refine h31 _ _ ?_
   rcases (show tk = [] ∧ tkq = ([] ++ [([107], [118])] : List Pr2) from by have ht : tk = [] := List.eq_nil_of_length_eq_zero (by omega); subst ht; exact ⟨rfl, (hq.resolve_right (fun h => h.1 (by rw [heq]; exact add_first))).2⟩) with ⟨rfl, rfl⟩
   ·refine mv <| stp (v := .agg ([.string (str ([107])), .string (str ([118]))] : List Value).toArray) (o_bld rfl rfl) <| m_app1S (enc := pairC) (q := ([107], [118])) hM32 (i := 1) rfl hy12_ rfl (by simp) (rfl) (rfl) (by first | omega | (simp; omega)) (by omega) fun v33 w33 r33 u33 (hs33 : SlS pairC 2 50 v33 ([([107], [118])]) r33) (hM33 : Mem w [] w33 [r'32, r33]) => mv <| h28 _ _ <| seq fun _ h34 => mv <| m_call (SizeT_ok bb3 R M ([] ++ [([107], [118])] : List Pr2) r'32 w33 hBq (hM33.res (i := 0) rfl) hR hoq (by first | omega | (simp; done))) rfl fun v35 w35 ⟨hr35, hu35⟩ => ?_
    have hM35 : Mem w [] w35 [r'32, r33] := hM33.pure hu35
    subst hr35
    refine mv <| h34 _ _ <| seq fun _ h36 => mv <| m_call (FinishT_ok bb3 R M ([] ++ [([107], [118])] : List Pr2) r'32 w35 hBq (hM35.res (i := 0) rfl) hR hoq (by first | omega | (simp; done))) rfl fun v37 w37 ⟨y37, rb37, rs37, hr37, hs37, hB37, hm37⟩ => ?_
    have hM37 : Mem w [] w37 [rb37, r33, rs37] := hM35.stepAdd 0 rfl hm37
    subst hr37
    refine mv <| ext rfl rfl <| ext rfl rfl <| ext rfl rfl <| mv <| mv <| mv <| h36 _ _ <| seq fun _ h38 => mv <| mv <| mv <| mv <| stp (v := .bool true) (o_bin rfl rfl v_eqT) ?_
    refine mv <| splitT rfl <| gmv rfl <| gmv rfl <| stg rfl (v := .bool true) (o_bin rfl rfl v_eqT) <| pkT rfl <| mv <| splitT rfl <| gmv rfl <| gyesl rfl <| m_call (BLen_ok bb3 R M _ _ _ _ rb37 w37 hB37 (hM37.res (i := 0) rfl)) rfl fun v39 w39 ⟨hr39, hu39⟩ => ?_
    have hM39 : Mem w [] w39 [rb37, r33, rs37] := hM37.pure hu39
    subst hr39
    refine gbn rfl rfl rfl <| pkT rfl <| mv <| mv <| mv <| mv <| h38 _ _ <| ⟨(.tuple [v33, y37, .int .i64 ((rawT R ([] ++ [([107], [118])] : List Pr2)).length : Nat), .bool (decide ((((bldF R ([] : List Pr2)).n : Nat) : Int) = 0))].toArray), rfl, ⟨_, _, _, _, _, rfl, hs33, hs37, by assumption, by first | omega | (simp; done), hM39.keep (by simp)⟩⟩
  refine h28 _ _ <| seq fun _ h40 => mv <| m_call (SizeT_ok bb3 R M tk rB w11 hB (hM11.res (i := 0) rfl) hR ho (by first | omega | (simp; done))) rfl fun v41 w41 ⟨hr41, hu41⟩ => ?_
  have hM41 : Mem w [] w41 [rB, r12_] := hM11.pure hu41
  subst hr41
  refine mv <| h40 _ _ <| seq fun _ h42 => mv <| m_call (FinishT_ok bb3 R M tk rB w41 hB (hM41.res (i := 0) rfl) hR ho (by first | omega | (simp; done))) rfl fun v43 w43 ⟨y43, rb43, rs43, hr43, hs43, hB43, hm43⟩ => ?_
  have hM43 : Mem w [] w43 [rb43, r12_, rs43] := hM41.stepAdd 0 rfl hm43
  subst hr43
  refine mv <| ext rfl rfl <| ext rfl rfl <| ext rfl rfl <| mv <| mv <| mv <| h42 _ _ <| seq fun _ h44 => mv <| mv <| mv <| mv <| stp (v := .bool true) (o_bin rfl rfl v_eqT) <| mv <| splitT rfl <| gmv rfl <| gmv rfl <| stg rfl (v := .bool true) (o_bin rfl rfl v_eqT) <| pkT rfl <| mv <| splitT rfl <| gmv rfl <| gyesl rfl <| m_call (BLen_ok bb3 R M _ _ _ _ rb43 w43 hB43 (hM43.res (i := 0) rfl)) rfl fun v45 w45 ⟨hr45, hu45⟩ => ?_
  have hM45 : Mem w [] w45 [rb43, r12_, rs43] := hM43.pure hu45
  subst hr45
  refine gbn rfl rfl rfl <| pkT rfl <| mv <| mv <| mv <| mv <| h44 _ _ <| ⟨(.tuple [y12_, y43, .int .i64 ((rawT R tk).length : Nat), .bool (decide ((((bldF R ([] : List Pr2)).n : Nat) : Int) = 0))].toArray), rfl, ⟨_, _, _, _, _, rfl, hy12_, hs43, by assumption, by first | omega | (simp; done), hM45.keep (by simp)⟩⟩
 refine gx rfl <| gx rfl <| pkF rfl <| h14 _ _ <| cndF rfl <| h8 _ _ <| seq fun _ h46 => seq fun _ h47 => mv <| stp (v := .int .i64 (tk.length : Nat)) (o_lenR (hy12_.rd hM11 (i := 1) rfl) rfl rfl) <| bn rfl rfl <| h47 _ _ <| cndP rfl (fun c48 => ?_) (fun c48 => ?_)
 ·refine seq fun _ h49 => mv <| m_call (AddT_ok bb3 R M tk ([107]) ([118]) rB w11 hB (hM11.res (i := 0) rfl) hR hM.2 ho (by first | exact (hll _).1 | exact (hll _).2 | (simp; done)) (by first | exact (hll _).1 | exact (hll _).2 | (simp; done))) rfl fun v50 w50 ⟨eq_, tkq, r'50, hr50, heq, hBq, hq, hoq, hm50⟩ => ?_
  have hM50 : Mem w [] w50 [r'50, r12_] := hM11.step 0 rfl hm50
  subst hr50
  refine h49 _ _ ?_
  rcases (show tk = [] ∧ tkq = ([] ++ [([107], [118])] : List Pr2) from by have ht : tk = [] := List.eq_nil_of_length_eq_zero (by omega); subst ht; exact ⟨rfl, (hq.resolve_right (fun h => h.1 (by rw [heq]; exact add_first))).2⟩) with ⟨rfl, rfl⟩
  ·refine mv <| stp (v := .agg ([.string (str ([107])), .string (str ([118]))] : List Value).toArray) (o_bld rfl rfl) <| m_app1S (enc := pairC) (q := ([107], [118])) hM50 (i := 1) rfl hy12_ rfl (by simp) (rfl) (rfl) (by first | omega | (simp; omega)) (by omega) fun v51 w51 r51 u51 (hs51 : SlS pairC 2 50 v51 ([([107], [118])]) r51) (hM51 : Mem w [] w51 [r'50, r51]) => mv <| h46 _ _ <| seq fun _ h52 => mv <| m_call (SizeT_ok bb3 R M ([] ++ [([107], [118])] : List Pr2) r'50 w51 hBq (hM51.res (i := 0) rfl) hR hoq (by first | omega | (simp; done))) rfl fun v53 w53 ⟨hr53, hu53⟩ => ?_
   have hM53 : Mem w [] w53 [r'50, r51] := hM51.pure hu53
   subst hr53
   refine mv <| h52 _ _ <| seq fun _ h54 => mv <| m_call (FinishT_ok bb3 R M ([] ++ [([107], [118])] : List Pr2) r'50 w53 hBq (hM53.res (i := 0) rfl) hR hoq (by first | omega | (simp; done))) rfl fun v55 w55 ⟨y55, rb55, rs55, hr55, hs55, hB55, hm55⟩ => ?_
   have hM55 : Mem w [] w55 [rb55, r51, rs55] := hM53.stepAdd 0 rfl hm55
   subst hr55
   refine mv <| ext rfl rfl <| ext rfl rfl <| ext rfl rfl <| mv <| mv <| mv <| h54 _ _ <| seq fun _ h56 => mv <| mv <| mv <| mv <| stp (v := .bool true) (o_bin rfl rfl v_eqT) ?_
   refine mv <| splitT rfl <| gmv rfl <| gmv rfl <| stg rfl (v := .bool true) (o_bin rfl rfl v_eqT) <| pkT rfl <| mv <| splitT rfl <| gmv rfl <| gyesl rfl <| m_call (BLen_ok bb3 R M _ _ _ _ rb55 w55 hB55 (hM55.res (i := 0) rfl)) rfl fun v57 w57 ⟨hr57, hu57⟩ => ?_
   have hM57 : Mem w [] w57 [rb55, r51, rs55] := hM55.pure hu57
   subst hr57
   refine gbn rfl rfl rfl <| pkT rfl <| mv <| mv <| mv <| mv <| h56 _ _ <| ⟨(.tuple [v51, y55, .int .i64 ((rawT R ([] ++ [([107], [118])] : List Pr2)).length : Nat), .bool (decide ((((bldF R ([] : List Pr2)).n : Nat) : Int) = 0))].toArray), rfl, ⟨_, _, _, _, _, rfl, hs51, hs55, by assumption, by first | omega | (simp; done), hM57.keep (by simp)⟩⟩
 refine h46 _ _ <| seq fun _ h58 => mv <| m_call (SizeT_ok bb3 R M tk rB w11 hB (hM11.res (i := 0) rfl) hR ho (by first | omega | (simp; done))) rfl fun v59 w59 ⟨hr59, hu59⟩ => ?_
 have hM59 : Mem w [] w59 [rB, r12_] := hM11.pure hu59
 subst hr59
 refine mv <| h58 _ _ <| seq fun _ h60 => mv <| m_call (FinishT_ok bb3 R M tk rB w59 hB (hM59.res (i := 0) rfl) hR ho (by first | omega | (simp; done))) rfl fun v61 w61 ⟨y61, rb61, rs61, hr61, hs61, hB61, hm61⟩ => ?_
 have hM61 : Mem w [] w61 [rb61, r12_, rs61] := hM59.stepAdd 0 rfl hm61
 subst hr61
 refine mv <| ext rfl rfl <| ext rfl rfl <| ext rfl rfl <| mv <| mv <| mv <| h60 _ _ <| seq fun _ h62 => mv <| mv <| mv <| mv <| stp (v := .bool true) (o_bin rfl rfl v_eqT) <| mv <| splitT rfl <| gmv rfl <| gmv rfl <| stg rfl (v := .bool true) (o_bin rfl rfl v_eqT) <| pkT rfl <| mv <| splitT rfl <| gmv rfl <| gyesl rfl <| m_call (BLen_ok bb3 R M _ _ _ _ rb61 w61 hB61 (hM61.res (i := 0) rfl)) rfl fun v63 w63 ⟨hr63, hu63⟩ => ?_
 have hM63 : Mem w [] w63 [rb61, r12_, rs61] := hM61.pure hu63
 subst hr63
 refine gbn rfl rfl rfl <| pkT rfl <| mv <| mv <| mv <| mv <| h62 _ _ <| ⟨(.tuple [y12_, y61, .int .i64 ((rawT R tk).length : Nat), .bool (decide ((((bldF R ([] : List Pr2)).n : Nat) : Int) = 0))].toArray), rfl, ⟨_, _, _, _, _, rfl, hy12_, hs61, by assumption, by first | omega | (simp; done), hM63.keep (by simp)⟩⟩
end Go.Proofs.Ytifnmbmijljhfaa.E
namespace Go.Proofs.Ytifnmbmijljhfaa.E
open Go
theorem open_seal (b : List UInt8) : openF (sealF b) = (b, 0) := by
 have hl := seal_len b
 have ht : (sealF b).take ((sealF b).length - 4) = b := by rw [hl, Nat.add_sub_cancel]; unfold sealF; exact List.take_left' rfl
 have hd : (sealF b).drop ((sealF b).length - 4) = fixed 4 (crcN 0 b) := by rw [hl, Nat.add_sub_cancel]; unfold sealF; exact List.drop_left' rfl
 rw [open_ok (by omega) (by rw [ht, hd]), ht]
theorem u8_small {f : Nat} (h : f < 256) : f.toUInt8.toNat = f := by
 show f % 256 = f
 omega
end Go.Proofs.Ytifnmbmijljhfaa.E
namespace Go.Proofs.Ytifnmbmijljhfaa.E
open Go
theorem add_again {R : Nat} {es : List Pr2} {t : List UInt8} (h : Blk R es t) (ht : t.length ≤ 65536) {i : Nat} (hi : i < es.length) : addE R 65536 (bldF R (es.take i)).raw (bldF R (es.take i)).last (bldF R (es.take i)).n (es.getD i ([], [])).1 (es.getD i ([], [])).2 = 0 ∧ es.take (i + 1) = es.take i ++ [es.getD i ([], [])] := by
 have hR := h.1
 have hs := split_at (es' := es) (es := es.take i) (i := i) rfl hi
 have htk : es.take (i + 1) = es.take i ++ [es.getD i ([], [])] := by
  have hl : (es.take i ++ [es.getD i ([], [])]).length = i + 1 := by rw [List.length_append, List.length_take, List.length_singleton]; omega
  conv => lhs; rw [hs, show es.take i ++ es.getD i ([], []) :: es.drop (i + 1) = (es.take i ++ [es.getD i ([], [])]) ++ es.drop (i + 1) by simp]
  exact List.take_left' hl
 refine ⟨?_, htk⟩
 have hx := h.2.2.1 i hi
 have hn := bld_n R (es.take i)
 have hla := bld_last R (es.take i)
 have hlen : (es.take i).length = i := by rw [List.length_take]; omega
 obtain ⟨r, s, h1, h2⟩ := bld_ext R (es.take i ++ [es.getD i ([], [])]) (es.drop (i + 1))
 rw [List.append_assoc, List.singleton_append, ← hs] at h1
 have hbl := blk_len h
 have hraw : (bldF R (es.take i ++ [es.getD i ([], [])])).raw = (bldF R (es.take i)).raw ++ wrB (ahd R (bldF R (es.take i)).n (bldF R (es.take i)).last) (es.getD i ([], [])).1 (es.getD i ([], [])).2 := by rw [bld_snoc]; rfl
 have hl1 := congrArg List.length h1
 rw [List.length_append, hraw, List.length_append] at hl1
 have hcd : cdiv R (i + 1) ≤ cdiv R es.length := cdiv_le (by omega)
 unfold addE
 rw [if_neg (by omega), if_neg ?_, if_neg ?_]
 ·rintro ⟨q1, q2⟩
  rw [hn, hlen] at q2
  unfold szB at q2
  rw [if_neg (by omega)] at q2
  unfold cdiv at hcd hbl
  rw [hn, hlen] at hl1
  omega
 rintro ⟨q1, q2⟩
 rw [hn, hlen] at q1
 have := hx.2.2 q1
 rw [hla] at q2
 unfold lastK at q2
 rw [hlen, show (es.take i).getD (i - 1) ([], []) = es.getD (i - 1) ([], []) by simp [List.getD_eq_getElem?_getD, List.getElem?_take, show i - 1 < i by omega]] at q2
 omega
end Go.Proofs.Ytifnmbmijljhfaa.E
namespace Go.Proofs.Ytifnmbmijljhfaa.E
open Go
theorem dcode_len {fl : Nat} {p t : List UInt8} {n : Int} (hf : fl < 3) (hn : 0 ≤ n ∧ n ≤ 65536) (h : dcode fl p n = (t, 0)) : (t.length : Int) = n := by
 rcases (by omega : fl = 0 ∨ fl = 1 ∨ fl = 2) with rfl | rfl | rfl
 ·unfold dcode at h
  rw [if_pos rfl] at h
  split at h
  ·cases h; assumption
  cases h
 ·have h1 : Lz.decF p n = (t, 0) := h
  cases hr : Lz.rdF p n.toNat with
  | none => rw [Lz.decF_none (by omega) hr] at h1; cases h1
  | some ps =>
   have e := Lz.exp_rd (by omega) hr
   rw [Lz.decF_some (by omega) hr] at h1
   have h2 : Lz.textP ps = t := congrArg Prod.fst h1
   rw [← h2, Lz.textP_len, e.2.1]; omega
 have h1 : Hf.huffD p n = (t, 0) := h
 have h2 := Hf.huffD_room (b := p) (n := n) (by rw [h1])
 rw [h1] at h2
 exact h2.2.2.1
theorem tot_text {b t : List UInt8} {c : UInt8} {n : Int} (hn : 1 ≤ n ∧ n ≤ 65536) (h : textF (sealF (b ++ [c])) n = some t) : c.toNat < 3 ∧ dcode c.toNat b n = (t, 0) ∧ (t.length : Int) = n := by
 have ho := open_seal (b ++ [c])
 have hl : (b ++ [c]).length = b.length + 1 := by rw [List.length_append]; rfl
 unfold textF at h
 rw [ho] at h
 split at h
 ·rename_i q
  have q3 := q.2.2.1
  have q5 := q.2.2.2.2
  dsimp only at q3 q5 h
  rw [hl, Nat.add_sub_cancel, getD_snoc] at q3 q5 h
  rw [List.take_left' rfl] at q5 h
  have h1 : (dcode c.toNat b n).1 = t := by injection h
  have h2 : dcode c.toNat b n = (t, 0) := Prod.ext h1 q5
  exact ⟨q3, h2, dcode_len q3 (by omega) h2⟩
 cases h
theorem built0_ok (w : World) : Calls Try.prog 7 [.int .i64 (4 : Nat), .int .i64 (100 : Nat), .slice none 0 0].toArray w (Rt fun r w' => ∃ v vt n rv, r = .tuple [v, vt, n, .bool true].toArray ∧ Mem w [] w' [rv]) := by
 refine (built_ok 4 100 _ [] w (by omega) (by omega) ⟨none, 0, rfl, Nat.le_refl _, rfl, fun _ => rfl⟩ (by simp) (fun i => by simp)).mono fun en w2 h => h.elim fun v h => ⟨v, h.1, ?_⟩
 obtain ⟨v, tk, vt, rv, rt, h1, _, _, _, _, hm⟩ := h.2
 exact ⟨v, vt, _, rv ++ rt, h1, hm.keep (by simp)⟩
theorem lzN_ok (x : Value) (C T : List UInt8) (n : Int) (w : World) (hx : RdE byteV w x C) (hl : C.length ≤ 140737488351232) (hn : inK .i64 n) (h : dcode 1 C n = (T, 0)) : Calls Try.prog 11 [x, .int .i64 n].toArray w (Rt fun r w' => ∃ v rs, r = .tuple [v, .int .i64 0].toArray ∧ SlE byteV 5 v T rs ∧ Mem w [] w' [rs]) := by
 refine (Lz.Decode_ok x C n w hx (by omega) hn).mono fun en w2 h => h.elim fun v h => ⟨v, h.1, ?_⟩
 obtain ⟨v, rs, h1, h2, h3⟩ := h.2
 rw [show Lz.decF C n = (T, 0) from by assumption] at h1 h2
 exact ⟨v, rs, h1, h2, h3⟩
theorem hfN_ok (x : Value) (C T : List UInt8) (n : Int) (w : World) (hx : RdE byteV w x C) (hl : C.length ≤ 140737488351232) (hn : inK .i64 n) (h : dcode 2 C n = (T, 0)) : Calls Try.prog 12 [x, .int .i64 n].toArray w (Rt fun r w' => ∃ v rs, r = .tuple [v, .int .i64 0].toArray ∧ SlE byteV 5 v T rs ∧ Mem w [] w' [rs]) := by
 refine (Hf.Decode_ok x C n w hx (by omega) hn).mono fun en w2 h => h.elim fun v h => ⟨v, h.1, ?_⟩
 obtain ⟨v, rs, h1, h2, h3⟩ := h.2
 rw [show Hf.huffD C n = (T, 0) from by assumption] at h1 h2
 exact ⟨v, rs, h1, h2, h3⟩
theorem BlockTotal_ok (x : Value) (b : List UInt8) (c : UInt8) (n : Int) (w : World) (hn : inK .i64 n) (hx : RdE byteV w x b) (hl : b.length ≤ 140737488351232) : Calls Try.prog 5 [x, byteV c, .int .i64 n].toArray w (Rt fun r w' => r = .bool true ∧ Upd [] w w') := by
 have hM0 : Mem w [] w [] := Mem.nil w []
 simp only [inK] at hn
 refine calls_vc mixed Try.func5 rfl C5 (by simp [Try.ntmps5]) <| seq fun _ h1 => mv <| h1 _ _ <| seq fun _ h2 => m_bs hM0 rfl fun b3 w4 (hM4 : Mem w [] w4 [[⟨b3, 5, []⟩]]) => mv ?_
 have hs5 : SlE byteV 5 (.slice (some ⟨b3, 0, none⟩) 0 0) [] [⟨b3, 5, []⟩] := SlE.lit (l := []) rfl
 refine m_appE hM4 (i := 0) rfl hs5 rfl rfl (hx.upd hM4.upd) (by first | omega | (simp; omega)) (by omega) fun v6 w6 r6 (hs6 : SlE byteV 5 v6 (b) r6) (hM6 : Mem w [] w6 [r6]) => mv <| m_app1 (E := byteV) (q := c) hM6 (i := 0) rfl hs6 rfl (by simp) (rfl) (by omega) (by omega) fun v7 w7 r7 u7 (hs7 : SlE byteV 5 v7 (b ++ [c]) r7) (hM7 : Mem w [] w7 [r7]) => mv <| h2 _ _ <| seq fun _ h8 => mv <| m_call (pSeal_ok _ (b ++ [c]) w7 (hs7.rd hM7 (i := 0) rfl) (by rw [List.length_append, List.length_singleton]; omega)) rfl fun v9 w9 ⟨rs9, hs9, hm9⟩ => ?_
 have hM9 : Mem w [] w9 [r7, rs9] := hM7.add hm9
 refine mv <| m_call (BOpen_ok _ (sealF (b ++ [c])) n w9 (hs9.rd hM9 (i := 1) rfl) (by rw [seal_len, List.length_append, List.length_singleton]; omega) (by simp only [inK]; omega)) rfl fun v10 w10 ⟨rs10, hOq, hm10⟩ => ?_
 have hM10 : Mem w [] w10 [r7, rs9, rs10] := hM9.add hm10
 rcases hOq with ⟨e, rfl, he⟩ | ⟨br, R, es, t, rfl, hnn, htx, hblk, hrd, hun⟩
 ·have he2 : (e = 3 ∧ (n < 1 ∨ 65536 < n)) ∨ e = 60 := by
   rcases he with h | h | h
   ·exact .inl h
   ·exact absurd (by rw [open_seal]) h.2.1
   exact .inr h.2.2.1
  refine mv <| ext rfl rfl <| ext rfl rfl <| mv <| mv <| h8 _ _ <| seq fun _ h11 => seq fun _ h12 => mv <| bneq rfl rfl <| h12 _ _ <| cndP rfl (fun c13 => ?_) (fun c13 => (c13 (by omega)).elim)
  refine seq fun _ h14 => m_call (built0_ok w10) rfl fun v15 w15 ⟨y15, z15, n15, rs15, hr15, hm15⟩ => ?_
  have hM15 : Mem w [] w15 [r7, rs9, rs10, rs15] := hM10.add hm15
  subst hr15
  refine mv <| ext rfl rfl <| ext rfl rfl <| ext rfl rfl <| ext rfl rfl <| mv <| mv <| mv <| mv <| h14 _ _ <| seq fun _ h16 => mv <| mv <| splitT rfl ?_
  refine gmv rfl <| stg rfl (v := .bool true) (o_isnil rfl rfl) <| pkT rfl <| mv <| splitT rfl <| gmv rfl <| gbn rfl rfl rfl <| gmv rfl <| splitP rfl (fun c17 => ?_) (fun c17 => ?_)
  ·refine gx rfl <| gx rfl <| gx rfl <| splitU rfl <| gnou rfl <| gnou rfl <| gnou rfl <| splitU rfl <| gnou rfl <| gnou rfl <| gnou rfl <| gx rfl <| gpkT rfl rfl <| pkT rfl ?_
   refine mv <| h16 _ _ <| ⟨(.bool true), rfl, ⟨by first | rfl | exact congrArg Value.bool (decide_eq_true (by omega)), hM15.upd⟩⟩
  refine gmv rfl <| gbn rfl rfl rfl <| gmv rfl <| splitP rfl (fun c18 => ?_) (fun c18 => (c18 (by omega)).elim)
  refine gmv rfl <| gbn rfl rfl rfl <| gmv rfl <| splitP rfl (fun c19 => ?_) (fun c19 => ?_)
  ·refine gx rfl <| gx rfl <| gpkT rfl rfl <| gpkT rfl rfl <| gpkF rfl rfl <| pkT rfl <| mv <| h16 _ _ <| ⟨(.bool true), rfl, ⟨by first | rfl | exact congrArg Value.bool (decide_eq_true (by omega)), hM15.upd⟩⟩
  refine gmv rfl <| gbn rfl rfl rfl <| gpkF rfl rfl <| gpkT rfl rfl <| gpkF rfl rfl <| pkT rfl <| mv <| h16 _ _ <| ⟨(.bool (decide ((65536 : Int) < n))), rfl, ⟨by first | rfl | exact congrArg Value.bool (decide_eq_true (by omega)), hM15.upd⟩⟩
 obtain ⟨hc3, hdc, htl⟩ := tot_text hnn htx
 have hb8 := blk_len hblk
 have hR := hblk.1
 have hes := hblk.2.1
 have hdc1 : ¬ c.toNat = 2 → (if c.toNat = 1 then t else b) = t := fun h => by
  by_cases q : c.toNat = 1
  ·rw [if_pos q]
  rw [if_neg q]
  have h0 := hdc
  rw [show c.toNat = 0 by omega] at h0
  unfold dcode at h0
  rw [if_pos rfl] at h0
  split at h0
  ·exact congrArg Prod.fst h0
  cases h0
 obtain ⟨E, hE⟩ : ∃ E, E = t.length - 8 := ⟨_, rfl⟩
 obtain ⟨hw1, hw2⟩ := blk_nums hblk (by omega) hE
 have hrt : rawT R es = t := hblk.2.2.2.symm
 have hb3 := bld_raw (R := R) es hblk.2.2.1
 refine mv <| ext rfl rfl <| ext rfl rfl <| mv <| mv <| h8 _ _ <| seq fun _ h20 => seq fun _ h21 => mv <| stp (v := .bool false) (o_bin rfl rfl v_neF) <| h21 _ _ <| cndF rfl <| h20 _ _ <| seq fun _ h22 => mv <| mv <| h22 _ _ <| seqc (fun f w' => ∃ (vq : Value) (rq : List Ent), f 14 = vq ∧ f 0 = x ∧ f 1 = byteV c ∧ f 2 = .int .i64 n ∧ f 8 = .pointer (some ⟨br, 0, none⟩) ∧ Mem w [] w' [r7, rs9, rs10, rq] ∧ (∀ w2, (∀ e ∈ rq, Own w2 e) → Upd [] w w2 → RdE byteV w2 vq (if c.toNat = 1 then t else b))) ?_ ?_
 ·intro K23 h23
  refine seq fun _ h25 => mv <| bn rfl rfl <| h25 _ _ <| cndP rfl (fun c26 => ?_) (fun c26 => ?_)
  ·refine mv <| mv <| m_call (lzN_ok _ b t n w10 (hx.upd hM10.upd) (by omega) (by simp only [inK]; omega) (by have q := hdc; rw [show c.toNat = 1 by omega] at q; exact q)) rfl fun v27 w27 ⟨y27, rs27, hr27, hs27, hm27⟩ => ?_
   have hM27 : Mem w [] w27 [r7, rs9, rs10, rs27] := hM10.add hm27
   subst hr27
   refine mv <| ext rfl rfl <| ext rfl rfl <| mv <| h23 _ _ ⟨y27, rs27, rfl, rfl, vi, vi, rfl, hM27.keep (by simp), fun w2 h2 _ => by rw [if_pos (by omega)]; exact (hs27).rdOwn h2⟩
  refine h23 _ _ ⟨x, ([]), rfl, rfl, vi, vi, rfl, hM10.keep (by simp), fun w2 _ hu => by rw [if_neg (by omega)]; exact hx.upd hu⟩
 rintro f w24 ⟨vq, rq, e24_14, e24_0, e24_1, e24_2, e24_8, hM24, hq⟩
 obtain ⟨frm, rfl⟩ := re5 e24_14 e24_0 e24_1 e24_2 e24_8
 refine seqc (fun f w' => ∃ (vq : Value) (rq : List Ent), f 14 = vq ∧ f 2 = .int .i64 n ∧ f 8 = .pointer (some ⟨br, 0, none⟩) ∧ Mem w [] w' [r7, rs9, rs10, rq] ∧ (∀ w2, (∀ e ∈ rq, Own w2 e) → Upd [] w w2 → RdE byteV w2 vq t)) ?_ ?_
 ·intro K28 h28
  refine seq fun _ h30 => mv <| bn rfl rfl <| h30 _ _ <| cndP rfl (fun c31 => ?_) (fun c31 => ?_)
  ·refine mv <| mv <| m_call (hfN_ok _ b t n w24 (hx.upd hM24.upd) (by omega) (by simp only [inK]; omega) (by have q := hdc; rw [show c.toNat = 2 by omega] at q; exact q)) rfl fun v32 w32 ⟨y32, rs32, hr32, hs32, hm32⟩ => ?_
   have hM32 : Mem w [] w32 [r7, rs9, rs10, rq, rs32] := hM24.add hm32
   subst hr32
   refine mv <| ext rfl rfl <| ext rfl rfl <| mv <| h28 _ _ ⟨y32, (rq ++ rs32), rfl, vi, rfl, hM32.keep (by simp), fun w2 h2 _ => (hs32).rdOwn fun e he => h2 e (List.mem_append_right _ he)⟩
  refine h28 _ _ ⟨vq, rq, rfl, vi, rfl, hM24.keep (by simp), fun w2 h1 h2 => hdc1 (by omega) ▸ hq w2 h1 h2⟩
 rintro f w29 ⟨vq, rq, e29_14, e29_2, e29_8, hM29, hq⟩
 obtain ⟨frm, rfl⟩ := re3 e29_14 e29_2 e29_8
 refine seq fun _ h33 => seq fun _ h34 => mv <| stp (v := .int .i64 (t.length : Nat)) (o_lenR (hq _ (hM29.res (i := 3) rfl).1 hM29.upd) rfl rfl) <| mv <| bneq rfl rfl <| mv <| splitP rfl (fun c35 => absurd c35 (by omega)) (fun c35 => gmv rfl <| gbn rfl rfl rfl <| pkF rfl <| mv <| splitP rfl (fun c36 => absurd c36 (by omega)) (fun c36 => gmv rfl <| gyesl rfl <| m_call (RLen_ok br R es rs10 w29 hrd (hM29.res (i := 2) rfl)) rfl fun v37 w37 ⟨hr37, hm37⟩ => ?_))
 have hM37 : Mem w [] w37 [r7, rs9, rs10, rq] := hM29.step 2 rfl hm37
 subst hr37
 refine gbn rfl rfl rfl <| pkF rfl <| h34 _ _ <| cndP rfl (fun c38 => absurd c38 (by omega)) (fun c38 => h33 _ _ <| seq fun _ h39 => mv <| mv <| stp (v := .int .i64 (n - 8)) (o_bin rfl rfl (v_sub64 (by omega))) <| mv <| stp (v := .int .i64 (n - 4)) (o_bin rfl rfl (v_sub64 (by omega))) <| m_slcE E (E + 4) (hq _ (hM37.res (i := 3) rfl).1 hM37.upd) rfl (by omega) (by omega) ⟨_, v_int (by omega)⟩ ⟨_, v_int (by omega)⟩ fun u40 hu40 => m_call (Word_ok _ ((t.take (E + 4)).drop E) w37 (hu40) (by first | omega | (simp; done) | (simp; omega))) rfl fun v41 w41 ⟨hr41, hu41⟩ => ?_)
 have hM41 : Mem w [] w41 [r7, rs9, rs10, rq] := hM37.pure hu41
 subst hr41
 refine mv <| h39 _ _ <| seq fun _ h42 => mv <| stp (v := .int .i64 (R : Nat)) (o_conv rfl (by rw [hw1]; exact conv_i64 (by omega))) <| m_call (NewBuilder_ok R 65536 w41 (by omega) (by omega)) rfl fun v43 w43 ⟨bb43, rs43, hr43, hB43, hm43⟩ => ?_
 have hM43 : Mem w [] w43 [r7, rs9, rs10, rq, rs43] := hM41.add hm43
 subst hr43
 refine mv <| ext rfl rfl <| ext rfl rfl <| mv <| mv <| h42 _ _ <| seq fun _ h44 => seq fun _ h45 => mv <| stp (v := .bool false) (o_bin rfl rfl v_neF) <| h45 _ _ <| cndF rfl <| h44 _ _ <| seq fun _ h46 => seq fun _ h47 => mv <| h47 _ _ <| lp (n := fun _ _ => False) (ι := (Nat) × (List Ent)) (fun ⟨i, rB⟩ f w' => f 18 = .int .i64 (i : Nat) ∧ f 16 = .pointer (some ⟨bb43, 0, none⟩) ∧ f 2 = .int .i64 n ∧ f 8 = .pointer (some ⟨br, 0, none⟩) ∧ f 14 = vq ∧ Mem w [] w' [r7, rs9, rs10, rq, rB] ∧ (i ≤ es.length) ∧ (BldT bb43 R 65536 (es.take i) rB) ∧ (OKT R (es.take i))) (fun ⟨i, rB⟩ => es.length - i) (0, rs43) ?_ ?_
 ·exact ⟨vi, rfl, vi, rfl, rfl, hM43, by omega, hB43, OKT.nil R⟩
 rintro ⟨i, rB⟩ f w48 ⟨e48_18, e48_16, e48_2, e48_8, e48_14, hM48, hi, hB, ho⟩ K49 h49
 obtain ⟨frm, rfl⟩ := re5 e48_18 e48_16 e48_2 e48_8 e48_14
 refine seq fun _ h50 => seq fun _ h51 => mv <| mv <| m_call (RLen_ok br R es rs10 w48 hrd (hM48.res (i := 2) rfl)) rfl fun v52 w52 ⟨hr52, hm52⟩ => ?_
 have hM52 : Mem w [] w52 [r7, rs9, rs10, rq, rB] := hM48.step 2 rfl hm52
 subst hr52
 refine bn rfl rfl <| h51 _ _ <| cndP rfl (fun c53 => ?_) (fun c53 => ?_)
 ·refine h50 _ _ <| seq fun _ h54 => seq fun _ h55 => mv <| mv <| m_call (At_ok br R es i (by omega) rs10 w52 hrd (hM52.res (i := 2) rfl)) rfl fun v56 w56 ⟨hr56, hm56⟩ => ?_
  have hM56 : Mem w [] w56 [r7, rs9, rs10, rq, rB] := hM52.step 2 rfl hm56
  subst hr56
  refine mv <| ext rfl rfl <| ext rfl rfl <| ext rfl rfl <| mv <| mv <| mv <| h55 _ _ <| seq fun _ h57 => mv <| stp (v := .bool false) (o_bin rfl rfl v_neF) <| mv <| splitF rfl <| gmv rfl ?_
  refine gmv rfl <| gmv rfl <| gyesl rfl <| m_call (AddT_ok bb43 R 65536 (es.take i) ((es.getD i ([], [])).1) ((es.getD i ([], [])).2) rB w56 hB (hM56.res (i := 4) rfl) (by omega) (by omega) ho (by have := (hblk.2.2.1 i (by omega)).1; omega) (by have := (hblk.2.2.1 i (by omega)).2.1; omega)) rfl fun v58 w58 ⟨eq_, tkq, r'58, hr58, heq, hBq, hq, hoq, hm58⟩ => ?_
  have hM58 : Mem w [] w58 [r7, rs9, rs10, rq, r'58] := hM56.step 4 rfl hm58
  obtain ⟨ha58, hta58⟩ := add_again hblk (by omega) (i := i) (by omega)
  have hq058 : eq_ = 0 := heq.trans ha58
  obtain rfl : tkq = es.take (i + 1) := by
   rcases hq with ⟨_, h2⟩ | ⟨h1, _⟩
   ·rw [h2, hta58]
   exact absurd hq058 h1
  subst hq058
  subst hr58
  refine stg rfl (v := .bool false) (o_bin rfl rfl v_neF) <| pkF rfl <| h57 _ _ <| cndF rfl <| h54 _ _ <| mv <| stp (v := .int .i64 ((i : Nat) + 1)) (o_bin rfl rfl (v_add64 (by omega))) <| mv <| h49 (i + 1, r'58) _ _ ⟨vi, rfl, vi, rfl, rfl, hM58.keep (by simp), by omega, hBq, hoq⟩ (by (try dsimp only); omega)
 refine h46 _ _ <| seq fun _ h59 => ?_
 obtain rfl : i = es.length := by omega
 rw [List.take_of_length_le (Nat.le_refl _)] at hB ho
 refine mv <| m_call (SizeT_ok bb43 R 65536 es rB w52 hB (hM52.res (i := 4) rfl) (by omega) ho (by first | omega | (simp; done))) rfl fun v60 w60 ⟨hr60, hu60⟩ => ?_
 have hM60 : Mem w [] w60 [r7, rs9, rs10, rq, rB] := hM52.pure hu60
 subst hr60
 refine mv <| bn rfl rfl <| mv <| splitP rfl (fun c61 => ?_) (fun c61 => (c61 (by rw [hrt]; omega)).elim)
 refine gmv rfl <| gmv rfl <| stg rfl (v := .int .i64 (n - 4)) (o_bin rfl rfl (v_sub64 (by omega))) <| gyes rfl rfl (m_slcE (E + 4) t.length (hq _ (hM60.res (i := 3) rfl).1 hM60.upd) rfl (by omega) (by omega) rfl ⟨_, v_int (by omega)⟩ fun u62 hu62 => gyesl rfl <| m_call (Word_ok _ ((t.take t.length).drop (E + 4)) w60 (hu62) (by first | omega | (simp; done) | (simp; omega))) rfl fun v63 w63 ⟨hr63, hu63⟩ => ?_)
 have hM63 : Mem w [] w63 [r7, rs9, rs10, rq, rB] := hM60.pure hu63
 subst hr63
 refine gmv rfl <| gyesl rfl <| m_call (RLen_ok br R es rs10 w63 hrd (hM63.res (i := 2) rfl)) rfl fun v64 w64 ⟨hr64, hm64⟩ => ?_
 have hM64 : Mem w [] w64 [r7, rs9, rs10, rq, rB] := hM63.step 2 rfl hm64
 subst hr64
 refine stg rfl (v := .int .u64 (es.length : Nat)) (o_conv rfl (conv_u64 (by omega) (by omega))) <| gbn rfl rfl rfl <| pkT rfl <| mv <| h59 _ _ <| ⟨(.bool (decide (((word ((t.take t.length).drop (E + 4)) : Nat) : Int) = (es.length : Nat)))), rfl, ⟨congrArg Value.bool (decide_eq_true (by rw [List.take_of_length_le (Nat.le_refl _), hw2])), hM64.upd⟩⟩
theorem BlockTotal_row (x : Value) (b : List UInt8) (a1 n : Int) (h1 : inK .u8 a1) (hn : inK .i64 n) (w : World) (hx : RdE byteV w x b) (hl : b.length ≤ 140737488351232) : Calls Try.prog 5 [x, .int .u8 a1, .int .i64 n].toArray w (Rt fun r w' => r = .bool true ∧ Upd [] w w') := by
 simp only [inK] at h1
 obtain ⟨m, rfl⟩ : ∃ m : Nat, a1 = (m : Int) := ⟨a1.toNat, by omega⟩
 have e : Value.int .u8 ((m : Nat) : Int) = byteV m.toUInt8 := by
  show _ = Value.int .u8 ((m.toUInt8.toNat : Nat) : Int)
  rw [u8_small (by omega)]
 rw [e]
 exact BlockTotal_ok x b m.toUInt8 n w hn hx hl
end Go.Proofs.Ytifnmbmijljhfaa.E
