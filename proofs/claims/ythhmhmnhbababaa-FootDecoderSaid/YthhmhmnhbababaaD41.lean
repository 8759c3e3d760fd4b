/- The reference reads a footer: filters, blocks, partitions. -/
import Derived.Test.YthhmhmnhbababaaD40
import Derived.Test.YthhmhmnhbababaaE23
namespace Go.Proofs.Ythhmhmnhbababaa.E
open Go
theorem rNumN_ok (bc : Nat) (b : List UInt8) (a : Nat) (e m : Int) (r0 : List Ent) (w : World) (hc : RcS bc b a e r0) (hr : Res w r0) (hl : b.length ≤ 140737488355328) (hm : 0 ≤ m) : Calls Try.prog 92 [.pointer (some ⟨bc, 0, none⟩), .int .i64 m].toArray w (Rt fun r w' => ∃ V a' e' r', r = .int .i64 V ∧ NumR b a e m V a' e' ∧ RcS bc b a' e' r' ∧ Mem w (ids r0) w' [r']) :=
 (rNum_ok bc b a e m r0 w hc hr hl).mono fun en w2 h => h.elim fun v h => ⟨v, h.1, by
  obtain ⟨h1, r2, h2, h3⟩ := h.2
  exact ⟨_, _, _, r2, h1, cNum_R b a e m hm, h2, h3⟩⟩
theorem rTextN_ok (bc : Nat) (b : List UInt8) (a : Nat) (e m : Int) (r0 : List Ent) (w : World) (hc : RcS bc b a e r0) (hr : Res w r0) (hl : b.length ≤ 140737488355328) (hm : 0 ≤ m) : Calls Try.prog 94 [.pointer (some ⟨bc, 0, none⟩), .int .i64 m].toArray w (Rt fun r w' => ∃ V a' e' r', r = .string (str V) ∧ TxR b a e m V a' e' ∧ RcS bc b a' e' r' ∧ Mem w (ids r0) w' [r']) :=
 (rText_ok bc b a e m r0 w hc hr hl).mono fun en w2 h => h.elim fun v h => ⟨v, h.1, by
  obtain ⟨h1, r2, h2, h3⟩ := h.2
  exact ⟨_, _, _, r2, h1, cTx_R b a e m hm, h2, h3⟩⟩
theorem PaInv.stepR {b : List UInt8} {parts : Int} {a a1 a2 a4 : Nat} {e n last e1 e2 e4 V1 : Int} {T : List UInt8} {ps : List Pp} {bl : List Bi} (h : PaInv b parts a e n last ps) (hn : 0 < n) (h1 : NumR b a e 65535 V1 a1 e1) (h2 : TxR b a1 e1 (b.length : Nat) T a2 e2)
 (h3 : BlSpec b a2 e2 bl a4 e4) (hbl : b.length ≤ 140737488351232) : PaInv b parts a4 e4 (n - 1) (last + 1 + V1) (ps ++ [⟨last + 1 + V1, bl, (decF T).1, (decF T).2.1, (decF T).2.2.1⟩]) := by
 intro P QS hf hb
 obtain ⟨rfl, he, Q2, k, rfl, rfl, hd, hi, hl⟩ := h P QS hf hb
 cases Q2 with
 | nil => simp at hn
 | cons q Q2 =>
  have hq := hi.1.1
  have hkb := hi.1.2
  unfold parOk at hq
  have hpar := hf.1
  have el := encF_len q.a q.h q.d
  have hde := dec_enc (encF_fk hq.2.2.2.1)
  have hib : infB last (q :: Q2) = parB last q ++ infB q.part Q2 := rfl
  rw [hib] at hd
  unfold parB at hd
  simp only [putAll_cons, putAll_nil, List.append_nil, List.append_assoc] at hd
  have hll := congrArg List.length hd
  simp only [List.length_append, List.length_drop] at hll
  obtain ⟨rfl, k1, d1⟩ := h1.2 _ _ he hd (by omega) (by omega) (by omega)
  obtain ⟨rfl, k2, d2⟩ := h2.2 _ _ k1 d1 (by omega) (by omega)
  obtain ⟨k3, rfl, d3⟩ := h3 _ _ k2 d2 hq.2.2.2.2 (by omega)
  have hpp : last + 1 + (q.part - last - 1) = q.part := by omega
  rw [hpp, hde]
  refine ⟨rfl, k3, Q2, _, ?_, by simp, d3, hi.2, by omega⟩
  rw [List.append_assoc]; rfl
theorem dec_h0 {b : List UInt8} (h1 : (b.length : Int) = 1) (h : ((b.getD 0 0).toNat : Int) = 0) : decF b = (false, 0, [], 0) := by
 match b, h1, h with
 | [c], _, h => rw [decF_cons, if_pos (by simpa using h)]; rfl
theorem dec_h255 {b : List UInt8} (h1 : (b.length : Int) = 1) (h : ((b.getD 0 0).toNat : Int) = 255) : decF b = (true, 0, [], 0) := by
  match b, h1, h with
  | [c], _, h =>
    have e : c.toNat = 255 := by have : ((c.toNat : Nat) : Int) = 255 := by simpa using h
                                 omega
    rw [decF_cons, if_neg (by omega), if_pos e]; rfl
theorem dec_hbad {b : List UInt8} (n0 : ¬ ((b.length : Int) = 1 ∧ ((b.getD 0 0).toNat : Int) = 0)) (n1 : ¬ ((b.length : Int) = 1 ∧ ((b.getD 0 0).toNat : Int) = 255)) (h : (b.length : Int) < 1 ∨ ((b.getD 0 0).toNat : Int) < 1 ∨ (8 : Int) < ((b.getD 0 0).toNat : Int)) : decF b = (false, 0, [], 70) := by
 cases b with
 | nil => rfl
 | cons c r =>
  have e : (c :: r).getD 0 0 = c := rfl
  rw [e] at n0 n1 h
  simp only [List.length_cons] at n0 n1 h
  rw [decF_cons]
  by_cases c0 : c.toNat = 0
  ·rw [if_pos c0, if_neg (by omega)]
  rw [if_neg c0]
  by_cases c1 : c.toNat = 255
  ·rw [if_pos c1, if_neg (by omega)]
  rw [if_neg c1, if_pos (by omega)]
theorem dec_hget {b : List UInt8} (h : ¬ (b.length : Int) < 1) (h1 : ¬ ((b.getD 0 0).toNat : Int) < 1) (h8 : ¬ (8 : Int) < ((b.getD 0 0).toNat : Int)) :
 decF b = if ¬ (get (b.drop 1)).2.2 = 0 ∨ (get (b.drop 1)).1 < 1 ∨ 4096 < (get (b.drop 1)).1 ∨ ¬ b.length = 1 + (get (b.drop 1)).2.1 + (get (b.drop 1)).1 then (false, 0, [], 70) else (false, ((b.getD 0 0).toNat : Int), b.drop (1 + (get (b.drop 1)).2.1), 0) := by
 cases b with
 | nil => simp at h
 | cons c r =>
  have e : (c :: r).getD 0 0 = c := rfl
  rw [e] at h1 h8 ⊢
  rw [decF_cons, if_neg (by omega), if_neg (by omega), if_neg (by omega), List.drop_succ_cons, List.drop_zero, Nat.add_comm 1 (get r).2.1, List.drop_succ_cons]
  by_cases g : ¬ (get r).2.2 = 0 ∨ (get r).1 < 1 ∨ 4096 < (get r).1 ∨ ¬ r.length = (get r).2.1 + (get r).1
  ·rw [if_pos g, if_pos (by simp only [List.length_cons]; omega)]
  rw [if_neg g, if_neg (by simp only [List.length_cons]; omega)]
theorem get_le {b : List UInt8} : (get b).2.1 ≤ b.length ∨ ¬ (get b).2.2 = 0 := by
 by_cases h : (get b).2.2 = 0
 ·exact .inl (get_ok h).2.1
 exact .inr h
set_option maxRecDepth 100000 in
theorem refDecode_ok (x : Value) (b : List UInt8) (w : World) (hx : RdE byteV w x b) (hl : b.length ≤ 140737488351232) : Calls Try.prog 95 [x].toArray w (Rt fun r w' => ∃ v rs, r = .tuple #[.agg #[.bool (decF b).1, .int .i64 (decF b).2.1, v], .int .i64 (decF b).2.2.2] ∧ SlE byteV 5 v (decF b).2.2.1 rs ∧ Mem w [] w' [rs]) := by
 have hM0 : Mem w [] w [] := Mem.nil w []
 refine calls_vc mixed Try.func95 rfl C95 (by simp [Try.ntmps95]) <| seq fun _ h1 => m_al hM0 fun b2 w3 (hM3 : Mem w [] w3 [[⟨b2, 69, [.bool false, .int .i64 0, .slice none 0 0]⟩]]) => stp (v := .int .i64 0) (o_mv rfl) <| h1 _ _ <| seq fun _ h4 => seq fun _ h5 => stp (v := x) (o_mv rfl) <| stp (v := .int .i64 (b.length : Nat)) (o_lenR (hx.upd hM3.upd) rfl rfl) <| stp (v := .bool (decide (((b.length : Nat) : Int) = 1))) (o_bin rfl rfl rfl) <| stp (v := .bool (decide (((b.length : Nat) : Int) = 1))) (o_mv rfl) <| splitP rfl (fun c6 => ?_) (fun c6 => ?_)
 ·refine stg rfl (v := x) (o_mv rfl) <| gyes rfl rfl (m_idxE 0 (j := 0) (hx.upd hM3.upd) rfl rfl (by omega) fun b7 o7 hp7 => gyesl rfl <| ld (v := byteV (b.getD 0 0)) rfl (hp7) <| stg rfl (v := .bool (decide (((b.getD 0 0).toNat : Int) = 0))) (o_bin rfl rfl rfl) <| stp (v := .bool (decide (((b.getD 0 0).toNat : Int) = 0))) (o_pickT rfl rfl) <| h5 _ _ <| cndP rfl (fun c8 => ?_) (fun c8 => ?_))
  ·refine seq fun _ h9 => stp (v := .agg ([.bool false, .int .i64 0, .slice none 0 0] : List Value).toArray) (o_bld rfl rfl) <| m_stA (l := [.bool false, .int .i64 0, .slice none 0 0]) hM3 (i := 0) rfl rfl rfl rfl (by simp [oneCells, Value.oneCell', byteV]) (by simp) fun w10 (hM10 : Mem w [] w10 [[⟨b2, 69, [.bool false, .int .i64 0, .slice none 0 0]⟩]]) => stp (v := .int .i64 0) (o_mv rfl) <| h9 _ _ ?_
   show resV _ _ _ _ _
   refine res_cell (s := some 3) (by kernel_rfl) <| vl_ldA (cs := [.bool false, .int .i64 0, .slice none 0 0]) rfl rfl ((hM10.at (i := 0) (j := 0) rfl rfl).agg rfl rfl) <| res_tmp <| ⟨(.tuple [.agg ([.bool false, .int .i64 0, .slice none 0 0] : List Value).toArray, .int .i64 0].toArray), rfl, ?_⟩
   have e := dec_h0 (b := b) (by omega) (by omega); exact ⟨_, _, by rw [e], by rw [e]; exact Sl.nil 1 5, (hM10.addNil).keep (by simp)⟩
  refine h4 _ _ <| seq fun _ h11 => seq fun _ h12 => stp (v := x) (o_mv rfl) <| stp (v := .int .i64 (b.length : Nat)) (o_lenR (hx.upd hM3.upd) rfl rfl) <| stp (v := .bool (decide (((b.length : Nat) : Int) = 1))) (o_bin rfl rfl rfl) <| stp (v := .bool (decide (((b.length : Nat) : Int) = 1))) (o_mv rfl) <| splitP rfl (fun c13 => ?_) (fun c13 => ?_)
  ·refine stg rfl (v := x) (o_mv rfl) <| gyes rfl rfl (m_idxE 0 (j := 0) (hx.upd hM3.upd) rfl rfl (by omega) fun b14 o14 hp14 => gyesl rfl <| ld (v := byteV (b.getD 0 0)) rfl (hp14) <| stg rfl (v := .bool (decide (((b.getD 0 0).toNat : Int) = 255))) (o_bin rfl rfl rfl) <| stp (v := .bool (decide (((b.getD 0 0).toNat : Int) = 255))) (o_pickT rfl rfl) <| h12 _ _ <| cndP rfl (fun c15 => ?_) (fun c15 => ?_))
   ·refine seq fun _ h16 => stp (v := .agg ([.bool true, .int .i64 0, .slice none 0 0] : List Value).toArray) (o_bld rfl rfl) <| m_stA (l := [.bool true, .int .i64 0, .slice none 0 0]) hM3 (i := 0) rfl rfl rfl rfl (by simp [oneCells, Value.oneCell', byteV]) (by simp) fun w17 (hM17 : Mem w [] w17 [[⟨b2, 69, [.bool true, .int .i64 0, .slice none 0 0]⟩]]) => stp (v := .int .i64 0) (o_mv rfl) <| h16 _ _ ?_
    show resV _ _ _ _ _
    refine res_cell (s := some 3) (by kernel_rfl) <| vl_ldA (cs := [.bool true, .int .i64 0, .slice none 0 0]) rfl rfl ((hM17.at (i := 0) (j := 0) rfl rfl).agg rfl rfl) <| res_tmp <| ⟨(.tuple [.agg ([.bool true, .int .i64 0, .slice none 0 0] : List Value).toArray, .int .i64 0].toArray), rfl, ?_⟩
    have e := dec_h255 (b := b) (by omega) (by omega); exact ⟨_, _, by rw [e], by rw [e]; exact Sl.nil 1 5, (hM17.addNil).keep (by simp)⟩
   refine h11 _ _ <| seq fun _ h18 => seq fun _ h19 => stp (v := x) (o_mv rfl) <| stp (v := .int .i64 (b.length : Nat)) (o_lenR (hx.upd hM3.upd) rfl rfl) <| stp (v := .bool (decide (((b.length : Nat) : Int) < 1))) (o_bin rfl rfl rfl) <| stp (v := .bool (decide (((b.length : Nat) : Int) < 1))) (o_mv rfl) <| splitP rfl (fun c20 => ?_) (fun c20 => ?_)
   ·refine gx rfl <| gx rfl <| gxl rfl <| gx rfl <| stp (v := .bool true) (o_pickT rfl rfl) <| stp (v := .bool true) (o_mv rfl) <| splitT rfl <| gx rfl <| gx rfl <| gxl rfl <| gx rfl <| stp (v := .bool true) (o_pickT rfl rfl) <| h19 _ _ <| cndT rfl ?_
    refine seq fun _ h21 => stp (v := .agg ([.bool false, .int .i64 0, .slice none 0 0] : List Value).toArray) (o_bld rfl rfl) <| m_stA (l := [.bool false, .int .i64 0, .slice none 0 0]) hM3 (i := 0) rfl rfl rfl rfl (by simp [oneCells, Value.oneCell', byteV]) (by simp) fun w22 (hM22 : Mem w [] w22 [[⟨b2, 69, [.bool false, .int .i64 0, .slice none 0 0]⟩]]) => stp (v := .int .i64 70) (o_mv rfl) <| h21 _ _ ?_
    show resV _ _ _ _ _
    refine res_cell (s := some 3) (by kernel_rfl) <| vl_ldA (cs := [.bool false, .int .i64 0, .slice none 0 0]) rfl rfl ((hM22.at (i := 0) (j := 0) rfl rfl).agg rfl rfl) <| res_tmp <| ⟨(.tuple [.agg ([.bool false, .int .i64 0, .slice none 0 0] : List Value).toArray, .int .i64 70].toArray), rfl, ?_⟩
    omega
   refine stg rfl (v := x) (o_mv rfl) <| gyes rfl rfl (m_idxE 0 (j := 0) (hx.upd hM3.upd) rfl rfl (by omega) fun b23 o23 hp23 => gyesl rfl <| ld (v := byteV (b.getD 0 0)) rfl (hp23) <| stg rfl (v := .bool (decide (((b.getD 0 0).toNat : Int) < 1))) (o_bin rfl rfl rfl) <| stp (v := .bool (decide (((b.getD 0 0).toNat : Int) < 1))) (o_pickF rfl rfl) <| stp (v := .bool (decide (((b.getD 0 0).toNat : Int) < 1))) (o_mv rfl) <| splitP rfl (fun c24 => ?_) (fun c24 => ?_))
   ·refine gx rfl <| gx rfl <| gxl rfl <| gx rfl <| stp (v := .bool true) (o_pickT rfl rfl) <| h19 _ _ <| cndT rfl <| seq fun _ h25 => stp (v := .agg ([.bool false, .int .i64 0, .slice none 0 0] : List Value).toArray) (o_bld rfl rfl) <| m_stA (l := [.bool false, .int .i64 0, .slice none 0 0]) hM3 (i := 0) rfl rfl rfl rfl (by simp [oneCells, Value.oneCell', byteV]) (by simp) fun w26 (hM26 : Mem w [] w26 [[⟨b2, 69, [.bool false, .int .i64 0, .slice none 0 0]⟩]]) => stp (v := .int .i64 70) (o_mv rfl) <| h25 _ _ ?_
    show resV _ _ _ _ _
    refine res_cell (s := some 3) (by kernel_rfl) <| vl_ldA (cs := [.bool false, .int .i64 0, .slice none 0 0]) rfl rfl ((hM26.at (i := 0) (j := 0) rfl rfl).agg rfl rfl) <| res_tmp <| ⟨(.tuple [.agg ([.bool false, .int .i64 0, .slice none 0 0] : List Value).toArray, .int .i64 70].toArray), rfl, ?_⟩
    omega
   refine stg rfl (v := x) (o_mv rfl) <| gyes rfl rfl (m_idxE 0 (j := 0) (hx.upd hM3.upd) rfl rfl (by omega) fun b27 o27 hp27 => gyesl rfl <| ld (v := byteV (b.getD 0 0)) rfl (hp27) <| stg rfl (v := .bool (decide ((8 : Int) < ((b.getD 0 0).toNat : Int)))) (o_bin rfl rfl rfl) <| stp (v := .bool (decide ((8 : Int) < ((b.getD 0 0).toNat : Int)))) (o_pickF rfl rfl) <| h19 _ _ <| cndP rfl (fun c28 => ?_) (fun c28 => ?_))
   ·refine seq fun _ h29 => stp (v := .agg ([.bool false, .int .i64 0, .slice none 0 0] : List Value).toArray) (o_bld rfl rfl) <| m_stA (l := [.bool false, .int .i64 0, .slice none 0 0]) hM3 (i := 0) rfl rfl rfl rfl (by simp [oneCells, Value.oneCell', byteV]) (by simp) fun w30 (hM30 : Mem w [] w30 [[⟨b2, 69, [.bool false, .int .i64 0, .slice none 0 0]⟩]]) => stp (v := .int .i64 70) (o_mv rfl) <| h29 _ _ ?_
    show resV _ _ _ _ _
    refine res_cell (s := some 3) (by kernel_rfl) <| vl_ldA (cs := [.bool false, .int .i64 0, .slice none 0 0]) rfl rfl ((hM30.at (i := 0) (j := 0) rfl rfl).agg rfl rfl) <| res_tmp <| ⟨(.tuple [.agg ([.bool false, .int .i64 0, .slice none 0 0] : List Value).toArray, .int .i64 70].toArray), rfl, ?_⟩
    have e := dec_hbad (b := b) (by omega) (by omega) (by omega); exact ⟨_, _, by rw [e], by rw [e]; exact Sl.nil 1 5, (hM30.addNil).keep (by simp)⟩
   refine h18 _ _ <| seq fun _ h31 => stp (v := x) (o_mv rfl) <| m_slcE 1 b.length (hx) rfl (by omega) (by omega) rfl ⟨_, rfl⟩ fun u32 hu32 => ?_
   have hu32' : RdE byteV w u32 (b.drop 1) := by
    have e : (b.take b.length).drop 1 = (b.drop 1) := by rw [List.take_length]
    rw [e] at hu32; exact hu32
   refine m_call (refGet_ok _ (b.drop 1) w3 ((hu32'.upd hM3.upd)) (by first | omega | (simp; done) | (simp; omega))) rfl fun v33 w33 ⟨hr33, hu33⟩ => ?_
   have hM33 : Mem w [] w33 [[⟨b2, 69, [.bool false, .int .i64 0, .slice none 0 0]⟩]] := hM3.pure hu33
   subst hr33
   refine stp (v := .tuple [.int .i64 ((get (b.drop 1)).1 : Nat), .int .i64 ((get (b.drop 1)).2.1 : Nat), .int .i64 ((get (b.drop 1)).2.2)].toArray) (o_mv rfl) <| stp (v := .int .i64 ((get (b.drop 1)).1 : Nat)) (o_ext rfl rfl) <| stp (v := .int .i64 ((get (b.drop 1)).2.1 : Nat)) (o_ext rfl rfl) <| stp (v := .int .i64 ((get (b.drop 1)).2.2)) (o_ext rfl rfl) <| stp (v := .int .i64 ((get (b.drop 1)).1 : Nat)) (o_mv rfl) <| stp (v := .int .i64 ((get (b.drop 1)).2.1 : Nat)) (o_mv rfl) <| stp (v := .int .i64 ((get (b.drop 1)).2.2)) (o_mv rfl) <| h31 _ _ <| seq fun _ h34 => seq fun _ h35 => ?_
   have hgl := get_le (b := b.drop 1)
   rw [List.length_drop] at hgl
   refine stp (v := .int .i64 ((get (b.drop 1)).2.2)) (o_mv rfl) <| stp (v := .bool (decide (¬ ((get (b.drop 1)).2.2) = 0))) (o_bin rfl rfl v_neq) <| stp (v := .bool (decide (¬ ((get (b.drop 1)).2.2) = 0))) (o_mv rfl) <| splitP rfl (fun c36 => ?_) (fun c36 => ?_)
   ·refine gx rfl <| gx rfl <| stp (v := .bool true) (o_pickT rfl rfl) <| stp (v := .bool true) (o_mv rfl) <| splitT rfl <| gx rfl <| gx rfl <| stp (v := .bool true) (o_pickT rfl rfl) <| stp (v := .bool true) (o_mv rfl) <| splitT rfl <| gx rfl <| gx rfl <| gx rfl <| gx rfl ?_
    refine gx rfl <| gx rfl <| gx rfl <| stp (v := .bool true) (o_pickT rfl rfl) <| h35 _ _ <| cndT rfl <| seq fun _ h37 => stp (v := .agg ([.bool false, .int .i64 0, .slice none 0 0] : List Value).toArray) (o_bld rfl rfl) <| m_stA (l := [.bool false, .int .i64 0, .slice none 0 0]) hM33 (i := 0) rfl rfl rfl rfl (by simp [oneCells, Value.oneCell', byteV]) (by simp) fun w38 (hM38 : Mem w [] w38 [[⟨b2, 69, [.bool false, .int .i64 0, .slice none 0 0]⟩]]) => stp (v := .int .i64 70) (o_mv rfl) <| h37 _ _ ?_
    show resV _ _ _ _ _
    refine res_cell (s := some 3) (by kernel_rfl) <| vl_ldA (cs := [.bool false, .int .i64 0, .slice none 0 0]) rfl rfl ((hM38.at (i := 0) (j := 0) rfl rfl).agg rfl rfl) <| res_tmp <| ⟨(.tuple [.agg ([.bool false, .int .i64 0, .slice none 0 0] : List Value).toArray, .int .i64 70].toArray), rfl, ?_⟩
    have e := (dec_hget (b := b) (by omega) (by omega) (by omega)).trans (if_pos (by omega)); exact ⟨_, _, by rw [e], by rw [e]; exact Sl.nil 1 5, (hM38.addNil).keep (by simp)⟩
   refine stg rfl (v := .int .i64 ((get (b.drop 1)).1 : Nat)) (o_mv rfl) <| stg rfl (v := .bool (decide ((((get (b.drop 1)).1 : Nat) : Int) < 1))) (o_bin rfl rfl rfl) <| stp (v := .bool (decide ((((get (b.drop 1)).1 : Nat) : Int) < 1))) (o_pickF rfl rfl) <| stp (v := .bool (decide ((((get (b.drop 1)).1 : Nat) : Int) < 1))) (o_mv rfl) <| splitP rfl (fun c39 => ?_) (fun c39 => ?_)
   ·refine gx rfl <| gx rfl <| stp (v := .bool true) (o_pickT rfl rfl) <| stp (v := .bool true) (o_mv rfl) <| splitT rfl <| gx rfl <| gx rfl <| gx rfl <| gx rfl <| gx rfl <| gx rfl <| gx rfl <| stp (v := .bool true) (o_pickT rfl rfl) <| h35 _ _ ?_
    refine cndT rfl <| seq fun _ h40 => stp (v := .agg ([.bool false, .int .i64 0, .slice none 0 0] : List Value).toArray) (o_bld rfl rfl) <| m_stA (l := [.bool false, .int .i64 0, .slice none 0 0]) hM33 (i := 0) rfl rfl rfl rfl (by simp [oneCells, Value.oneCell', byteV]) (by simp) fun w41 (hM41 : Mem w [] w41 [[⟨b2, 69, [.bool false, .int .i64 0, .slice none 0 0]⟩]]) => stp (v := .int .i64 70) (o_mv rfl) <| h40 _ _ ?_
    show resV _ _ _ _ _
    refine res_cell (s := some 3) (by kernel_rfl) <| vl_ldA (cs := [.bool false, .int .i64 0, .slice none 0 0]) rfl rfl ((hM41.at (i := 0) (j := 0) rfl rfl).agg rfl rfl) <| res_tmp <| ⟨(.tuple [.agg ([.bool false, .int .i64 0, .slice none 0 0] : List Value).toArray, .int .i64 70].toArray), rfl, ?_⟩
    have e := (dec_hget (b := b) (by omega) (by omega) (by omega)).trans (if_pos (by omega)); exact ⟨_, _, by rw [e], by rw [e]; exact Sl.nil 1 5, (hM41.addNil).keep (by simp)⟩
   refine stg rfl (v := .int .i64 ((get (b.drop 1)).1 : Nat)) (o_mv rfl) <| stg rfl (v := .bool (decide ((4096 : Int) < (((get (b.drop 1)).1 : Nat) : Int)))) (o_bin rfl rfl rfl) <| stp (v := .bool (decide ((4096 : Int) < (((get (b.drop 1)).1 : Nat) : Int)))) (o_pickF rfl rfl) <| stp (v := .bool (decide ((4096 : Int) < (((get (b.drop 1)).1 : Nat) : Int)))) (o_mv rfl) <| splitP rfl (fun c42 => ?_) (fun c42 => ?_)
   ·refine gx rfl <| gx rfl <| gx rfl <| gx rfl <| gx rfl <| gx rfl <| gx rfl <| stp (v := .bool true) (o_pickT rfl rfl) <| h35 _ _ <| cndT rfl <| seq fun _ h43 => stp (v := .agg ([.bool false, .int .i64 0, .slice none 0 0] : List Value).toArray) (o_bld rfl rfl) <| m_stA (l := [.bool false, .int .i64 0, .slice none 0 0]) hM33 (i := 0) rfl rfl rfl rfl (by simp [oneCells, Value.oneCell', byteV]) (by simp) fun w44 (hM44 : Mem w [] w44 [[⟨b2, 69, [.bool false, .int .i64 0, .slice none 0 0]⟩]]) => stp (v := .int .i64 70) (o_mv rfl) ?_
    refine h43 _ _ ?_
    show resV _ _ _ _ _
    refine res_cell (s := some 3) (by kernel_rfl) <| vl_ldA (cs := [.bool false, .int .i64 0, .slice none 0 0]) rfl rfl ((hM44.at (i := 0) (j := 0) rfl rfl).agg rfl rfl) <| res_tmp <| ⟨(.tuple [.agg ([.bool false, .int .i64 0, .slice none 0 0] : List Value).toArray, .int .i64 70].toArray), rfl, ?_⟩
    have e := (dec_hget (b := b) (by omega) (by omega) (by omega)).trans (if_pos (by omega)); exact ⟨_, _, by rw [e], by rw [e]; exact Sl.nil 1 5, (hM44.addNil).keep (by simp)⟩
   refine stg rfl (v := x) (o_mv rfl) <| stg rfl (v := .int .i64 (b.length : Nat)) (o_lenR (hx.upd hM33.upd) rfl rfl) <| stg rfl (v := .int .i64 ((get (b.drop 1)).2.1 : Nat)) (o_mv rfl) <| stg rfl (v := .int .i64 (1 + ((get (b.drop 1)).2.1 : Nat))) (o_bin rfl rfl (v_add64 (by omega))) <| stg rfl (v := .int .i64 ((get (b.drop 1)).1 : Nat)) (o_mv rfl) <| stg rfl (v := .int .i64 ((1 + ((get (b.drop 1)).2.1 : Nat)) + ((get (b.drop 1)).1 : Nat))) (o_bin rfl rfl (v_add64 (by omega))) <| stg rfl (v := .bool (decide (¬ ((b.length : Nat) : Int) = ((1 + ((get (b.drop 1)).2.1 : Nat)) + ((get (b.drop 1)).1 : Nat))))) (o_bin rfl rfl v_neq) <| stp (v := .bool (decide (¬ ((b.length : Nat) : Int) = ((1 + ((get (b.drop 1)).2.1 : Nat)) + ((get (b.drop 1)).1 : Nat))))) (o_pickF rfl rfl) <| h35 _ _ <| cndP rfl (fun c45 => ?_) (fun c45 => ?_)
   ·refine seq fun _ h46 => stp (v := .agg ([.bool false, .int .i64 0, .slice none 0 0] : List Value).toArray) (o_bld rfl rfl) <| m_stA (l := [.bool false, .int .i64 0, .slice none 0 0]) hM33 (i := 0) rfl rfl rfl rfl (by simp [oneCells, Value.oneCell', byteV]) (by simp) fun w47 (hM47 : Mem w [] w47 [[⟨b2, 69, [.bool false, .int .i64 0, .slice none 0 0]⟩]]) => stp (v := .int .i64 70) (o_mv rfl) <| h46 _ _ ?_
    show resV _ _ _ _ _
    refine res_cell (s := some 3) (by kernel_rfl) <| vl_ldA (cs := [.bool false, .int .i64 0, .slice none 0 0]) rfl rfl ((hM47.at (i := 0) (j := 0) rfl rfl).agg rfl rfl) <| res_tmp <| ⟨(.tuple [.agg ([.bool false, .int .i64 0, .slice none 0 0] : List Value).toArray, .int .i64 70].toArray), rfl, ?_⟩
    have e := (dec_hget (b := b) (by omega) (by omega) (by omega)).trans (if_pos (by omega)); exact ⟨_, _, by rw [e], by rw [e]; exact Sl.nil 1 5, (hM47.addNil).keep (by simp)⟩
   refine h34 _ _ <| seq fun _ h48 => ?_
   intro wd e1 e2 e3 e4
   have hd := Upd.same e1 e2 e3 e4 []
   have hM49 := hM33.pure hd
   clear e1 e2 e3 e4
   refine ⟨(some [(blkV x)]), ?_⟩
   show vd _ _ _ _ _ _ _
   refine dq (v := x) (o_mv rfl) <| dqp (m_idxE2 0 (j := 0) (hx.upd hM49.upd) rfl rfl (by omega) fun b50 o50 hp50 hbb50 => ?_)
   show vd _ _ _ _ _ _ _
   subst hbb50
   refine dq (v := x) (o_mv rfl) <| dq (v := .int .i64 ((get (b.drop 1)).2.1 : Nat)) (o_mv rfl) <| dq (v := .int .i64 (1 + ((get (b.drop 1)).2.1 : Nat))) (o_bin rfl rfl (v_add64 (by omega))) <| dqp (m_slcE (1 + (get (b.drop 1)).2.1) b.length (hx) rfl (by omega) (by omega) rfl ⟨_, v_int (by omega)⟩ fun u51 hu51 => ?_)
   show vd _ _ _ _ _ _ _
   have hu51' : RdE byteV w u51 (b.drop (1 + (get (b.drop 1)).2.1)) := by
    have e : (b.take b.length).drop (1 + (get (b.drop 1)).2.1) = (b.drop (1 + (get (b.drop 1)).2.1)) := by rw [List.take_length]
    rw [e] at hu51; exact hu51
   refine dqld rfl (by simp [isHeld]) (v := byteV (b.getD 0 0)) (hp50) <| dq (v := .int .i64 ((b.getD 0 0).toNat : Int)) (o_conv rfl (v_byteTo (by decide))) <| dl (m_bsU hM49 rfl fun b52 w53 hup53 (hM53 : Mem w [] w53 [[⟨b2, 69, [.bool false, .int .i64 0, .slice none 0 0]⟩], [⟨b52, 5, []⟩]]) => ?_)
   have hh53 := held_upd (wr := wd) (bs := [(blkV x)]) hup53 (fun b hb => by
    simp only [List.mem_cons, List.not_mem_nil, or_false] at hb
    rw [hb]; exact ⟨Rd.blkV_lt (hx.upd hM49.upd) (by omega), by simp⟩) (fun b hb => rfl)
   refine ⟨hh53, ?_⟩
   have hs54 : SlE byteV 5 (.slice (some ⟨b52, 0, none⟩) 0 0) [] [⟨b52, 5, []⟩] := SlE.lit (l := []) rfl
   refine dl (m_appEU hM53 (i := 1) rfl hs54 rfl rfl ((hu51'.upd hM53.upd)) (by first | omega | (simp; omega)) (by omega) fun v55 w55 r55 (hs55 : SlE byteV 5 v55 (b.drop (1 + (get (b.drop 1)).2.1)) r55) hup55 (hM55 : Mem w [] w55 [[⟨b2, 69, [.bool false, .int .i64 0, .slice none 0 0]⟩], r55]) => ?_)
   have hh55 := held_upd (wr := wd) (bs := [(blkV x)]) hup55 (fun b hb => by
    simp only [List.mem_cons, List.not_mem_nil, or_false] at hb
    rw [hb]; exact ⟨Rd.blkV_lt (hx.upd hM53.upd) (by omega), hM53.old (i := 1) rfl (Rd.blkV_lt hx (by omega))⟩) hh53
   refine ⟨hh55, ?_⟩
   obtain ⟨a56_, n56_, c56_, rfl⟩ := Sl.isSlice hs55
   refine dq (v := .agg ([.bool false, .int .i64 ((b.getD 0 0).toNat : Int), (.slice a56_ n56_ c56_)] : List Value).toArray) (o_bld rfl rfl) <| dl (m_stAU (l := [.bool false, .int .i64 ((b.getD 0 0).toNat : Int), (.slice a56_ n56_ c56_)]) hM55 (i := 0) rfl rfl rfl rfl (by simp [oneCells, Value.oneCell', byteV]) (by simp) fun w57 hup57 (hM57 : Mem w [] w57 [[⟨b2, 69, [.bool false, .int .i64 ((b.getD 0 0).toNat : Int), (.slice a56_ n56_ c56_)]⟩], r55]) => ?_)
   have hh57 := held_upd (wr := wd) (bs := [(blkV x)]) hup57 (fun b hb => by
    simp only [List.mem_cons, List.not_mem_nil, or_false] at hb
    rw [hb]; exact ⟨Rd.blkV_lt (hx.upd hM55.upd) (by omega), hM55.old (i := 0) rfl (Rd.blkV_lt hx (by omega))⟩) hh55
   refine ⟨hh57, dq (v := .int .i64 0) (o_mv rfl) <| h48 _ _ ?_⟩
   show resV _ _ _ _ _
   refine res_cell (s := some 3) (by kernel_rfl) <| vl_ldA (cs := [.bool false, .int .i64 ((b.getD 0 0).toNat : Int), (.slice a56_ n56_ c56_)]) rfl rfl ((hM57.at (i := 0) (j := 0) rfl rfl).agg rfl rfl) <| res_tmp <| ⟨(.tuple [.agg ([.bool false, .int .i64 ((b.getD 0 0).toNat : Int), (.slice a56_ n56_ c56_)] : List Value).toArray, .int .i64 0].toArray), rfl, ?_⟩
   omega
  refine gx rfl <| gx rfl <| gxl rfl <| gx rfl <| stp (v := .bool false) (o_pickF rfl rfl) <| h12 _ _ <| cndF rfl <| h11 _ _ <| seq fun _ h58 => seq fun _ h59 => stp (v := x) (o_mv rfl) <| stp (v := .int .i64 (b.length : Nat)) (o_lenR (hx.upd hM3.upd) rfl rfl) <| stp (v := .bool (decide (((b.length : Nat) : Int) < 1))) (o_bin rfl rfl rfl) <| stp (v := .bool (decide (((b.length : Nat) : Int) < 1))) (o_mv rfl) <| splitP rfl (fun c60 => ?_) (fun c60 => ?_)
  ·refine gx rfl <| gx rfl <| gxl rfl <| gx rfl <| stp (v := .bool true) (o_pickT rfl rfl) <| stp (v := .bool true) (o_mv rfl) <| splitT rfl <| gx rfl <| gx rfl <| gxl rfl <| gx rfl <| stp (v := .bool true) (o_pickT rfl rfl) <| h59 _ _ <| cndT rfl ?_
   refine seq fun _ h61 => stp (v := .agg ([.bool false, .int .i64 0, .slice none 0 0] : List Value).toArray) (o_bld rfl rfl) <| m_stA (l := [.bool false, .int .i64 0, .slice none 0 0]) hM3 (i := 0) rfl rfl rfl rfl (by simp [oneCells, Value.oneCell', byteV]) (by simp) fun w62 (hM62 : Mem w [] w62 [[⟨b2, 69, [.bool false, .int .i64 0, .slice none 0 0]⟩]]) => stp (v := .int .i64 70) (o_mv rfl) <| h61 _ _ ?_
   show resV _ _ _ _ _
   refine res_cell (s := some 3) (by kernel_rfl) <| vl_ldA (cs := [.bool false, .int .i64 0, .slice none 0 0]) rfl rfl ((hM62.at (i := 0) (j := 0) rfl rfl).agg rfl rfl) <| res_tmp <| ⟨(.tuple [.agg ([.bool false, .int .i64 0, .slice none 0 0] : List Value).toArray, .int .i64 70].toArray), rfl, ?_⟩
   omega
  refine stg rfl (v := x) (o_mv rfl) <| gyes rfl rfl (m_idxE 0 (j := 0) (hx.upd hM3.upd) rfl rfl (by omega) fun b63 o63 hp63 => gyesl rfl <| ld (v := byteV (b.getD 0 0)) rfl (hp63) <| stg rfl (v := .bool (decide (((b.getD 0 0).toNat : Int) < 1))) (o_bin rfl rfl rfl) <| stp (v := .bool (decide (((b.getD 0 0).toNat : Int) < 1))) (o_pickF rfl rfl) <| stp (v := .bool (decide (((b.getD 0 0).toNat : Int) < 1))) (o_mv rfl) <| splitP rfl (fun c64 => ?_) (fun c64 => ?_))
  ·refine gx rfl <| gx rfl <| gxl rfl <| gx rfl <| stp (v := .bool true) (o_pickT rfl rfl) <| h59 _ _ <| cndT rfl <| seq fun _ h65 => stp (v := .agg ([.bool false, .int .i64 0, .slice none 0 0] : List Value).toArray) (o_bld rfl rfl) <| m_stA (l := [.bool false, .int .i64 0, .slice none 0 0]) hM3 (i := 0) rfl rfl rfl rfl (by simp [oneCells, Value.oneCell', byteV]) (by simp) fun w66 (hM66 : Mem w [] w66 [[⟨b2, 69, [.bool false, .int .i64 0, .slice none 0 0]⟩]]) => stp (v := .int .i64 70) (o_mv rfl) <| h65 _ _ ?_
   show resV _ _ _ _ _
   refine res_cell (s := some 3) (by kernel_rfl) <| vl_ldA (cs := [.bool false, .int .i64 0, .slice none 0 0]) rfl rfl ((hM66.at (i := 0) (j := 0) rfl rfl).agg rfl rfl) <| res_tmp <| ⟨(.tuple [.agg ([.bool false, .int .i64 0, .slice none 0 0] : List Value).toArray, .int .i64 70].toArray), rfl, ?_⟩
   omega
  refine stg rfl (v := x) (o_mv rfl) <| gyes rfl rfl (m_idxE 0 (j := 0) (hx.upd hM3.upd) rfl rfl (by omega) fun b67 o67 hp67 => gyesl rfl <| ld (v := byteV (b.getD 0 0)) rfl (hp67) <| stg rfl (v := .bool (decide ((8 : Int) < ((b.getD 0 0).toNat : Int)))) (o_bin rfl rfl rfl) <| stp (v := .bool (decide ((8 : Int) < ((b.getD 0 0).toNat : Int)))) (o_pickF rfl rfl) <| h59 _ _ <| cndP rfl (fun c68 => ?_) (fun c68 => ?_))
  ·refine seq fun _ h69 => stp (v := .agg ([.bool false, .int .i64 0, .slice none 0 0] : List Value).toArray) (o_bld rfl rfl) <| m_stA (l := [.bool false, .int .i64 0, .slice none 0 0]) hM3 (i := 0) rfl rfl rfl rfl (by simp [oneCells, Value.oneCell', byteV]) (by simp) fun w70 (hM70 : Mem w [] w70 [[⟨b2, 69, [.bool false, .int .i64 0, .slice none 0 0]⟩]]) => stp (v := .int .i64 70) (o_mv rfl) <| h69 _ _ ?_
   show resV _ _ _ _ _
   refine res_cell (s := some 3) (by kernel_rfl) <| vl_ldA (cs := [.bool false, .int .i64 0, .slice none 0 0]) rfl rfl ((hM70.at (i := 0) (j := 0) rfl rfl).agg rfl rfl) <| res_tmp <| ⟨(.tuple [.agg ([.bool false, .int .i64 0, .slice none 0 0] : List Value).toArray, .int .i64 70].toArray), rfl, ?_⟩
   omega
  refine h58 _ _ <| seq fun _ h71 => stp (v := x) (o_mv rfl) <| m_slcE 1 b.length (hx) rfl (by omega) (by omega) rfl ⟨_, rfl⟩ fun u72 hu72 => ?_
  have hu72' : RdE byteV w u72 (b.drop 1) := by
   have e : (b.take b.length).drop 1 = (b.drop 1) := by rw [List.take_length]
   rw [e] at hu72; exact hu72
  refine m_call (refGet_ok _ (b.drop 1) w3 ((hu72'.upd hM3.upd)) (by first | omega | (simp; done) | (simp; omega))) rfl fun v73 w73 ⟨hr73, hu73⟩ => ?_
  have hM73 : Mem w [] w73 [[⟨b2, 69, [.bool false, .int .i64 0, .slice none 0 0]⟩]] := hM3.pure hu73
  subst hr73
  refine stp (v := .tuple [.int .i64 ((get (b.drop 1)).1 : Nat), .int .i64 ((get (b.drop 1)).2.1 : Nat), .int .i64 ((get (b.drop 1)).2.2)].toArray) (o_mv rfl) <| stp (v := .int .i64 ((get (b.drop 1)).1 : Nat)) (o_ext rfl rfl) <| stp (v := .int .i64 ((get (b.drop 1)).2.1 : Nat)) (o_ext rfl rfl) <| stp (v := .int .i64 ((get (b.drop 1)).2.2)) (o_ext rfl rfl) <| stp (v := .int .i64 ((get (b.drop 1)).1 : Nat)) (o_mv rfl) <| stp (v := .int .i64 ((get (b.drop 1)).2.1 : Nat)) (o_mv rfl) <| stp (v := .int .i64 ((get (b.drop 1)).2.2)) (o_mv rfl) <| h71 _ _ <| seq fun _ h74 => seq fun _ h75 => ?_
  have hgl := get_le (b := b.drop 1)
  rw [List.length_drop] at hgl
  refine stp (v := .int .i64 ((get (b.drop 1)).2.2)) (o_mv rfl) <| stp (v := .bool (decide (¬ ((get (b.drop 1)).2.2) = 0))) (o_bin rfl rfl v_neq) <| stp (v := .bool (decide (¬ ((get (b.drop 1)).2.2) = 0))) (o_mv rfl) <| splitP rfl (fun c76 => ?_) (fun c76 => ?_)
  ·refine gx rfl <| gx rfl <| stp (v := .bool true) (o_pickT rfl rfl) <| stp (v := .bool true) (o_mv rfl) <| splitT rfl <| gx rfl <| gx rfl <| stp (v := .bool true) (o_pickT rfl rfl) <| stp (v := .bool true) (o_mv rfl) <| splitT rfl <| gx rfl <| gx rfl <| gx rfl <| gx rfl ?_
   refine gx rfl <| gx rfl <| gx rfl <| stp (v := .bool true) (o_pickT rfl rfl) <| h75 _ _ <| cndT rfl <| seq fun _ h77 => stp (v := .agg ([.bool false, .int .i64 0, .slice none 0 0] : List Value).toArray) (o_bld rfl rfl) <| m_stA (l := [.bool false, .int .i64 0, .slice none 0 0]) hM73 (i := 0) rfl rfl rfl rfl (by simp [oneCells, Value.oneCell', byteV]) (by simp) fun w78 (hM78 : Mem w [] w78 [[⟨b2, 69, [.bool false, .int .i64 0, .slice none 0 0]⟩]]) => stp (v := .int .i64 70) (o_mv rfl) <| h77 _ _ ?_
   show resV _ _ _ _ _
   refine res_cell (s := some 3) (by kernel_rfl) <| vl_ldA (cs := [.bool false, .int .i64 0, .slice none 0 0]) rfl rfl ((hM78.at (i := 0) (j := 0) rfl rfl).agg rfl rfl) <| res_tmp <| ⟨(.tuple [.agg ([.bool false, .int .i64 0, .slice none 0 0] : List Value).toArray, .int .i64 70].toArray), rfl, ?_⟩
   omega
  refine stg rfl (v := .int .i64 ((get (b.drop 1)).1 : Nat)) (o_mv rfl) <| stg rfl (v := .bool (decide ((((get (b.drop 1)).1 : Nat) : Int) < 1))) (o_bin rfl rfl rfl) <| stp (v := .bool (decide ((((get (b.drop 1)).1 : Nat) : Int) < 1))) (o_pickF rfl rfl) <| stp (v := .bool (decide ((((get (b.drop 1)).1 : Nat) : Int) < 1))) (o_mv rfl) <| splitP rfl (fun c79 => ?_) (fun c79 => ?_)
  ·refine gx rfl <| gx rfl <| stp (v := .bool true) (o_pickT rfl rfl) <| stp (v := .bool true) (o_mv rfl) <| splitT rfl <| gx rfl <| gx rfl <| gx rfl <| gx rfl <| gx rfl <| gx rfl <| gx rfl <| stp (v := .bool true) (o_pickT rfl rfl) <| h75 _ _ ?_
   refine cndT rfl <| seq fun _ h80 => stp (v := .agg ([.bool false, .int .i64 0, .slice none 0 0] : List Value).toArray) (o_bld rfl rfl) <| m_stA (l := [.bool false, .int .i64 0, .slice none 0 0]) hM73 (i := 0) rfl rfl rfl rfl (by simp [oneCells, Value.oneCell', byteV]) (by simp) fun w81 (hM81 : Mem w [] w81 [[⟨b2, 69, [.bool false, .int .i64 0, .slice none 0 0]⟩]]) => stp (v := .int .i64 70) (o_mv rfl) <| h80 _ _ ?_
   show resV _ _ _ _ _
   refine res_cell (s := some 3) (by kernel_rfl) <| vl_ldA (cs := [.bool false, .int .i64 0, .slice none 0 0]) rfl rfl ((hM81.at (i := 0) (j := 0) rfl rfl).agg rfl rfl) <| res_tmp <| ⟨(.tuple [.agg ([.bool false, .int .i64 0, .slice none 0 0] : List Value).toArray, .int .i64 70].toArray), rfl, ?_⟩
   omega
  refine stg rfl (v := .int .i64 ((get (b.drop 1)).1 : Nat)) (o_mv rfl) <| stg rfl (v := .bool (decide ((4096 : Int) < (((get (b.drop 1)).1 : Nat) : Int)))) (o_bin rfl rfl rfl) <| stp (v := .bool (decide ((4096 : Int) < (((get (b.drop 1)).1 : Nat) : Int)))) (o_pickF rfl rfl) <| stp (v := .bool (decide ((4096 : Int) < (((get (b.drop 1)).1 : Nat) : Int)))) (o_mv rfl) <| splitP rfl (fun c82 => ?_) (fun c82 => ?_)
  ·refine gx rfl <| gx rfl <| gx rfl <| gx rfl <| gx rfl <| gx rfl <| gx rfl <| stp (v := .bool true) (o_pickT rfl rfl) <| h75 _ _ <| cndT rfl <| seq fun _ h83 => stp (v := .agg ([.bool false, .int .i64 0, .slice none 0 0] : List Value).toArray) (o_bld rfl rfl) <| m_stA (l := [.bool false, .int .i64 0, .slice none 0 0]) hM73 (i := 0) rfl rfl rfl rfl (by simp [oneCells, Value.oneCell', byteV]) (by simp) fun w84 (hM84 : Mem w [] w84 [[⟨b2, 69, [.bool false, .int .i64 0, .slice none 0 0]⟩]]) => stp (v := .int .i64 70) (o_mv rfl) ?_
   refine h83 _ _ ?_
   show resV _ _ _ _ _
   refine res_cell (s := some 3) (by kernel_rfl) <| vl_ldA (cs := [.bool false, .int .i64 0, .slice none 0 0]) rfl rfl ((hM84.at (i := 0) (j := 0) rfl rfl).agg rfl rfl) <| res_tmp <| ⟨(.tuple [.agg ([.bool false, .int .i64 0, .slice none 0 0] : List Value).toArray, .int .i64 70].toArray), rfl, ?_⟩
   omega
  refine stg rfl (v := x) (o_mv rfl) <| stg rfl (v := .int .i64 (b.length : Nat)) (o_lenR (hx.upd hM73.upd) rfl rfl) <| stg rfl (v := .int .i64 ((get (b.drop 1)).2.1 : Nat)) (o_mv rfl) <| stg rfl (v := .int .i64 (1 + ((get (b.drop 1)).2.1 : Nat))) (o_bin rfl rfl (v_add64 (by omega))) <| stg rfl (v := .int .i64 ((get (b.drop 1)).1 : Nat)) (o_mv rfl) <| stg rfl (v := .int .i64 ((1 + ((get (b.drop 1)).2.1 : Nat)) + ((get (b.drop 1)).1 : Nat))) (o_bin rfl rfl (v_add64 (by omega))) <| stg rfl (v := .bool (decide (¬ ((b.length : Nat) : Int) = ((1 + ((get (b.drop 1)).2.1 : Nat)) + ((get (b.drop 1)).1 : Nat))))) (o_bin rfl rfl v_neq) <| stp (v := .bool (decide (¬ ((b.length : Nat) : Int) = ((1 + ((get (b.drop 1)).2.1 : Nat)) + ((get (b.drop 1)).1 : Nat))))) (o_pickF rfl rfl) <| h75 _ _ <| cndP rfl (fun c85 => ?_) (fun c85 => ?_)
  ·refine seq fun _ h86 => stp (v := .agg ([.bool false, .int .i64 0, .slice none 0 0] : List Value).toArray) (o_bld rfl rfl) <| m_stA (l := [.bool false, .int .i64 0, .slice none 0 0]) hM73 (i := 0) rfl rfl rfl rfl (by simp [oneCells, Value.oneCell', byteV]) (by simp) fun w87 (hM87 : Mem w [] w87 [[⟨b2, 69, [.bool false, .int .i64 0, .slice none 0 0]⟩]]) => stp (v := .int .i64 70) (o_mv rfl) <| h86 _ _ ?_
   show resV _ _ _ _ _
   refine res_cell (s := some 3) (by kernel_rfl) <| vl_ldA (cs := [.bool false, .int .i64 0, .slice none 0 0]) rfl rfl ((hM87.at (i := 0) (j := 0) rfl rfl).agg rfl rfl) <| res_tmp <| ⟨(.tuple [.agg ([.bool false, .int .i64 0, .slice none 0 0] : List Value).toArray, .int .i64 70].toArray), rfl, ?_⟩
   omega
  refine h74 _ _ <| seq fun _ h88 => ?_
  intro wd e1 e2 e3 e4
  have hd := Upd.same e1 e2 e3 e4 []
  have hM89 := hM73.pure hd
  clear e1 e2 e3 e4
  refine ⟨(some [(blkV x)]), ?_⟩
  show vd _ _ _ _ _ _ _
  refine dq (v := x) (o_mv rfl) <| dqp (m_idxE2 0 (j := 0) (hx.upd hM89.upd) rfl rfl (by omega) fun b90 o90 hp90 hbb90 => ?_)
  show vd _ _ _ _ _ _ _
  subst hbb90
  refine dq (v := x) (o_mv rfl) <| dq (v := .int .i64 ((get (b.drop 1)).2.1 : Nat)) (o_mv rfl) <| dq (v := .int .i64 (1 + ((get (b.drop 1)).2.1 : Nat))) (o_bin rfl rfl (v_add64 (by omega))) <| dqp (m_slcE (1 + (get (b.drop 1)).2.1) b.length (hx) rfl (by omega) (by omega) rfl ⟨_, v_int (by omega)⟩ fun u91 hu91 => ?_)
  show vd _ _ _ _ _ _ _
  have hu91' : RdE byteV w u91 (b.drop (1 + (get (b.drop 1)).2.1)) := by
   have e : (b.take b.length).drop (1 + (get (b.drop 1)).2.1) = (b.drop (1 + (get (b.drop 1)).2.1)) := by rw [List.take_length]
   rw [e] at hu91; exact hu91
  refine dqld rfl (by simp [isHeld]) (v := byteV (b.getD 0 0)) (hp90) <| dq (v := .int .i64 ((b.getD 0 0).toNat : Int)) (o_conv rfl (v_byteTo (by decide))) <| dl (m_bsU hM89 rfl fun b92 w93 hup93 (hM93 : Mem w [] w93 [[⟨b2, 69, [.bool false, .int .i64 0, .slice none 0 0]⟩], [⟨b92, 5, []⟩]]) => ?_)
  have hh93 := held_upd (wr := wd) (bs := [(blkV x)]) hup93 (fun b hb => by
   simp only [List.mem_cons, List.not_mem_nil, or_false] at hb
   rw [hb]; exact ⟨Rd.blkV_lt (hx.upd hM89.upd) (by omega), by simp⟩) (fun b hb => rfl)
  refine ⟨hh93, ?_⟩
  have hs94 : SlE byteV 5 (.slice (some ⟨b92, 0, none⟩) 0 0) [] [⟨b92, 5, []⟩] := SlE.lit (l := []) rfl
  refine dl (m_appEU hM93 (i := 1) rfl hs94 rfl rfl ((hu91'.upd hM93.upd)) (by first | omega | (simp; omega)) (by omega) fun v95 w95 r95 (hs95 : SlE byteV 5 v95 (b.drop (1 + (get (b.drop 1)).2.1)) r95) hup95 (hM95 : Mem w [] w95 [[⟨b2, 69, [.bool false, .int .i64 0, .slice none 0 0]⟩], r95]) => ?_)
  have hh95 := held_upd (wr := wd) (bs := [(blkV x)]) hup95 (fun b hb => by
   simp only [List.mem_cons, List.not_mem_nil, or_false] at hb
   rw [hb]; exact ⟨Rd.blkV_lt (hx.upd hM93.upd) (by omega), hM93.old (i := 1) rfl (Rd.blkV_lt hx (by omega))⟩) hh93
  refine ⟨hh95, ?_⟩
  obtain ⟨a96_, n96_, c96_, rfl⟩ := Sl.isSlice hs95
  refine dq (v := .agg ([.bool false, .int .i64 ((b.getD 0 0).toNat : Int), (.slice a96_ n96_ c96_)] : List Value).toArray) (o_bld rfl rfl) <| dl (m_stAU (l := [.bool false, .int .i64 ((b.getD 0 0).toNat : Int), (.slice a96_ n96_ c96_)]) hM95 (i := 0) rfl rfl rfl rfl (by simp [oneCells, Value.oneCell', byteV]) (by simp) fun w97 hup97 (hM97 : Mem w [] w97 [[⟨b2, 69, [.bool false, .int .i64 ((b.getD 0 0).toNat : Int), (.slice a96_ n96_ c96_)]⟩], r95]) => ?_)
  have hh97 := held_upd (wr := wd) (bs := [(blkV x)]) hup97 (fun b hb => by
   simp only [List.mem_cons, List.not_mem_nil, or_false] at hb
   rw [hb]; exact ⟨Rd.blkV_lt (hx.upd hM95.upd) (by omega), hM95.old (i := 0) rfl (Rd.blkV_lt hx (by omega))⟩) hh95
  refine ⟨hh97, dq (v := .int .i64 0) (o_mv rfl) <| h88 _ _ ?_⟩
  show resV _ _ _ _ _
  refine res_cell (s := some 3) (by kernel_rfl) <| vl_ldA (cs := [.bool false, .int .i64 ((b.getD 0 0).toNat : Int), (.slice a96_ n96_ c96_)]) rfl rfl ((hM97.at (i := 0) (j := 0) rfl rfl).agg rfl rfl) <| res_tmp <| ⟨(.tuple [.agg ([.bool false, .int .i64 ((b.getD 0 0).toNat : Int), (.slice a96_ n96_ c96_)] : List Value).toArray, .int .i64 0].toArray), rfl, ?_⟩
  omega
 refine gx rfl <| gx rfl <| gxl rfl <| gx rfl <| stp (v := .bool false) (o_pickF rfl rfl) <| h5 _ _ <| cndF rfl <| h4 _ _ <| seq fun _ h98 => seq fun _ h99 => stp (v := x) (o_mv rfl) <| stp (v := .int .i64 (b.length : Nat)) (o_lenR (hx.upd hM3.upd) rfl rfl) <| stp (v := .bool (decide (((b.length : Nat) : Int) = 1))) (o_bin rfl rfl rfl) <| stp (v := .bool (decide (((b.length : Nat) : Int) = 1))) (o_mv rfl) <| splitP rfl (fun c100 => ?_) (fun c100 => ?_)
 ·refine stg rfl (v := x) (o_mv rfl) <| gyes rfl rfl (m_idxE 0 (j := 0) (hx.upd hM3.upd) rfl rfl (by omega) fun b101 o101 hp101 => gyesl rfl <| ld (v := byteV (b.getD 0 0)) rfl (hp101) <| stg rfl (v := .bool (decide (((b.getD 0 0).toNat : Int) = 255))) (o_bin rfl rfl rfl) <| stp (v := .bool (decide (((b.getD 0 0).toNat : Int) = 255))) (o_pickT rfl rfl) <| h99 _ _ <| cndP rfl (fun c102 => ?_) (fun c102 => ?_))
  ·refine seq fun _ h103 => stp (v := .agg ([.bool true, .int .i64 0, .slice none 0 0] : List Value).toArray) (o_bld rfl rfl) <| m_stA (l := [.bool true, .int .i64 0, .slice none 0 0]) hM3 (i := 0) rfl rfl rfl rfl (by simp [oneCells, Value.oneCell', byteV]) (by simp) fun w104 (hM104 : Mem w [] w104 [[⟨b2, 69, [.bool true, .int .i64 0, .slice none 0 0]⟩]]) => stp (v := .int .i64 0) (o_mv rfl) <| h103 _ _ ?_
   show resV _ _ _ _ _
   refine res_cell (s := some 3) (by kernel_rfl) <| vl_ldA (cs := [.bool true, .int .i64 0, .slice none 0 0]) rfl rfl ((hM104.at (i := 0) (j := 0) rfl rfl).agg rfl rfl) <| res_tmp <| ⟨(.tuple [.agg ([.bool true, .int .i64 0, .slice none 0 0] : List Value).toArray, .int .i64 0].toArray), rfl, ?_⟩
   omega
  refine h98 _ _ <| seq fun _ h105 => seq fun _ h106 => stp (v := x) (o_mv rfl) <| stp (v := .int .i64 (b.length : Nat)) (o_lenR (hx.upd hM3.upd) rfl rfl) <| stp (v := .bool (decide (((b.length : Nat) : Int) < 1))) (o_bin rfl rfl rfl) <| stp (v := .bool (decide (((b.length : Nat) : Int) < 1))) (o_mv rfl) <| splitP rfl (fun c107 => ?_) (fun c107 => ?_)
  ·refine gx rfl <| gx rfl <| gxl rfl <| gx rfl <| stp (v := .bool true) (o_pickT rfl rfl) <| stp (v := .bool true) (o_mv rfl) <| splitT rfl <| gx rfl <| gx rfl <| gxl rfl <| gx rfl <| stp (v := .bool true) (o_pickT rfl rfl) <| h106 _ _ <| cndT rfl ?_
   refine seq fun _ h108 => stp (v := .agg ([.bool false, .int .i64 0, .slice none 0 0] : List Value).toArray) (o_bld rfl rfl) <| m_stA (l := [.bool false, .int .i64 0, .slice none 0 0]) hM3 (i := 0) rfl rfl rfl rfl (by simp [oneCells, Value.oneCell', byteV]) (by simp) fun w109 (hM109 : Mem w [] w109 [[⟨b2, 69, [.bool false, .int .i64 0, .slice none 0 0]⟩]]) => stp (v := .int .i64 70) (o_mv rfl) <| h108 _ _ ?_
   show resV _ _ _ _ _
   refine res_cell (s := some 3) (by kernel_rfl) <| vl_ldA (cs := [.bool false, .int .i64 0, .slice none 0 0]) rfl rfl ((hM109.at (i := 0) (j := 0) rfl rfl).agg rfl rfl) <| res_tmp <| ⟨(.tuple [.agg ([.bool false, .int .i64 0, .slice none 0 0] : List Value).toArray, .int .i64 70].toArray), rfl, ?_⟩
   omega
  refine stg rfl (v := x) (o_mv rfl) <| gyes rfl rfl (m_idxE 0 (j := 0) (hx.upd hM3.upd) rfl rfl (by omega) fun b110 o110 hp110 => gyesl rfl <| ld (v := byteV (b.getD 0 0)) rfl (hp110) <| stg rfl (v := .bool (decide (((b.getD 0 0).toNat : Int) < 1))) (o_bin rfl rfl rfl) <| stp (v := .bool (decide (((b.getD 0 0).toNat : Int) < 1))) (o_pickF rfl rfl) <| stp (v := .bool (decide (((b.getD 0 0).toNat : Int) < 1))) (o_mv rfl) <| splitP rfl (fun c111 => ?_) (fun c111 => ?_))
  ·refine gx rfl <| gx rfl <| gxl rfl <| gx rfl <| stp (v := .bool true) (o_pickT rfl rfl) <| h106 _ _ <| cndT rfl <| seq fun _ h112 => stp (v := .agg ([.bool false, .int .i64 0, .slice none 0 0] : List Value).toArray) (o_bld rfl rfl) <| m_stA (l := [.bool false, .int .i64 0, .slice none 0 0]) hM3 (i := 0) rfl rfl rfl rfl (by simp [oneCells, Value.oneCell', byteV]) (by simp) fun w113 (hM113 : Mem w [] w113 [[⟨b2, 69, [.bool false, .int .i64 0, .slice none 0 0]⟩]]) => stp (v := .int .i64 70) (o_mv rfl) <| h112 _ _ ?_
   show resV _ _ _ _ _
   refine res_cell (s := some 3) (by kernel_rfl) <| vl_ldA (cs := [.bool false, .int .i64 0, .slice none 0 0]) rfl rfl ((hM113.at (i := 0) (j := 0) rfl rfl).agg rfl rfl) <| res_tmp <| ⟨(.tuple [.agg ([.bool false, .int .i64 0, .slice none 0 0] : List Value).toArray, .int .i64 70].toArray), rfl, ?_⟩
   omega
  refine stg rfl (v := x) (o_mv rfl) <| gyes rfl rfl (m_idxE 0 (j := 0) (hx.upd hM3.upd) rfl rfl (by omega) fun b114 o114 hp114 => gyesl rfl <| ld (v := byteV (b.getD 0 0)) rfl (hp114) <| stg rfl (v := .bool (decide ((8 : Int) < ((b.getD 0 0).toNat : Int)))) (o_bin rfl rfl rfl) <| stp (v := .bool (decide ((8 : Int) < ((b.getD 0 0).toNat : Int)))) (o_pickF rfl rfl) <| h106 _ _ <| cndP rfl (fun c115 => ?_) (fun c115 => ?_))
  ·refine seq fun _ h116 => stp (v := .agg ([.bool false, .int .i64 0, .slice none 0 0] : List Value).toArray) (o_bld rfl rfl) <| m_stA (l := [.bool false, .int .i64 0, .slice none 0 0]) hM3 (i := 0) rfl rfl rfl rfl (by simp [oneCells, Value.oneCell', byteV]) (by simp) fun w117 (hM117 : Mem w [] w117 [[⟨b2, 69, [.bool false, .int .i64 0, .slice none 0 0]⟩]]) => stp (v := .int .i64 70) (o_mv rfl) <| h116 _ _ ?_
   show resV _ _ _ _ _
   refine res_cell (s := some 3) (by kernel_rfl) <| vl_ldA (cs := [.bool false, .int .i64 0, .slice none 0 0]) rfl rfl ((hM117.at (i := 0) (j := 0) rfl rfl).agg rfl rfl) <| res_tmp <| ⟨(.tuple [.agg ([.bool false, .int .i64 0, .slice none 0 0] : List Value).toArray, .int .i64 70].toArray), rfl, ?_⟩
   omega
  refine h105 _ _ <| seq fun _ h118 => stp (v := x) (o_mv rfl) <| m_slcE 1 b.length (hx) rfl (by omega) (by omega) rfl ⟨_, rfl⟩ fun u119 hu119 => ?_
  have hu119' : RdE byteV w u119 (b.drop 1) := by
   have e : (b.take b.length).drop 1 = (b.drop 1) := by rw [List.take_length]
   rw [e] at hu119; exact hu119
  refine m_call (refGet_ok _ (b.drop 1) w3 ((hu119'.upd hM3.upd)) (by first | omega | (simp; done) | (simp; omega))) rfl fun v120 w120 ⟨hr120, hu120⟩ => ?_
  have hM120 : Mem w [] w120 [[⟨b2, 69, [.bool false, .int .i64 0, .slice none 0 0]⟩]] := hM3.pure hu120
  subst hr120
  refine stp (v := .tuple [.int .i64 ((get (b.drop 1)).1 : Nat), .int .i64 ((get (b.drop 1)).2.1 : Nat), .int .i64 ((get (b.drop 1)).2.2)].toArray) (o_mv rfl) <| stp (v := .int .i64 ((get (b.drop 1)).1 : Nat)) (o_ext rfl rfl) <| stp (v := .int .i64 ((get (b.drop 1)).2.1 : Nat)) (o_ext rfl rfl) <| stp (v := .int .i64 ((get (b.drop 1)).2.2)) (o_ext rfl rfl) <| stp (v := .int .i64 ((get (b.drop 1)).1 : Nat)) (o_mv rfl) <| stp (v := .int .i64 ((get (b.drop 1)).2.1 : Nat)) (o_mv rfl) <| stp (v := .int .i64 ((get (b.drop 1)).2.2)) (o_mv rfl) <| h118 _ _ <| seq fun _ h121 => seq fun _ h122 => ?_
  have hgl := get_le (b := b.drop 1)
  rw [List.length_drop] at hgl
  refine stp (v := .int .i64 ((get (b.drop 1)).2.2)) (o_mv rfl) <| stp (v := .bool (decide (¬ ((get (b.drop 1)).2.2) = 0))) (o_bin rfl rfl v_neq) <| stp (v := .bool (decide (¬ ((get (b.drop 1)).2.2) = 0))) (o_mv rfl) <| splitP rfl (fun c123 => ?_) (fun c123 => ?_)
  ·refine gx rfl <| gx rfl <| stp (v := .bool true) (o_pickT rfl rfl) <| stp (v := .bool true) (o_mv rfl) <| splitT rfl <| gx rfl <| gx rfl <| stp (v := .bool true) (o_pickT rfl rfl) <| stp (v := .bool true) (o_mv rfl) <| splitT rfl <| gx rfl <| gx rfl <| gx rfl <| gx rfl ?_
   refine gx rfl <| gx rfl <| gx rfl <| stp (v := .bool true) (o_pickT rfl rfl) <| h122 _ _ <| cndT rfl <| seq fun _ h124 => stp (v := .agg ([.bool false, .int .i64 0, .slice none 0 0] : List Value).toArray) (o_bld rfl rfl) <| m_stA (l := [.bool false, .int .i64 0, .slice none 0 0]) hM120 (i := 0) rfl rfl rfl rfl (by simp [oneCells, Value.oneCell', byteV]) (by simp) fun w125 (hM125 : Mem w [] w125 [[⟨b2, 69, [.bool false, .int .i64 0, .slice none 0 0]⟩]]) => stp (v := .int .i64 70) (o_mv rfl) <| h124 _ _ ?_
   show resV _ _ _ _ _
   refine res_cell (s := some 3) (by kernel_rfl) <| vl_ldA (cs := [.bool false, .int .i64 0, .slice none 0 0]) rfl rfl ((hM125.at (i := 0) (j := 0) rfl rfl).agg rfl rfl) <| res_tmp <| ⟨(.tuple [.agg ([.bool false, .int .i64 0, .slice none 0 0] : List Value).toArray, .int .i64 70].toArray), rfl, ?_⟩
   omega
  refine stg rfl (v := .int .i64 ((get (b.drop 1)).1 : Nat)) (o_mv rfl) <| stg rfl (v := .bool (decide ((((get (b.drop 1)).1 : Nat) : Int) < 1))) (o_bin rfl rfl rfl) <| stp (v := .bool (decide ((((get (b.drop 1)).1 : Nat) : Int) < 1))) (o_pickF rfl rfl) <| stp (v := .bool (decide ((((get (b.drop 1)).1 : Nat) : Int) < 1))) (o_mv rfl) <| splitP rfl (fun c126 => ?_) (fun c126 => ?_)
  ·refine gx rfl <| gx rfl <| stp (v := .bool true) (o_pickT rfl rfl) <| stp (v := .bool true) (o_mv rfl) <| splitT rfl <| gx rfl <| gx rfl <| gx rfl <| gx rfl <| gx rfl <| gx rfl <| gx rfl <| stp (v := .bool true) (o_pickT rfl rfl) <| h122 _ _ ?_
   refine cndT rfl <| seq fun _ h127 => stp (v := .agg ([.bool false, .int .i64 0, .slice none 0 0] : List Value).toArray) (o_bld rfl rfl) <| m_stA (l := [.bool false, .int .i64 0, .slice none 0 0]) hM120 (i := 0) rfl rfl rfl rfl (by simp [oneCells, Value.oneCell', byteV]) (by simp) fun w128 (hM128 : Mem w [] w128 [[⟨b2, 69, [.bool false, .int .i64 0, .slice none 0 0]⟩]]) => stp (v := .int .i64 70) (o_mv rfl) <| h127 _ _ ?_
   show resV _ _ _ _ _
   refine res_cell (s := some 3) (by kernel_rfl) <| vl_ldA (cs := [.bool false, .int .i64 0, .slice none 0 0]) rfl rfl ((hM128.at (i := 0) (j := 0) rfl rfl).agg rfl rfl) <| res_tmp <| ⟨(.tuple [.agg ([.bool false, .int .i64 0, .slice none 0 0] : List Value).toArray, .int .i64 70].toArray), rfl, ?_⟩
   omega
  refine stg rfl (v := .int .i64 ((get (b.drop 1)).1 : Nat)) (o_mv rfl) <| stg rfl (v := .bool (decide ((4096 : Int) < (((get (b.drop 1)).1 : Nat) : Int)))) (o_bin rfl rfl rfl) <| stp (v := .bool (decide ((4096 : Int) < (((get (b.drop 1)).1 : Nat) : Int)))) (o_pickF rfl rfl) <| stp (v := .bool (decide ((4096 : Int) < (((get (b.drop 1)).1 : Nat) : Int)))) (o_mv rfl) <| splitP rfl (fun c129 => ?_) (fun c129 => ?_)
  ·refine gx rfl <| gx rfl <| gx rfl <| gx rfl <| gx rfl <| gx rfl <| gx rfl <| stp (v := .bool true) (o_pickT rfl rfl) <| h122 _ _ <| cndT rfl <| seq fun _ h130 => stp (v := .agg ([.bool false, .int .i64 0, .slice none 0 0] : List Value).toArray) (o_bld rfl rfl) <| m_stA (l := [.bool false, .int .i64 0, .slice none 0 0]) hM120 (i := 0) rfl rfl rfl rfl (by simp [oneCells, Value.oneCell', byteV]) (by simp) fun w131 (hM131 : Mem w [] w131 [[⟨b2, 69, [.bool false, .int .i64 0, .slice none 0 0]⟩]]) => stp (v := .int .i64 70) (o_mv rfl) ?_
   refine h130 _ _ ?_
   show resV _ _ _ _ _
   refine res_cell (s := some 3) (by kernel_rfl) <| vl_ldA (cs := [.bool false, .int .i64 0, .slice none 0 0]) rfl rfl ((hM131.at (i := 0) (j := 0) rfl rfl).agg rfl rfl) <| res_tmp <| ⟨(.tuple [.agg ([.bool false, .int .i64 0, .slice none 0 0] : List Value).toArray, .int .i64 70].toArray), rfl, ?_⟩
   omega
  refine stg rfl (v := x) (o_mv rfl) <| stg rfl (v := .int .i64 (b.length : Nat)) (o_lenR (hx.upd hM120.upd) rfl rfl) <| stg rfl (v := .int .i64 ((get (b.drop 1)).2.1 : Nat)) (o_mv rfl) <| stg rfl (v := .int .i64 (1 + ((get (b.drop 1)).2.1 : Nat))) (o_bin rfl rfl (v_add64 (by omega))) <| stg rfl (v := .int .i64 ((get (b.drop 1)).1 : Nat)) (o_mv rfl) <| stg rfl (v := .int .i64 ((1 + ((get (b.drop 1)).2.1 : Nat)) + ((get (b.drop 1)).1 : Nat))) (o_bin rfl rfl (v_add64 (by omega))) <| stg rfl (v := .bool (decide (¬ ((b.length : Nat) : Int) = ((1 + ((get (b.drop 1)).2.1 : Nat)) + ((get (b.drop 1)).1 : Nat))))) (o_bin rfl rfl v_neq) <| stp (v := .bool (decide (¬ ((b.length : Nat) : Int) = ((1 + ((get (b.drop 1)).2.1 : Nat)) + ((get (b.drop 1)).1 : Nat))))) (o_pickF rfl rfl) <| h122 _ _ <| cndP rfl (fun c132 => ?_) (fun c132 => ?_)
  ·refine seq fun _ h133 => stp (v := .agg ([.bool false, .int .i64 0, .slice none 0 0] : List Value).toArray) (o_bld rfl rfl) <| m_stA (l := [.bool false, .int .i64 0, .slice none 0 0]) hM120 (i := 0) rfl rfl rfl rfl (by simp [oneCells, Value.oneCell', byteV]) (by simp) fun w134 (hM134 : Mem w [] w134 [[⟨b2, 69, [.bool false, .int .i64 0, .slice none 0 0]⟩]]) => stp (v := .int .i64 70) (o_mv rfl) <| h133 _ _ ?_
   show resV _ _ _ _ _
   refine res_cell (s := some 3) (by kernel_rfl) <| vl_ldA (cs := [.bool false, .int .i64 0, .slice none 0 0]) rfl rfl ((hM134.at (i := 0) (j := 0) rfl rfl).agg rfl rfl) <| res_tmp <| ⟨(.tuple [.agg ([.bool false, .int .i64 0, .slice none 0 0] : List Value).toArray, .int .i64 70].toArray), rfl, ?_⟩
   omega
  refine h121 _ _ <| seq fun _ h135 => ?_
  intro wd e1 e2 e3 e4
  have hd := Upd.same e1 e2 e3 e4 []
  have hM136 := hM120.pure hd
  clear e1 e2 e3 e4
  refine ⟨(some [(blkV x)]), ?_⟩
  show vd _ _ _ _ _ _ _
  refine dq (v := x) (o_mv rfl) <| dqp (m_idxE2 0 (j := 0) (hx.upd hM136.upd) rfl rfl (by omega) fun b137 o137 hp137 hbb137 => ?_)
  show vd _ _ _ _ _ _ _
  subst hbb137
  refine dq (v := x) (o_mv rfl) <| dq (v := .int .i64 ((get (b.drop 1)).2.1 : Nat)) (o_mv rfl) <| dq (v := .int .i64 (1 + ((get (b.drop 1)).2.1 : Nat))) (o_bin rfl rfl (v_add64 (by omega))) <| dqp (m_slcE (1 + (get (b.drop 1)).2.1) b.length (hx) rfl (by omega) (by omega) rfl ⟨_, v_int (by omega)⟩ fun u138 hu138 => ?_)
  show vd _ _ _ _ _ _ _
  have hu138' : RdE byteV w u138 (b.drop (1 + (get (b.drop 1)).2.1)) := by
   have e : (b.take b.length).drop (1 + (get (b.drop 1)).2.1) = (b.drop (1 + (get (b.drop 1)).2.1)) := by rw [List.take_length]
   rw [e] at hu138; exact hu138
  refine dqld rfl (by simp [isHeld]) (v := byteV (b.getD 0 0)) (hp137) <| dq (v := .int .i64 ((b.getD 0 0).toNat : Int)) (o_conv rfl (v_byteTo (by decide))) <| dl (m_bsU hM136 rfl fun b139 w140 hup140 (hM140 : Mem w [] w140 [[⟨b2, 69, [.bool false, .int .i64 0, .slice none 0 0]⟩], [⟨b139, 5, []⟩]]) => ?_)
  have hh140 := held_upd (wr := wd) (bs := [(blkV x)]) hup140 (fun b hb => by
   simp only [List.mem_cons, List.not_mem_nil, or_false] at hb
   rw [hb]; exact ⟨Rd.blkV_lt (hx.upd hM136.upd) (by omega), by simp⟩) (fun b hb => rfl)
  refine ⟨hh140, ?_⟩
  have hs141 : SlE byteV 5 (.slice (some ⟨b139, 0, none⟩) 0 0) [] [⟨b139, 5, []⟩] := SlE.lit (l := []) rfl
  refine dl (m_appEU hM140 (i := 1) rfl hs141 rfl rfl ((hu138'.upd hM140.upd)) (by first | omega | (simp; omega)) (by omega) fun v142 w142 r142 (hs142 : SlE byteV 5 v142 (b.drop (1 + (get (b.drop 1)).2.1)) r142) hup142 (hM142 : Mem w [] w142 [[⟨b2, 69, [.bool false, .int .i64 0, .slice none 0 0]⟩], r142]) => ?_)
  have hh142 := held_upd (wr := wd) (bs := [(blkV x)]) hup142 (fun b hb => by
   simp only [List.mem_cons, List.not_mem_nil, or_false] at hb
   rw [hb]; exact ⟨Rd.blkV_lt (hx.upd hM140.upd) (by omega), hM140.old (i := 1) rfl (Rd.blkV_lt hx (by omega))⟩) hh140
  refine ⟨hh142, ?_⟩
  obtain ⟨a143_, n143_, c143_, rfl⟩ := Sl.isSlice hs142
  refine dq (v := .agg ([.bool false, .int .i64 ((b.getD 0 0).toNat : Int), (.slice a143_ n143_ c143_)] : List Value).toArray) (o_bld rfl rfl) <| dl (m_stAU (l := [.bool false, .int .i64 ((b.getD 0 0).toNat : Int), (.slice a143_ n143_ c143_)]) hM142 (i := 0) rfl rfl rfl rfl (by simp [oneCells, Value.oneCell', byteV]) (by simp) fun w144 hup144 (hM144 : Mem w [] w144 [[⟨b2, 69, [.bool false, .int .i64 ((b.getD 0 0).toNat : Int), (.slice a143_ n143_ c143_)]⟩], r142]) => ?_)
  have hh144 := held_upd (wr := wd) (bs := [(blkV x)]) hup144 (fun b hb => by
   simp only [List.mem_cons, List.not_mem_nil, or_false] at hb
   rw [hb]; exact ⟨Rd.blkV_lt (hx.upd hM142.upd) (by omega), hM142.old (i := 0) rfl (Rd.blkV_lt hx (by omega))⟩) hh142
  refine ⟨hh144, dq (v := .int .i64 0) (o_mv rfl) <| h135 _ _ ?_⟩
  show resV _ _ _ _ _
  refine res_cell (s := some 3) (by kernel_rfl) <| vl_ldA (cs := [.bool false, .int .i64 ((b.getD 0 0).toNat : Int), (.slice a143_ n143_ c143_)]) rfl rfl ((hM144.at (i := 0) (j := 0) rfl rfl).agg rfl rfl) <| res_tmp <| ⟨(.tuple [.agg ([.bool false, .int .i64 ((b.getD 0 0).toNat : Int), (.slice a143_ n143_ c143_)] : List Value).toArray, .int .i64 0].toArray), rfl, ?_⟩
  omega
 refine gx rfl <| gx rfl <| gxl rfl <| gx rfl <| stp (v := .bool false) (o_pickF rfl rfl) <| h99 _ _ <| cndF rfl <| h98 _ _ <| seq fun _ h145 => seq fun _ h146 => stp (v := x) (o_mv rfl) <| stp (v := .int .i64 (b.length : Nat)) (o_lenR (hx.upd hM3.upd) rfl rfl) <| stp (v := .bool (decide (((b.length : Nat) : Int) < 1))) (o_bin rfl rfl rfl) <| stp (v := .bool (decide (((b.length : Nat) : Int) < 1))) (o_mv rfl) <| splitP rfl (fun c147 => ?_) (fun c147 => ?_)
 ·refine gx rfl <| gx rfl <| gxl rfl <| gx rfl <| stp (v := .bool true) (o_pickT rfl rfl) <| stp (v := .bool true) (o_mv rfl) <| splitT rfl <| gx rfl <| gx rfl <| gxl rfl <| gx rfl <| stp (v := .bool true) (o_pickT rfl rfl) <| h146 _ _ <| cndT rfl ?_
  refine seq fun _ h148 => stp (v := .agg ([.bool false, .int .i64 0, .slice none 0 0] : List Value).toArray) (o_bld rfl rfl) <| m_stA (l := [.bool false, .int .i64 0, .slice none 0 0]) hM3 (i := 0) rfl rfl rfl rfl (by simp [oneCells, Value.oneCell', byteV]) (by simp) fun w149 (hM149 : Mem w [] w149 [[⟨b2, 69, [.bool false, .int .i64 0, .slice none 0 0]⟩]]) => stp (v := .int .i64 70) (o_mv rfl) <| h148 _ _ ?_
  show resV _ _ _ _ _
  refine res_cell (s := some 3) (by kernel_rfl) <| vl_ldA (cs := [.bool false, .int .i64 0, .slice none 0 0]) rfl rfl ((hM149.at (i := 0) (j := 0) rfl rfl).agg rfl rfl) <| res_tmp <| ⟨(.tuple [.agg ([.bool false, .int .i64 0, .slice none 0 0] : List Value).toArray, .int .i64 70].toArray), rfl, ?_⟩
  have e := dec_hbad (b := b) (by omega) (by omega) (by omega); exact ⟨_, _, by rw [e], by rw [e]; exact Sl.nil 1 5, (hM149.addNil).keep (by simp)⟩
 refine stg rfl (v := x) (o_mv rfl) <| gyes rfl rfl (m_idxE 0 (j := 0) (hx.upd hM3.upd) rfl rfl (by omega) fun b150 o150 hp150 => gyesl rfl <| ld (v := byteV (b.getD 0 0)) rfl (hp150) <| stg rfl (v := .bool (decide (((b.getD 0 0).toNat : Int) < 1))) (o_bin rfl rfl rfl) <| stp (v := .bool (decide (((b.getD 0 0).toNat : Int) < 1))) (o_pickF rfl rfl) <| stp (v := .bool (decide (((b.getD 0 0).toNat : Int) < 1))) (o_mv rfl) <| splitP rfl (fun c151 => ?_) (fun c151 => ?_))
 ·refine gx rfl <| gx rfl <| gxl rfl <| gx rfl <| stp (v := .bool true) (o_pickT rfl rfl) <| h146 _ _ <| cndT rfl <| seq fun _ h152 => stp (v := .agg ([.bool false, .int .i64 0, .slice none 0 0] : List Value).toArray) (o_bld rfl rfl) <| m_stA (l := [.bool false, .int .i64 0, .slice none 0 0]) hM3 (i := 0) rfl rfl rfl rfl (by simp [oneCells, Value.oneCell', byteV]) (by simp) fun w153 (hM153 : Mem w [] w153 [[⟨b2, 69, [.bool false, .int .i64 0, .slice none 0 0]⟩]]) => stp (v := .int .i64 70) (o_mv rfl) <| h152 _ _ ?_
  show resV _ _ _ _ _
  refine res_cell (s := some 3) (by kernel_rfl) <| vl_ldA (cs := [.bool false, .int .i64 0, .slice none 0 0]) rfl rfl ((hM153.at (i := 0) (j := 0) rfl rfl).agg rfl rfl) <| res_tmp <| ⟨(.tuple [.agg ([.bool false, .int .i64 0, .slice none 0 0] : List Value).toArray, .int .i64 70].toArray), rfl, ?_⟩
  have e := dec_hbad (b := b) (by omega) (by omega) (by omega); exact ⟨_, _, by rw [e], by rw [e]; exact Sl.nil 1 5, (hM153.addNil).keep (by simp)⟩
 refine stg rfl (v := x) (o_mv rfl) <| gyes rfl rfl (m_idxE 0 (j := 0) (hx.upd hM3.upd) rfl rfl (by omega) fun b154 o154 hp154 => gyesl rfl <| ld (v := byteV (b.getD 0 0)) rfl (hp154) <| stg rfl (v := .bool (decide ((8 : Int) < ((b.getD 0 0).toNat : Int)))) (o_bin rfl rfl rfl) <| stp (v := .bool (decide ((8 : Int) < ((b.getD 0 0).toNat : Int)))) (o_pickF rfl rfl) <| h146 _ _ <| cndP rfl (fun c155 => ?_) (fun c155 => ?_))
 ·refine seq fun _ h156 => stp (v := .agg ([.bool false, .int .i64 0, .slice none 0 0] : List Value).toArray) (o_bld rfl rfl) <| m_stA (l := [.bool false, .int .i64 0, .slice none 0 0]) hM3 (i := 0) rfl rfl rfl rfl (by simp [oneCells, Value.oneCell', byteV]) (by simp) fun w157 (hM157 : Mem w [] w157 [[⟨b2, 69, [.bool false, .int .i64 0, .slice none 0 0]⟩]]) => stp (v := .int .i64 70) (o_mv rfl) <| h156 _ _ ?_
  show resV _ _ _ _ _
  refine res_cell (s := some 3) (by kernel_rfl) <| vl_ldA (cs := [.bool false, .int .i64 0, .slice none 0 0]) rfl rfl ((hM157.at (i := 0) (j := 0) rfl rfl).agg rfl rfl) <| res_tmp <| ⟨(.tuple [.agg ([.bool false, .int .i64 0, .slice none 0 0] : List Value).toArray, .int .i64 70].toArray), rfl, ?_⟩
  have e := dec_hbad (b := b) (by omega) (by omega) (by omega); exact ⟨_, _, by rw [e], by rw [e]; exact Sl.nil 1 5, (hM157.addNil).keep (by simp)⟩
 refine h145 _ _ <| seq fun _ h158 => stp (v := x) (o_mv rfl) <| m_slcE 1 b.length (hx) rfl (by omega) (by omega) rfl ⟨_, rfl⟩ fun u159 hu159 => ?_
 have hu159' : RdE byteV w u159 (b.drop 1) := by
  have e : (b.take b.length).drop 1 = (b.drop 1) := by rw [List.take_length]
  rw [e] at hu159; exact hu159
 refine m_call (refGet_ok _ (b.drop 1) w3 ((hu159'.upd hM3.upd)) (by first | omega | (simp; done) | (simp; omega))) rfl fun v160 w160 ⟨hr160, hu160⟩ => ?_
 have hM160 : Mem w [] w160 [[⟨b2, 69, [.bool false, .int .i64 0, .slice none 0 0]⟩]] := hM3.pure hu160
 subst hr160
 refine stp (v := .tuple [.int .i64 ((get (b.drop 1)).1 : Nat), .int .i64 ((get (b.drop 1)).2.1 : Nat), .int .i64 ((get (b.drop 1)).2.2)].toArray) (o_mv rfl) <| stp (v := .int .i64 ((get (b.drop 1)).1 : Nat)) (o_ext rfl rfl) <| stp (v := .int .i64 ((get (b.drop 1)).2.1 : Nat)) (o_ext rfl rfl) <| stp (v := .int .i64 ((get (b.drop 1)).2.2)) (o_ext rfl rfl) <| stp (v := .int .i64 ((get (b.drop 1)).1 : Nat)) (o_mv rfl) <| stp (v := .int .i64 ((get (b.drop 1)).2.1 : Nat)) (o_mv rfl) <| stp (v := .int .i64 ((get (b.drop 1)).2.2)) (o_mv rfl) <| h158 _ _ <| seq fun _ h161 => seq fun _ h162 => ?_
 have hgl := get_le (b := b.drop 1)
 rw [List.length_drop] at hgl
 refine stp (v := .int .i64 ((get (b.drop 1)).2.2)) (o_mv rfl) <| stp (v := .bool (decide (¬ ((get (b.drop 1)).2.2) = 0))) (o_bin rfl rfl v_neq) <| stp (v := .bool (decide (¬ ((get (b.drop 1)).2.2) = 0))) (o_mv rfl) <| splitP rfl (fun c163 => ?_) (fun c163 => ?_)
 ·refine gx rfl <| gx rfl <| stp (v := .bool true) (o_pickT rfl rfl) <| stp (v := .bool true) (o_mv rfl) <| splitT rfl <| gx rfl <| gx rfl <| stp (v := .bool true) (o_pickT rfl rfl) <| stp (v := .bool true) (o_mv rfl) <| splitT rfl <| gx rfl <| gx rfl <| gx rfl <| gx rfl ?_
  refine gx rfl <| gx rfl <| gx rfl <| stp (v := .bool true) (o_pickT rfl rfl) <| h162 _ _ <| cndT rfl <| seq fun _ h164 => stp (v := .agg ([.bool false, .int .i64 0, .slice none 0 0] : List Value).toArray) (o_bld rfl rfl) <| m_stA (l := [.bool false, .int .i64 0, .slice none 0 0]) hM160 (i := 0) rfl rfl rfl rfl (by simp [oneCells, Value.oneCell', byteV]) (by simp) fun w165 (hM165 : Mem w [] w165 [[⟨b2, 69, [.bool false, .int .i64 0, .slice none 0 0]⟩]]) => stp (v := .int .i64 70) (o_mv rfl) <| h164 _ _ ?_
  show resV _ _ _ _ _
  refine res_cell (s := some 3) (by kernel_rfl) <| vl_ldA (cs := [.bool false, .int .i64 0, .slice none 0 0]) rfl rfl ((hM165.at (i := 0) (j := 0) rfl rfl).agg rfl rfl) <| res_tmp <| ⟨(.tuple [.agg ([.bool false, .int .i64 0, .slice none 0 0] : List Value).toArray, .int .i64 70].toArray), rfl, ?_⟩
  have e := (dec_hget (b := b) (by omega) (by omega) (by omega)).trans (if_pos (by omega)); exact ⟨_, _, by rw [e], by rw [e]; exact Sl.nil 1 5, (hM165.addNil).keep (by simp)⟩
 refine stg rfl (v := .int .i64 ((get (b.drop 1)).1 : Nat)) (o_mv rfl) <| stg rfl (v := .bool (decide ((((get (b.drop 1)).1 : Nat) : Int) < 1))) (o_bin rfl rfl rfl) <| stp (v := .bool (decide ((((get (b.drop 1)).1 : Nat) : Int) < 1))) (o_pickF rfl rfl) <| stp (v := .bool (decide ((((get (b.drop 1)).1 : Nat) : Int) < 1))) (o_mv rfl) <| splitP rfl (fun c166 => ?_) (fun c166 => ?_)
 ·refine gx rfl <| gx rfl <| stp (v := .bool true) (o_pickT rfl rfl) <| stp (v := .bool true) (o_mv rfl) <| splitT rfl <| gx rfl <| gx rfl <| gx rfl <| gx rfl <| gx rfl <| gx rfl <| gx rfl <| stp (v := .bool true) (o_pickT rfl rfl) <| h162 _ _ ?_
  refine cndT rfl <| seq fun _ h167 => stp (v := .agg ([.bool false, .int .i64 0, .slice none 0 0] : List Value).toArray) (o_bld rfl rfl) <| m_stA (l := [.bool false, .int .i64 0, .slice none 0 0]) hM160 (i := 0) rfl rfl rfl rfl (by simp [oneCells, Value.oneCell', byteV]) (by simp) fun w168 (hM168 : Mem w [] w168 [[⟨b2, 69, [.bool false, .int .i64 0, .slice none 0 0]⟩]]) => stp (v := .int .i64 70) (o_mv rfl) <| h167 _ _ ?_
  show resV _ _ _ _ _
  refine res_cell (s := some 3) (by kernel_rfl) <| vl_ldA (cs := [.bool false, .int .i64 0, .slice none 0 0]) rfl rfl ((hM168.at (i := 0) (j := 0) rfl rfl).agg rfl rfl) <| res_tmp <| ⟨(.tuple [.agg ([.bool false, .int .i64 0, .slice none 0 0] : List Value).toArray, .int .i64 70].toArray), rfl, ?_⟩
  have e := (dec_hget (b := b) (by omega) (by omega) (by omega)).trans (if_pos (by omega)); exact ⟨_, _, by rw [e], by rw [e]; exact Sl.nil 1 5, (hM168.addNil).keep (by simp)⟩
 refine stg rfl (v := .int .i64 ((get (b.drop 1)).1 : Nat)) (o_mv rfl) <| stg rfl (v := .bool (decide ((4096 : Int) < (((get (b.drop 1)).1 : Nat) : Int)))) (o_bin rfl rfl rfl) <| stp (v := .bool (decide ((4096 : Int) < (((get (b.drop 1)).1 : Nat) : Int)))) (o_pickF rfl rfl) <| stp (v := .bool (decide ((4096 : Int) < (((get (b.drop 1)).1 : Nat) : Int)))) (o_mv rfl) <| splitP rfl (fun c169 => ?_) (fun c169 => ?_)
 ·refine gx rfl <| gx rfl <| gx rfl <| gx rfl <| gx rfl <| gx rfl <| gx rfl <| stp (v := .bool true) (o_pickT rfl rfl) <| h162 _ _ <| cndT rfl <| seq fun _ h170 => stp (v := .agg ([.bool false, .int .i64 0, .slice none 0 0] : List Value).toArray) (o_bld rfl rfl) <| m_stA (l := [.bool false, .int .i64 0, .slice none 0 0]) hM160 (i := 0) rfl rfl rfl rfl (by simp [oneCells, Value.oneCell', byteV]) (by simp) fun w171 (hM171 : Mem w [] w171 [[⟨b2, 69, [.bool false, .int .i64 0, .slice none 0 0]⟩]]) => stp (v := .int .i64 70) (o_mv rfl) ?_
  refine h170 _ _ ?_
  show resV _ _ _ _ _
  refine res_cell (s := some 3) (by kernel_rfl) <| vl_ldA (cs := [.bool false, .int .i64 0, .slice none 0 0]) rfl rfl ((hM171.at (i := 0) (j := 0) rfl rfl).agg rfl rfl) <| res_tmp <| ⟨(.tuple [.agg ([.bool false, .int .i64 0, .slice none 0 0] : List Value).toArray, .int .i64 70].toArray), rfl, ?_⟩
  have e := (dec_hget (b := b) (by omega) (by omega) (by omega)).trans (if_pos (by omega)); exact ⟨_, _, by rw [e], by rw [e]; exact Sl.nil 1 5, (hM171.addNil).keep (by simp)⟩
 refine stg rfl (v := x) (o_mv rfl) <| stg rfl (v := .int .i64 (b.length : Nat)) (o_lenR (hx.upd hM160.upd) rfl rfl) <| stg rfl (v := .int .i64 ((get (b.drop 1)).2.1 : Nat)) (o_mv rfl) <| stg rfl (v := .int .i64 (1 + ((get (b.drop 1)).2.1 : Nat))) (o_bin rfl rfl (v_add64 (by omega))) <| stg rfl (v := .int .i64 ((get (b.drop 1)).1 : Nat)) (o_mv rfl) <| stg rfl (v := .int .i64 ((1 + ((get (b.drop 1)).2.1 : Nat)) + ((get (b.drop 1)).1 : Nat))) (o_bin rfl rfl (v_add64 (by omega))) <| stg rfl (v := .bool (decide (¬ ((b.length : Nat) : Int) = ((1 + ((get (b.drop 1)).2.1 : Nat)) + ((get (b.drop 1)).1 : Nat))))) (o_bin rfl rfl v_neq) <| stp (v := .bool (decide (¬ ((b.length : Nat) : Int) = ((1 + ((get (b.drop 1)).2.1 : Nat)) + ((get (b.drop 1)).1 : Nat))))) (o_pickF rfl rfl) <| h162 _ _ <| cndP rfl (fun c172 => ?_) (fun c172 => ?_)
 ·refine seq fun _ h173 => stp (v := .agg ([.bool false, .int .i64 0, .slice none 0 0] : List Value).toArray) (o_bld rfl rfl) <| m_stA (l := [.bool false, .int .i64 0, .slice none 0 0]) hM160 (i := 0) rfl rfl rfl rfl (by simp [oneCells, Value.oneCell', byteV]) (by simp) fun w174 (hM174 : Mem w [] w174 [[⟨b2, 69, [.bool false, .int .i64 0, .slice none 0 0]⟩]]) => stp (v := .int .i64 70) (o_mv rfl) <| h173 _ _ ?_
  show resV _ _ _ _ _
  refine res_cell (s := some 3) (by kernel_rfl) <| vl_ldA (cs := [.bool false, .int .i64 0, .slice none 0 0]) rfl rfl ((hM174.at (i := 0) (j := 0) rfl rfl).agg rfl rfl) <| res_tmp <| ⟨(.tuple [.agg ([.bool false, .int .i64 0, .slice none 0 0] : List Value).toArray, .int .i64 70].toArray), rfl, ?_⟩
  have e := (dec_hget (b := b) (by omega) (by omega) (by omega)).trans (if_pos (by omega)); exact ⟨_, _, by rw [e], by rw [e]; exact Sl.nil 1 5, (hM174.addNil).keep (by simp)⟩
 refine h161 _ _ <| seq fun _ h175 => ?_
 intro wd e1 e2 e3 e4
 have hd := Upd.same e1 e2 e3 e4 []
 have hM176 := hM160.pure hd
 clear e1 e2 e3 e4
 refine ⟨(some [(blkV x)]), ?_⟩
 show vd _ _ _ _ _ _ _
 refine dq (v := x) (o_mv rfl) <| dqp (m_idxE2 0 (j := 0) (hx.upd hM176.upd) rfl rfl (by omega) fun b177 o177 hp177 hbb177 => ?_)
 show vd _ _ _ _ _ _ _
 subst hbb177
 refine dq (v := x) (o_mv rfl) <| dq (v := .int .i64 ((get (b.drop 1)).2.1 : Nat)) (o_mv rfl) <| dq (v := .int .i64 (1 + ((get (b.drop 1)).2.1 : Nat))) (o_bin rfl rfl (v_add64 (by omega))) <| dqp (m_slcE (1 + (get (b.drop 1)).2.1) b.length (hx) rfl (by omega) (by omega) rfl ⟨_, v_int (by omega)⟩ fun u178 hu178 => ?_)
 show vd _ _ _ _ _ _ _
 have hu178' : RdE byteV w u178 (b.drop (1 + (get (b.drop 1)).2.1)) := by
  have e : (b.take b.length).drop (1 + (get (b.drop 1)).2.1) = (b.drop (1 + (get (b.drop 1)).2.1)) := by rw [List.take_length]
  rw [e] at hu178; exact hu178
 refine dqld rfl (by simp [isHeld]) (v := byteV (b.getD 0 0)) (hp177) <| dq (v := .int .i64 ((b.getD 0 0).toNat : Int)) (o_conv rfl (v_byteTo (by decide))) <| dl (m_bsU hM176 rfl fun b179 w180 hup180 (hM180 : Mem w [] w180 [[⟨b2, 69, [.bool false, .int .i64 0, .slice none 0 0]⟩], [⟨b179, 5, []⟩]]) => ?_)
 have hh180 := held_upd (wr := wd) (bs := [(blkV x)]) hup180 (fun b hb => by
  simp only [List.mem_cons, List.not_mem_nil, or_false] at hb
  rw [hb]; exact ⟨Rd.blkV_lt (hx.upd hM176.upd) (by omega), by simp⟩) (fun b hb => rfl)
 refine ⟨hh180, ?_⟩
 have hs181 : SlE byteV 5 (.slice (some ⟨b179, 0, none⟩) 0 0) [] [⟨b179, 5, []⟩] := SlE.lit (l := []) rfl
 refine dl (m_appEU hM180 (i := 1) rfl hs181 rfl rfl ((hu178'.upd hM180.upd)) (by first | omega | (simp; omega)) (by omega) fun v182 w182 r182 (hs182 : SlE byteV 5 v182 (b.drop (1 + (get (b.drop 1)).2.1)) r182) hup182 (hM182 : Mem w [] w182 [[⟨b2, 69, [.bool false, .int .i64 0, .slice none 0 0]⟩], r182]) => ?_)
 have hh182 := held_upd (wr := wd) (bs := [(blkV x)]) hup182 (fun b hb => by
  simp only [List.mem_cons, List.not_mem_nil, or_false] at hb
  rw [hb]; exact ⟨Rd.blkV_lt (hx.upd hM180.upd) (by omega), hM180.old (i := 1) rfl (Rd.blkV_lt hx (by omega))⟩) hh180
 refine ⟨hh182, ?_⟩
 obtain ⟨a183_, n183_, c183_, rfl⟩ := Sl.isSlice hs182
 refine dq (v := .agg ([.bool false, .int .i64 ((b.getD 0 0).toNat : Int), (.slice a183_ n183_ c183_)] : List Value).toArray) (o_bld rfl rfl) <| dl (m_stAU (l := [.bool false, .int .i64 ((b.getD 0 0).toNat : Int), (.slice a183_ n183_ c183_)]) hM182 (i := 0) rfl rfl rfl rfl (by simp [oneCells, Value.oneCell', byteV]) (by simp) fun w184 hup184 (hM184 : Mem w [] w184 [[⟨b2, 69, [.bool false, .int .i64 ((b.getD 0 0).toNat : Int), (.slice a183_ n183_ c183_)]⟩], r182]) => ?_)
 have hh184 := held_upd (wr := wd) (bs := [(blkV x)]) hup184 (fun b hb => by
  simp only [List.mem_cons, List.not_mem_nil, or_false] at hb
  rw [hb]; exact ⟨Rd.blkV_lt (hx.upd hM182.upd) (by omega), hM182.old (i := 0) rfl (Rd.blkV_lt hx (by omega))⟩) hh182
 refine ⟨hh184, dq (v := .int .i64 0) (o_mv rfl) <| h175 _ _ ?_⟩
 show resV _ _ _ _ _
 refine res_cell (s := some 3) (by kernel_rfl) <| vl_ldA (cs := [.bool false, .int .i64 ((b.getD 0 0).toNat : Int), (.slice a183_ n183_ c183_)]) rfl rfl ((hM184.at (i := 0) (j := 0) rfl rfl).agg rfl rfl) <| res_tmp <| ⟨(.tuple [.agg ([.bool false, .int .i64 ((b.getD 0 0).toNat : Int), (.slice a183_ n183_ c183_)] : List Value).toArray, .int .i64 0].toArray), rfl, ?_⟩
 have e := (dec_hget (b := b) (by omega) (by omega) (by omega)).trans (if_neg (by omega)); exact ⟨_, _, by rw [e], by rw [e]; assumption, (hM184.drop 0).keep (by simp)⟩
theorem rblocks_ok (bc : Nat) (b : List UInt8) (a : Nat) (e : Int) (r0 : List Ent) (w : World) (hc : RcS bc b a e r0) (hr : Res w r0) (hl : b.length ≤ 140737488351232) : Calls Try.prog 96 [.pointer (some ⟨bc, 0, none⟩)].toArray w (Rt fun r w' => ∃ v r' rs bl a' e', r = v ∧ RcS bc b a' e' r' ∧ SlS biC 4 74 v bl rs ∧ (∀ x ∈ bl, x.ok) ∧ bl.length ≤ 262144 ∧ BlSpec b a e bl a' e' ∧ Mem w (ids r0) w' [r', rs]) := by
 have hM0 : Mem w (ids r0) w [r0] := Mem.start hr
 refine calls_vc mixed Try.func96 rfl C96 (by simp [Try.ntmps96]) <| seq fun _ h1 => stp (v := .slice none 0 0) (o_mv rfl) <| h1 _ _ <| seq fun _ h2 => stp (v := .slice none 0 0) (o_mv rfl) <| h2 _ _ <| seq fun _ h3 => stp (v := .pointer (some ⟨bc, 0, none⟩)) (o_mv rfl) <| m_call (rNumN_ok _ b a e 262144 r0 w hc (hM0.res (i := 0) rfl) (by first | omega | (simp; done) | (simp; omega)) (by omega)) rfl fun v4 w4 ⟨V4, a4_, e4_, r'4, hr4, hn4, hc4, hm4⟩ => ?_
 have hM4 : Mem w (ids r0) w4 [r'4] := hM0.step 0 rfl hm4
 subst hr4
 have hb4 := hn4.1
 refine stp (v := .int .i64 V4) (o_mv rfl) <| h3 _ _ <| seq fun _ h5 => stp (v := .string (str ([]))) (o_mv rfl) <| h5 _ _ <| seq fun _ h6 => seq fun _ h7 => stp (v := .int .i64 0) (o_mv rfl) <| h7 _ _ ?_
 have hM8 : Mem w (ids r0) w4 [r'4, []] := hM4.addNil
 have hs8 : SlS biC 4 74 (.slice none 0 0) [] [] := Sl.nil 4 74
 refine lp (n := fun _ _ => False) (ι := (Nat) × (Int) × (List Ent) × (Int) × (List UInt8) × (List Bi) × (Value) × (List Ent)) (fun ⟨a2, e2, rc, k, key, L, y3_, r3_⟩ f w' => f 0 = .pointer (some ⟨bc, 0, none⟩) ∧ f 3 = y3_ ∧ f 5 = .string (str key) ∧ f 6 = .int .i64 k ∧ f 4 = .int .i64 V4 ∧ Mem w (ids r0) w' [rc, r3_] ∧ (RcS bc b a2 e2 rc) ∧ (k = (L.length : Nat) ∧ (L.length : Int) ≤ 262144) ∧ (key.length ≤ 64 * L.length) ∧ (∀ x ∈ L, x.ok) ∧ (BlInv b a e a2 e2 (V4 - k) key L) ∧ (SlS biC 4 74 y3_ (L) r3_)) (fun ⟨a2, e2, rc, k, key, L, y3_, r3_⟩ => (V4 - k).toNat) (a4_, e4_, r'4, 0, [], [], ((.slice none 0 0)), ([])) ?_ ?_
 ·exact ⟨rfl, rfl, by first | rfl | simp [upd], vi, vi, hM8, hc4, by simp, by simp, by simp, by rw [Int.sub_zero]; exact BlInv.init hn4, by first | exact hs8 | simpa using hs8⟩
 rintro ⟨a2, e2, rc, k, key, L, y3_, r3_⟩ f w9 ⟨e9_0, e9_3, e9_5, e9_6, e9_4, hM9, hcl, hk, hkl, hok, hI, hy3_⟩ K10 h10
 obtain ⟨frm, rfl⟩ := re5 e9_0 e9_3 e9_5 e9_6 e9_4
 refine seq fun _ h11 => seq fun _ h12 => stp (v := .int .i64 k) (o_mv rfl) <| stp (v := .int .i64 V4) (o_mv rfl) <| stp (v := .bool (decide (k < V4))) (o_bin rfl rfl rfl) <| stp (v := .bool (decide (k < V4))) (o_mv rfl) <| splitP rfl (fun c13 => ?_) (fun c13 => ?_)
 ·refine stg rfl (v := .pointer (some ⟨bc, 0, none⟩)) (o_mv rfl) <| gyesl rfl <| m_call (rRest_ok _ b a2 e2 rc w9 hcl (hM9.res (i := 0) rfl) (by first | omega | (simp; done) | (simp; omega))) rfl fun v14 w14 ⟨hr14, hm14⟩ => ?_
  have hM14 : Mem w (ids r0) w14 [rc, r3_] := hM9.step 0 rfl hm14
  subst hr14
  refine stg rfl (v := .bool (decide ((0 : Int) < (restV b a2 e2)))) (o_bin rfl rfl rfl) <| stp (v := .bool (decide ((0 : Int) < (restV b a2 e2)))) (o_pickT rfl rfl) <| h12 _ _ <| cndP rfl (fun c15 => ?_) (fun c15 => ?_)
  ·refine h11 _ _ <| seq fun _ h16 => seq fun _ h17 => m_al hM14 fun b18 w19 (hM19 : Mem w (ids r0) w19 [rc, r3_, [⟨b18, 74, [.int .i64 0, .int .i64 0, .int .i64 0, .string (str ([]))]⟩]]) => h17 _ _ <| seq fun _ h20 => stp (v := .pointer (some ⟨bc, 0, none⟩)) (o_mv rfl) <| m_call (rNumN_ok _ b a2 e2 65536 rc w19 hcl (hM19.res (i := 0) rfl) (by first | omega | (simp; done) | (simp; omega)) (by omega)) rfl fun v21 w21 ⟨V21, a21_, e21_, r'21, hr21, hn21, hc21, hm21⟩ => ?_
   have hM21 : Mem w (ids r0) w21 [r'21, r3_, [⟨b18, 74, [.int .i64 0, .int .i64 0, .int .i64 0, .string (str ([]))]⟩]] := hM19.step 0 rfl hm21
   subst hr21
   have hb21 := hn21.1
   refine stp (v := .pointer (some ⟨b18, 0, none⟩)) (o_fa rfl rfl) <| m_st (v := .int .i64 V21) hM21 (i := 2) rfl rfl rfl rfl (by simp) fun w22 (hM22 : Mem w (ids r0) w22 [r'21, r3_, [⟨b18, 74, [.int .i64 V21, .int .i64 0, .int .i64 0, .string (str ([]))]⟩]]) => h20 _ _ <| seq fun _ h23 => stp (v := .pointer (some ⟨bc, 0, none⟩)) (o_mv rfl) <| m_call (rNumN_ok _ b a21_ e21_ 65536 r'21 w22 hc21 (hM22.res (i := 0) rfl) (by first | omega | (simp; done) | (simp; omega)) (by omega)) rfl fun v24 w24 ⟨V24, a24_, e24_, r'24, hr24, hn24, hc24, hm24⟩ => ?_
   have hM24 : Mem w (ids r0) w24 [r'24, r3_, [⟨b18, 74, [.int .i64 V21, .int .i64 0, .int .i64 0, .string (str ([]))]⟩]] := hM22.step 0 rfl hm24
   subst hr24
   have hb24 := hn24.1
   refine stp (v := .pointer (some ⟨b18, 1, none⟩)) (o_fa rfl rfl) <| m_st (v := .int .i64 V24) hM24 (i := 2) rfl rfl rfl rfl (by simp) fun w25 (hM25 : Mem w (ids r0) w25 [r'24, r3_, [⟨b18, 74, [.int .i64 V21, .int .i64 V24, .int .i64 0, .string (str ([]))]⟩]]) => h23 _ _ <| seq fun _ h26 => stp (v := .pointer (some ⟨bc, 0, none⟩)) (o_mv rfl) <| m_call (rNumN_ok _ b a24_ e24_ 65536 r'24 w25 hc24 (hM25.res (i := 0) rfl) (by first | omega | (simp; done) | (simp; omega)) (by omega)) rfl fun v27 w27 ⟨V27, a27_, e27_, r'27, hr27, hn27, hc27, hm27⟩ => ?_
   have hM27 : Mem w (ids r0) w27 [r'27, r3_, [⟨b18, 74, [.int .i64 V21, .int .i64 V24, .int .i64 0, .string (str ([]))]⟩]] := hM25.step 0 rfl hm27
   subst hr27
   have hb27 := hn27.1
   refine stp (v := .pointer (some ⟨b18, 2, none⟩)) (o_fa rfl rfl) <| m_st (v := .int .i64 V27) hM27 (i := 2) rfl rfl rfl rfl (by simp) fun w28 (hM28 : Mem w (ids r0) w28 [r'27, r3_, [⟨b18, 74, [.int .i64 V21, .int .i64 V24, .int .i64 V27, .string (str ([]))]⟩]]) => h26 _ _ <| seq fun _ h29 => stp (v := .pointer (some ⟨bc, 0, none⟩)) (o_mv rfl) <| stp (v := .string (str key)) (o_mv rfl) <| stp (v := .int .i64 (key.length : Nat)) (o_lens rfl rfl) <| m_call (rNumN_ok _ b a27_ e27_ (key.length : Nat) r'27 w28 hc27 (hM28.res (i := 0) rfl) (by first | omega | (simp; done) | (simp; omega)) (by omega)) rfl fun v30 w30 ⟨V30, a30_, e30_, r'30, hr30, hn30, hc30, hm30⟩ => ?_
   have hM30 : Mem w (ids r0) w30 [r'30, r3_, [⟨b18, 74, [.int .i64 V21, .int .i64 V24, .int .i64 V27, .string (str ([]))]⟩]] := hM28.step 0 rfl hm30
   subst hr30
   have hb30 := hn30.1
   refine stp (v := .int .i64 V30) (o_mv rfl) <| h29 _ _ <| seq fun _ h31 => ?_
   intro wd e1 e2 e3 e4
   have hd := Upd.same e1 e2 e3 e4 []
   have hM32 := hM30.pure hd
   clear e1 e2 e3 e4
   refine ⟨(some []), ?_⟩
   show vd _ _ _ _ _ _ _
   refine dq (v := .string (str key)) (o_mv rfl) <| dq (v := .int .i64 V30) (o_mv rfl) <| dq (v := .string (str ((key.take V30.toNat).drop 0))) (o_slcs (a := 0) (b := V30.toNat) rfl (by omega) ⟨_, v_int (by omega)⟩ rfl rfl) <| dq (v := .pointer (some ⟨bc, 0, none⟩)) (o_mv rfl) <| dl (m_call (rTextN_ok _ b a30_ e30_ 64 r'30 wd hc30 (hM32.res (i := 0) rfl) (by first | omega | (simp; done) | (simp; omega)) (by omega)) rfl fun v33 w33 ⟨V33, a33_, e33_, r'33, hr33, hn33, hc33, hm33⟩ => ?_)
   have hM33 : Mem w (ids r0) w33 [r'33, r3_, [⟨b18, 74, [.int .i64 V21, .int .i64 V24, .int .i64 V27, .string (str ([]))]⟩]] := hM32.step 0 rfl hm33
   subst hr33
   have hb33 := hn33.1
   refine ⟨(fun b hb => by cases hb), dq (v := .string (str (((key.take V30.toNat).drop 0) ++ V33))) (o_sadd rfl rfl (by first | omega | (simp; omega)) rfl) <| dq (v := .pointer (some ⟨b18, 3, none⟩)) (o_fa rfl rfl) <| dl (m_st (v := .string (str (((key.take V30.toNat).drop 0) ++ V33))) hM33 (i := 2) rfl rfl rfl rfl (by simp) fun w34 (hM34 : Mem w (ids r0) w34 [r'33, r3_, [⟨b18, 74, [.int .i64 V21, .int .i64 V24, .int .i64 V27, .string (str (((key.take V30.toNat).drop 0) ++ V33))]⟩]]) => ⟨(fun b hb => by cases hb), h31 _ _ <| seq fun _ h35 => stp (v := .pointer (some ⟨b18, 3, none⟩)) (o_fa rfl rfl) <| m_ld (v := .string (str (((key.take V30.toNat).drop 0) ++ V33))) hM34 (i := 2) (j := 0) rfl rfl rfl rfl <| stp (v := .string (str (((key.take V30.toNat).drop 0) ++ V33))) (o_mv rfl) <| h35 _ _ <| stp (v := y3_) (o_mv rfl) <| m_ldA (l := [.int .i64 V21, .int .i64 V24, .int .i64 V27, .string (str (((key.take V30.toNat).drop 0) ++ V33))]) hM34 (i := 2) (j := 0) rfl rfl rfl rfl rfl <| m_app1S (enc := biC) (q := (⟨V21, V24, V27, ((key.take V30.toNat).drop 0) ++ V33⟩ : Bi)) hM34 (i := 1) rfl hy3_ rfl (by simp) (rfl) (rfl) (by first | omega | (simp; omega)) (by omega) fun v36 w36 r36 u36 (hs36 : SlS biC 4 74 v36 (L ++ [(⟨V21, V24, V27, ((key.take V30.toNat).drop 0) ++ V33⟩ : Bi)]) r36) (hM36 : Mem w (ids r0) w36 [r'33, r36, [⟨b18, 74, [.int .i64 V21, .int .i64 V24, .int .i64 V27, .string (str (((key.take V30.toNat).drop 0) ++ V33))]⟩]]) => ?_⟩)⟩
   refine stp (v := v36) (o_mv rfl) <| h16 _ _ <| stp (v := .int .i64 k) (o_mv rfl) <| stp (v := .int .i64 (k + 1)) (o_bin rfl rfl (v_add64 (by omega))) <| stp (v := .int .i64 (k + 1)) (o_mv rfl) ?_
   refine h10 (a33_, e33_, r'33, k + 1, (key.take V30.toNat).drop 0 ++ V33, L ++ [(⟨V21, V24, V27, (key.take V30.toNat).drop 0 ++ V33⟩ : Bi)], v36, r36) _ _ ⟨rfl, rfl, by first | rfl | simp [upd], vi, vi, hM36.keep (by simp), hc33, by rw [List.length_append]; simp only [List.length_cons, List.length_nil]; omega, by simp only [List.drop_zero, List.length_append, List.length_take, List.length_cons, List.length_nil]; omega, by
    intro x hx
    rcases List.mem_append.1 hx with h | h
    ·exact hok x h
    ·obtain rfl := List.mem_singleton.1 h
     refine ⟨by simp only [inK]; omega, by simp only [inK]; omega, by simp only [inK]; omega, ?_⟩
     simp only [List.drop_zero, List.length_append, List.length_take]; omega, by
    have h9 := hI.step (by omega) hn21 hn24 hn27 hn30 hn33
    rw [show V4 - k - 1 = V4 - (k + 1) by omega] at h9
    exact h9, by first | exact hs36 | simpa using hs36⟩ (by (try dsimp only); omega)
  refine h6 _ _ <| seq fun _ h37 => stp (v := y3_) (o_mv rfl) <| stp (v := y3_) (o_mv rfl) <| h37 _ _ <| ⟨y3_, rfl, ⟨_, _, _, _, _, _, rfl, hcl, hy3_, hok, by omega, hI.done (by omega), hM14.keep (by simp)⟩⟩
 refine gx rfl <| gxl rfl <| gx rfl <| stp (v := .bool false) (o_pickF rfl rfl) <| h12 _ _ <| cndF rfl <| h6 _ _ <| seq fun _ h38 => stp (v := y3_) (o_mv rfl) <| stp (v := y3_) (o_mv rfl) <| h38 _ _ <| ⟨y3_, rfl, ⟨_, _, _, _, _, _, rfl, hcl, hy3_, hok, by omega, hI.done (by omega), hM9.keep (by simp)⟩⟩
