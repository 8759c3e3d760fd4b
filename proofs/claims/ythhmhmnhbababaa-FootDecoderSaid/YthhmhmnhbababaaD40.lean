/- The reference's cursor. -/
import Derived.Test.YthhmhmnhbababaaD39
import Derived.Test.YthhmhmnhbababaaE23
namespace Go.Proofs.Ythhmhmnhbababaa.E
open Go
def rcC (vb : Value) (a : Nat) (e : Int) : List Value := if e = 0 then [vb, .int .i64 (a : Nat), .bool false, .int .i64 0, .int .i64 0] else [vb, .int .i64 (a : Nat), .bool true, .int .i64 e, .int .i64 (a : Nat)]
def RcS (bc : Nat) (b : List UInt8) (a : Nat) (e : Int) (r : List Ent) : Prop := ∃ vb rb, r = ⟨bc, 141, rcC vb a e⟩ :: rb ∧ SlE byteV 5 vb b rb ∧ a ≤ b.length
theorem RcS.cases {bc : Nat} {b : List UInt8} {a : Nat} {e : Int} {r : List Ent} (h : RcS bc b a e r) : (∃ vb rb, e = 0 ∧ r = ⟨bc, 141, [vb, .int .i64 (a : Nat), .bool false, .int .i64 0, .int .i64 0]⟩ :: rb ∧ SlE byteV 5 vb b rb ∧ a ≤ b.length) ∨ ∃ vb rb, ¬ e = 0 ∧ r = ⟨bc, 141, [vb, .int .i64 (a : Nat), .bool true, .int .i64 e, .int .i64 (a : Nat)]⟩ :: rb ∧ SlE byteV 5 vb b rb ∧ a ≤ b.length := by
 obtain ⟨vb, rb, rfl, hb, ha⟩ := h
 by_cases c : e = 0
 ·exact .inl ⟨vb, rb, c, by subst c; rfl, hb, ha⟩
 exact .inr ⟨vb, rb, c, by unfold rcC; rw [if_neg c], hb, ha⟩
theorem RcS.zero {bc : Nat} {b : List UInt8} {a : Nat} {vb : Value} {rb : List Ent} (hb : SlE byteV 5 vb b rb) (ha : a ≤ b.length) : RcS bc b a 0 (⟨bc, 141, [vb, .int .i64 (a : Nat), .bool false, .int .i64 0, .int .i64 0]⟩ :: rb) := ⟨vb, rb, rfl, hb, ha⟩
theorem RcS.fail {bc : Nat} {b : List UInt8} {a : Nat} {e : Int} {vb : Value} {rb : List Ent} (he : ¬ e = 0) (hb : SlE byteV 5 vb b rb) (ha : a ≤ b.length) : RcS bc b a e (⟨bc, 141, [vb, .int .i64 (a : Nat), .bool true, .int .i64 e, .int .i64 (a : Nat)]⟩ :: rb) := ⟨vb, rb, by unfold rcC; rw [if_neg he], hb, ha⟩
theorem RcS.le {bc : Nat} {b : List UInt8} {a : Nat} {e : Int} {r : List Ent} (h : RcS bc b a e r) : a ≤ b.length := by obtain ⟨_, _, _, _, h⟩ := h; exact h
theorem RcS.eqv {bc : Nat} {b : List UInt8} {a a' : Nat} {e e' : Int} {r : List Ent} (h : RcS bc b a e r) (h1 : a = a') (h2 : e = e') : RcS bc b a' e' r := by subst h1 h2; exact h
theorem rNewCursor_ok (x : Value) (b : List UInt8) (w : World) (hx : RdE byteV w x b) (hl : b.length ≤ 140737488355328) : Calls Try.prog 91 [x].toArray w (Rt fun r w' => ∃ bc rs, r = .pointer (some ⟨bc, 0, none⟩) ∧ RcS bc b 0 0 rs ∧ Mem w [] w' [rs]) := by
 have hM0 : Mem w [] w [] := Mem.nil w []
 refine calls_vc mixed Try.func91 rfl C91 (by simp [Try.ntmps91]) <| seq fun _ h1 => mv <| h1 _ _ <| seq fun _ h2 => stp (v := .agg ([.slice none 0 0, .int .i64 0, .bool false, .int .i64 0, .int .i64 0] : List Value).toArray) (o_bld rfl rfl) <| m_bx (v := .agg ([.slice none 0 0, .int .i64 0, .bool false, .int .i64 0, .int .i64 0] : List Value).toArray) hM0 rfl rfl fun b3 w4 (hM4 : Mem w [] w4 [[⟨b3, 141, [.slice none 0 0, .int .i64 0, .bool false, .int .i64 0, .int .i64 0]⟩]]) => mv <| h2 _ _ <| seq fun _ h5 => mv <| mv <| nilchk rfl <| fa rfl ?_
 refine m_ld (v := .slice none 0 0) hM4 (i := 0) (j := 0) rfl rfl rfl rfl <| mv ?_
 have hM6 : Mem w [] w4 [[⟨b3, 141, [.slice none 0 0, .int .i64 0, .bool false, .int .i64 0, .int .i64 0]⟩], []] := hM4.addNil
 have hs6 : SlE byteV 5 (.slice none 0 0) [] [] := Sl.nil 1 5
 refine m_appE hM6 (i := 1) rfl hs6 rfl rfl (hx.upd hM6.upd) (by first | omega | (simp; omega)) (by omega) fun v7 w7 r7 (hs7 : SlE byteV 5 v7 (b) r7) (hM7 : Mem w [] w7 [[⟨b3, 141, [.slice none 0 0, .int .i64 0, .bool false, .int .i64 0, .int .i64 0]⟩], r7]) => nilchk rfl <| fa rfl <| m_st (v := v7) hM7 (i := 0) rfl rfl rfl (Sl.one hs7) (by simp) fun w8 (hM8 : Mem w [] w8 [[⟨b3, 141, [v7, .int .i64 0, .bool false, .int .i64 0, .int .i64 0]⟩], r7]) => h5 _ _ <| seq fun _ h9 => mv <| mv <| h9 _ _ <| ⟨(.pointer (some ⟨b3, 0, none⟩)), rfl, ⟨_, _, rfl, RcS.zero hs7 (Nat.zero_le _), hM8.keep (by simp)⟩⟩
theorem rFail_run (bc a : Nat) (m : Int) (vb : Value) (w : World) (hm : ¬ m = 0) (hr : Res w [⟨bc, 141, [vb, .int .i64 (a : Nat), .bool false, .int .i64 0, .int .i64 0]⟩]) : Calls Try.prog 109 [.pointer (some ⟨bc, 0, none⟩), .int .i64 m].toArray w (Rt fun _ w' => Mem w (ids [⟨bc, 141, [vb, .int .i64 (a : Nat), .bool false, .int .i64 0, .int .i64 0]⟩]) w' [[⟨bc, 141, [vb, .int .i64 (a : Nat), .bool true, .int .i64 m, .int .i64 (a : Nat)]⟩]]) := by
 have hM0 : Mem w (ids [⟨bc, 141, [vb, .int .i64 (a : Nat), .bool false, .int .i64 0, .int .i64 0]⟩]) w [[⟨bc, 141, [vb, .int .i64 (a : Nat), .bool false, .int .i64 0, .int .i64 0]⟩]] := Mem.start hr
 refine calls_vc mixed Try.func109 rfl C109 (by simp [Try.ntmps109]) <| seq fun _ h1 => seq fun _ h2 => mv <| stp (v := .bool false) (o_isnil rfl rfl) <| mv <| splitF rfl <| gmv rfl <| stg rfl (v := .pointer (some ⟨bc, 0, none⟩)) (o_nilchk rfl rfl) <| gfa rfl rfl <| gyesl rfl <| m_ld (v := .bool false) hM0 (i := 0) (j := 0) rfl rfl rfl rfl <| pkF rfl <| mv ?_
 refine splitF rfl <| gmv rfl <| gbn rfl rfl rfl <| pkF rfl <| h2 _ _ <| cndP rfl (fun c3 => absurd c3 (hm)) (fun c3 => h1 _ _ <| seq fun _ h4 => mv <| nilchk rfl <| fa rfl <| m_st (v := .bool true) hM0 (i := 0) rfl rfl rfl rfl (by simp) fun w5 (hM5 : Mem w (ids [⟨bc, 141, [vb, .int .i64 (a : Nat), .bool false, .int .i64 0, .int .i64 0]⟩]) w5 [[⟨bc, 141, [vb, .int .i64 (a : Nat), .bool true, .int .i64 0, .int .i64 0]⟩]]) => h4 _ _ <| mv ?_)
 refine mv <| mv <| nilchk rfl <| fa rfl <| m_ld (v := .int .i64 (a : Nat)) hM5 (i := 0) (j := 0) rfl rfl rfl rfl <| stp (v := .agg ([.int .i64 m, .int .i64 (a : Nat)] : List Value).toArray) (o_bld rfl rfl) <| nilchk rfl <| fa rfl <| m_stA (l := [.int .i64 m, .int .i64 (a : Nat)]) hM5 (i := 0) rfl rfl rfl rfl (by simp [oneCells, Value.oneCell', byteV]) (by simp) fun w6 (hM6 : Mem w (ids [⟨bc, 141, [vb, .int .i64 (a : Nat), .bool false, .int .i64 0, .int .i64 0]⟩]) w6 [[⟨bc, 141, [vb, .int .i64 (a : Nat), .bool true, .int .i64 m, .int .i64 (a : Nat)]⟩]]) => ⟨(.tuple [].toArray), rfl, hM6⟩
theorem rFail_zero (bc a : Nat) (vb : Value) (w : World) (hw : Own w ⟨bc, 141, [vb, .int .i64 (a : Nat), .bool false, .int .i64 0, .int .i64 0]⟩) : Calls Try.prog 109 [.pointer (some ⟨bc, 0, none⟩), .int .i64 0].toArray w (Rt fun _ w' => Upd [] w w') := by
 have hM0 : Mem w [] w [] := Mem.nil w []
 refine calls_vc mixed Try.func109 rfl C109 (by simp [Try.ntmps109]) <| seq fun _ h1 => seq fun _ h2 => mv <| stp (v := .bool false) (o_isnil rfl rfl) <| mv <| splitF rfl <| gmv rfl <| stg rfl (v := .pointer (some ⟨bc, 0, none⟩)) (o_nilchk rfl rfl) <| gfa rfl rfl <| gyesl rfl <| ld (v := .bool false) rfl ((hw.upd hM0.upd (by simp)).cell 2) <| pkF rfl <| mv ?_
 refine splitF rfl <| gmv rfl <| stg rfl (v := .bool true) (o_bin rfl rfl v_eqT) <| pkF rfl <| h2 _ _ <| cndT rfl <| ⟨(.tuple [].toArray), rfl, hM0.upd⟩
theorem rFail_no (bc : Nat) (a : Nat) (e m : Int) (vb : Value) (w : World) (he : ¬ e = 0) (hw : Own w ⟨bc, 141, [vb, .int .i64 (a : Nat), .bool true, .int .i64 e, .int .i64 (a : Nat)]⟩) : Calls Try.prog 109 [.pointer (some ⟨bc, 0, none⟩), .int .i64 m].toArray w (Rt fun r w' => Upd [] w w') := by
 have hM0 : Mem w [] w [] := Mem.nil w []
 refine calls_vc mixed Try.func109 rfl C109 (by simp [Try.ntmps109]) <| seq fun _ h1 => seq fun _ h2 => mv <| stp (v := .bool false) (o_isnil rfl rfl) <| mv <| splitF rfl <| gmv rfl <| stg rfl (v := .pointer (some ⟨bc, 0, none⟩)) (o_nilchk rfl rfl) <| gfa rfl rfl <| gyesl rfl <| ld (v := .bool true) rfl ((hw.upd hM0.upd (by simp)).cell 2) <| pkF rfl <| mv ?_
 refine splitT rfl <| gx rfl <| gx rfl <| pkT rfl <| h2 _ _ <| cndT rfl <| ⟨(.tuple [].toArray), rfl, hM0.upd⟩
theorem rFail_ok (bc : Nat) (b : List UInt8) (a : Nat) (e m : Int) (r0 : List Ent) (w : World) (hc : RcS bc b a e r0) (hr : Res w r0) : Calls Try.prog 109 [.pointer (some ⟨bc, 0, none⟩), .int .i64 m].toArray w (Rt fun _ w' => ∃ r', RcS bc b a (if e = 0 then m else e) r' ∧ Mem w (ids r0) w' [r']) := by
 rcases hc.cases with ⟨vb, rb, rfl, rfl, hb, ha⟩ | ⟨vb, rb, he, rfl, hb, ha⟩
 ·by_cases c : m = 0
  ·subst c
   refine (rFail_zero bc a vb w (hr.1 _ (by simp))).mono fun en w' h => h.elim fun v h => ⟨v, h.1, ⟨_, RcS.zero hb ha, ((Mem.start hr).pure h.2).keep (by simp)⟩⟩
  have hM : Mem w (ids (⟨bc, 141, [vb, .int .i64 (a : Nat), .bool false, .int .i64 0, .int .i64 0]⟩ :: rb)) w [[⟨bc, 141, [vb, .int .i64 (a : Nat), .bool false, .int .i64 0, .int .i64 0]⟩], rb] := (Mem.start hr).keep (by simp)
  refine (rFail_run bc a m vb w c (hM.res (i := 0) rfl)).mono fun en w' h => h.elim fun v h => ⟨v, h.1, ⟨_, (RcS.fail c hb ha).eqv rfl (by rw [if_pos rfl]), (hM.step 0 rfl h.2).keep (by simp)⟩⟩
 refine (rFail_no bc a e m vb w he (hr.1 _ (by simp))).mono fun en w' h => h.elim fun v h => ⟨v, h.1, ⟨_, (RcS.fail he hb ha).eqv rfl (by rw [if_neg he]), ((Mem.start hr).pure h.2).keep (by simp)⟩⟩
theorem rRest_run (bc : Nat) (b : List UInt8) (a : Nat) (vb : Value) (w : World) (hb : RdE byteV w vb b) (hw : Own w ⟨bc, 141, [vb, .int .i64 (a : Nat), .bool false, .int .i64 0, .int .i64 0]⟩) (ha : a ≤ b.length) (hl : b.length ≤ 140737488355328) : Calls Try.prog 93 [.pointer (some ⟨bc, 0, none⟩)].toArray w (Rt fun r w' => r = .int .i64 ((b.length - a : Nat) : Int) ∧ Upd [] w w') := by
 have hM0 : Mem w [] w [] := Mem.nil w []
 refine calls_vc mixed Try.func93 rfl C93 (by simp [Try.ntmps93]) <| seq fun _ h1 => mv <| h1 _ _ <| seq fun _ h2 => seq fun _ h3 => mv <| stp (v := .bool false) (o_isnil rfl rfl) <| mv <| splitF rfl <| gmv rfl <| stg rfl (v := .pointer (some ⟨bc, 0, none⟩)) (o_nilchk rfl rfl) <| gfa rfl rfl <| gyesl rfl ?_
 refine ld (v := .bool false) rfl ((hw.upd hM0.upd (by simp)).cell 2) <| pkF rfl <| h3 _ _ <| cndF rfl <| h2 _ _ <| seq fun _ h4 => ?_
 intro wd e1 e2 e3 e4
 have hd := Upd.same e1 e2 e3 e4 []
 have hM5 := hM0.pure hd
 clear e1 e2 e3 e4
 refine ⟨none, ?_⟩
 show vd _ _ _ _ _ _ _
 refine dmv <| dq (v := .pointer (some ⟨bc, 0, none⟩)) (o_nilchk rfl rfl) <| dfa rfl <| dmv <| dq (v := .pointer (some ⟨bc, 0, none⟩)) (o_nilchk rfl rfl) <| dfa rfl <| dqld rfl (trivial) (v := .int .i64 (a : Nat)) ((hw.upd hM5.upd (by simp)).cell 1) <| dl (ld (v := vb) rfl ((hw.upd hM5.upd (by simp)).cell 0) <| ⟨rfl, dq (v := .int .i64 (b.length : Nat)) (o_lenR (hb.upd hM5.upd) rfl rfl) <| dq (v := .int .i64 ((b.length : Nat) - (a : Nat))) (o_bin rfl rfl (v_sub64 (by omega))) <| dmv <| h4 _ _ <| ⟨(.int .i64 ((b.length : Nat) - (a : Nat))), rfl, ?_⟩⟩)
 exact ⟨v_int (by omega), hM5.upd⟩
theorem rRest_no (bc : Nat) (a : Nat) (e : Int) (vb : Value) (w : World) (he : ¬ e = 0) (hw : Own w ⟨bc, 141, [vb, .int .i64 (a : Nat), .bool true, .int .i64 e, .int .i64 (a : Nat)]⟩) : Calls Try.prog 93 [.pointer (some ⟨bc, 0, none⟩)].toArray w (Rt fun r w' => r = .int .i64 0 ∧ Upd [] w w') := by
 have hM0 : Mem w [] w [] := Mem.nil w []
 refine calls_vc mixed Try.func93 rfl C93 (by simp [Try.ntmps93]) <| seq fun _ h1 => mv <| h1 _ _ <| seq fun _ h2 => seq fun _ h3 => mv <| stp (v := .bool false) (o_isnil rfl rfl) <| mv <| splitF rfl <| gmv rfl <| stg rfl (v := .pointer (some ⟨bc, 0, none⟩)) (o_nilchk rfl rfl) <| gfa rfl rfl <| gyesl rfl ?_
 refine ld (v := .bool true) rfl ((hw.upd hM0.upd (by simp)).cell 2) <| pkF rfl <| h3 _ _ <| cndT rfl <| seq fun _ h4 => mv <| h4 _ _ <| ⟨(.int .i64 0), rfl, ⟨rfl, hM0.upd⟩⟩
theorem rRest_ok (bc : Nat) (b : List UInt8) (a : Nat) (e : Int) (r0 : List Ent) (w : World) (hc : RcS bc b a e r0) (hr : Res w r0) (hl : b.length ≤ 140737488355328) : Calls Try.prog 93 [.pointer (some ⟨bc, 0, none⟩)].toArray w (Rt fun r w' => r = .int .i64 (restV b a e) ∧ Mem w (ids r0) w' [r0]) := by
 rcases hc.cases with ⟨vb, rb, rfl, rfl, hb, ha⟩ | ⟨vb, rb, he, rfl, hb, ha⟩
 ·have hM : Mem w (ids (⟨bc, 141, [vb, .int .i64 (a : Nat), .bool false, .int .i64 0, .int .i64 0]⟩ :: rb)) w [[⟨bc, 141, [vb, .int .i64 (a : Nat), .bool false, .int .i64 0, .int .i64 0]⟩], rb] := (Mem.start hr).keep (by simp)
  refine (rRest_run bc b a vb w (hb.rd hM (i := 1) rfl) (hr.1 _ (by simp)) ha hl).mono fun en w' h => h.elim fun v h => ⟨v, h.1, ⟨h.2.1.trans (by unfold restV; rw [if_pos rfl]), (Mem.start hr).pure h.2.2⟩⟩
 refine (rRest_no bc a e vb w he (hr.1 _ (by simp))).mono fun en w' h => h.elim fun v h => ⟨v, h.1, ⟨h.2.1.trans (by unfold restV; rw [if_neg he]), (Mem.start hr).pure h.2.2⟩⟩
theorem rNum_run (bc : Nat) (b : List UInt8) (a : Nat) (m : Int) (vb : Value) (rb : List Ent) (w : World) (hb : SlE byteV 5 vb b rb) (ha : a ≤ b.length) (hr : Res w (⟨bc, 141, [vb, .int .i64 (a : Nat), .bool false, .int .i64 0, .int .i64 0]⟩ :: rb)) (hl : b.length ≤ 140737488355328) : Calls Try.prog 92 [.pointer (some ⟨bc, 0, none⟩), .int .i64 m].toArray w (Rt fun r w' => r = .int .i64 (numV (b.drop a) m) ∧ ∃ r', RcS bc b (cNumA b a 0 m) (numE (b.drop a) m) r' ∧ Mem w (ids (⟨bc, 141, [vb, .int .i64 (a : Nat), .bool false, .int .i64 0, .int .i64 0]⟩ :: rb)) w' [r']) := by
 have hM0 : Mem w (ids (⟨bc, 141, [vb, .int .i64 (a : Nat), .bool false, .int .i64 0, .int .i64 0]⟩ :: rb)) w [[⟨bc, 141, [vb, .int .i64 (a : Nat), .bool false, .int .i64 0, .int .i64 0]⟩], rb] := (Mem.start hr).keep (by simp)
 refine calls_vc mixed Try.func92 rfl C92 (by simp [Try.ntmps92]) <| seq fun _ h1 => mv <| h1 _ _ <| seq fun _ h2 => seq fun _ h3 => mv <| stp (v := .bool false) (o_isnil rfl rfl) <| mv <| splitF rfl <| gmv rfl <| stg rfl (v := .pointer (some ⟨bc, 0, none⟩)) (o_nilchk rfl rfl) <| gfa rfl rfl <| gyesl rfl ?_
 refine m_ld (v := .bool false) hM0 (i := 0) (j := 0) rfl rfl rfl rfl <| pkF rfl <| h3 _ _ <| cndF rfl <| h2 _ _ <| seq fun _ h4 => ?_
 intro wd e1 e2 e3 e4
 have hd := Upd.same e1 e2 e3 e4 []
 have hM5 := hM0.pure hd
 clear e1 e2 e3 e4
 refine ⟨(some [bc]), ?_⟩
 show vd _ _ _ _ _ _ _
 refine dmv <| dq (v := .pointer (some ⟨bc, 0, none⟩)) (o_nilchk rfl rfl) <| dfa rfl <| dmv <| dq (v := .pointer (some ⟨bc, 0, none⟩)) (o_nilchk rfl rfl) <| dfa rfl <| dqld rfl (by simp [isHeld]) (v := .int .i64 (a : Nat)) ((hM5.at (i := 0) (j := 0) rfl rfl).cell 1) <| dl (m_ld (v := vb) hM5 (i := 0) (j := 0) rfl rfl rfl rfl <| ⟨(fun b hb => rfl), dqp (m_slcE a b.length (hb.rd hM5 (i := 1) rfl) rfl (by omega) (by omega) rfl ⟨_, v_int (by omega)⟩ fun u6 hu6 => ?_)⟩)
 show vd _ _ _ _ _ _ _
 have hu6' : RdE byteV wd u6 (b.drop a) := by
  have e : (b.take b.length).drop a = (b.drop a) := by rw [List.take_length]
  rw [e] at hu6; exact hu6
 refine dl (m_call (refGet_ok _ (b.drop a) wd (hu6') (by first | omega | (simp; done) | (simp; omega))) rfl fun v7 w7 ⟨hr7, hu7⟩ => ?_)
 have hM7 : Mem w (ids (⟨bc, 141, [vb, .int .i64 (a : Nat), .bool false, .int .i64 0, .int .i64 0]⟩ :: rb)) w7 [[⟨bc, 141, [vb, .int .i64 (a : Nat), .bool false, .int .i64 0, .int .i64 0]⟩], rb] := hM5.pure hu7
 subst hr7
 have hh7 := held_upd (wr := wd) (bs := [bc]) hu7 (fun b hb => by
  simp only [List.mem_cons, List.not_mem_nil, or_false] at hb
  rw [hb]; exact ⟨(hM5.at (i := 0) (j := 0) rfl rfl).lt, by simp⟩) (fun b hb => rfl)
 refine ⟨hh7, dmv <| dq (v := .int .i64 ((get (b.drop a)).1 : Nat)) (o_ext rfl rfl) <| dq (v := .int .i64 ((get (b.drop a)).2.1 : Nat)) (o_ext rfl rfl) <| dq (v := .int .i64 ((get (b.drop a)).2.2)) (o_ext rfl rfl) <| dmv <| dmv <| dmv <| h4 _ _ <| seq fun _ h8 => seq fun _ h9 => mv <| bn rfl rfl <| mv ?_⟩
 refine splitP rfl (fun c10 => ?_) (fun c10 => ?_)
 ·refine gmv rfl <| gmv rfl <| gbn rfl rfl rfl <| pkT rfl <| h9 _ _ <| cndP rfl (fun c11 => ?_) (fun c11 => ?_)
  ·refine mv <| h8 _ _ <| seq fun _ h12 => seq fun _ h13 => mv <| bneq rfl rfl <| h13 _ _ <| cndP rfl (fun c14 => ?_) (fun c14 => ?_)
   ·refine seq fun _ h15 => mv <| mv <| m_call (rFail_run bc a 23 vb w7 (by omega) (hM7.res (i := 0) rfl)) rfl fun v16 w16 hm16 => ?_
    have hM16 : Mem w (ids (⟨bc, 141, [vb, .int .i64 (a : Nat), .bool false, .int .i64 0, .int .i64 0]⟩ :: rb)) w16 [[⟨bc, 141, [vb, .int .i64 (a : Nat), .bool true, .int .i64 23, .int .i64 (a : Nat)]⟩], rb] := hM7.step 0 rfl hm16
    refine h15 _ _ <| seq fun _ h17 => mv <| h17 _ _ <| ⟨(.int .i64 0), rfl, ⟨by rw [(num_much (by omega) (by omega)).2], _, (RcS.fail (e := 23) (by omega) hb ha).eqv (by unfold cNumA; rw [(num_much (by omega) (by omega)).1]; simp) (by rw [(num_much (by omega) (by omega)).1]), hM16.keep (by simp)⟩⟩
   refine h12 _ _ <| seq fun _ h18 => mv <| mv <| nilchk rfl <| fa rfl ?_
   have hgn := (get_ok (b := b.drop a) (by omega)).2.1
   rw [List.length_drop] at hgn
   refine m_ld (v := .int .i64 (a : Nat)) hM7 (i := 0) (j := 0) rfl rfl rfl rfl <| mv <| stp (v := .int .i64 (a + (get (b.drop a)).2.1 : Nat)) (o_bin rfl rfl ((v_add64 (by omega)).trans (v_int (by omega)))) <| nilchk rfl <| fa rfl <| m_st (v := .int .i64 (a + (get (b.drop a)).2.1 : Nat)) hM7 (i := 0) rfl rfl rfl rfl (by simp) fun w19 (hM19 : Mem w (ids (⟨bc, 141, [vb, .int .i64 (a : Nat), .bool false, .int .i64 0, .int .i64 0]⟩ :: rb)) w19 [[⟨bc, 141, [vb, .int .i64 (a + (get (b.drop a)).2.1 : Nat), .bool false, .int .i64 0, .int .i64 0]⟩], rb]) => h18 _ _ <| seq fun _ h20 => mv <| mv <| h20 _ _ <| ⟨(.int .i64 ((get (b.drop a)).1 : Nat)), rfl, ?_⟩
   omega
  refine h8 _ _ <| seq fun _ h21 => seq fun _ h22 => mv <| bneq rfl rfl <| h22 _ _ <| cndP rfl (fun c23 => ?_) (fun c23 => ?_)
  ·refine seq fun _ h24 => mv <| mv <| m_call (rFail_run bc a ((get (b.drop a)).2.2) vb w7 (by omega) (hM7.res (i := 0) rfl)) rfl fun v25 w25 hm25 => ?_
   have hM25 : Mem w (ids (⟨bc, 141, [vb, .int .i64 (a : Nat), .bool false, .int .i64 0, .int .i64 0]⟩ :: rb)) w25 [[⟨bc, 141, [vb, .int .i64 (a : Nat), .bool true, .int .i64 ((get (b.drop a)).2.2), .int .i64 (a : Nat)]⟩], rb] := hM7.step 0 rfl hm25
   refine h24 _ _ <| seq fun _ h26 => mv <| h26 _ _ <| ⟨(.int .i64 0), rfl, ?_⟩
   omega
  refine h21 _ _ <| seq fun _ h27 => mv <| mv <| nilchk rfl <| fa rfl ?_
  have hgn := (get_ok (b := b.drop a) (by omega)).2.1
  rw [List.length_drop] at hgn
  refine m_ld (v := .int .i64 (a : Nat)) hM7 (i := 0) (j := 0) rfl rfl rfl rfl <| mv <| stp (v := .int .i64 (a + (get (b.drop a)).2.1 : Nat)) (o_bin rfl rfl ((v_add64 (by omega)).trans (v_int (by omega)))) <| nilchk rfl <| fa rfl <| m_st (v := .int .i64 (a + (get (b.drop a)).2.1 : Nat)) hM7 (i := 0) rfl rfl rfl rfl (by simp) fun w28 (hM28 : Mem w (ids (⟨bc, 141, [vb, .int .i64 (a : Nat), .bool false, .int .i64 0, .int .i64 0]⟩ :: rb)) w28 [[⟨bc, 141, [vb, .int .i64 (a + (get (b.drop a)).2.1 : Nat), .bool false, .int .i64 0, .int .i64 0]⟩], rb]) => h27 _ _ <| seq fun _ h29 => mv <| mv <| h29 _ _ <| ⟨(.int .i64 ((get (b.drop a)).1 : Nat)), rfl, ⟨by rw [(num_fine (by omega) (by omega)).2], _, (RcS.zero (a := a + (get (b.drop a)).2.1) hb (by omega)).eqv (by unfold cNumA; rw [(num_fine (by omega) (by omega)).1, if_pos ⟨rfl, by omega⟩]) (by rw [(num_fine (by omega) (by omega)).1]; omega), hM28.keep (by simp)⟩⟩
 refine gx rfl <| gx rfl <| gx rfl <| pkF rfl <| h9 _ _ <| cndF rfl <| h8 _ _ <| seq fun _ h30 => seq fun _ h31 => mv <| bneq rfl rfl <| h31 _ _ <| cndP rfl (fun c32 => ?_) (fun c32 => ?_)
 ·refine seq fun _ h33 => mv <| mv <| m_call (rFail_run bc a ((get (b.drop a)).2.2) vb w7 (by omega) (hM7.res (i := 0) rfl)) rfl fun v34 w34 hm34 => ?_
  have hM34 : Mem w (ids (⟨bc, 141, [vb, .int .i64 (a : Nat), .bool false, .int .i64 0, .int .i64 0]⟩ :: rb)) w34 [[⟨bc, 141, [vb, .int .i64 (a : Nat), .bool true, .int .i64 ((get (b.drop a)).2.2), .int .i64 (a : Nat)]⟩], rb] := hM7.step 0 rfl hm34
  refine h33 _ _ <| seq fun _ h35 => mv <| h35 _ _ <| ⟨(.int .i64 0), rfl, ⟨by rw [(num_bad (by omega)).2], _, (RcS.fail (e := (get (b.drop a)).2.2) (by omega) hb ha).eqv (by unfold cNumA; rw [(num_bad (by omega)).1, if_neg (by omega)]) (by rw [(num_bad (by omega)).1]), hM34.keep (by simp)⟩⟩
 refine h30 _ _ <| seq fun _ h36 => mv <| mv <| nilchk rfl <| fa rfl ?_
 have hgn := (get_ok (b := b.drop a) (by omega)).2.1
 rw [List.length_drop] at hgn
 refine m_ld (v := .int .i64 (a : Nat)) hM7 (i := 0) (j := 0) rfl rfl rfl rfl <| mv <| stp (v := .int .i64 (a + (get (b.drop a)).2.1 : Nat)) (o_bin rfl rfl ((v_add64 (by omega)).trans (v_int (by omega)))) <| nilchk rfl <| fa rfl <| m_st (v := .int .i64 (a + (get (b.drop a)).2.1 : Nat)) hM7 (i := 0) rfl rfl rfl rfl (by simp) fun w37 (hM37 : Mem w (ids (⟨bc, 141, [vb, .int .i64 (a : Nat), .bool false, .int .i64 0, .int .i64 0]⟩ :: rb)) w37 [[⟨bc, 141, [vb, .int .i64 (a + (get (b.drop a)).2.1 : Nat), .bool false, .int .i64 0, .int .i64 0]⟩], rb]) => h36 _ _ <| seq fun _ h38 => mv <| mv <| h38 _ _ <| ⟨(.int .i64 ((get (b.drop a)).1 : Nat)), rfl, ?_⟩
 omega
theorem rNum_no (bc : Nat) (a : Nat) (e m : Int) (vb : Value) (w : World) (he : ¬ e = 0) (hw : Own w ⟨bc, 141, [vb, .int .i64 (a : Nat), .bool true, .int .i64 e, .int .i64 (a : Nat)]⟩) : Calls Try.prog 92 [.pointer (some ⟨bc, 0, none⟩), .int .i64 m].toArray w (Rt fun r w' => r = .int .i64 0 ∧ Upd [] w w') := by
 have hM0 : Mem w [] w [] := Mem.nil w []
 refine calls_vc mixed Try.func92 rfl C92 (by simp [Try.ntmps92]) <| seq fun _ h1 => mv <| h1 _ _ <| seq fun _ h2 => seq fun _ h3 => mv <| stp (v := .bool false) (o_isnil rfl rfl) <| mv <| splitF rfl <| gmv rfl <| stg rfl (v := .pointer (some ⟨bc, 0, none⟩)) (o_nilchk rfl rfl) <| gfa rfl rfl <| gyesl rfl ?_
 refine ld (v := .bool true) rfl ((hw.upd hM0.upd (by simp)).cell 2) <| pkF rfl <| h3 _ _ <| cndT rfl <| seq fun _ h4 => mv <| h4 _ _ <| ⟨(.int .i64 0), rfl, ⟨rfl, hM0.upd⟩⟩
theorem rNum_ok (bc : Nat) (b : List UInt8) (a : Nat) (e m : Int) (r0 : List Ent) (w : World) (hc : RcS bc b a e r0) (hr : Res w r0) (hl : b.length ≤ 140737488355328) : Calls Try.prog 92 [.pointer (some ⟨bc, 0, none⟩), .int .i64 m].toArray w (Rt fun r w' => r = .int .i64 (cNum b a e m) ∧ ∃ r', RcS bc b (cNumA b a e m) (cNumE b a e m) r' ∧ Mem w (ids r0) w' [r']) := by
 rcases hc.cases with ⟨vb, rb, rfl, rfl, hb, ha⟩ | ⟨vb, rb, he, rfl, hb, ha⟩
 ·refine (rNum_run bc b a m vb rb w hb ha hr hl).mono fun en w' h => h.elim fun v h => ⟨v, h.1, ?_⟩
  obtain ⟨h1, r2, h2, h3⟩ := h.2
  exact ⟨h1.trans (by unfold cNum; rw [if_pos rfl]), r2, h2.eqv rfl (by unfold cNumE; rw [if_pos rfl]), h3⟩
 refine (rNum_no bc a e m vb w he (hr.1 _ (by simp))).mono fun en w' h => h.elim fun v h => ⟨v, h.1, ⟨h.2.1.trans ?_, _, (RcS.fail he hb ha).eqv (by unfold cNumA; rw [if_neg (fun k => he k.1)]) (by unfold cNumE; rw [if_neg he]), ((Mem.start hr).pure h.2.2).keep (by simp)⟩⟩
 unfold cNum; rw [if_neg he]
theorem rTake_run (bc : Nat) (b : List UInt8) (a : Nat) (m : Int) (vb : Value) (rb : List Ent) (w : World) (hb : SlE byteV 5 vb b rb) (ha : a ≤ b.length) (hr : Res w (⟨bc, 141, [vb, .int .i64 (a : Nat), .bool false, .int .i64 0, .int .i64 0]⟩ :: rb)) (hl : b.length ≤ 140737488355328) : Calls Try.prog 110 [.pointer (some ⟨bc, 0, none⟩), .int .i64 m].toArray w (Rt fun r w' => ∃ r' rs, RcS bc b (cTkA b a 0 m) (tkE (b.drop a) m) r' ∧ SlE byteV 5 r (tkV (b.drop a) m) rs ∧ Mem w (ids (⟨bc, 141, [vb, .int .i64 (a : Nat), .bool false, .int .i64 0, .int .i64 0]⟩ :: rb)) w' [r', rs]) := by
 have hM0 : Mem w (ids (⟨bc, 141, [vb, .int .i64 (a : Nat), .bool false, .int .i64 0, .int .i64 0]⟩ :: rb)) w [[⟨bc, 141, [vb, .int .i64 (a : Nat), .bool false, .int .i64 0, .int .i64 0]⟩], rb] := (Mem.start hr).keep (by simp)
 refine calls_vc mixed Try.func110 rfl C110 (by simp [Try.ntmps110]) <| seq fun _ h1 => mv <| h1 _ _ <| seq fun _ h2 => mv <| h2 _ _ <| seq fun _ h3 => seq fun _ h4 => mv <| stp (v := .bool false) (o_isnil rfl rfl) <| mv <| splitF rfl <| gmv rfl ?_
 refine stg rfl (v := .pointer (some ⟨bc, 0, none⟩)) (o_nilchk rfl rfl) <| gfa rfl rfl <| gyesl rfl <| m_ld (v := .bool false) hM0 (i := 0) (j := 0) rfl rfl rfl rfl <| pkF rfl <| h4 _ _ <| cndF rfl <| h3 _ _ <| seq fun _ h5 => seq fun _ h6 => mv <| bn rfl rfl <| h6 _ _ <| cndP rfl (fun c7 => ?_) (fun c7 => ?_)
 ·refine seq fun _ h8 => mv <| m_call (rFail_run bc a 23 vb w (by omega) (hM0.res (i := 0) rfl)) rfl fun v9 w9 hm9 => ?_
  have hM9 : Mem w (ids (⟨bc, 141, [vb, .int .i64 (a : Nat), .bool false, .int .i64 0, .int .i64 0]⟩ :: rb)) w9 [[⟨bc, 141, [vb, .int .i64 (a : Nat), .bool true, .int .i64 23, .int .i64 (a : Nat)]⟩], rb] := hM0.step 0 rfl hm9
  refine h8 _ _ <| seq fun _ h10 => mv <| mv <| h10 _ _ <| ⟨(.slice none 0 0), rfl, ⟨_, [], (RcS.fail (e := 23) (by omega) hb ha).eqv (by unfold cTkA; rw [(tk_arg (by omega)).1]; simp) (by rw [(tk_arg (by omega)).1]), by rw [(tk_arg (by omega)).2]; exact Sl.nil 1 5, hM9.keep (by simp)⟩⟩
 refine h5 _ _ <| seq fun _ h11 => seq fun _ h12 => mv <| mv <| m_call (rRest_run bc _ a vb w (hb.rd hM0 (i := 1) rfl) (hM0.at (i := 0) (j := 0) rfl rfl) (by omega) (by omega)) rfl fun v13 w13 ⟨hr13, hu13⟩ => ?_
 have hM13 : Mem w (ids (⟨bc, 141, [vb, .int .i64 (a : Nat), .bool false, .int .i64 0, .int .i64 0]⟩ :: rb)) w13 [[⟨bc, 141, [vb, .int .i64 (a : Nat), .bool false, .int .i64 0, .int .i64 0]⟩], rb] := hM0.pure hu13
 subst hr13
 refine bn rfl rfl <| h12 _ _ <| cndP rfl (fun c14 => ?_) (fun c14 => ?_)
 ·refine seq fun _ h15 => mv <| m_call (rFail_run bc a 20 vb w13 (by omega) (hM13.res (i := 0) rfl)) rfl fun v16 w16 hm16 => ?_
  have hM16 : Mem w (ids (⟨bc, 141, [vb, .int .i64 (a : Nat), .bool false, .int .i64 0, .int .i64 0]⟩ :: rb)) w16 [[⟨bc, 141, [vb, .int .i64 (a : Nat), .bool true, .int .i64 20, .int .i64 (a : Nat)]⟩], rb] := hM13.step 0 rfl hm16
  refine h15 _ _ <| seq fun _ h17 => mv <| mv <| h17 _ _ <| ⟨(.slice none 0 0), rfl, ⟨_, [], (RcS.fail (e := 20) (by omega) hb ha).eqv (by unfold cTkA; rw [(tk_short (by omega) (by rw [List.length_drop]; omega)).1]; simp) (by rw [(tk_short (by omega) (by rw [List.length_drop]; omega)).1]), by rw [(tk_short (by omega) (by rw [List.length_drop]; omega)).2]; exact Sl.nil 1 5, hM16.keep (by simp)⟩⟩
 refine h11 _ _ <| seq fun _ h18 => ?_
 intro wd e1 e2 e3 e4
 have hd := Upd.same e1 e2 e3 e4 []
 have hM19 := hM13.pure hd
 clear e1 e2 e3 e4
 refine ⟨(some [bc]), ?_⟩
 show vd _ _ _ _ _ _ _
 refine dmv <| dmv <| dq (v := .pointer (some ⟨bc, 0, none⟩)) (o_nilchk rfl rfl) <| dfa rfl <| dmv <| dq (v := .pointer (some ⟨bc, 0, none⟩)) (o_nilchk rfl rfl) <| dfa rfl <| dmv <| dq (v := .pointer (some ⟨bc, 0, none⟩)) (o_nilchk rfl rfl) <| dfa rfl <| dmv <| dqld rfl (by simp [isHeld]) (v := .int .i64 (a : Nat)) ((hM19.at (i := 0) (j := 0) rfl rfl).cell 1) <| dq (v := .int .i64 (a + m.toNat : Nat)) (o_bin rfl rfl ((v_add64 (by omega)).trans (v_int (by omega)))) <| dqld rfl (by simp [isHeld]) (v := .int .i64 (a : Nat)) ((hM19.at (i := 0) (j := 0) rfl rfl).cell 1) <| dl (m_ld (v := vb) hM19 (i := 0) (j := 0) rfl rfl rfl rfl <| ⟨(fun b hb => rfl), dqp (m_slcE a (a + m.toNat) (hb.rd hM19 (i := 1) rfl) rfl (by omega) (by omega) ⟨_, v_int (by omega)⟩ ⟨_, v_int (by omega)⟩ fun u20 hu20 => ?_)⟩)
 show vd _ _ _ _ _ _ _
 have hu20' : RdE byteV wd u20 ((b.drop a).take m.toNat) := by
  have e : (b.take (a + m.toNat)).drop a = ((b.drop a).take m.toNat) := by rw [List.drop_take]; congr 1; omega
  rw [e] at hu20; exact hu20
 have hM21 : Mem w (ids (⟨bc, 141, [vb, .int .i64 (a : Nat), .bool false, .int .i64 0, .int .i64 0]⟩ :: rb)) wd [[⟨bc, 141, [vb, .int .i64 (a : Nat), .bool false, .int .i64 0, .int .i64 0]⟩], rb, []] := hM19.addNil
 have hs21 : SlE byteV 5 (.slice none 0 0) [] [] := Sl.nil 1 5
 refine dl (m_appEU hM21 (i := 2) rfl hs21 rfl rfl (hu20'.upd ((Upd.refl [] _))) (by first | omega | (simp; omega)) (by omega) fun v22 w22 r22 (hs22 : SlE byteV 5 v22 ((b.drop a).take m.toNat) r22) hup22 (hM22 : Mem w (ids (⟨bc, 141, [vb, .int .i64 (a : Nat), .bool false, .int .i64 0, .int .i64 0]⟩ :: rb)) w22 [[⟨bc, 141, [vb, .int .i64 (a : Nat), .bool false, .int .i64 0, .int .i64 0]⟩], rb, r22]) => ?_)
 have hh22 := held_upd (wr := wd) (bs := [bc]) hup22 (fun b hb => by
  simp only [List.mem_cons, List.not_mem_nil, or_false] at hb
  rw [hb]; exact ⟨(hM21.at (i := 0) (j := 0) rfl rfl).lt, hM21.apart (i := 0) (j := 0) (k := 2) rfl rfl rfl (by decide)⟩) (fun b hb => rfl)
 refine ⟨hh22, dmv <| h18 _ _ <| seq fun _ h23 => mv <| mv <| nilchk rfl <| fa rfl <| m_ld (v := .int .i64 (a : Nat)) hM22 (i := 0) (j := 0) rfl rfl rfl rfl <| mv <| stp (v := .int .i64 (a + m.toNat : Nat)) (o_bin rfl rfl ((v_add64 (by omega)).trans (v_int (by omega)))) <| nilchk rfl <| fa rfl <| m_st (v := .int .i64 (a + m.toNat : Nat)) hM22 (i := 0) rfl rfl rfl rfl (by simp) fun w24 (hM24 : Mem w (ids (⟨bc, 141, [vb, .int .i64 (a : Nat), .bool false, .int .i64 0, .int .i64 0]⟩ :: rb)) w24 [[⟨bc, 141, [vb, .int .i64 (a + m.toNat : Nat), .bool false, .int .i64 0, .int .i64 0]⟩], rb, r22]) => h23 _ _ <| seq fun _ h25 => mv <| mv <| h25 _ _ <| ⟨v22, rfl, ?_⟩⟩
 have htk := tk_fine (l := b.drop a) (n := m) (by omega) (by rw [List.length_drop]; omega)
 exact ⟨_, _, (RcS.zero (a := a + m.toNat) hb (by omega)).eqv (by unfold cTkA tkN; rw [htk.1, if_pos ⟨rfl, rfl⟩, if_pos rfl]) htk.1.symm, by rw [htk.2]; exact hs22, hM24.keep (by simp)⟩
theorem rTake_no (bc : Nat) (a : Nat) (e m : Int) (vb : Value) (w : World) (he : ¬ e = 0) (hw : Own w ⟨bc, 141, [vb, .int .i64 (a : Nat), .bool true, .int .i64 e, .int .i64 (a : Nat)]⟩) : Calls Try.prog 110 [.pointer (some ⟨bc, 0, none⟩), .int .i64 m].toArray w (Rt fun r w' => r = .slice none 0 0 ∧ Upd [] w w') := by
 have hM0 : Mem w [] w [] := Mem.nil w []
 refine calls_vc mixed Try.func110 rfl C110 (by simp [Try.ntmps110]) <| seq fun _ h1 => mv <| h1 _ _ <| seq fun _ h2 => mv <| h2 _ _ <| seq fun _ h3 => seq fun _ h4 => mv <| stp (v := .bool false) (o_isnil rfl rfl) <| mv <| splitF rfl <| gmv rfl ?_
 refine stg rfl (v := .pointer (some ⟨bc, 0, none⟩)) (o_nilchk rfl rfl) <| gfa rfl rfl <| gyesl rfl <| ld (v := .bool true) rfl ((hw.upd hM0.upd (by simp)).cell 2) <| pkF rfl <| h4 _ _ <| cndT rfl <| seq fun _ h5 => mv <| mv <| h5 _ _ <| ⟨(.slice none 0 0), rfl, ⟨rfl, hM0.upd⟩⟩
theorem rTake_ok (bc : Nat) (b : List UInt8) (a : Nat) (e m : Int) (r0 : List Ent) (w : World) (hc : RcS bc b a e r0) (hr : Res w r0) (hl : b.length ≤ 140737488355328) : Calls Try.prog 110 [.pointer (some ⟨bc, 0, none⟩), .int .i64 m].toArray w (Rt fun r w' => ∃ r' rs, RcS bc b (cTkA b a e m) (cTkE b a e m) r' ∧ SlE byteV 5 r (cTk b a e m) rs ∧ Mem w (ids r0) w' [r', rs]) := by
 rcases hc.cases with ⟨vb, rb, rfl, rfl, hb, ha⟩ | ⟨vb, rb, he, rfl, hb, ha⟩
 ·refine (rTake_run bc b a m vb rb w hb ha hr hl).mono fun en w' h => h.elim fun v h => ⟨v, h.1, ?_⟩
  obtain ⟨r2, rs, h1, h2, h3⟩ := h.2
  exact ⟨r2, rs, h1.eqv rfl (by unfold cTkE; rw [if_pos rfl]), by unfold cTk; rw [if_pos rfl]; exact h2, h3⟩
 refine (rTake_no bc a e m vb w he (hr.1 _ (by simp))).mono fun en w' h => h.elim fun v h => ⟨v, h.1, ⟨_, [], (RcS.fail he hb ha).eqv (by unfold cTkA; rw [if_neg (fun k => he k.1)]) (by unfold cTkE; rw [if_neg he]), by unfold cTk; rw [if_neg he, h.2.1]; exact Sl.nil 1 5, ((Mem.start hr).pure h.2.2).keep (by simp)⟩⟩
theorem rtx_bad {b : List UInt8} {a : Nat} {m : Int} (h : ¬ cNumE b a 0 m = 0) : txV (b.drop a) m = [] ∧ txE (b.drop a) m = cNumE b a 0 m ∧ cTxA b a 0 m = a ∧ cNumA b a 0 m = a := by
 simp only [cNumE, if_pos] at h ⊢
 have ha : cNumA b a 0 m = a := by unfold cNumA; rw [if_neg (fun k => h k.2)]
 by_cases c : (get (b.drop a)).2.2 = 0
 ·by_cases c1 : m < ((get (b.drop a)).1 : Int)
  ·have := tx_much c c1
   exact ⟨this.2.2, this.1.trans (num_much c c1).1.symm, by unfold cTxA; rw [if_neg (fun k => by omega)], ha⟩
  exact absurd ((num_fine c c1).1.trans c) h
 have := tx_bad (m := m) c
 exact ⟨this.2.2, this.1.trans (num_bad c).1.symm, by unfold cTxA; rw [if_neg (fun k => by omega)], ha⟩
theorem rtx_good {b : List UInt8} {a : Nat} {m : Int} (h : cNumE b a 0 m = 0) : (get (b.drop a)).2.2 = 0 ∧ ¬ m < ((get (b.drop a)).1 : Int) ∧ cNum b a 0 m = ((get (b.drop a)).1 : Int) ∧ cNumA b a 0 m = a + (get (b.drop a)).2.1 := by
 simp only [cNumE, if_pos] at h
 have c := numE_get h
 have c1 : ¬ m < ((get (b.drop a)).1 : Int) := fun k => by have := (num_much c k).1; omega
 exact ⟨c, c1, by simp only [cNum, if_pos]; exact (num_fine c c1).2, by unfold cNumA; rw [if_pos ⟨rfl, h⟩]⟩
theorem rtx_short {b : List UInt8} {a : Nat} {m : Int} (h : cNumE b a 0 m = 0) (h2 : ((b.length - cNumA b a 0 m : Nat) : Int) < cNum b a 0 m) (ha : cNumA b a 0 m ≤ b.length) : txV (b.drop a) m = [] ∧ txE (b.drop a) m = 20 ∧ cTxA b a 0 m = a := by
 obtain ⟨c, c1, e1, e2⟩ := rtx_good h
 have := tx_short c c1 (by rw [List.length_drop]; omega)
 exact ⟨this.2.2, this.1, by unfold cTxA; rw [if_neg (fun k => by omega)]⟩
theorem rtx_fine {b : List UInt8} {a : Nat} {m : Int} (h : cNumE b a 0 m = 0) (h2 : ¬ ((b.length - cNumA b a 0 m : Nat) : Int) < cNum b a 0 m) (ha : cNumA b a 0 m ≤ b.length) :
 txV (b.drop a) m = cTk b (cNumA b a 0 m) 0 (cNum b a 0 m) ∧ txE (b.drop a) m = cTkE b (cNumA b a 0 m) 0 (cNum b a 0 m) ∧ cTxA b a 0 m = cTkA b (cNumA b a 0 m) 0 (cNum b a 0 m) := by
 obtain ⟨c, c1, e1, e2⟩ := rtx_good h
 have hx := tx_fine c c1 (by rw [List.length_drop]; omega)
 have ht := tk_fine (l := b.drop (cNumA b a 0 m)) (n := cNum b a 0 m) (by omega) (by rw [List.length_drop]; omega)
 refine ⟨?_, ?_, ?_⟩
 ·simp only [cTk, if_pos]; rw [hx.2.2, ht.2, e1, e2, Int.toNat_natCast, List.drop_drop]
 ·simp only [cTkE, if_pos]; rw [hx.1, ht.1]
 have hn : tkN (b.drop (cNumA b a 0 m)) (cNum b a 0 m) = (get (b.drop a)).1 := by unfold tkN; rw [if_pos ht.1, e1]; omega
 unfold cTxA cTkA; rw [if_pos ⟨rfl, hx.1⟩, if_pos ⟨rfl, ht.1⟩, hn, hx.2.1, e2]; omega
theorem rText_run (bc : Nat) (b : List UInt8) (a : Nat) (m : Int) (vb : Value) (rb : List Ent) (w : World) (hb : SlE byteV 5 vb b rb) (ha : a ≤ b.length) (hr : Res w (⟨bc, 141, [vb, .int .i64 (a : Nat), .bool false, .int .i64 0, .int .i64 0]⟩ :: rb)) (hl : b.length ≤ 140737488355328) : Calls Try.prog 94 [.pointer (some ⟨bc, 0, none⟩), .int .i64 m].toArray w (Rt fun r w' => r = .string (str (txV (b.drop a) m)) ∧ ∃ r', RcS bc b (cTxA b a 0 m) (txE (b.drop a) m) r' ∧ Mem w (ids (⟨bc, 141, [vb, .int .i64 (a : Nat), .bool false, .int .i64 0, .int .i64 0]⟩ :: rb)) w' [r']) := by
 have hM0 : Mem w (ids (⟨bc, 141, [vb, .int .i64 (a : Nat), .bool false, .int .i64 0, .int .i64 0]⟩ :: rb)) w [[⟨bc, 141, [vb, .int .i64 (a : Nat), .bool false, .int .i64 0, .int .i64 0]⟩], rb] := (Mem.start hr).keep (by simp)
 refine calls_vc mixed Try.func94 rfl C94 (by simp [Try.ntmps94]) <| seq fun _ h1 => mv <| h1 _ _ <| seq fun _ h2 => seq fun _ h3 => mv <| stp (v := .bool false) (o_isnil rfl rfl) <| mv <| splitF rfl <| gmv rfl <| stg rfl (v := .pointer (some ⟨bc, 0, none⟩)) (o_nilchk rfl rfl) <| gfa rfl rfl <| gyesl rfl ?_
 refine m_ld (v := .bool false) hM0 (i := 0) (j := 0) rfl rfl rfl rfl <| pkF rfl <| h3 _ _ <| cndF rfl <| h2 _ _ <| seq fun _ h4 => mv <| nilchk rfl <| fa rfl <| m_ld (v := .int .i64 (a : Nat)) hM0 (i := 0) (j := 0) rfl rfl rfl rfl <| mv <| h4 _ _ <| seq fun _ h5 => mv ?_
 refine mv <| m_call (rNum_ok bc b a 0 m (⟨bc, 141, [vb, .int .i64 (a : Nat), .bool false, .int .i64 0, .int .i64 0]⟩ :: rb) w (RcS.zero hb ha) ((hM0.keep (by simp) : Mem w (ids (⟨bc, 141, [vb, .int .i64 (a : Nat), .bool false, .int .i64 0, .int .i64 0]⟩ :: rb)) w [⟨bc, 141, [vb, .int .i64 (a : Nat), .bool false, .int .i64 0, .int .i64 0]⟩ :: rb]).res (i := 0) rfl) hl) rfl fun v6 w6 ⟨hr6, r6, hc6, hm6⟩ => ?_
 have hM6 : Mem w (ids (⟨bc, 141, [vb, .int .i64 (a : Nat), .bool false, .int .i64 0, .int .i64 0]⟩ :: rb)) w6 [r6] := (hM0.keep (by simp) : Mem w (ids (⟨bc, 141, [vb, .int .i64 (a : Nat), .bool false, .int .i64 0, .int .i64 0]⟩ :: rb)) w [⟨bc, 141, [vb, .int .i64 (a : Nat), .bool false, .int .i64 0, .int .i64 0]⟩ :: rb]).step 0 rfl hm6
 subst hr6
 have hc1 := hc6
 refine mv <| h5 _ _ <| seq fun _ h7 => seq fun _ h8 => ?_
 rcases RcS.cases hc1 with ⟨vb1, rb1, he1, rfl, hb1, ha1⟩ | ⟨vb1, rb1, he1, rfl, hb1, ha1⟩
 ·have hM9 : Mem w (ids (⟨bc, 141, [vb, .int .i64 (a : Nat), .bool false, .int .i64 0, .int .i64 0]⟩ :: rb)) w6 [[⟨bc, 141, [vb1, .int .i64 (cNumA b a 0 m : Nat), .bool false, .int .i64 0, .int .i64 0]⟩], rb1] := hM6.keep (by simp)
  refine mv <| nilchk rfl <| fa rfl <| m_ld (v := .bool false) hM9 (i := 0) (j := 0) rfl rfl rfl rfl <| h8 _ _ <| cndF rfl <| h7 _ _ <| seq fun _ h10 => seq fun _ h11 => mv <| mv <| m_call (rRest_run bc _ (cNumA b a 0 m) vb1 w6 (hb1.rd hM9 (i := 1) rfl) (hM9.at (i := 0) (j := 0) rfl rfl) (by omega) (by omega)) rfl fun v12 w12 ⟨hr12, hu12⟩ => ?_
  have hM12 : Mem w (ids (⟨bc, 141, [vb, .int .i64 (a : Nat), .bool false, .int .i64 0, .int .i64 0]⟩ :: rb)) w12 [[⟨bc, 141, [vb1, .int .i64 (cNumA b a 0 m : Nat), .bool false, .int .i64 0, .int .i64 0]⟩], rb1] := hM9.pure hu12
  subst hr12
  refine bn rfl rfl <| h11 _ _ <| cndP rfl (fun c13 => ?_) (fun c13 => ?_)
  ·refine seq fun _ h14 => mv <| mv <| nilchk rfl <| fa rfl <| m_st (v := .int .i64 (a : Nat)) hM12 (i := 0) rfl rfl rfl rfl (by simp) fun w15 (hM15 : Mem w (ids (⟨bc, 141, [vb, .int .i64 (a : Nat), .bool false, .int .i64 0, .int .i64 0]⟩ :: rb)) w15 [[⟨bc, 141, [vb1, .int .i64 (a : Nat), .bool false, .int .i64 0, .int .i64 0]⟩], rb1]) => h14 _ _ <| seq fun _ h16 => mv <| m_call (rFail_run bc a 20 vb1 w15 (by omega) (hM15.res (i := 0) rfl)) rfl fun v17 w17 hm17 => ?_
   have hM17 : Mem w (ids (⟨bc, 141, [vb, .int .i64 (a : Nat), .bool false, .int .i64 0, .int .i64 0]⟩ :: rb)) w17 [[⟨bc, 141, [vb1, .int .i64 (a : Nat), .bool true, .int .i64 20, .int .i64 (a : Nat)]⟩], rb1] := hM15.step 0 rfl hm17
   refine h16 _ _ <| seq fun _ h18 => mv <| h18 _ _ <| ⟨(.string (str ([]))), rfl, ⟨by rw [(rtx_short he1 (by omega) ha1).1], _, (RcS.fail (a := a) (e := 20) (by omega) hb1 ha).eqv (rtx_short he1 (by omega) ha1).2.2.symm (rtx_short he1 (by omega) ha1).2.1.symm, hM17.keep (by simp)⟩⟩
  refine h10 _ _ <| seq fun _ h19 => mv <| mv <| m_call (rTake_ok bc b (cNumA b a 0 m) 0 (cNum b a 0 m) (⟨bc, 141, [vb1, .int .i64 (cNumA b a 0 m : Nat), .bool false, .int .i64 0, .int .i64 0]⟩ :: rb1) w12 (RcS.zero hb1 ha1) ((hM12.keep (by simp) : Mem w (ids (⟨bc, 141, [vb, .int .i64 (a : Nat), .bool false, .int .i64 0, .int .i64 0]⟩ :: rb)) w12 [⟨bc, 141, [vb1, .int .i64 (cNumA b a 0 m : Nat), .bool false, .int .i64 0, .int .i64 0]⟩ :: rb1]).res (i := 0) rfl) hl) rfl fun v20 w20 ⟨r20, rs20, hc20, hs20, hm20⟩ => ?_
  have hM20 : Mem w (ids (⟨bc, 141, [vb, .int .i64 (a : Nat), .bool false, .int .i64 0, .int .i64 0]⟩ :: rb)) w20 [r20, rs20] := (hM12.keep (by simp) : Mem w (ids (⟨bc, 141, [vb, .int .i64 (a : Nat), .bool false, .int .i64 0, .int .i64 0]⟩ :: rb)) w12 [⟨bc, 141, [vb1, .int .i64 (cNumA b a 0 m : Nat), .bool false, .int .i64 0, .int .i64 0]⟩ :: rb1]).stepAdd 0 rfl hm20
  have hcn := hc20
  refine mv <| h19 _ _ <| seq fun _ h21 => mv <| m_b2s rfl (hs20.rd hM20 (i := 1) rfl) <| mv <| h21 _ _ <| ⟨(.string (str (cTk b (cNumA b a 0 m) 0 (cNum b a 0 m)))), rfl, ⟨by rw [(rtx_fine he1 (by omega) ha1).1], _, hcn.eqv (rtx_fine he1 (by omega) ha1).2.2.symm (rtx_fine he1 (by omega) ha1).2.1.symm, hM20.keep (by simp)⟩⟩
 have hM22 : Mem w (ids (⟨bc, 141, [vb, .int .i64 (a : Nat), .bool false, .int .i64 0, .int .i64 0]⟩ :: rb)) w6 [[⟨bc, 141, [vb1, .int .i64 (cNumA b a 0 m : Nat), .bool true, .int .i64 (cNumE b a 0 m), .int .i64 (cNumA b a 0 m : Nat)]⟩], rb1] := hM6.keep (by simp)
 refine mv <| nilchk rfl <| fa rfl <| m_ld (v := .bool true) hM22 (i := 0) (j := 0) rfl rfl rfl rfl <| h8 _ _ <| cndT rfl <| seq fun _ h23 => mv <| h23 _ _ <| ⟨(.string (str ([]))), rfl, ⟨by rw [(rtx_bad he1).1], _, (RcS.fail (e := cNumE b a 0 m) he1 hb1 ha1).eqv ((rtx_bad he1).2.2.2.trans (rtx_bad he1).2.2.1.symm) (rtx_bad he1).2.1.symm, hM22.keep (by simp)⟩⟩
theorem rText_no (bc : Nat) (a : Nat) (e m : Int) (vb : Value) (w : World) (he : ¬ e = 0) (hw : Own w ⟨bc, 141, [vb, .int .i64 (a : Nat), .bool true, .int .i64 e, .int .i64 (a : Nat)]⟩) : Calls Try.prog 94 [.pointer (some ⟨bc, 0, none⟩), .int .i64 m].toArray w (Rt fun r w' => r = .string (str []) ∧ Upd [] w w') := by
 have hM0 : Mem w [] w [] := Mem.nil w []
 refine calls_vc mixed Try.func94 rfl C94 (by simp [Try.ntmps94]) <| seq fun _ h1 => mv <| h1 _ _ <| seq fun _ h2 => seq fun _ h3 => mv <| stp (v := .bool false) (o_isnil rfl rfl) <| mv <| splitF rfl <| gmv rfl <| stg rfl (v := .pointer (some ⟨bc, 0, none⟩)) (o_nilchk rfl rfl) <| gfa rfl rfl <| gyesl rfl ?_
 refine ld (v := .bool true) rfl ((hw.upd hM0.upd (by simp)).cell 2) <| pkF rfl <| h3 _ _ <| cndT rfl <| seq fun _ h4 => mv <| h4 _ _ <| ⟨(.string (str ([]))), rfl, ⟨rfl, hM0.upd⟩⟩
theorem rText_ok (bc : Nat) (b : List UInt8) (a : Nat) (e m : Int) (r0 : List Ent) (w : World) (hc : RcS bc b a e r0) (hr : Res w r0) (hl : b.length ≤ 140737488355328) : Calls Try.prog 94 [.pointer (some ⟨bc, 0, none⟩), .int .i64 m].toArray w (Rt fun r w' => r = .string (str (cTx b a e m)) ∧ ∃ r', RcS bc b (cTxA b a e m) (cTxE b a e m) r' ∧ Mem w (ids r0) w' [r']) := by
 rcases hc.cases with ⟨vb, rb, rfl, rfl, hb, ha⟩ | ⟨vb, rb, he, rfl, hb, ha⟩
 ·refine (rText_run bc b a m vb rb w hb ha hr hl).mono fun en w' h => h.elim fun v h => ⟨v, h.1, ?_⟩
  obtain ⟨h1, r2, h2, h3⟩ := h.2
  exact ⟨h1.trans (by unfold cTx; rw [if_pos rfl]), r2, h2.eqv rfl (by unfold cTxE; rw [if_pos rfl]), h3⟩
 refine (rText_no bc a e m vb w he (hr.1 _ (by simp))).mono fun en w' h => h.elim fun v h => ⟨v, h.1, ⟨h.2.1.trans ?_, _, (RcS.fail he hb ha).eqv (by unfold cTxA; rw [if_neg (fun k => he k.1)]) (by unfold cTxE; rw [if_neg he]), ((Mem.start hr).pure h.2.2).keep (by simp)⟩⟩
 unfold cTx; rw [if_neg he]
