/- Cursors. -/
import Derived.Test.YtdjdhplacfemfaaK1
namespace Go.Proofs.Ytdjdhplacfemfaa.E
open Go

/-- A cursor that a call owns: its block, and its bytes. -/
def CurS (bc : Nat) (b : List UInt8) (a : Nat) (e : Int) (r : List Ent) : Prop := ∃ vb rb, r = ⟨bc, 46, [vb, .int .i64 (a : Nat), .int .i64 e]⟩ :: rb ∧ SlE byteV 5 vb b rb ∧ a ≤ b.length
def numE (l : List UInt8) (m : Int) : Int := if (get l).2.2 = 0 then (if m < ((get l).1 : Int) then 23 else 0) else (get l).2.2
def numV (l : List UInt8) (m : Int) : Int := if numE l m = 0 then (get l).1 else 0
def fixE (l : List UInt8) (n : Int) : Int := if n < 1 ∨ 8 < n then 23 else if (l.length : Int) < n then 20 else 0
def fixV (l : List UInt8) (n : Int) : Nat := if fixE l n = 0 then word (l.take n.toNat) else 0
def tkE (l : List UInt8) (n : Int) : Int := if n < 0 then 23 else if (l.length : Int) < n then 20 else 0
def tkV (l : List UInt8) (n : Int) : List UInt8 := if tkE l n = 0 then l.take n.toNat else []
theorem numE_get {l : List UInt8} {m : Int} (h : numE l m = 0) : (get l).2.2 = 0 := by unfold numE at h; split at h <;> omega
theorem CurS.le {bc : Nat} {b : List UInt8} {a : Nat} {e : Int} {r : List Ent} (h : CurS bc b a e r) : a ≤ b.length := by obtain ⟨_, _, _, _, h⟩ := h; exact h

/-- nums.NewCursor -/
theorem NewCursor_ok (x : Value) (b : List UInt8) (w : World) (hx : RdE byteV w x b) (hl : b.length ≤ 140737488355328) : Calls Try.prog 28 [x].toArray w (Rt fun r w' => ∃ bc rs, r = .pointer (some ⟨bc, 0, none⟩) ∧ CurS bc b 0 0 rs ∧ Mem w [] w' [rs]) := by
  have hM0 : Mem w [] w [] := Mem.nil w []
  refine calls_vc mixed Try.func28 rfl C28 (by simp [Try.ntmps28]) ?_
  refine seq fun K1 h1 => ?_
  refine stp (v := .pointer none) (o_mv rfl) ?_
  refine h1 _ _ ?_
  clear h1
  refine seq fun K2 h2 => ?_
  refine stp (v := x) (o_mv rfl) ?_
  have hM3 : Mem w [] w [[]] := hM0.addNil
  have hs3 : SlE byteV 5 (.slice none 0 0) [] [] := Sl.nil 1 5
  refine m_appE hM3 (i := 0) rfl hs3 rfl rfl (hx.upd hM3.upd) (by first | omega | (simp; omega)) (by omega) fun v4 w4 r4 (hs4 : SlE byteV 5 v4 (b) r4) (hM4 : Mem w [] w4 [r4]) => ?_
  obtain ⟨a5_, n5_, c5_, rfl⟩ := Sl.isSlice hs4
  refine stp (v := .agg ([(.slice a5_ n5_ c5_), .int .i64 0, .int .i64 0] : List Value).toArray) (o_bld rfl rfl) ?_
  refine m_bx (v := .agg ([(.slice a5_ n5_ c5_), .int .i64 0, .int .i64 0] : List Value).toArray) hM4 rfl rfl fun b6 w7 (hM7 : Mem w [] w7 [r4, [⟨b6, 46, [(.slice a5_ n5_ c5_), .int .i64 0, .int .i64 0]⟩]]) => ?_
  refine stp (v := .pointer (some ⟨b6, 0, none⟩)) (o_mv rfl) ?_
  refine h2 _ _ ?_
  clear h2
  refine ⟨(.pointer (some ⟨b6, 0, none⟩)), rfl, ?_⟩
  exact ⟨_, _, rfl, ⟨_, _, rfl, hs4, Nat.zero_le _⟩, hM7.perm (by simp; exact (List.perm_append_singleton _ _).symm)⟩

/-- (*nums.Cursor).reads -/
theorem reads_run (bc : Nat) (b : List UInt8) (a : Nat) (r0 rv : List Ent) (g : FuncId) (caps : List Value) (n : Nat) (er : Int) (T : List Ent → Prop) (w : World) (hc : CurS bc b a 0 r0) (hr : Res w (r0 ++ rv)) (hl : b.length ≤ 140737488355328) (ho : okFn Try.prog g = true) (hn : er = 0 → a + n ≤ b.length) (hq : ∀ wc u, RdE byteV wc u (b.drop a) → Res wc rv → Calls Try.prog g (u :: caps).toArray wc (Rt fun r w' => r = .tuple #[.int .i64 (n : Nat), .int .i64 er] ∧ ∃ rv', T rv' ∧ Mem wc (ids rv) w' [rv'])) : Calls Try.prog 52 [.pointer (some ⟨bc, 0, none⟩), .func (.func g) #[] caps.toArray].toArray w (Rt fun _ w' => ∃ r' rv', CurS bc b (if er = 0 then a + n else a) er r' ∧ T rv' ∧ Mem w (ids (r0 ++ rv)) w' [r', rv']) := by
  obtain ⟨vb, rb, rfl, hb, ha⟩ := hc
  have hM0 : Mem w (ids (⟨bc, 46, [vb, .int .i64 (a : Nat), .int .i64 0]⟩ :: rb ++ rv)) w [[⟨bc, 46, [vb, .int .i64 (a : Nat), .int .i64 0]⟩], rb, rv] := (Mem.start hr).keep (by simp)
  refine calls_vc mixed Try.func52 rfl C52 (by simp [Try.ntmps52]) ?_
  refine seq fun K1 h1 => ?_
  refine seq fun K2 h2 => ?_
  refine stp (v := .pointer (some ⟨bc, 0, none⟩)) (o_mv rfl) ?_
  refine stp (v := .bool false) (o_isnil rfl rfl) ?_
  refine stp (v := .bool false) (o_mv rfl) ?_
  refine splitF rfl ?_
  refine stg rfl (v := .pointer (some ⟨bc, 0, none⟩)) (o_mv rfl) ?_
  refine stg rfl (v := .pointer (some ⟨bc, 0, none⟩)) (o_nilchk rfl rfl) ?_
  refine stg rfl (v := .pointer (some ⟨bc, 2, none⟩)) (o_fa rfl rfl) ?_
  refine gyesl rfl ?_
  refine m_ld (v := .int .i64 0) hM0 (i := 0) (j := 0) rfl rfl rfl rfl ?_
  refine stg rfl (v := .bool false) (o_bin rfl rfl v_neF) ?_
  refine stp (v := .bool false) (o_pickF rfl rfl) ?_
  refine h2 _ _ ?_
  clear h2
  refine cndF rfl ?_
  refine h1 _ _ ?_
  clear h1
  refine seq fun K3 h3 => ?_
  intro wd e1 e2 e3 e4
  have hd := Upd.same e1 e2 e3 e4 []
  have hM4 := hM0.pure hd
  clear e1 e2 e3 e4
  refine ⟨(some [bc]), ?_⟩
  show vd _ _ _ _ _ _ _
  refine dq (v := .func (.func g) #[] caps.toArray) (o_mv rfl) ?_
  refine dq (v := .pointer (some ⟨bc, 0, none⟩)) (o_mv rfl) ?_
  refine dq (v := .pointer (some ⟨bc, 0, none⟩)) (o_nilchk rfl rfl) ?_
  refine dq (v := .pointer (some ⟨bc, 0, none⟩)) (o_fa rfl rfl) ?_
  refine dq (v := .pointer (some ⟨bc, 0, none⟩)) (o_mv rfl) ?_
  refine dq (v := .pointer (some ⟨bc, 0, none⟩)) (o_nilchk rfl rfl) ?_
  refine dq (v := .pointer (some ⟨bc, 1, none⟩)) (o_fa rfl rfl) ?_
  refine dqld rfl (by simp [isHeld]) (v := .int .i64 (a : Nat)) ((hM4.at (i := 0) (j := 0) rfl rfl).cell 1) ?_
  refine dl (m_ld (v := vb) hM4 (i := 0) (j := 0) rfl rfl rfl rfl ?_)
  refine ⟨(fun b hb => rfl), ?_⟩
  refine dqp (m_slcE a b.length (hb.rd hM4 (i := 1) rfl) rfl (by omega) (by omega) rfl ⟨_, rfl⟩ fun u5 hu5 => ?_)
  show vd _ _ _ _ _ _ _
  refine dl (m_callv rfl (by assumption) (hq wd u5 (List.take_length (l := b) ▸ hu5) (hM4.res (i := 2) rfl)) rfl fun v6 w6 ⟨hr6, rv6, ht6, hm6⟩ => ?_)
  have hM6 : Mem w (ids (⟨bc, 46, [vb, .int .i64 (a : Nat), .int .i64 0]⟩ :: rb ++ rv)) w6 [[⟨bc, 46, [vb, .int .i64 (a : Nat), .int .i64 0]⟩], rb, rv6] := hM4.step 2 rfl hm6
  subst hr6
  have hh6 := held_upd (wr := wd) (bs := [bc]) hm6.upd (fun b hb => by
    simp only [List.mem_cons, List.not_mem_nil, or_false] at hb
    rw [hb]; exact ⟨(hM4.at (i := 0) (j := 0) rfl rfl).lt, hM4.apart (i := 0) (j := 0) (k := 2) rfl rfl rfl (by decide)⟩) (fun b hb => rfl)
  refine ⟨hh6, ?_⟩
  refine dq (v := .tuple [.int .i64 (n : Nat), .int .i64 er].toArray) (o_mv rfl) ?_
  refine dq (v := .int .i64 (n : Nat)) (o_ext rfl rfl) ?_
  refine dq (v := .int .i64 er) (o_ext rfl rfl) ?_
  refine dq (v := .int .i64 (n : Nat)) (o_mv rfl) ?_
  refine dq (v := .int .i64 er) (o_mv rfl) ?_
  refine h3 _ _ ?_
  clear h3
  refine seq fun K7 h7 => ?_
  refine seq fun K8 h8 => ?_
  refine stp (v := .int .i64 er) (o_mv rfl) ?_
  refine stp (v := .bool (decide (¬ er = 0))) (o_bin rfl rfl v_neq) ?_
  refine h8 _ _ ?_
  clear h8
  refine cndP rfl (fun c9 => ?_) (fun c9 => ?_)
  ·
    refine seq fun K10 h10 => ?_
    refine stp (v := .pointer (some ⟨bc, 0, none⟩)) (o_mv rfl) ?_
    refine stp (v := .int .i64 er) (o_mv rfl) ?_
    refine stp (v := .pointer (some ⟨bc, 0, none⟩)) (o_nilchk rfl rfl) ?_
    refine stp (v := .pointer (some ⟨bc, 2, none⟩)) (o_fa rfl rfl) ?_
    refine m_st (v := .int .i64 er) hM6 (i := 0) rfl rfl rfl rfl (by simp) fun w11 (hM11 : Mem w (ids (⟨bc, 46, [vb, .int .i64 (a : Nat), .int .i64 0]⟩ :: rb ++ rv)) w11 [[⟨bc, 46, [vb, .int .i64 (a : Nat), .int .i64 er]⟩], rb, rv6]) => ?_
    refine h10 _ _ ?_
    clear h10
    refine ⟨(.tuple [].toArray), rfl, ?_⟩
    exact ⟨⟨bc, 46, [vb, .int .i64 (a : Nat), .int .i64 er]⟩ :: rb, _, ⟨vb, rb, by rw [if_neg (by assumption)], hb, by rw [if_neg (by assumption)]; exact ha⟩, by assumption, hM11.keep (by simp)⟩
  ·
    refine h7 _ _ ?_
    clear h7
    refine stp (v := .pointer (some ⟨bc, 0, none⟩)) (o_mv rfl) ?_
    refine stp (v := .pointer (some ⟨bc, 0, none⟩)) (o_nilchk rfl rfl) ?_
    refine stp (v := .pointer (some ⟨bc, 1, none⟩)) (o_fa rfl rfl) ?_
    refine m_ld (v := .int .i64 (a : Nat)) hM6 (i := 0) (j := 0) rfl rfl rfl rfl ?_
    refine stp (v := .int .i64 (n : Nat)) (o_mv rfl) ?_
    refine stp (v := .int .i64 (a + n : Nat)) (o_bin rfl rfl ((v_add64 (by have := hn (by omega); omega)).trans (v_int (by omega)))) ?_
    refine stp (v := .pointer (some ⟨bc, 0, none⟩)) (o_nilchk rfl rfl) ?_
    refine stp (v := .pointer (some ⟨bc, 1, none⟩)) (o_fa rfl rfl) ?_
    refine m_st (v := .int .i64 (a + n : Nat)) hM6 (i := 0) rfl rfl rfl rfl (by simp) fun w12 (hM12 : Mem w (ids (⟨bc, 46, [vb, .int .i64 (a : Nat), .int .i64 0]⟩ :: rb ++ rv)) w12 [[⟨bc, 46, [vb, .int .i64 (a + n : Nat), .int .i64 0]⟩], rb, rv6]) => ?_
    refine ⟨(.tuple [].toArray), rfl, ?_⟩
    obtain rfl : er = 0 := by omega
    exact ⟨⟨bc, 46, [vb, .int .i64 ((a + n : Nat) : Int), .int .i64 0]⟩ :: rb, _, ⟨vb, rb, by rw [if_pos rfl], hb, by rw [if_pos rfl]; exact hn rfl⟩, by assumption, hM12.keep (by simp)⟩

/-- (*nums.Cursor).reads -/
theorem reads_no (bc : Nat) (vb : Value) (a : Nat) (e : Int) (f : Value) (w : World) (hw : Own w ⟨bc, 46, [vb, .int .i64 (a : Nat), .int .i64 e]⟩) (he : ¬ e = 0) : Calls Try.prog 52 [.pointer (some ⟨bc, 0, none⟩), f].toArray w (Rt fun _ w' => Upd [] w w') := by
  have hM0 : Mem w [] w [] := Mem.nil w []
  refine calls_vc mixed Try.func52 rfl C52 (by simp [Try.ntmps52]) ?_
  refine seq fun K1 h1 => ?_
  refine seq fun K2 h2 => ?_
  refine stp (v := .pointer (some ⟨bc, 0, none⟩)) (o_mv rfl) ?_
  refine stp (v := .bool false) (o_isnil rfl rfl) ?_
  refine stp (v := .bool false) (o_mv rfl) ?_
  refine splitF rfl ?_
  refine stg rfl (v := .pointer (some ⟨bc, 0, none⟩)) (o_mv rfl) ?_
  refine stg rfl (v := .pointer (some ⟨bc, 0, none⟩)) (o_nilchk rfl rfl) ?_
  refine stg rfl (v := .pointer (some ⟨bc, 2, none⟩)) (o_fa rfl rfl) ?_
  refine gyesl rfl ?_
  refine ld (v := .int .i64 e) rfl ((hw.upd hM0.upd (by simp)).cell 2) ?_
  refine stg rfl (v := .bool (decide (¬ e = 0))) (o_bin rfl rfl v_neq) ?_
  refine stp (v := .bool (decide (¬ e = 0))) (o_pickF rfl rfl) ?_
  refine h2 _ _ ?_
  clear h2
  refine cndP rfl (fun c3 => ?_) (fun c3 => (c3 (by omega)).elim)
  refine ⟨(.tuple [].toArray), rfl, ?_⟩
  exact hM0.upd

theorem reads_ok (bc : Nat) (b : List UInt8) (a : Nat) (e : Int) (r0 rv : List Ent) (g : FuncId) (caps : List Value) (n : Nat) (er : Int) (T : List Ent → Prop) (w : World) (hc : CurS bc b a e r0) (hr : Res w (r0 ++ rv)) (hl : b.length ≤ 140737488355328) (ho : okFn Try.prog g = true) (hn : er = 0 → a + n ≤ b.length) (hq : ∀ wc u, RdE byteV wc u (b.drop a) → Res wc rv → Calls Try.prog g (u :: caps).toArray wc (Rt fun r w' => r = .tuple #[.int .i64 (n : Nat), .int .i64 er] ∧ ∃ rv', T rv' ∧ Mem wc (ids rv) w' [rv'])) :
    Calls Try.prog 52 [.pointer (some ⟨bc, 0, none⟩), .func (.func g) #[] caps.toArray].toArray w (Rt fun _ w' => ∃ r' rv', CurS bc b (if e = 0 ∧ er = 0 then a + n else a) (if e = 0 then er else e) r' ∧ (if e = 0 then T rv' else rv' = rv) ∧ Mem w (ids (r0 ++ rv)) w' [r', rv']) := by
  by_cases c : e = 0
  · subst c
    refine (reads_run bc b a r0 rv g caps n er T w hc hr hl ho hn hq).mono fun en w' h => h.elim fun v h => ⟨v, h.1, ?_⟩
    obtain ⟨r', rv', h1, h2, h3⟩ := h.2
    exact ⟨r', rv', by simpa using h1, by simpa using h2, h3⟩
  · obtain ⟨vb, rb, rfl, hb, ha⟩ := hc
    refine (reads_no bc vb a e _ w (hr.1 _ (by simp)) c).mono fun en w' h => h.elim fun v h => ⟨v, h.1, ?_⟩
    exact ⟨_, _, ⟨vb, rb, by rw [if_neg (fun h => c h.1), if_neg c], hb, by rw [if_neg (fun h => c h.1)]; exact ha⟩, by rw [if_neg c], ((Mem.start hr).pure h.2).keep (by simp)⟩

theorem num_much {l : List UInt8} {m : Int} (h : (get l).2.2 = 0) (h2 : m < ((get l).1 : Int)) : numE l m = 23 ∧ numV l m = 0 := by
  have : numE l m = 23 := by unfold numE; rw [if_pos h, if_pos h2]
  exact ⟨this, by unfold numV; rw [if_neg (by omega)]⟩
theorem num_fine {l : List UInt8} {m : Int} (h : (get l).2.2 = 0) (h2 : ¬ m < ((get l).1 : Int)) : numE l m = (get l).2.2 ∧ numV l m = (get l).1 := by
  have : numE l m = 0 := by unfold numE; rw [if_pos h, if_neg h2]
  exact ⟨by omega, by unfold numV; rw [if_pos this]⟩
theorem num_bad {l : List UInt8} {m : Int} (h : ¬ (get l).2.2 = 0) : numE l m = (get l).2.2 ∧ numV l m = 0 := by
  have : numE l m = (get l).2.2 := by unfold numE; rw [if_neg h]
  exact ⟨this, by unfold numV; rw [if_neg (by omega)]⟩
def cNum (b : List UInt8) (a : Nat) (e m : Int) : Int := if e = 0 then numV (b.drop a) m else 0
def cNumA (b : List UInt8) (a : Nat) (e m : Int) : Nat := if e = 0 ∧ numE (b.drop a) m = 0 then a + (get (b.drop a)).2.1 else a
def cNumE (b : List UInt8) (a : Nat) (e m : Int) : Int := if e = 0 then numE (b.drop a) m else e

/-- (*nums.Cursor).Num$1 -/
theorem num1_ok (bm bv : Nat) (m : Int) (u : Value) (l : List UInt8) (w : World) (hu : RdE byteV w u l) (hr : Res w [⟨bm, 2, [.int .i64 m]⟩, ⟨bv, 2, [.int .i64 0]⟩]) (hl : l.length ≤ 140737488355328) : Calls Try.prog 53 [u, .pointer (some ⟨bm, 0, none⟩), .pointer (some ⟨bv, 0, none⟩)].toArray w (Rt fun r w' => r = .tuple #[.int .i64 (((get l).2.1 : Nat) : Int), .int .i64 (numE l m)] ∧ ∃ rv', rv' = [⟨bm, 2, [.int .i64 m]⟩, ⟨bv, 2, [.int .i64 (numV l m)]⟩] ∧ Mem w (ids [⟨bm, 2, [.int .i64 m]⟩, ⟨bv, 2, [.int .i64 0]⟩]) w' [rv']) := by
  have hM0 : Mem w (ids [⟨bm, 2, [.int .i64 m]⟩, ⟨bv, 2, [.int .i64 0]⟩]) w [[⟨bm, 2, [.int .i64 m]⟩], [⟨bv, 2, [.int .i64 0]⟩]] := (Mem.start hr).keep (by simp)
  refine calls_vc mixed Try.func53 rfl C53 (by simp [Try.ntmps53]) ?_
  refine seq fun K1 h1 => ?_
  refine stp (v := .int .i64 0) (o_mv rfl) ?_
  refine stp (v := .int .i64 0) (o_mv rfl) ?_
  refine h1 _ _ ?_
  clear h1
  refine seq fun K2 h2 => ?_
  refine stp (v := u) (o_mv rfl) ?_
  refine m_call (Get_ok _ l w (hu) (by first | omega | (simp; done) | (simp; omega))) rfl fun v3 w3 ⟨hr3, hu3⟩ => ?_
  have hM3 : Mem w (ids [⟨bm, 2, [.int .i64 m]⟩, ⟨bv, 2, [.int .i64 0]⟩]) w3 [[⟨bm, 2, [.int .i64 m]⟩], [⟨bv, 2, [.int .i64 0]⟩]] := hM0.pure hu3
  subst hr3
  refine stp (v := .tuple [.int .i64 ((get l).1 : Nat), .int .i64 ((get l).2.1 : Nat), .int .i64 ((get l).2.2)].toArray) (o_mv rfl) ?_
  refine stp (v := .int .i64 ((get l).1 : Nat)) (o_ext rfl rfl) ?_
  refine stp (v := .int .i64 ((get l).2.1 : Nat)) (o_ext rfl rfl) ?_
  refine stp (v := .int .i64 ((get l).2.2)) (o_ext rfl rfl) ?_
  refine stp (v := .int .i64 ((get l).1 : Nat)) (o_mv rfl) ?_
  refine stp (v := .int .i64 ((get l).2.1 : Nat)) (o_mv rfl) ?_
  refine stp (v := .int .i64 ((get l).2.2)) (o_mv rfl) ?_
  refine h2 _ _ ?_
  clear h2
  refine seq fun K4 h4 => ?_
  refine seq fun K5 h5 => ?_
  refine stp (v := .int .i64 ((get l).2.2)) (o_mv rfl) ?_
  refine stp (v := .bool (decide (((get l).2.2) = 0))) (o_bin rfl rfl rfl) ?_
  refine stp (v := .bool (decide (((get l).2.2) = 0))) (o_mv rfl) ?_
  refine splitP rfl (fun c6 => ?_) (fun c6 => ?_)
  ·
    refine stg rfl (v := .int .i64 ((get l).1 : Nat)) (o_mv rfl) ?_
    refine gyesl rfl ?_
    refine m_ld (v := .int .i64 m) hM3 (i := 0) (j := 0) rfl rfl rfl rfl ?_
    refine stg rfl (v := .bool (decide ((m : Int) < (((get l).1 : Nat) : Int)))) (o_bin rfl rfl rfl) ?_
    refine stp (v := .bool (decide ((m : Int) < (((get l).1 : Nat) : Int)))) (o_pickT rfl rfl) ?_
    refine h5 _ _ ?_
    clear h5
    refine cndP rfl (fun c7 => ?_) (fun c7 => ?_)
    ·
      refine stp (v := .int .i64 23) (o_mv rfl) ?_
      refine h4 _ _ ?_
      clear h4
      refine seq fun K8 h8 => ?_
      refine seq fun K9 h9 => ?_
      refine stp (v := .int .i64 23) (o_mv rfl) ?_
      refine stp (v := .bool (decide ((23 : Int) = 0))) (o_bin rfl rfl rfl) ?_
      refine h9 _ _ ?_
      clear h9
      refine cndP rfl (fun c10 => ?_) (fun c10 => ?_)
      ·
        refine stp (v := .int .i64 ((get l).1 : Nat)) (o_mv rfl) ?_
        refine m_st (v := .int .i64 ((get l).1 : Nat)) hM3 (i := 1) rfl rfl rfl rfl (by simp) fun w11 (hM11 : Mem w (ids [⟨bm, 2, [.int .i64 m]⟩, ⟨bv, 2, [.int .i64 0]⟩]) w11 [[⟨bm, 2, [.int .i64 m]⟩], [⟨bv, 2, [.int .i64 ((get l).1 : Nat)]⟩]]) => ?_
        refine h8 _ _ ?_
        clear h8
        refine seq fun K12 h12 => ?_
        refine stp (v := .int .i64 ((get l).2.1 : Nat)) (o_mv rfl) ?_
        refine stp (v := .int .i64 23) (o_mv rfl) ?_
        refine stp (v := .int .i64 ((get l).2.1 : Nat)) (o_mv rfl) ?_
        refine stp (v := .int .i64 23) (o_mv rfl) ?_
        refine h12 _ _ ?_
        clear h12
        refine ⟨(.tuple [.int .i64 ((get l).2.1 : Nat), .int .i64 23].toArray), rfl, ?_⟩
        first | omega | exact ⟨by rw [(num_much (by omega) (by omega)).1], _, by rw [(num_much (by omega) (by omega)).2], hM11.keep (by simp)⟩ | exact ⟨by rw [(num_fine (by omega) (by omega)).1], _, by rw [(num_fine (by omega) (by omega)).2], hM11.keep (by simp)⟩ | exact ⟨by rw [(num_bad (by omega)).1], _, by rw [(num_bad (by omega)).2], hM11.keep (by simp)⟩
      ·
        refine h8 _ _ ?_
        clear h8
        refine seq fun K13 h13 => ?_
        refine stp (v := .int .i64 ((get l).2.1 : Nat)) (o_mv rfl) ?_
        refine stp (v := .int .i64 23) (o_mv rfl) ?_
        refine stp (v := .int .i64 ((get l).2.1 : Nat)) (o_mv rfl) ?_
        refine stp (v := .int .i64 23) (o_mv rfl) ?_
        refine h13 _ _ ?_
        clear h13
        refine ⟨(.tuple [.int .i64 ((get l).2.1 : Nat), .int .i64 23].toArray), rfl, ?_⟩
        first | omega | exact ⟨by rw [(num_much (by omega) (by omega)).1], _, by rw [(num_much (by omega) (by omega)).2], hM3.keep (by simp)⟩ | exact ⟨by rw [(num_fine (by omega) (by omega)).1], _, by rw [(num_fine (by omega) (by omega)).2], hM3.keep (by simp)⟩ | exact ⟨by rw [(num_bad (by omega)).1], _, by rw [(num_bad (by omega)).2], hM3.keep (by simp)⟩
    ·
      refine h4 _ _ ?_
      clear h4
      refine seq fun K14 h14 => ?_
      refine seq fun K15 h15 => ?_
      refine stp (v := .int .i64 ((get l).2.2)) (o_mv rfl) ?_
      refine stp (v := .bool (decide (((get l).2.2) = 0))) (o_bin rfl rfl rfl) ?_
      refine h15 _ _ ?_
      clear h15
      refine cndP rfl (fun c16 => ?_) (fun c16 => ?_)
      ·
        refine stp (v := .int .i64 ((get l).1 : Nat)) (o_mv rfl) ?_
        refine m_st (v := .int .i64 ((get l).1 : Nat)) hM3 (i := 1) rfl rfl rfl rfl (by simp) fun w17 (hM17 : Mem w (ids [⟨bm, 2, [.int .i64 m]⟩, ⟨bv, 2, [.int .i64 0]⟩]) w17 [[⟨bm, 2, [.int .i64 m]⟩], [⟨bv, 2, [.int .i64 ((get l).1 : Nat)]⟩]]) => ?_
        refine h14 _ _ ?_
        clear h14
        refine seq fun K18 h18 => ?_
        refine stp (v := .int .i64 ((get l).2.1 : Nat)) (o_mv rfl) ?_
        refine stp (v := .int .i64 ((get l).2.2)) (o_mv rfl) ?_
        refine stp (v := .int .i64 ((get l).2.1 : Nat)) (o_mv rfl) ?_
        refine stp (v := .int .i64 ((get l).2.2)) (o_mv rfl) ?_
        refine h18 _ _ ?_
        clear h18
        refine ⟨(.tuple [.int .i64 ((get l).2.1 : Nat), .int .i64 ((get l).2.2)].toArray), rfl, ?_⟩
        first | omega | exact ⟨by rw [(num_much (by omega) (by omega)).1], _, by rw [(num_much (by omega) (by omega)).2], hM17.keep (by simp)⟩ | exact ⟨by rw [(num_fine (by omega) (by omega)).1], _, by rw [(num_fine (by omega) (by omega)).2], hM17.keep (by simp)⟩ | exact ⟨by rw [(num_bad (by omega)).1], _, by rw [(num_bad (by omega)).2], hM17.keep (by simp)⟩
      ·
        refine h14 _ _ ?_
        clear h14
        refine seq fun K19 h19 => ?_
        refine stp (v := .int .i64 ((get l).2.1 : Nat)) (o_mv rfl) ?_
        refine stp (v := .int .i64 ((get l).2.2)) (o_mv rfl) ?_
        refine stp (v := .int .i64 ((get l).2.1 : Nat)) (o_mv rfl) ?_
        refine stp (v := .int .i64 ((get l).2.2)) (o_mv rfl) ?_
        refine h19 _ _ ?_
        clear h19
        refine ⟨(.tuple [.int .i64 ((get l).2.1 : Nat), .int .i64 ((get l).2.2)].toArray), rfl, ?_⟩
        first | omega | exact ⟨by rw [(num_much (by omega) (by omega)).1], _, by rw [(num_much (by omega) (by omega)).2], hM3.keep (by simp)⟩ | exact ⟨by rw [(num_fine (by omega) (by omega)).1], _, by rw [(num_fine (by omega) (by omega)).2], hM3.keep (by simp)⟩ | exact ⟨by rw [(num_bad (by omega)).1], _, by rw [(num_bad (by omega)).2], hM3.keep (by simp)⟩
  ·
    refine gno rfl (by simp) ?_
    refine gnol rfl (by simp) ?_
    refine gno rfl (by simp) ?_
    refine stp (v := .bool false) (o_pickF rfl rfl) ?_
    refine h5 _ _ ?_
    clear h5
    refine cndF rfl ?_
    refine h4 _ _ ?_
    clear h4
    refine seq fun K20 h20 => ?_
    refine seq fun K21 h21 => ?_
    refine stp (v := .int .i64 ((get l).2.2)) (o_mv rfl) ?_
    refine stp (v := .bool (decide (((get l).2.2) = 0))) (o_bin rfl rfl rfl) ?_
    refine h21 _ _ ?_
    clear h21
    refine cndP rfl (fun c22 => ?_) (fun c22 => ?_)
    ·
      refine stp (v := .int .i64 ((get l).1 : Nat)) (o_mv rfl) ?_
      refine m_st (v := .int .i64 ((get l).1 : Nat)) hM3 (i := 1) rfl rfl rfl rfl (by simp) fun w23 (hM23 : Mem w (ids [⟨bm, 2, [.int .i64 m]⟩, ⟨bv, 2, [.int .i64 0]⟩]) w23 [[⟨bm, 2, [.int .i64 m]⟩], [⟨bv, 2, [.int .i64 ((get l).1 : Nat)]⟩]]) => ?_
      refine h20 _ _ ?_
      clear h20
      refine seq fun K24 h24 => ?_
      refine stp (v := .int .i64 ((get l).2.1 : Nat)) (o_mv rfl) ?_
      refine stp (v := .int .i64 ((get l).2.2)) (o_mv rfl) ?_
      refine stp (v := .int .i64 ((get l).2.1 : Nat)) (o_mv rfl) ?_
      refine stp (v := .int .i64 ((get l).2.2)) (o_mv rfl) ?_
      refine h24 _ _ ?_
      clear h24
      refine ⟨(.tuple [.int .i64 ((get l).2.1 : Nat), .int .i64 ((get l).2.2)].toArray), rfl, ?_⟩
      first | omega | exact ⟨by rw [(num_much (by omega) (by omega)).1], _, by rw [(num_much (by omega) (by omega)).2], hM23.keep (by simp)⟩ | exact ⟨by rw [(num_fine (by omega) (by omega)).1], _, by rw [(num_fine (by omega) (by omega)).2], hM23.keep (by simp)⟩ | exact ⟨by rw [(num_bad (by omega)).1], _, by rw [(num_bad (by omega)).2], hM23.keep (by simp)⟩
    ·
      refine h20 _ _ ?_
      clear h20
      refine seq fun K25 h25 => ?_
      refine stp (v := .int .i64 ((get l).2.1 : Nat)) (o_mv rfl) ?_
      refine stp (v := .int .i64 ((get l).2.2)) (o_mv rfl) ?_
      refine stp (v := .int .i64 ((get l).2.1 : Nat)) (o_mv rfl) ?_
      refine stp (v := .int .i64 ((get l).2.2)) (o_mv rfl) ?_
      refine h25 _ _ ?_
      clear h25
      refine ⟨(.tuple [.int .i64 ((get l).2.1 : Nat), .int .i64 ((get l).2.2)].toArray), rfl, ?_⟩
      first | omega | exact ⟨by rw [(num_much (by omega) (by omega)).1], _, by rw [(num_much (by omega) (by omega)).2], hM3.keep (by simp)⟩ | exact ⟨by rw [(num_fine (by omega) (by omega)).1], _, by rw [(num_fine (by omega) (by omega)).2], hM3.keep (by simp)⟩ | exact ⟨by rw [(num_bad (by omega)).1], _, by rw [(num_bad (by omega)).2], hM3.keep (by simp)⟩

/-- (*nums.Cursor).Num -/
theorem Num_ok (bc : Nat) (b : List UInt8) (a : Nat) (e m : Int) (r0 : List Ent) (w : World) (hc : CurS bc b a e r0) (hr : Res w r0) (hl : b.length ≤ 140737488355328) : Calls Try.prog 40 [.pointer (some ⟨bc, 0, none⟩), .int .i64 m].toArray w (Rt fun r w' => r = .int .i64 (cNum b a e m) ∧ ∃ r', CurS bc b (cNumA b a e m) (cNumE b a e m) r' ∧ Mem w (ids r0) w' [r']) := by
  have hM0 : Mem w (ids r0) w [r0] := Mem.start hr
  refine calls_vc mixed Try.func40 rfl C40 (by simp [Try.ntmps40]) ?_
  refine seq fun K1 h1 => ?_
  refine m_bx (v := .int .i64 m) hM0 rfl rfl fun b2 w3 (hM3 : Mem w (ids r0) w3 [r0, [⟨b2, 2, [.int .i64 m]⟩]]) => ?_
  refine stp (v := .int .i64 0) (o_mv rfl) ?_
  refine h1 _ _ ?_
  clear h1
  refine seq fun K4 h4 => ?_
  refine m_al hM3 fun b5 w6 (hM6 : Mem w (ids r0) w6 [r0, [⟨b2, 2, [.int .i64 m]⟩], [⟨b5, 2, [.int .i64 0]⟩]]) => ?_
  refine h4 _ _ ?_
  clear h4
  refine seq fun K7 h7 => ?_
  refine stp (v := .pointer (some ⟨bc, 0, none⟩)) (o_mv rfl) ?_
  refine stp (v := .func (.func 53) [].toArray [.pointer (some ⟨b2, 0, none⟩), .pointer (some ⟨b5, 0, none⟩)].toArray) (o_mkf rfl) ?_
  refine m_call (reads_ok bc b a e r0 [⟨b2, 2, [.int .i64 m]⟩, ⟨b5, 2, [.int .i64 0]⟩] 53 _ ((get (b.drop a)).2.1) (numE (b.drop a) m) (fun rv => rv = [⟨b2, 2, [.int .i64 m]⟩, ⟨b5, 2, [.int .i64 (numV (b.drop a) m)]⟩]) w6 hc (Mem.res2 ((hM6.keep (by simp) : Mem w (ids r0) w6 [r0, [⟨b2, 2, [.int .i64 m]⟩, ⟨b5, 2, [.int .i64 0]⟩]])) 0 1 rfl rfl (by decide)) hl (by kernel_rfl) (by intro h; have := hc.le; have := (get_ok (numE_get h)).2.1; simp only [List.length_drop] at this; omega) (fun wc u hx hr => num1_ok b2 b5 m u _ wc hx hr (by simp; omega))) rfl fun v8 w8 ⟨r8, rv8, hc8, ht8, hm8⟩ => ?_
  obtain rfl : rv8 = [⟨b2, 2, [.int .i64 m]⟩, ⟨b5, 2, [.int .i64 (cNum b a e m)]⟩] := by
    by_cases c : e = 0
    · rw [if_pos c] at ht8; rw [ht8, cNum, if_pos c]
    · rw [if_neg c] at ht8; (rw [ht8, cNum, if_neg c] <;> rfl)
  have hM8 : Mem w (ids r0) w8 [r8, [⟨b2, 2, [.int .i64 m]⟩], [⟨b5, 2, [.int .i64 (cNum b a e m)]⟩]] := (Mem.step2 (hM6.keep (by simp) : Mem w (ids r0) w6 [r0, [⟨b2, 2, [.int .i64 m]⟩, ⟨b5, 2, [.int .i64 0]⟩]]) 0 1 rfl rfl (by decide) hm8).keep (by simp)
  have hcn := hc8
  refine h7 _ _ ?_
  clear h7
  refine seq fun K9 h9 => ?_
  refine m_ld (v := .int .i64 (cNum b a e m)) hM8 (i := 2) (j := 0) rfl rfl rfl rfl ?_
  refine stp (v := .int .i64 (cNum b a e m)) (o_mv rfl) ?_
  refine h9 _ _ ?_
  clear h9
  refine ⟨(.int .i64 (cNum b a e m)), rfl, ?_⟩
  exact ⟨rfl, _, hcn, hM8.keep (by simp)⟩

theorem fix_arg {l : List UInt8} {n : Int} (h : n < 1 ∨ 8 < n) : fixE l n = 23 ∧ fixV l n = 0 := by
  have : fixE l n = 23 := by unfold fixE; rw [if_pos h]
  exact ⟨this, by unfold fixV; rw [if_neg (by omega)]⟩
theorem fix_short {l : List UInt8} {n : Int} (h : ¬ (n < 1 ∨ 8 < n)) (h2 : (l.length : Int) < n) : fixE l n = 20 ∧ fixV l n = 0 := by
  have : fixE l n = 20 := by unfold fixE; rw [if_neg h, if_pos h2]
  exact ⟨this, by unfold fixV; rw [if_neg (by omega)]⟩
theorem fix_fine {l : List UInt8} {n : Int} (h : ¬ (n < 1 ∨ 8 < n)) (h2 : ¬ (l.length : Int) < n) : fixE l n = 0 ∧ fixV l n = word (l.take n.toNat) := by
  have : fixE l n = 0 := by unfold fixE; rw [if_neg h, if_neg h2]
  exact ⟨this, by unfold fixV; rw [if_pos this]⟩
def fixN (l : List UInt8) (n : Int) : Nat := if fixE l n = 0 then n.toNat else 0
def cFix (b : List UInt8) (a : Nat) (e n : Int) : Nat := if e = 0 then fixV (b.drop a) n else 0
def cFixA (b : List UInt8) (a : Nat) (e n : Int) : Nat := if e = 0 ∧ fixE (b.drop a) n = 0 then a + fixN (b.drop a) n else a
def cFixE (b : List UInt8) (a : Nat) (e n : Int) : Int := if e = 0 then fixE (b.drop a) n else e
theorem fixN_le {l : List UInt8} {n : Int} (h : fixE l n = 0) : fixN l n ≤ l.length := by
  unfold fixN; rw [if_pos h]; unfold fixE at h; split at h
  · omega
  · split at h <;> omega
theorem fixN_0 {l : List UInt8} {n : Int} (h : ¬ fixE l n = 0) : fixN l n = 0 := by unfold fixN; rw [if_neg h]
theorem fixN_n {l : List UInt8} {n : Int} (h : fixE l n = 0) : ((fixN l n : Nat) : Int) = n := by
  unfold fixN; rw [if_pos h]; unfold fixE at h; split at h <;> omega

/-- (*nums.Cursor).Fixed$1 -/
theorem fix1_ok (bm bv : Nat) (m : Int) (u : Value) (l : List UInt8) (w : World) (hu : RdE byteV w u l) (hr : Res w [⟨bm, 3, [.int .i64 m]⟩, ⟨bv, 25, [.int .u64 0]⟩]) (hl : l.length ≤ 140737488355328) : Calls Try.prog 54 [u, .pointer (some ⟨bm, 0, none⟩), .pointer (some ⟨bv, 0, none⟩)].toArray w (Rt fun r w' => r = .tuple #[.int .i64 ((fixN l m : Nat) : Int), .int .i64 (fixE l m)] ∧ ∃ rv', rv' = [⟨bm, 3, [.int .i64 m]⟩, ⟨bv, 25, [.int .u64 ((fixV l m : Nat) : Int)]⟩] ∧ Mem w (ids [⟨bm, 3, [.int .i64 m]⟩, ⟨bv, 25, [.int .u64 0]⟩]) w' [rv']) := by
  have hM0 : Mem w (ids [⟨bm, 3, [.int .i64 m]⟩, ⟨bv, 25, [.int .u64 0]⟩]) w [[⟨bm, 3, [.int .i64 m]⟩], [⟨bv, 25, [.int .u64 0]⟩]] := (Mem.start hr).keep (by simp)
  refine calls_vc mixed Try.func54 rfl C54 (by simp [Try.ntmps54]) ?_
  refine seq fun K1 h1 => ?_
  refine stp (v := .int .i64 0) (o_mv rfl) ?_
  refine stp (v := .int .i64 0) (o_mv rfl) ?_
  refine h1 _ _ ?_
  clear h1
  refine seq fun K2 h2 => ?_
  refine seq fun K3 h3 => ?_
  refine m_ld (v := .int .i64 m) hM0 (i := 0) (j := 0) rfl rfl rfl rfl ?_
  refine stp (v := .bool (decide (m < 1))) (o_bin rfl rfl rfl) ?_
  refine stp (v := .bool (decide (m < 1))) (o_mv rfl) ?_
  refine splitP rfl (fun c4 => ?_) (fun c4 => ?_)
  ·
    refine gnol rfl (by simp) ?_
    refine gno rfl (by simp) ?_
    refine stp (v := .bool true) (o_pickT rfl rfl) ?_
    refine stp (v := .bool true) (o_mv rfl) ?_
    refine h3 _ _ ?_
    clear h3
    refine cndT rfl ?_
    refine seq fun K5 h5 => ?_
    refine stp (v := .int .i64 0) (o_mv rfl) ?_
    refine stp (v := .int .i64 23) (o_mv rfl) ?_
    refine h5 _ _ ?_
    clear h5
    refine ⟨(.tuple [.int .i64 0, .int .i64 23].toArray), rfl, ?_⟩
    first | omega | exact ⟨by (rw [(fix_arg (l := l) (n := m) (by omega)).1, fixN_0 (by rw [(fix_arg (l := l) (n := m) (by omega)).1]; decide)] <;> rfl), _, by (rw [(fix_arg (l := l) (n := m) (by omega)).2] <;> rfl), hM0.keep (by simp)⟩ | exact ⟨by (rw [(fix_short (l := l) (n := m) (by omega) (by omega)).1, fixN_0 (by rw [(fix_short (l := l) (n := m) (by omega) (by omega)).1]; decide)] <;> rfl), _, by (rw [(fix_short (l := l) (n := m) (by omega) (by omega)).2] <;> rfl), hM0.keep (by simp)⟩ | exact ⟨by rw [fixN_n (fix_fine (l := l) (n := m) (by omega) (by omega)).1, (fix_fine (l := l) (n := m) (by omega) (by omega)).1], _, by rw [(fix_fine (l := l) (n := m) (by omega) (by omega)).2], hM0.keep (by simp)⟩
  ·
    refine gyesl rfl ?_
    refine m_ld (v := .int .i64 m) hM0 (i := 0) (j := 0) rfl rfl rfl rfl ?_
    refine stg rfl (v := .bool (decide ((8 : Int) < m))) (o_bin rfl rfl rfl) ?_
    refine stp (v := .bool (decide ((8 : Int) < m))) (o_pickF rfl rfl) ?_
    refine stp (v := .bool (decide ((8 : Int) < m))) (o_mv rfl) ?_
    refine h3 _ _ ?_
    clear h3
    refine cndP rfl (fun c6 => ?_) (fun c6 => ?_)
    ·
      refine seq fun K7 h7 => ?_
      refine stp (v := .int .i64 0) (o_mv rfl) ?_
      refine stp (v := .int .i64 23) (o_mv rfl) ?_
      refine h7 _ _ ?_
      clear h7
      refine ⟨(.tuple [.int .i64 0, .int .i64 23].toArray), rfl, ?_⟩
      first | omega | exact ⟨by (rw [(fix_arg (l := l) (n := m) (by omega)).1, fixN_0 (by rw [(fix_arg (l := l) (n := m) (by omega)).1]; decide)] <;> rfl), _, by (rw [(fix_arg (l := l) (n := m) (by omega)).2] <;> rfl), hM0.keep (by simp)⟩ | exact ⟨by (rw [(fix_short (l := l) (n := m) (by omega) (by omega)).1, fixN_0 (by rw [(fix_short (l := l) (n := m) (by omega) (by omega)).1]; decide)] <;> rfl), _, by (rw [(fix_short (l := l) (n := m) (by omega) (by omega)).2] <;> rfl), hM0.keep (by simp)⟩ | exact ⟨by rw [fixN_n (fix_fine (l := l) (n := m) (by omega) (by omega)).1, (fix_fine (l := l) (n := m) (by omega) (by omega)).1], _, by rw [(fix_fine (l := l) (n := m) (by omega) (by omega)).2], hM0.keep (by simp)⟩
    ·
      refine seq fun K8 h8 => ?_
      refine m_ld (v := .int .i64 m) hM0 (i := 0) (j := 0) rfl rfl rfl rfl ?_
      refine stp (v := u) (o_mv rfl) ?_
      refine stp (v := .int .i64 (l.length : Nat)) (o_lenR (hu) rfl rfl) ?_
      refine stp (v := .bool (decide ((l.length : Nat) < m))) (o_bin rfl rfl rfl) ?_
      refine stp (v := .bool (decide ((l.length : Nat) < m))) (o_mv rfl) ?_
      refine h8 _ _ ?_
      clear h8
      refine cndP rfl (fun c9 => ?_) (fun c9 => ?_)
      ·
        refine seq fun K10 h10 => ?_
        refine stp (v := .int .i64 0) (o_mv rfl) ?_
        refine stp (v := .int .i64 20) (o_mv rfl) ?_
        refine h10 _ _ ?_
        clear h10
        refine ⟨(.tuple [.int .i64 0, .int .i64 20].toArray), rfl, ?_⟩
        first | omega | exact ⟨by (rw [(fix_arg (l := l) (n := m) (by omega)).1, fixN_0 (by rw [(fix_arg (l := l) (n := m) (by omega)).1]; decide)] <;> rfl), _, by (rw [(fix_arg (l := l) (n := m) (by omega)).2] <;> rfl), hM0.keep (by simp)⟩ | exact ⟨by (rw [(fix_short (l := l) (n := m) (by omega) (by omega)).1, fixN_0 (by rw [(fix_short (l := l) (n := m) (by omega) (by omega)).1]; decide)] <;> rfl), _, by (rw [(fix_short (l := l) (n := m) (by omega) (by omega)).2] <;> rfl), hM0.keep (by simp)⟩ | exact ⟨by rw [fixN_n (fix_fine (l := l) (n := m) (by omega) (by omega)).1, (fix_fine (l := l) (n := m) (by omega) (by omega)).1], _, by rw [(fix_fine (l := l) (n := m) (by omega) (by omega)).2], hM0.keep (by simp)⟩
      ·
        refine h2 _ _ ?_
        clear h2
        refine seq fun K11 h11 => ?_
        refine stp (v := u) (o_mv rfl) ?_
        refine m_ld (v := .int .i64 m) hM0 (i := 0) (j := 0) rfl rfl rfl rfl ?_
        refine m_slcE 0 m.toNat (hu) rfl (by omega) (by omega) ⟨_, v_int (by omega)⟩ rfl fun u12 hu12 => ?_
        refine m_call (Word_ok _ ((l.take m.toNat).drop 0) w (hu12) (by first | omega | (simp; done) | (simp; omega))) rfl fun v13 w13 ⟨hr13, hu13⟩ => ?_
        have hM13 : Mem w (ids [⟨bm, 3, [.int .i64 m]⟩, ⟨bv, 25, [.int .u64 0]⟩]) w13 [[⟨bm, 3, [.int .i64 m]⟩], [⟨bv, 25, [.int .u64 0]⟩]] := hM0.pure hu13
        subst hr13
        refine m_st (v := .int .u64 (word ((l.take m.toNat).drop 0) : Nat)) hM13 (i := 1) rfl rfl rfl rfl (by simp) fun w14 (hM14 : Mem w (ids [⟨bm, 3, [.int .i64 m]⟩, ⟨bv, 25, [.int .u64 0]⟩]) w14 [[⟨bm, 3, [.int .i64 m]⟩], [⟨bv, 25, [.int .u64 (word ((l.take m.toNat).drop 0) : Nat)]⟩]]) => ?_
        refine h11 _ _ ?_
        clear h11
        refine seq fun K15 h15 => ?_
        refine m_ld (v := .int .i64 m) hM14 (i := 0) (j := 0) rfl rfl rfl rfl ?_
        refine stp (v := .int .i64 m) (o_mv rfl) ?_
        refine stp (v := .int .i64 0) (o_mv rfl) ?_
        refine h15 _ _ ?_
        clear h15
        refine ⟨(.tuple [.int .i64 m, .int .i64 0].toArray), rfl, ?_⟩
        first | omega | exact ⟨by (rw [(fix_arg (l := l) (n := m) (by omega)).1, fixN_0 (by rw [(fix_arg (l := l) (n := m) (by omega)).1]; decide)] <;> rfl), _, by (rw [(fix_arg (l := l) (n := m) (by omega)).2] <;> rfl), hM14.keep (by simp)⟩ | exact ⟨by (rw [(fix_short (l := l) (n := m) (by omega) (by omega)).1, fixN_0 (by rw [(fix_short (l := l) (n := m) (by omega) (by omega)).1]; decide)] <;> rfl), _, by (rw [(fix_short (l := l) (n := m) (by omega) (by omega)).2] <;> rfl), hM14.keep (by simp)⟩ | exact ⟨by rw [fixN_n (fix_fine (l := l) (n := m) (by omega) (by omega)).1, (fix_fine (l := l) (n := m) (by omega) (by omega)).1], _, by rw [(fix_fine (l := l) (n := m) (by omega) (by omega)).2], hM14.keep (by simp)⟩

/-- (*nums.Cursor).Fixed -/
theorem cFixed_ok (bc : Nat) (b : List UInt8) (a : Nat) (e m : Int) (r0 : List Ent) (w : World) (hc : CurS bc b a e r0) (hr : Res w r0) (hl : b.length ≤ 140737488355328) : Calls Try.prog 42 [.pointer (some ⟨bc, 0, none⟩), .int .i64 m].toArray w (Rt fun r w' => r = .int .u64 ((cFix b a e m : Nat) : Int) ∧ ∃ r', CurS bc b (cFixA b a e m) (cFixE b a e m) r' ∧ Mem w (ids r0) w' [r']) := by
  have hM0 : Mem w (ids r0) w [r0] := Mem.start hr
  refine calls_vc mixed Try.func42 rfl C42 (by simp [Try.ntmps42]) ?_
  refine seq fun K1 h1 => ?_
  refine m_bx (v := .int .i64 m) hM0 rfl rfl fun b2 w3 (hM3 : Mem w (ids r0) w3 [r0, [⟨b2, 3, [.int .i64 m]⟩]]) => ?_
  refine stp (v := .int .u64 0) (o_mv rfl) ?_
  refine h1 _ _ ?_
  clear h1
  refine seq fun K4 h4 => ?_
  refine m_al hM3 fun b5 w6 (hM6 : Mem w (ids r0) w6 [r0, [⟨b2, 3, [.int .i64 m]⟩], [⟨b5, 25, [.int .u64 0]⟩]]) => ?_
  refine h4 _ _ ?_
  clear h4
  refine seq fun K7 h7 => ?_
  refine stp (v := .pointer (some ⟨bc, 0, none⟩)) (o_mv rfl) ?_
  refine stp (v := .func (.func 54) [].toArray [.pointer (some ⟨b2, 0, none⟩), .pointer (some ⟨b5, 0, none⟩)].toArray) (o_mkf rfl) ?_
  refine m_call (reads_ok bc b a e r0 [⟨b2, 3, [.int .i64 m]⟩, ⟨b5, 25, [.int .u64 0]⟩] 54 _ (fixN (b.drop a) m) (fixE (b.drop a) m) (fun rv => rv = [⟨b2, 3, [.int .i64 m]⟩, ⟨b5, 25, [.int .u64 ((fixV (b.drop a) m : Nat) : Int)]⟩]) w6 hc (Mem.res2 ((hM6.keep (by simp) : Mem w (ids r0) w6 [r0, [⟨b2, 3, [.int .i64 m]⟩, ⟨b5, 25, [.int .u64 0]⟩]])) 0 1 rfl rfl (by decide)) hl (by kernel_rfl) (by intro h; have := hc.le; have := fixN_le h; simp only [List.length_drop] at this; omega) (fun wc u hx hr => fix1_ok b2 b5 m u _ wc hx hr (by simp; omega))) rfl fun v8 w8 ⟨r8, rv8, hc8, ht8, hm8⟩ => ?_
  obtain rfl : rv8 = [⟨b2, 3, [.int .i64 m]⟩, ⟨b5, 25, [.int .u64 (cFix b a e m : Nat)]⟩] := by
    by_cases c : e = 0
    · rw [if_pos c] at ht8; rw [ht8, cFix, if_pos c]
    · rw [if_neg c] at ht8; (rw [ht8, cFix, if_neg c] <;> rfl)
  have hM8 : Mem w (ids r0) w8 [r8, [⟨b2, 3, [.int .i64 m]⟩], [⟨b5, 25, [.int .u64 (cFix b a e m : Nat)]⟩]] := (Mem.step2 (hM6.keep (by simp) : Mem w (ids r0) w6 [r0, [⟨b2, 3, [.int .i64 m]⟩, ⟨b5, 25, [.int .u64 0]⟩]]) 0 1 rfl rfl (by decide) hm8).keep (by simp)
  have hcn := hc8
  refine h7 _ _ ?_
  clear h7
  refine seq fun K9 h9 => ?_
  refine m_ld (v := .int .u64 (cFix b a e m : Nat)) hM8 (i := 2) (j := 0) rfl rfl rfl rfl ?_
  refine stp (v := .int .u64 (cFix b a e m : Nat)) (o_mv rfl) ?_
  refine h9 _ _ ?_
  clear h9
  refine ⟨(.int .u64 (cFix b a e m : Nat)), rfl, ?_⟩
  exact ⟨rfl, _, hcn, hM8.keep (by simp)⟩

theorem tk_arg {l : List UInt8} {n : Int} (h : n < 0) : tkE l n = 23 ∧ tkV l n = [] := by
  have : tkE l n = 23 := by unfold tkE; rw [if_pos h]
  exact ⟨this, by unfold tkV; rw [if_neg (by omega)]⟩
theorem tk_short {l : List UInt8} {n : Int} (h : ¬ n < 0) (h2 : (l.length : Int) < n) : tkE l n = 20 ∧ tkV l n = [] := by
  have : tkE l n = 20 := by unfold tkE; rw [if_neg h, if_pos h2]
  exact ⟨this, by unfold tkV; rw [if_neg (by omega)]⟩
theorem tk_fine {l : List UInt8} {n : Int} (h : ¬ n < 0) (h2 : ¬ (l.length : Int) < n) : tkE l n = 0 ∧ tkV l n = l.take n.toNat := by
  have : tkE l n = 0 := by unfold tkE; rw [if_neg h, if_neg h2]
  exact ⟨this, by unfold tkV; rw [if_pos this]⟩
def tkN (l : List UInt8) (n : Int) : Nat := if tkE l n = 0 then n.toNat else 0
def cTk (b : List UInt8) (a : Nat) (e n : Int) : List UInt8 := if e = 0 then tkV (b.drop a) n else []
def cTkA (b : List UInt8) (a : Nat) (e n : Int) : Nat := if e = 0 ∧ tkE (b.drop a) n = 0 then a + tkN (b.drop a) n else a
def cTkE (b : List UInt8) (a : Nat) (e n : Int) : Int := if e = 0 then tkE (b.drop a) n else e
theorem tkN_le {l : List UInt8} {n : Int} (h : tkE l n = 0) : tkN l n ≤ l.length := by
  unfold tkN; rw [if_pos h]; unfold tkE at h; split at h
  · omega
  · split at h <;> omega
theorem tkN_0 {l : List UInt8} {n : Int} (h : ¬ tkE l n = 0) : tkN l n = 0 := by unfold tkN; rw [if_neg h]
theorem tkN_n {l : List UInt8} {n : Int} (h : tkE l n = 0) : ((tkN l n : Nat) : Int) = n := by
  unfold tkN; rw [if_pos h]; unfold tkE at h; split at h <;> omega

/-- (*nums.Cursor).Take$1 -/
theorem tk1_ok (bm bv : Nat) (m : Int) (u : Value) (l : List UInt8) (w : World) (hu : RdE byteV w u l) (hr : Res w [⟨bm, 3, [.int .i64 m]⟩, ⟨bv, 22, [.slice none 0 0]⟩]) (hl : l.length ≤ 140737488355328) : Calls Try.prog 55 [u, .pointer (some ⟨bm, 0, none⟩), .pointer (some ⟨bv, 0, none⟩)].toArray w (Rt fun r w' => r = .tuple #[.int .i64 ((tkN l m : Nat) : Int), .int .i64 (tkE l m)] ∧ ∃ rv', (∃ vs rs, rv' = ⟨bm, 3, [.int .i64 m]⟩ :: ⟨bv, 22, [vs]⟩ :: rs ∧ SlE byteV 5 vs (tkV l m) rs) ∧ Mem w (ids [⟨bm, 3, [.int .i64 m]⟩, ⟨bv, 22, [.slice none 0 0]⟩]) w' [rv']) := by
  have hM0 : Mem w (ids [⟨bm, 3, [.int .i64 m]⟩, ⟨bv, 22, [.slice none 0 0]⟩]) w [[⟨bm, 3, [.int .i64 m]⟩], [⟨bv, 22, [.slice none 0 0]⟩]] := (Mem.start hr).keep (by simp)
  refine calls_vc mixed Try.func55 rfl C55 (by simp [Try.ntmps55]) ?_
  refine seq fun K1 h1 => ?_
  refine stp (v := .int .i64 0) (o_mv rfl) ?_
  refine stp (v := .int .i64 0) (o_mv rfl) ?_
  refine h1 _ _ ?_
  clear h1
  refine seq fun K2 h2 => ?_
  refine seq fun K3 h3 => ?_
  refine m_ld (v := .int .i64 m) hM0 (i := 0) (j := 0) rfl rfl rfl rfl ?_
  refine stp (v := .bool (decide (m < 0))) (o_bin rfl rfl rfl) ?_
  refine stp (v := .bool (decide (m < 0))) (o_mv rfl) ?_
  refine h3 _ _ ?_
  clear h3
  refine cndP rfl (fun c4 => ?_) (fun c4 => ?_)
  ·
    refine seq fun K5 h5 => ?_
    refine stp (v := .int .i64 0) (o_mv rfl) ?_
    refine stp (v := .int .i64 23) (o_mv rfl) ?_
    refine h5 _ _ ?_
    clear h5
    refine ⟨(.tuple [.int .i64 0, .int .i64 23].toArray), rfl, ?_⟩
    exact ⟨by (rw [(tk_arg (l := l) (n := m) (by omega)).1, tkN_0 (by rw [(tk_arg (l := l) (n := m) (by omega)).1]; decide)] <;> rfl), _, ⟨_, [], rfl, by rw [(tk_arg (l := l) (n := m) (by omega)).2]; exact Sl.nil 1 5⟩, hM0.keep (by simp)⟩
  ·
    refine seq fun K6 h6 => ?_
    refine m_ld (v := .int .i64 m) hM0 (i := 0) (j := 0) rfl rfl rfl rfl ?_
    refine stp (v := u) (o_mv rfl) ?_
    refine stp (v := .int .i64 (l.length : Nat)) (o_lenR (hu) rfl rfl) ?_
    refine stp (v := .bool (decide ((l.length : Nat) < m))) (o_bin rfl rfl rfl) ?_
    refine stp (v := .bool (decide ((l.length : Nat) < m))) (o_mv rfl) ?_
    refine h6 _ _ ?_
    clear h6
    refine cndP rfl (fun c7 => ?_) (fun c7 => ?_)
    ·
      refine seq fun K8 h8 => ?_
      refine stp (v := .int .i64 0) (o_mv rfl) ?_
      refine stp (v := .int .i64 20) (o_mv rfl) ?_
      refine h8 _ _ ?_
      clear h8
      refine ⟨(.tuple [.int .i64 0, .int .i64 20].toArray), rfl, ?_⟩
      exact ⟨by (rw [(tk_short (l := l) (n := m) (by omega) (by omega)).1, tkN_0 (by rw [(tk_short (l := l) (n := m) (by omega) (by omega)).1]; decide)] <;> rfl), _, ⟨_, [], rfl, by rw [(tk_short (l := l) (n := m) (by omega) (by omega)).2]; exact Sl.nil 1 5⟩, hM0.keep (by simp)⟩
    ·
      refine h2 _ _ ?_
      clear h2
      refine seq fun K9 h9 => ?_
      intro wd e1 e2 e3 e4
      have hd := Upd.same e1 e2 e3 e4 []
      have hM10 := hM0.pure hd
      clear e1 e2 e3 e4
      refine ⟨(some [bm]), ?_⟩
      show vd _ _ _ _ _ _ _
      refine dq (v := u) (o_mv rfl) ?_
      refine dqld rfl (by simp [isHeld]) (v := .int .i64 m) ((hM10.at (i := 0) (j := 0) rfl rfl).cell 0) ?_
      refine dqp (m_slcE 0 m.toNat (hu.upd (hd)) rfl (by omega) (by omega) ⟨_, v_int (by omega)⟩ rfl fun u11 hu11 => ?_)
      show vd _ _ _ _ _ _ _
      refine dl (m_ld (v := .slice none 0 0) hM10 (i := 1) (j := 0) rfl rfl rfl rfl ?_)
      refine ⟨(fun b hb => rfl), ?_⟩
      have hM12 : Mem w (ids [⟨bm, 3, [.int .i64 m]⟩, ⟨bv, 22, [.slice none 0 0]⟩]) wd [[⟨bm, 3, [.int .i64 m]⟩], [⟨bv, 22, [.slice none 0 0]⟩], []] := hM10.addNil
      have hs12 : SlE byteV 5 (.slice none 0 0) [] [] := Sl.nil 1 5
      refine dl (m_appEU hM12 (i := 2) rfl hs12 rfl rfl (hu11.upd ((Upd.refl [] _))) (by first | omega | (simp; omega)) (by omega) fun v13 w13 r13 (hs13 : SlE byteV 5 v13 ((l.take m.toNat).drop 0) r13) hup13 (hM13 : Mem w (ids [⟨bm, 3, [.int .i64 m]⟩, ⟨bv, 22, [.slice none 0 0]⟩]) w13 [[⟨bm, 3, [.int .i64 m]⟩], [⟨bv, 22, [.slice none 0 0]⟩], r13]) => ?_)
      have hh13 := held_upd (wr := wd) (bs := [bm]) hup13 (fun b hb => by
        simp only [List.mem_cons, List.not_mem_nil, or_false] at hb
        rw [hb]; exact ⟨(hM12.at (i := 0) (j := 0) rfl rfl).lt, hM12.apart (i := 0) (j := 0) (k := 2) rfl rfl rfl (by decide)⟩) (fun b hb => rfl)
      refine ⟨hh13, ?_⟩
      refine dl (m_stU (v := v13) hM13 (i := 1) rfl rfl rfl (Sl.one hs13) (by simp) fun w14 hup14 (hM14 : Mem w (ids [⟨bm, 3, [.int .i64 m]⟩, ⟨bv, 22, [.slice none 0 0]⟩]) w14 [[⟨bm, 3, [.int .i64 m]⟩], [⟨bv, 22, [v13]⟩], r13]) => ?_)
      have hh14 := held_upd (wr := wd) (bs := [bm]) hup14 (fun b hb => by
        simp only [List.mem_cons, List.not_mem_nil, or_false] at hb
        rw [hb]; exact ⟨(hM13.at (i := 0) (j := 0) rfl rfl).lt, hM13.apart (i := 0) (j := 0) (k := 1) rfl rfl rfl (by decide)⟩) hh13
      refine ⟨hh14, ?_⟩
      refine h9 _ _ ?_
      clear h9
      refine seq fun K15 h15 => ?_
      refine m_ld (v := .int .i64 m) hM14 (i := 0) (j := 0) rfl rfl rfl rfl ?_
      refine stp (v := .int .i64 m) (o_mv rfl) ?_
      refine stp (v := .int .i64 0) (o_mv rfl) ?_
      refine h15 _ _ ?_
      clear h15
      refine ⟨(.tuple [.int .i64 m, .int .i64 0].toArray), rfl, ?_⟩
      exact ⟨by rw [tkN_n (tk_fine (l := l) (n := m) (by omega) (by omega)).1, (tk_fine (l := l) (n := m) (by omega) (by omega)).1], _, ⟨_, _, rfl, by rw [(tk_fine (l := l) (n := m) (by omega) (by omega)).2]; exact hs13⟩, hM14.keep (by simp)⟩

/-- (*nums.Cursor).Take -/
theorem Take_ok (bc : Nat) (b : List UInt8) (a : Nat) (e m : Int) (r0 : List Ent) (w : World) (hc : CurS bc b a e r0) (hr : Res w r0) (hl : b.length ≤ 140737488355328) : Calls Try.prog 44 [.pointer (some ⟨bc, 0, none⟩), .int .i64 m].toArray w (Rt fun r w' => ∃ r' rs, CurS bc b (cTkA b a e m) (cTkE b a e m) r' ∧ SlE byteV 5 r (cTk b a e m) rs ∧ Mem w (ids r0) w' [r', rs]) := by
  have hM0 : Mem w (ids r0) w [r0] := Mem.start hr
  refine calls_vc mixed Try.func44 rfl C44 (by simp [Try.ntmps44]) ?_
  refine seq fun K1 h1 => ?_
  refine m_bx (v := .int .i64 m) hM0 rfl rfl fun b2 w3 (hM3 : Mem w (ids r0) w3 [r0, [⟨b2, 3, [.int .i64 m]⟩]]) => ?_
  refine stp (v := .slice none 0 0) (o_mv rfl) ?_
  refine h1 _ _ ?_
  clear h1
  refine seq fun K4 h4 => ?_
  refine m_al hM3 fun b5 w6 (hM6 : Mem w (ids r0) w6 [r0, [⟨b2, 3, [.int .i64 m]⟩], [⟨b5, 22, [.slice none 0 0]⟩]]) => ?_
  refine h4 _ _ ?_
  clear h4
  refine seq fun K7 h7 => ?_
  refine stp (v := .pointer (some ⟨bc, 0, none⟩)) (o_mv rfl) ?_
  refine stp (v := .func (.func 55) [].toArray [.pointer (some ⟨b2, 0, none⟩), .pointer (some ⟨b5, 0, none⟩)].toArray) (o_mkf rfl) ?_
  refine m_call (reads_ok bc b a e r0 [⟨b2, 3, [.int .i64 m]⟩, ⟨b5, 22, [.slice none 0 0]⟩] 55 _ (tkN (b.drop a) m) (tkE (b.drop a) m) (fun rv => ∃ vs rs, rv = ⟨b2, 3, [.int .i64 m]⟩ :: ⟨b5, 22, [vs]⟩ :: rs ∧ SlE byteV 5 vs (tkV (b.drop a) m) rs) w6 hc (Mem.res2 ((hM6.keep (by simp) : Mem w (ids r0) w6 [r0, [⟨b2, 3, [.int .i64 m]⟩, ⟨b5, 22, [.slice none 0 0]⟩]])) 0 1 rfl rfl (by decide)) hl (by kernel_rfl) (by intro h; have := hc.le; have := tkN_le h; simp only [List.length_drop] at this; omega) (fun wc u hx hr => tk1_ok b2 b5 m u _ wc hx hr (by simp; omega))) rfl fun v8 w8 ⟨r8, rv8, hc8, ht8, hm8⟩ => ?_
  obtain ⟨vs8, rs8, rfl, hs8⟩ : ∃ vs rs, rv8 = ⟨b2, 3, [.int .i64 m]⟩ :: ⟨b5, 22, [vs]⟩ :: rs ∧ SlE byteV 5 vs (cTk b a e m) rs := by
    by_cases c : e = 0
    · rw [if_pos c] at ht8; obtain ⟨vs, rs, h1, h2⟩ := ht8; exact ⟨vs, rs, h1, by unfold cTk; rw [if_pos c]; exact h2⟩
    · rw [if_neg c] at ht8; exact ⟨_, [], ht8, by unfold cTk; rw [if_neg c]; exact Sl.nil 1 5⟩
  have hM8 : Mem w (ids r0) w8 [r8, [⟨b2, 3, [.int .i64 m]⟩], [⟨b5, 22, [vs8]⟩], rs8] := (Mem.step2 (hM6.keep (by simp) : Mem w (ids r0) w6 [r0, [⟨b2, 3, [.int .i64 m]⟩, ⟨b5, 22, [.slice none 0 0]⟩]]) 0 1 rfl rfl (by decide) hm8).keep (by simp)
  have hcn := hc8
  have hsn := hs8
  refine h7 _ _ ?_
  clear h7
  refine seq fun K9 h9 => ?_
  refine m_ld (v := vs8) hM8 (i := 2) (j := 0) rfl rfl rfl rfl ?_
  refine stp (v := vs8) (o_mv rfl) ?_
  refine h9 _ _ ?_
  clear h9
  refine ⟨vs8, rfl, ?_⟩
  exact ⟨_, _, hcn, hsn, ((hM8.drop 1).drop 2).keep (by simp)⟩

/-- what a cursor tells at its end -/
def endE (b : List UInt8) (a : Nat) (e : Int) : Int := if ¬ e = 0 then e else if a < b.length then 22 else 0
def endA (b : List UInt8) (a : Nat) (e : Int) : Nat := if ¬ e = 0 then a else if a < b.length then a else 0

set_option maxRecDepth 100000 in
/-- (*nums.Cursor).End -/
theorem End_ok (bc : Nat) (b : List UInt8) (a : Nat) (e : Int) (r0 : List Ent) (w : World) (hc : CurS bc b a e r0) (hr : Res w r0) : Calls Try.prog 32 [.pointer (some ⟨bc, 0, none⟩)].toArray w (Rt fun r w' => r = .agg #[.int .i64 (endE b a e), .int .i64 ((endA b a e : Nat) : Int)] ∧ Mem w (ids r0) w' [r0]) := by
  obtain ⟨vb, rb, rfl, hb, ha⟩ := hc
  have hM0 : Mem w (ids (⟨bc, 46, [vb, .int .i64 (a : Nat), .int .i64 e]⟩ :: rb)) w [[⟨bc, 46, [vb, .int .i64 (a : Nat), .int .i64 e]⟩], rb] := (Mem.start hr).keep (by simp)
  refine calls_vc mixed Try.func32 rfl C32 (by simp [Try.ntmps32]) ?_
  refine seq fun K1 h1 => ?_
  refine m_al hM0 fun b2 w3 (hM3 : Mem w (ids (⟨bc, 46, [vb, .int .i64 (a : Nat), .int .i64 e]⟩ :: rb)) w3 [[⟨bc, 46, [vb, .int .i64 (a : Nat), .int .i64 e]⟩], rb, [⟨b2, 48, [.int .i64 0, .int .i64 0]⟩]]) => ?_
  refine h1 _ _ ?_
  clear h1
  refine seq fun K4 h4 => ?_
  refine seq fun K5 h5 => ?_
  refine stp (v := .pointer (some ⟨bc, 0, none⟩)) (o_mv rfl) ?_
  refine stp (v := .bool false) (o_isnil rfl rfl) ?_
  refine stp (v := .bool false) (o_mv rfl) ?_
  refine h5 _ _ ?_
  clear h5
  refine cndF rfl ?_
  refine seq fun K6 h6 => ?_
  refine stp (v := .pointer (some ⟨bc, 0, none⟩)) (o_mv rfl) ?_
  refine stp (v := .pointer (some ⟨bc, 0, none⟩)) (o_nilchk rfl rfl) ?_
  refine stp (v := .pointer (some ⟨bc, 2, none⟩)) (o_fa rfl rfl) ?_
  refine m_ld (v := .int .i64 e) hM3 (i := 0) (j := 0) rfl rfl rfl rfl ?_
  refine stp (v := .bool (decide (¬ e = 0))) (o_bin rfl rfl v_neq) ?_
  refine stp (v := .bool (decide (¬ e = 0))) (o_mv rfl) ?_
  refine h6 _ _ ?_
  clear h6
  refine cndP rfl (fun c7 => ?_) (fun c7 => ?_)
  ·
    refine seq fun K8 h8 => ?_
    intro wd e1 e2 e3 e4
    have hd := Upd.same e1 e2 e3 e4 []
    have hM9 := hM3.pure hd
    clear e1 e2 e3 e4
    refine ⟨(some [bc]), ?_⟩
    show vd _ _ _ _ _ _ _
    refine dq (v := .pointer (some ⟨bc, 0, none⟩)) (o_mv rfl) ?_
    refine dq (v := .pointer (some ⟨bc, 0, none⟩)) (o_nilchk rfl rfl) ?_
    refine dq (v := .pointer (some ⟨bc, 2, none⟩)) (o_fa rfl rfl) ?_
    refine dq (v := .pointer (some ⟨bc, 0, none⟩)) (o_mv rfl) ?_
    refine dq (v := .pointer (some ⟨bc, 0, none⟩)) (o_nilchk rfl rfl) ?_
    refine dq (v := .pointer (some ⟨bc, 1, none⟩)) (o_fa rfl rfl) ?_
    refine dqld rfl (by simp [isHeld]) (v := .int .i64 (a : Nat)) ((hM9.at (i := 0) (j := 0) rfl rfl).cell 1) ?_
    refine dl (m_ld (v := .int .i64 e) hM9 (i := 0) (j := 0) rfl rfl rfl rfl ?_)
    refine ⟨(fun b hb => rfl), ?_⟩
    refine dq (v := .agg ([.int .i64 e, .int .i64 (a : Nat)] : List Value).toArray) (o_bld rfl rfl) ?_
    refine dl (m_stAU (l := [.int .i64 e, .int .i64 (a : Nat)]) hM9 (i := 2) rfl rfl rfl rfl (by simp [oneCells, Value.oneCell', byteV]) (by simp) fun w10 hup10 (hM10 : Mem w (ids (⟨bc, 46, [vb, .int .i64 (a : Nat), .int .i64 e]⟩ :: rb)) w10 [[⟨bc, 46, [vb, .int .i64 (a : Nat), .int .i64 e]⟩], rb, [⟨b2, 48, [.int .i64 e, .int .i64 (a : Nat)]⟩]]) => ?_)
    have hh10 := held_upd (wr := wd) (bs := [bc]) hup10 (fun b hb => by
      simp only [List.mem_cons, List.not_mem_nil, or_false] at hb
      rw [hb]; exact ⟨(hM9.at (i := 0) (j := 0) rfl rfl).lt, hM9.apart (i := 0) (j := 0) (k := 2) rfl rfl rfl (by decide)⟩) (fun b hb => rfl)
    refine ⟨hh10, ?_⟩
    refine h8 _ _ ?_
    clear h8
    show resV _ _ _ _ _
    refine res_cell (s := some 2) (by kernel_rfl) ?_
    refine vl_ldA (cs := [.int .i64 e, .int .i64 (a : Nat)]) rfl rfl ((hM10.at (i := 2) (j := 0) rfl rfl).agg rfl rfl) ?_
    refine ⟨(.agg ([.int .i64 e, .int .i64 (a : Nat)] : List Value).toArray), rfl, ?_⟩
    first | exact ⟨by unfold endE endA; rw [if_pos (by omega), if_pos (by omega)], hM10.keep (by simp)⟩ | exact ⟨by unfold endE endA; rw [if_neg (by omega), if_pos (by omega), if_neg (by omega), if_pos (by omega)], hM10.keep (by simp)⟩ | exact ⟨by unfold endE endA; (rw [if_neg (by omega), if_neg (by omega), if_neg (by omega), if_neg (by omega)] <;> rfl), hM10.keep (by simp)⟩
  ·
    refine seq fun K11 h11 => ?_
    intro wd e1 e2 e3 e4
    have hd := Upd.same e1 e2 e3 e4 []
    have hM12 := hM3.pure hd
    clear e1 e2 e3 e4
    refine ⟨none, ?_⟩
    show vd _ _ _ _ _ _ _
    refine dq (v := .pointer (some ⟨bc, 0, none⟩)) (o_mv rfl) ?_
    refine dq (v := .pointer (some ⟨bc, 0, none⟩)) (o_nilchk rfl rfl) ?_
    refine dq (v := .pointer (some ⟨bc, 1, none⟩)) (o_fa rfl rfl) ?_
    refine dq (v := .pointer (some ⟨bc, 0, none⟩)) (o_mv rfl) ?_
    refine dq (v := .pointer (some ⟨bc, 0, none⟩)) (o_nilchk rfl rfl) ?_
    refine dq (v := .pointer (some ⟨bc, 0, none⟩)) (o_fa rfl rfl) ?_
    refine dqld rfl (trivial) (v := vb) ((hM12.at (i := 0) (j := 0) rfl rfl).cell 0) ?_
    refine dq (v := .int .i64 (b.length : Nat)) (o_lenR (hb.rd hM12 (i := 1) rfl) rfl rfl) ?_
    refine dl (m_ld (v := .int .i64 (a : Nat)) hM12 (i := 0) (j := 0) rfl rfl rfl rfl ?_)
    refine ⟨rfl, ?_⟩
    refine dq (v := .bool (decide (((a : Nat) : Int) < (b.length : Nat)))) (o_bin rfl rfl rfl) ?_
    refine dq (v := .bool (decide (((a : Nat) : Int) < (b.length : Nat)))) (o_mv rfl) ?_
    refine h11 _ _ ?_
    clear h11
    refine cndP rfl (fun c13 => ?_) (fun c13 => ?_)
    ·
      refine seq fun K14 h14 => ?_
      refine stp (v := .pointer (some ⟨bc, 0, none⟩)) (o_mv rfl) ?_
      refine stp (v := .pointer (some ⟨bc, 0, none⟩)) (o_nilchk rfl rfl) ?_
      refine stp (v := .pointer (some ⟨bc, 1, none⟩)) (o_fa rfl rfl) ?_
      refine m_ld (v := .int .i64 (a : Nat)) hM12 (i := 0) (j := 0) rfl rfl rfl rfl ?_
      refine stp (v := .agg ([.int .i64 22, .int .i64 (a : Nat)] : List Value).toArray) (o_bld rfl rfl) ?_
      refine m_stA (l := [.int .i64 22, .int .i64 (a : Nat)]) hM12 (i := 2) rfl rfl rfl rfl (by simp [oneCells, Value.oneCell', byteV]) (by simp) fun w15 (hM15 : Mem w (ids (⟨bc, 46, [vb, .int .i64 (a : Nat), .int .i64 e]⟩ :: rb)) w15 [[⟨bc, 46, [vb, .int .i64 (a : Nat), .int .i64 e]⟩], rb, [⟨b2, 48, [.int .i64 22, .int .i64 (a : Nat)]⟩]]) => ?_
      refine h14 _ _ ?_
      clear h14
      show resV _ _ _ _ _
      refine res_cell (s := some 2) (by kernel_rfl) ?_
      refine vl_ldA (cs := [.int .i64 22, .int .i64 (a : Nat)]) rfl rfl ((hM15.at (i := 2) (j := 0) rfl rfl).agg rfl rfl) ?_
      refine ⟨(.agg ([.int .i64 22, .int .i64 (a : Nat)] : List Value).toArray), rfl, ?_⟩
      first | exact ⟨by unfold endE endA; rw [if_pos (by omega), if_pos (by omega)], hM15.keep (by simp)⟩ | exact ⟨by unfold endE endA; rw [if_neg (by omega), if_pos (by omega), if_neg (by omega), if_pos (by omega)], hM15.keep (by simp)⟩ | exact ⟨by unfold endE endA; (rw [if_neg (by omega), if_neg (by omega), if_neg (by omega), if_neg (by omega)] <;> rfl), hM15.keep (by simp)⟩
    ·
      refine h4 _ _ ?_
      clear h4
      refine seq fun K16 h16 => ?_
      refine stp (v := .agg ([.int .i64 0, .int .i64 0] : List Value).toArray) (o_bld rfl rfl) ?_
      refine m_stA (l := [.int .i64 0, .int .i64 0]) hM12 (i := 2) rfl rfl rfl rfl (by simp [oneCells, Value.oneCell', byteV]) (by simp) fun w17 (hM17 : Mem w (ids (⟨bc, 46, [vb, .int .i64 (a : Nat), .int .i64 e]⟩ :: rb)) w17 [[⟨bc, 46, [vb, .int .i64 (a : Nat), .int .i64 e]⟩], rb, [⟨b2, 48, [.int .i64 0, .int .i64 0]⟩]]) => ?_
      refine h16 _ _ ?_
      clear h16
      show resV _ _ _ _ _
      refine res_cell (s := some 2) (by kernel_rfl) ?_
      refine vl_ldA (cs := [.int .i64 0, .int .i64 0]) rfl rfl ((hM17.at (i := 2) (j := 0) rfl rfl).agg rfl rfl) ?_
      refine ⟨(.agg ([.int .i64 0, .int .i64 0] : List Value).toArray), rfl, ?_⟩
      first | exact ⟨by unfold endE endA; rw [if_pos (by omega), if_pos (by omega)], hM17.keep (by simp)⟩ | exact ⟨by unfold endE endA; rw [if_neg (by omega), if_pos (by omega), if_neg (by omega), if_pos (by omega)], hM17.keep (by simp)⟩ | exact ⟨by unfold endE endA; (rw [if_neg (by omega), if_neg (by omega), if_neg (by omega), if_neg (by omega)] <;> rfl), hM17.keep (by simp)⟩
