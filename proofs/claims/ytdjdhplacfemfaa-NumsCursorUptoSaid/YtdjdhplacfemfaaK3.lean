/- Cursors: what is left. -/
import Derived.Test.YtdjdhplacfemfaaK2
namespace Go.Proofs.Ytdjdhplacfemfaa.E
open Go

def restV (b : List UInt8) (a : Nat) (e : Int) : Int := if e = 0 then ((b.length - a : Nat) : Int) else 0

/-- (*nums.Cursor).Rest -/
theorem Rest_ok (bc : Nat) (b : List UInt8) (a : Nat) (e : Int) (r0 : List Ent) (w : World) (hc : CurS bc b a e r0) (hr : Res w r0) (hl : b.length ≤ 140737488355328) : Calls Try.prog 30 [.pointer (some ⟨bc, 0, none⟩)].toArray w (Rt fun r w' => r = .int .i64 (restV b a e) ∧ Mem w (ids r0) w' [r0]) := by
  obtain ⟨vb, rb, rfl, hb, ha⟩ := hc
  have hM0 : Mem w (ids (⟨bc, 46, [vb, .int .i64 (a : Nat), .int .i64 e]⟩ :: rb)) w [[⟨bc, 46, [vb, .int .i64 (a : Nat), .int .i64 e]⟩], rb] := (Mem.start hr).keep (by simp)
  refine calls_vc mixed Try.func30 rfl C30 (by simp [Try.ntmps30]) ?_
  refine seq fun K1 h1 => ?_
  refine stp (v := .int .i64 0) (o_mv rfl) ?_
  refine h1 _ _ ?_
  clear h1
  refine seq fun K2 h2 => ?_
  refine seq fun K3 h3 => ?_
  refine stp (v := .pointer (some ⟨bc, 0, none⟩)) (o_mv rfl) ?_
  refine stp (v := .bool false) (o_isnil rfl rfl) ?_
  refine stp (v := .bool false) (o_mv rfl) ?_
  refine splitF rfl ?_
  refine stg rfl (v := .pointer (some ⟨bc, 0, none⟩)) (o_mv rfl) ?_
  refine stg rfl (v := .pointer (some ⟨bc, 0, none⟩)) (o_nilchk rfl rfl) ?_
  refine stg rfl (v := .pointer (some ⟨bc, 2, none⟩)) (o_fa rfl rfl) ?_
  refine gyesl rfl ?_
  refine m_ld (v := .int .i64 e) hM0 (i := 0) (j := 0) rfl rfl rfl rfl ?_
  refine stg rfl (v := .bool (decide (¬ e = 0))) (o_bin rfl rfl v_neq) ?_
  refine stp (v := .bool (decide (¬ e = 0))) (o_pickF rfl rfl) ?_
  refine h3 _ _ ?_
  clear h3
  refine cndP rfl (fun c4 => ?_) (fun c4 => ?_)
  ·
    refine seq fun K5 h5 => ?_
    refine stp (v := .int .i64 0) (o_mv rfl) ?_
    refine h5 _ _ ?_
    clear h5
    refine ⟨(.int .i64 0), rfl, ?_⟩
    exact ⟨by unfold restV; (rw [if_neg (by omega)] <;> rfl), hM0.keep (by simp)⟩
  ·
    refine h2 _ _ ?_
    clear h2
    refine seq fun K6 h6 => ?_
    intro wd e1 e2 e3 e4
    have hd := Upd.same e1 e2 e3 e4 []
    have hM7 := hM0.pure hd
    clear e1 e2 e3 e4
    refine ⟨none, ?_⟩
    show vd _ _ _ _ _ _ _
    refine dq (v := .pointer (some ⟨bc, 0, none⟩)) (o_mv rfl) ?_
    refine dq (v := .pointer (some ⟨bc, 0, none⟩)) (o_nilchk rfl rfl) ?_
    refine dq (v := .pointer (some ⟨bc, 0, none⟩)) (o_fa rfl rfl) ?_
    refine dq (v := .pointer (some ⟨bc, 0, none⟩)) (o_mv rfl) ?_
    refine dq (v := .pointer (some ⟨bc, 0, none⟩)) (o_nilchk rfl rfl) ?_
    refine dq (v := .pointer (some ⟨bc, 1, none⟩)) (o_fa rfl rfl) ?_
    refine dqld rfl (trivial) (v := .int .i64 (a : Nat)) ((hM7.at (i := 0) (j := 0) rfl rfl).cell 1) ?_
    refine dl (m_ld (v := vb) hM7 (i := 0) (j := 0) rfl rfl rfl rfl ?_)
    refine ⟨rfl, ?_⟩
    refine dq (v := .int .i64 (b.length : Nat)) (o_lenR (hb.rd hM7 (i := 1) rfl) rfl rfl) ?_
    refine dq (v := .int .i64 ((b.length : Nat) - (a : Nat))) (o_bin rfl rfl (v_sub64 (by constructor <;> omega))) ?_
    refine dq (v := .int .i64 ((b.length : Nat) - (a : Nat))) (o_mv rfl) ?_
    refine h6 _ _ ?_
    clear h6
    refine ⟨(.int .i64 ((b.length : Nat) - (a : Nat))), rfl, ?_⟩
    exact ⟨by unfold restV; rw [if_pos (by omega)]; exact v_int (by omega), hM7.keep (by simp)⟩

def txE (l : List UInt8) (m : Int) : Int := if ¬ (get l).2.2 = 0 then (get l).2.2 else if m < ((get l).1 : Int) then 23 else if (l.length : Int) - (get l).2.1 < ((get l).1 : Int) then 20 else 0
def txN (l : List UInt8) (m : Int) : Nat := if txE l m = 0 then (get l).2.1 + (get l).1 else 0
def txV (l : List UInt8) (m : Int) : List UInt8 := if txE l m = 0 then (l.drop (get l).2.1).take (get l).1 else []
def cTx (b : List UInt8) (a : Nat) (e m : Int) : List UInt8 := if e = 0 then txV (b.drop a) m else []
def cTxA (b : List UInt8) (a : Nat) (e m : Int) : Nat := if e = 0 ∧ txE (b.drop a) m = 0 then a + txN (b.drop a) m else a
def cTxE (b : List UInt8) (a : Nat) (e m : Int) : Int := if e = 0 then txE (b.drop a) m else e
theorem tx_bad {l : List UInt8} {m : Int} (h : ¬ (get l).2.2 = 0) : txE l m = (get l).2.2 ∧ txN l m = 0 ∧ txV l m = [] := by
  have e : txE l m = (get l).2.2 := by unfold txE; rw [if_pos h]
  exact ⟨e, by unfold txN; rw [if_neg (by omega)], by unfold txV; rw [if_neg (by omega)]⟩
theorem tx_much {l : List UInt8} {m : Int} (h : (get l).2.2 = 0) (h1 : m < ((get l).1 : Int)) : txE l m = 23 ∧ txN l m = 0 ∧ txV l m = [] := by
  have e : txE l m = 23 := by unfold txE; rw [if_neg (by omega), if_pos h1]
  exact ⟨e, by unfold txN; rw [if_neg (by omega)], by unfold txV; rw [if_neg (by omega)]⟩
theorem tx_short {l : List UInt8} {m : Int} (h : (get l).2.2 = 0) (h1 : ¬ m < ((get l).1 : Int)) (h2 : (l.length : Int) - (get l).2.1 < ((get l).1 : Int)) : txE l m = 20 ∧ txN l m = 0 ∧ txV l m = [] := by
  have e : txE l m = 20 := by unfold txE; rw [if_neg (by omega), if_neg h1, if_pos h2]
  exact ⟨e, by unfold txN; rw [if_neg (by omega)], by unfold txV; rw [if_neg (by omega)]⟩
theorem tx_fine {l : List UInt8} {m : Int} (h : (get l).2.2 = 0) (h1 : ¬ m < ((get l).1 : Int)) (h2 : ¬ (l.length : Int) - (get l).2.1 < ((get l).1 : Int)) : txE l m = 0 ∧ txN l m = (get l).2.1 + (get l).1 ∧ txV l m = (l.drop (get l).2.1).take (get l).1 := by
  have e : txE l m = 0 := by unfold txE; rw [if_neg (by omega), if_neg h1, if_neg h2]
  exact ⟨e, by unfold txN; rw [if_pos e], by unfold txV; rw [if_pos e]⟩
theorem txN_le {l : List UInt8} {m : Int} (h : txE l m = 0) : txN l m ≤ l.length := by
  by_cases c : (get l).2.2 = 0
  · have hg := (get_ok c).2.1
    by_cases c1 : m < ((get l).1 : Int)
    · rw [(tx_much c c1).1] at h; omega
    · by_cases c2 : (l.length : Int) - (get l).2.1 < ((get l).1 : Int)
      · rw [(tx_short c c1 c2).1] at h; omega
      · rw [(tx_fine c c1 c2).2.1]; omega
  · rw [(tx_bad (m := m) c).1] at h; exact absurd h c

/-- (*nums.Cursor).Text$1 -/
theorem tx1_ok (bm bv : Nat) (m : Int) (u : Value) (l : List UInt8) (w : World) (hu : RdE byteV w u l) (hr : Res w [⟨bm, 3, [.int .i64 m]⟩, ⟨bv, 9, [.string (str ([]))]⟩]) (hl : l.length ≤ 140737488355328) : Calls Try.prog 56 [u, .pointer (some ⟨bm, 0, none⟩), .pointer (some ⟨bv, 0, none⟩)].toArray w (Rt fun r w' => r = .tuple #[.int .i64 ((txN l m : Nat) : Int), .int .i64 (txE l m)] ∧ ∃ rv', rv' = [⟨bm, 3, [.int .i64 m]⟩, ⟨bv, 9, [.string (str (txV l m))]⟩] ∧ Mem w (ids [⟨bm, 3, [.int .i64 m]⟩, ⟨bv, 9, [.string (str ([]))]⟩]) w' [rv']) := by
  have hM0 : Mem w (ids [⟨bm, 3, [.int .i64 m]⟩, ⟨bv, 9, [.string (str ([]))]⟩]) w [[⟨bm, 3, [.int .i64 m]⟩], [⟨bv, 9, [.string (str ([]))]⟩]] := (Mem.start hr).keep (by simp)
  refine calls_vc mixed Try.func56 rfl C56 (by simp [Try.ntmps56]) ?_
  refine seq fun K1 h1 => ?_
  refine stp (v := .int .i64 0) (o_mv rfl) ?_
  refine stp (v := .int .i64 0) (o_mv rfl) ?_
  refine h1 _ _ ?_
  clear h1
  refine seq fun K2 h2 => ?_
  refine stp (v := u) (o_mv rfl) ?_
  refine m_call (Get_ok _ l w (hu) (by first | omega | (simp; done) | (simp; omega))) rfl fun v3 w3 ⟨hr3, hu3⟩ => ?_
  have hM3 : Mem w (ids [⟨bm, 3, [.int .i64 m]⟩, ⟨bv, 9, [.string (str ([]))]⟩]) w3 [[⟨bm, 3, [.int .i64 m]⟩], [⟨bv, 9, [.string (str ([]))]⟩]] := hM0.pure hu3
  subst hr3
  refine stp (v := .tuple [.int .i64 ((get l).1 : Nat), .int .i64 ((get l).2.1 : Nat), .int .i64 ((get l).2.2)].toArray) (o_mv rfl) ?_
  refine stp (v := .int .i64 ((get l).1 : Nat)) (o_ext rfl rfl) ?_
  refine stp (v := .int .i64 ((get l).2.1 : Nat)) (o_ext rfl rfl) ?_
  refine stp (v := .int .i64 ((get l).2.2)) (o_ext rfl rfl) ?_
  refine stp (v := .int .i64 ((get l).1 : Nat)) (o_mv rfl) ?_
  refine stp (v := .int .i64 ((get l).2.1 : Nat)) (o_mv rfl) ?_
  refine stp (v := .int .i64 ((get l).2.2)) (o_mv rfl) ?_
  refine h2 _ _ ?_
  clear h2
  refine seq fun K4 h4 => ?_
  refine seq fun K5 h5 => ?_
  refine stp (v := .int .i64 ((get l).2.2)) (o_mv rfl) ?_
  refine stp (v := .bool (decide (¬ ((get l).2.2) = 0))) (o_bin rfl rfl v_neq) ?_
  refine stp (v := .bool (decide (¬ ((get l).2.2) = 0))) (o_mv rfl) ?_
  refine h5 _ _ ?_
  clear h5
  refine cndP rfl (fun c6 => ?_) (fun c6 => ?_)
  ·
    refine seq fun K7 h7 => ?_
    refine stp (v := .int .i64 ((get l).2.2)) (o_mv rfl) ?_
    refine stp (v := .int .i64 0) (o_mv rfl) ?_
    refine stp (v := .int .i64 ((get l).2.2)) (o_mv rfl) ?_
    refine h7 _ _ ?_
    clear h7
    refine ⟨(.tuple [.int .i64 0, .int .i64 ((get l).2.2)].toArray), rfl, ?_⟩
    first | omega | exact ⟨by rw [(tx_bad (l := l) (m := m) (by omega)).1, (tx_bad (l := l) (m := m) (by omega)).2.1]; rfl, _, by rw [(tx_bad (l := l) (m := m) (by omega)).2.2], hM3.keep (by simp)⟩ | exact ⟨by rw [(tx_much (l := l) (m := m) (by omega) (by omega)).1, (tx_much (l := l) (m := m) (by omega) (by omega)).2.1]; rfl, _, by rw [(tx_much (l := l) (m := m) (by omega) (by omega)).2.2], hM3.keep (by simp)⟩ | exact ⟨by rw [(tx_short (l := l) (m := m) (by omega) (by omega) (by omega)).1, (tx_short (l := l) (m := m) (by omega) (by omega) (by omega)).2.1]; rfl, _, by rw [(tx_short (l := l) (m := m) (by omega) (by omega) (by omega)).2.2], hM3.keep (by simp)⟩ | exact ⟨by rw [(tx_fine (l := l) (m := m) (by omega) (by omega) (by omega)).1, (tx_fine (l := l) (m := m) (by omega) (by omega) (by omega)).2.1]; rfl, _, by rw [(tx_fine (l := l) (m := m) (by omega) (by omega) (by omega)).2.2], hM3.keep (by simp)⟩
  ·
    refine seq fun K8 h8 => ?_
    refine stp (v := .int .i64 ((get l).1 : Nat)) (o_mv rfl) ?_
    refine m_ld (v := .int .i64 m) hM3 (i := 0) (j := 0) rfl rfl rfl rfl ?_
    refine stp (v := .bool (decide ((m : Int) < (((get l).1 : Nat) : Int)))) (o_bin rfl rfl rfl) ?_
    refine stp (v := .bool (decide ((m : Int) < (((get l).1 : Nat) : Int)))) (o_mv rfl) ?_
    refine h8 _ _ ?_
    clear h8
    refine cndP rfl (fun c9 => ?_) (fun c9 => ?_)
    ·
      refine seq fun K10 h10 => ?_
      refine stp (v := .int .i64 0) (o_mv rfl) ?_
      refine stp (v := .int .i64 23) (o_mv rfl) ?_
      refine h10 _ _ ?_
      clear h10
      refine ⟨(.tuple [.int .i64 0, .int .i64 23].toArray), rfl, ?_⟩
      first | omega | exact ⟨by rw [(tx_bad (l := l) (m := m) (by omega)).1, (tx_bad (l := l) (m := m) (by omega)).2.1]; rfl, _, by rw [(tx_bad (l := l) (m := m) (by omega)).2.2], hM3.keep (by simp)⟩ | exact ⟨by rw [(tx_much (l := l) (m := m) (by omega) (by omega)).1, (tx_much (l := l) (m := m) (by omega) (by omega)).2.1]; rfl, _, by rw [(tx_much (l := l) (m := m) (by omega) (by omega)).2.2], hM3.keep (by simp)⟩ | exact ⟨by rw [(tx_short (l := l) (m := m) (by omega) (by omega) (by omega)).1, (tx_short (l := l) (m := m) (by omega) (by omega) (by omega)).2.1]; rfl, _, by rw [(tx_short (l := l) (m := m) (by omega) (by omega) (by omega)).2.2], hM3.keep (by simp)⟩ | exact ⟨by rw [(tx_fine (l := l) (m := m) (by omega) (by omega) (by omega)).1, (tx_fine (l := l) (m := m) (by omega) (by omega) (by omega)).2.1]; rfl, _, by rw [(tx_fine (l := l) (m := m) (by omega) (by omega) (by omega)).2.2], hM3.keep (by simp)⟩
    ·
      refine seq fun K11 h11 => ?_
      have hgk := (get_ok (b := l) (by omega)).2.1
      refine stp (v := .int .i64 ((get l).1 : Nat)) (o_mv rfl) ?_
      refine stp (v := u) (o_mv rfl) ?_
      refine stp (v := .int .i64 (l.length : Nat)) (o_lenR (hu.upd (hu3)) rfl rfl) ?_
      refine stp (v := .int .i64 ((get l).2.1 : Nat)) (o_mv rfl) ?_
      refine stp (v := .int .i64 ((l.length : Nat) - ((get l).2.1 : Nat))) (o_bin rfl rfl (v_sub64 (by constructor <;> omega))) ?_
      refine stp (v := .bool (decide ((((l.length : Nat) - ((get l).2.1 : Nat) : Int) : Int) < (((get l).1 : Nat) : Int)))) (o_bin rfl rfl rfl) ?_
      refine stp (v := .bool (decide ((((l.length : Nat) - ((get l).2.1 : Nat) : Int) : Int) < (((get l).1 : Nat) : Int)))) (o_mv rfl) ?_
      refine h11 _ _ ?_
      clear h11
      refine cndP rfl (fun c12 => ?_) (fun c12 => ?_)
      ·
        refine seq fun K13 h13 => ?_
        refine stp (v := .int .i64 0) (o_mv rfl) ?_
        refine stp (v := .int .i64 20) (o_mv rfl) ?_
        refine h13 _ _ ?_
        clear h13
        refine ⟨(.tuple [.int .i64 0, .int .i64 20].toArray), rfl, ?_⟩
        first | omega | exact ⟨by rw [(tx_bad (l := l) (m := m) (by omega)).1, (tx_bad (l := l) (m := m) (by omega)).2.1]; rfl, _, by rw [(tx_bad (l := l) (m := m) (by omega)).2.2], hM3.keep (by simp)⟩ | exact ⟨by rw [(tx_much (l := l) (m := m) (by omega) (by omega)).1, (tx_much (l := l) (m := m) (by omega) (by omega)).2.1]; rfl, _, by rw [(tx_much (l := l) (m := m) (by omega) (by omega)).2.2], hM3.keep (by simp)⟩ | exact ⟨by rw [(tx_short (l := l) (m := m) (by omega) (by omega) (by omega)).1, (tx_short (l := l) (m := m) (by omega) (by omega) (by omega)).2.1]; rfl, _, by rw [(tx_short (l := l) (m := m) (by omega) (by omega) (by omega)).2.2], hM3.keep (by simp)⟩ | exact ⟨by rw [(tx_fine (l := l) (m := m) (by omega) (by omega) (by omega)).1, (tx_fine (l := l) (m := m) (by omega) (by omega) (by omega)).2.1]; rfl, _, by rw [(tx_fine (l := l) (m := m) (by omega) (by omega) (by omega)).2.2], hM3.keep (by simp)⟩
      ·
        refine h4 _ _ ?_
        clear h4
        refine seq fun K14 h14 => ?_
        refine stp (v := u) (o_mv rfl) ?_
        refine stp (v := .int .i64 ((get l).2.1 : Nat)) (o_mv rfl) ?_
        refine stp (v := .int .i64 ((get l).2.1 : Nat)) (o_mv rfl) ?_
        refine stp (v := .int .i64 ((get l).1 : Nat)) (o_mv rfl) ?_
        refine stp (v := .int .i64 (((get l).2.1 : Nat) + ((get l).1 : Nat))) (o_bin rfl rfl (v_add64 (by constructor <;> omega))) ?_
        refine m_slcE ((get l).2.1) ((get l).2.1 + (get l).1) (hu.upd (hu3)) rfl (by omega) (by omega) ⟨_, v_int (by omega)⟩ ⟨_, v_int (by omega)⟩ fun u15 hu15 => ?_
        have hu15' : RdE byteV w3 u15 ((l.drop (get l).2.1).take (get l).1) := by
          have e : (l.take ((get l).2.1 + (get l).1)).drop ((get l).2.1) = ((l.drop (get l).2.1).take (get l).1) := by rw [List.drop_take]; congr 1; omega
          rw [e] at hu15; exact hu15
        refine m_b2s rfl (hu15') ?_
        refine m_st (v := .string (str ((l.drop (get l).2.1).take (get l).1))) hM3 (i := 1) rfl rfl rfl rfl (by simp) fun w16 (hM16 : Mem w (ids [⟨bm, 3, [.int .i64 m]⟩, ⟨bv, 9, [.string (str ([]))]⟩]) w16 [[⟨bm, 3, [.int .i64 m]⟩], [⟨bv, 9, [.string (str ((l.drop (get l).2.1).take (get l).1))]⟩]]) => ?_
        refine h14 _ _ ?_
        clear h14
        refine seq fun K17 h17 => ?_
        refine stp (v := .int .i64 ((get l).2.1 : Nat)) (o_mv rfl) ?_
        refine stp (v := .int .i64 ((get l).1 : Nat)) (o_mv rfl) ?_
        refine stp (v := .int .i64 (((get l).2.1 : Nat) + ((get l).1 : Nat))) (o_bin rfl rfl (v_add64 (by constructor <;> omega))) ?_
        refine stp (v := .int .i64 (((get l).2.1 : Nat) + ((get l).1 : Nat))) (o_mv rfl) ?_
        refine stp (v := .int .i64 0) (o_mv rfl) ?_
        refine h17 _ _ ?_
        clear h17
        refine ⟨(.tuple [.int .i64 (((get l).2.1 : Nat) + ((get l).1 : Nat)), .int .i64 0].toArray), rfl, ?_⟩
        first | omega | exact ⟨by rw [(tx_bad (l := l) (m := m) (by omega)).1, (tx_bad (l := l) (m := m) (by omega)).2.1]; rfl, _, by rw [(tx_bad (l := l) (m := m) (by omega)).2.2], hM16.keep (by simp)⟩ | exact ⟨by rw [(tx_much (l := l) (m := m) (by omega) (by omega)).1, (tx_much (l := l) (m := m) (by omega) (by omega)).2.1]; rfl, _, by rw [(tx_much (l := l) (m := m) (by omega) (by omega)).2.2], hM16.keep (by simp)⟩ | exact ⟨by rw [(tx_short (l := l) (m := m) (by omega) (by omega) (by omega)).1, (tx_short (l := l) (m := m) (by omega) (by omega) (by omega)).2.1]; rfl, _, by rw [(tx_short (l := l) (m := m) (by omega) (by omega) (by omega)).2.2], hM16.keep (by simp)⟩ | exact ⟨by rw [(tx_fine (l := l) (m := m) (by omega) (by omega) (by omega)).1, (tx_fine (l := l) (m := m) (by omega) (by omega) (by omega)).2.1]; rfl, _, by rw [(tx_fine (l := l) (m := m) (by omega) (by omega) (by omega)).2.2], hM16.keep (by simp)⟩

/-- (*nums.Cursor).Text -/
theorem Text_ok (bc : Nat) (b : List UInt8) (a : Nat) (e m : Int) (r0 : List Ent) (w : World) (hc : CurS bc b a e r0) (hr : Res w r0) (hl : b.length ≤ 140737488355328) : Calls Try.prog 47 [.pointer (some ⟨bc, 0, none⟩), .int .i64 m].toArray w (Rt fun r w' => r = .string (str (cTx b a e m)) ∧ ∃ r', CurS bc b (cTxA b a e m) (cTxE b a e m) r' ∧ Mem w (ids r0) w' [r']) := by
  have hM0 : Mem w (ids r0) w [r0] := Mem.start hr
  refine calls_vc mixed Try.func47 rfl C47 (by simp [Try.ntmps47]) ?_
  refine seq fun K1 h1 => ?_
  refine m_bx (v := .int .i64 m) hM0 rfl rfl fun b2 w3 (hM3 : Mem w (ids r0) w3 [r0, [⟨b2, 3, [.int .i64 m]⟩]]) => ?_
  refine stp (v := .string (str ([]))) (o_mv rfl) ?_
  refine h1 _ _ ?_
  clear h1
  refine seq fun K4 h4 => ?_
  refine m_al hM3 fun b5 w6 (hM6 : Mem w (ids r0) w6 [r0, [⟨b2, 3, [.int .i64 m]⟩], [⟨b5, 9, [.string (str ([]))]⟩]]) => ?_
  refine h4 _ _ ?_
  clear h4
  refine seq fun K7 h7 => ?_
  refine stp (v := .pointer (some ⟨bc, 0, none⟩)) (o_mv rfl) ?_
  refine stp (v := .func (.func 56) [].toArray [.pointer (some ⟨b2, 0, none⟩), .pointer (some ⟨b5, 0, none⟩)].toArray) (o_mkf rfl) ?_
  refine m_call (reads_ok bc b a e r0 [⟨b2, 3, [.int .i64 m]⟩, ⟨b5, 9, [.string (str ([]))]⟩] 56 _ (txN (b.drop a) m) (txE (b.drop a) m) (fun rv => rv = [⟨b2, 3, [.int .i64 m]⟩, ⟨b5, 9, [.string (str (txV (b.drop a) m))]⟩]) w6 hc (Mem.res2 ((hM6.keep (by simp) : Mem w (ids r0) w6 [r0, [⟨b2, 3, [.int .i64 m]⟩, ⟨b5, 9, [.string (str ([]))]⟩]])) 0 1 rfl rfl (by decide)) hl (by kernel_rfl) (by intro h; have := hc.le; have := txN_le h; simp only [List.length_drop] at this; omega) (fun wc u hx hr => tx1_ok b2 b5 m u _ wc hx hr (by simp; omega))) rfl fun v8 w8 ⟨r8, rv8, hc8, ht8, hm8⟩ => ?_
  obtain rfl : rv8 = [⟨b2, 3, [.int .i64 m]⟩, ⟨b5, 9, [.string (str (cTx b a e m))]⟩] := by
    by_cases c : e = 0
    · rw [if_pos c] at ht8; rw [ht8, cTx, if_pos c]
    · rw [if_neg c] at ht8; (rw [ht8, cTx, if_neg c] <;> rfl)
  have hM8 : Mem w (ids r0) w8 [r8, [⟨b2, 3, [.int .i64 m]⟩], [⟨b5, 9, [.string (str (cTx b a e m))]⟩]] := (Mem.step2 (hM6.keep (by simp) : Mem w (ids r0) w6 [r0, [⟨b2, 3, [.int .i64 m]⟩, ⟨b5, 9, [.string (str ([]))]⟩]]) 0 1 rfl rfl (by decide) hm8).keep (by simp)
  have hcn := hc8
  refine h7 _ _ ?_
  clear h7
  refine seq fun K9 h9 => ?_
  refine m_ld (v := .string (str (cTx b a e m))) hM8 (i := 2) (j := 0) rfl rfl rfl rfl ?_
  refine stp (v := .string (str (cTx b a e m))) (o_mv rfl) ?_
  refine h9 _ _ ?_
  clear h9
  refine ⟨(.string (str (cTx b a e m))), rfl, ?_⟩
  exact ⟨rfl, _, hcn, hM8.keep (by simp)⟩

/-- (*nums.Cursor).Fail$1 -/
theorem fail1_ok (bm : Nat) (m : Int) (u : Value) (w : World) (hr : Res w [⟨bm, 29, [.int .i64 m]⟩]) : Calls Try.prog 57 [u, .pointer (some ⟨bm, 0, none⟩)].toArray w (Rt fun r w' => r = .tuple #[.int .i64 ((0 : Nat) : Int), .int .i64 m] ∧ ∃ rv', rv' = [⟨bm, 29, [.int .i64 m]⟩] ∧ Mem w (ids [⟨bm, 29, [.int .i64 m]⟩]) w' [rv']) := by
  have hM0 : Mem w (ids [⟨bm, 29, [.int .i64 m]⟩]) w [[⟨bm, 29, [.int .i64 m]⟩]] := Mem.start hr
  refine calls_vc mixed Try.func57 rfl C57 (by simp [Try.ntmps57]) ?_
  refine seq fun K1 h1 => ?_
  refine stp (v := .int .i64 0) (o_mv rfl) ?_
  refine stp (v := .int .i64 0) (o_mv rfl) ?_
  refine h1 _ _ ?_
  clear h1
  refine seq fun K2 h2 => ?_
  intro wd e1 e2 e3 e4
  have hd := Upd.same e1 e2 e3 e4 []
  have hM3 := hM0.pure hd
  clear e1 e2 e3 e4
  refine ⟨none, ?_⟩
  show vd _ _ _ _ _ _ _
  refine dq (v := .int .i64 0) (o_mv rfl) ?_
  refine dl (m_ld (v := .int .i64 m) hM3 (i := 0) (j := 0) rfl rfl rfl rfl ?_)
  refine ⟨rfl, ?_⟩
  refine dq (v := .int .i64 m) (o_mv rfl) ?_
  refine h2 _ _ ?_
  clear h2
  refine ⟨(.tuple [.int .i64 0, .int .i64 m].toArray), rfl, ?_⟩
  exact ⟨rfl, _, rfl, hM3.keep (by simp)⟩

/-- (*nums.Cursor).Fail -/
theorem Fail_ok (bc : Nat) (b : List UInt8) (a : Nat) (e m : Int) (r0 : List Ent) (w : World) (hc : CurS bc b a e r0) (hr : Res w r0) (hl : b.length ≤ 140737488355328) : Calls Try.prog 49 [.pointer (some ⟨bc, 0, none⟩), .int .i64 m].toArray w (Rt fun _ w' => ∃ r', CurS bc b a (if e = 0 then m else e) r' ∧ Mem w (ids r0) w' [r']) := by
  have hM0 : Mem w (ids r0) w [r0] := Mem.start hr
  refine calls_vc mixed Try.func49 rfl C49 (by simp [Try.ntmps49]) ?_
  refine seq fun K1 h1 => ?_
  refine m_bx (v := .int .i64 m) hM0 rfl rfl fun b2 w3 (hM3 : Mem w (ids r0) w3 [r0, [⟨b2, 29, [.int .i64 m]⟩]]) => ?_
  refine h1 _ _ ?_
  clear h1
  refine stp (v := .pointer (some ⟨bc, 0, none⟩)) (o_mv rfl) ?_
  refine stp (v := .func (.func 57) [].toArray [.pointer (some ⟨b2, 0, none⟩)].toArray) (o_mkf rfl) ?_
  refine m_call (reads_ok bc b a e r0 [⟨b2, 29, [.int .i64 m]⟩] 57 _ 0 m (fun rv => rv = [⟨b2, 29, [.int .i64 m]⟩]) w3 hc (Mem.res2 (hM3 : Mem w (ids r0) w3 [r0, [⟨b2, 29, [.int .i64 m]⟩]]) 0 1 rfl rfl (by decide)) hl (by kernel_rfl) (fun _ => hc.le) (fun wc u _ hr => fail1_ok b2 m u wc hr)) rfl fun v4 w4 ⟨r4, rv4, hc4, ht4, hm4⟩ => ?_
  obtain rfl : rv4 = [⟨b2, 29, [.int .i64 m]⟩] := by
    by_cases c : e = 0
    · rw [if_pos c] at ht4; exact ht4
    · rw [if_neg c] at ht4; exact ht4
  have hM4 : Mem w (ids r0) w4 [r4, [⟨b2, 29, [.int .i64 m]⟩]] := Mem.step2 (hM3 : Mem w (ids r0) w3 [r0, [⟨b2, 29, [.int .i64 m]⟩]]) 0 1 rfl rfl (by decide) hm4
  have hcn : CurS bc b a (if e = 0 then m else e) r4 := by simpa using hc4
  refine ⟨(.tuple [].toArray), rfl, ?_⟩
  exact ⟨_, hcn, hM4.keep (by simp)⟩

/-- (*nums.Cursor).reads -/
theorem reads_nil (f : Value) (w : World) : Calls Try.prog 52 [.pointer none, f].toArray w (Rt fun _ w' => Upd [] w w') := by
  have hM0 : Mem w [] w [] := Mem.nil w []
  refine calls_vc mixed Try.func52 rfl C52 (by simp [Try.ntmps52]) ?_
  refine seq fun K1 h1 => ?_
  refine seq fun K2 h2 => ?_
  refine stp (v := .pointer none) (o_mv rfl) ?_
  refine stp (v := .bool true) (o_isnil rfl rfl) ?_
  refine stp (v := .bool true) (o_mv rfl) ?_
  refine splitT rfl ?_
  refine gno rfl (by simp) ?_
  refine gno rfl (by simp) ?_
  refine gno rfl (by simp) ?_
  refine gnol rfl (by simp) ?_
  refine gno rfl (by simp) ?_
  refine stp (v := .bool true) (o_pickT rfl rfl) ?_
  refine h2 _ _ ?_
  clear h2
  refine cndT rfl ?_
  refine ⟨(.tuple [].toArray), rfl, ?_⟩
  exact hM0.upd

/-- (*nums.Cursor).Num -/
theorem Num_nil (m : Int) (w : World) : Calls Try.prog 40 [.pointer none, .int .i64 m].toArray w (Rt fun r w' => r = .int .i64 0 ∧ Upd [] w w') := by
  have hM0 : Mem w [] w [] := Mem.nil w []
  refine calls_vc mixed Try.func40 rfl C40 (by simp [Try.ntmps40]) ?_
  refine seq fun K1 h1 => ?_
  refine m_bx (v := .int .i64 m) hM0 rfl rfl fun b2 w3 (hM3 : Mem w [] w3 [[⟨b2, 2, [.int .i64 m]⟩]]) => ?_
  refine stp (v := .int .i64 0) (o_mv rfl) ?_
  refine h1 _ _ ?_
  clear h1
  refine seq fun K4 h4 => ?_
  refine m_al hM3 fun b5 w6 (hM6 : Mem w [] w6 [[⟨b2, 2, [.int .i64 m]⟩], [⟨b5, 2, [.int .i64 0]⟩]]) => ?_
  refine h4 _ _ ?_
  clear h4
  refine seq fun K7 h7 => ?_
  refine stp (v := .pointer none) (o_mv rfl) ?_
  refine stp (v := .func (.func 53) [].toArray [.pointer (some ⟨b2, 0, none⟩), .pointer (some ⟨b5, 0, none⟩)].toArray) (o_mkf rfl) ?_
  refine m_call (reads_nil _ w6) rfl fun v8 w8 hu8 => ?_
  have hM8 : Mem w [] w8 [[⟨b2, 2, [.int .i64 m]⟩], [⟨b5, 2, [.int .i64 0]⟩]] := hM6.pure hu8
  refine h7 _ _ ?_
  clear h7
  refine seq fun K9 h9 => ?_
  refine m_ld (v := .int .i64 0) hM8 (i := 1) (j := 0) rfl rfl rfl rfl ?_
  refine stp (v := .int .i64 0) (o_mv rfl) ?_
  refine h9 _ _ ?_
  clear h9
  refine ⟨(.int .i64 0), rfl, ?_⟩
  exact ⟨rfl, hM8.upd⟩

/-- (*nums.Cursor).Fixed -/
theorem Fixed_nil (m : Int) (w : World) : Calls Try.prog 42 [.pointer none, .int .i64 m].toArray w (Rt fun r w' => r = .int .u64 0 ∧ Upd [] w w') := by
  have hM0 : Mem w [] w [] := Mem.nil w []
  refine calls_vc mixed Try.func42 rfl C42 (by simp [Try.ntmps42]) ?_
  refine seq fun K1 h1 => ?_
  refine m_bx (v := .int .i64 m) hM0 rfl rfl fun b2 w3 (hM3 : Mem w [] w3 [[⟨b2, 3, [.int .i64 m]⟩]]) => ?_
  refine stp (v := .int .u64 0) (o_mv rfl) ?_
  refine h1 _ _ ?_
  clear h1
  refine seq fun K4 h4 => ?_
  refine m_al hM3 fun b5 w6 (hM6 : Mem w [] w6 [[⟨b2, 3, [.int .i64 m]⟩], [⟨b5, 25, [.int .u64 0]⟩]]) => ?_
  refine h4 _ _ ?_
  clear h4
  refine seq fun K7 h7 => ?_
  refine stp (v := .pointer none) (o_mv rfl) ?_
  refine stp (v := .func (.func 54) [].toArray [.pointer (some ⟨b2, 0, none⟩), .pointer (some ⟨b5, 0, none⟩)].toArray) (o_mkf rfl) ?_
  refine m_call (reads_nil _ w6) rfl fun v8 w8 hu8 => ?_
  have hM8 : Mem w [] w8 [[⟨b2, 3, [.int .i64 m]⟩], [⟨b5, 25, [.int .u64 0]⟩]] := hM6.pure hu8
  refine h7 _ _ ?_
  clear h7
  refine seq fun K9 h9 => ?_
  refine m_ld (v := .int .u64 0) hM8 (i := 1) (j := 0) rfl rfl rfl rfl ?_
  refine stp (v := .int .u64 0) (o_mv rfl) ?_
  refine h9 _ _ ?_
  clear h9
  refine ⟨(.int .u64 0), rfl, ?_⟩
  exact ⟨rfl, hM8.upd⟩

/-- (*nums.Cursor).Take -/
theorem Take_nil (m : Int) (w : World) : Calls Try.prog 44 [.pointer none, .int .i64 m].toArray w (Rt fun r w' => r = .slice none 0 0 ∧ Upd [] w w') := by
  have hM0 : Mem w [] w [] := Mem.nil w []
  refine calls_vc mixed Try.func44 rfl C44 (by simp [Try.ntmps44]) ?_
  refine seq fun K1 h1 => ?_
  refine m_bx (v := .int .i64 m) hM0 rfl rfl fun b2 w3 (hM3 : Mem w [] w3 [[⟨b2, 3, [.int .i64 m]⟩]]) => ?_
  refine stp (v := .slice none 0 0) (o_mv rfl) ?_
  refine h1 _ _ ?_
  clear h1
  refine seq fun K4 h4 => ?_
  refine m_al hM3 fun b5 w6 (hM6 : Mem w [] w6 [[⟨b2, 3, [.int .i64 m]⟩], [⟨b5, 22, [.slice none 0 0]⟩]]) => ?_
  refine h4 _ _ ?_
  clear h4
  refine seq fun K7 h7 => ?_
  refine stp (v := .pointer none) (o_mv rfl) ?_
  refine stp (v := .func (.func 55) [].toArray [.pointer (some ⟨b2, 0, none⟩), .pointer (some ⟨b5, 0, none⟩)].toArray) (o_mkf rfl) ?_
  refine m_call (reads_nil _ w6) rfl fun v8 w8 hu8 => ?_
  have hM8 : Mem w [] w8 [[⟨b2, 3, [.int .i64 m]⟩], [⟨b5, 22, [.slice none 0 0]⟩]] := hM6.pure hu8
  refine h7 _ _ ?_
  clear h7
  refine seq fun K9 h9 => ?_
  refine m_ld (v := .slice none 0 0) hM8 (i := 1) (j := 0) rfl rfl rfl rfl ?_
  refine stp (v := .slice none 0 0) (o_mv rfl) ?_
  refine h9 _ _ ?_
  clear h9
  refine ⟨(.slice none 0 0), rfl, ?_⟩
  exact ⟨rfl, hM8.upd⟩

/-- (*nums.Cursor).Text -/
theorem Text_nil (m : Int) (w : World) : Calls Try.prog 47 [.pointer none, .int .i64 m].toArray w (Rt fun r w' => r = .string (str []) ∧ Upd [] w w') := by
  have hM0 : Mem w [] w [] := Mem.nil w []
  refine calls_vc mixed Try.func47 rfl C47 (by simp [Try.ntmps47]) ?_
  refine seq fun K1 h1 => ?_
  refine m_bx (v := .int .i64 m) hM0 rfl rfl fun b2 w3 (hM3 : Mem w [] w3 [[⟨b2, 3, [.int .i64 m]⟩]]) => ?_
  refine stp (v := .string (str ([]))) (o_mv rfl) ?_
  refine h1 _ _ ?_
  clear h1
  refine seq fun K4 h4 => ?_
  refine m_al hM3 fun b5 w6 (hM6 : Mem w [] w6 [[⟨b2, 3, [.int .i64 m]⟩], [⟨b5, 9, [.string (str ([]))]⟩]]) => ?_
  refine h4 _ _ ?_
  clear h4
  refine seq fun K7 h7 => ?_
  refine stp (v := .pointer none) (o_mv rfl) ?_
  refine stp (v := .func (.func 56) [].toArray [.pointer (some ⟨b2, 0, none⟩), .pointer (some ⟨b5, 0, none⟩)].toArray) (o_mkf rfl) ?_
  refine m_call (reads_nil _ w6) rfl fun v8 w8 hu8 => ?_
  have hM8 : Mem w [] w8 [[⟨b2, 3, [.int .i64 m]⟩], [⟨b5, 9, [.string (str ([]))]⟩]] := hM6.pure hu8
  refine h7 _ _ ?_
  clear h7
  refine seq fun K9 h9 => ?_
  refine m_ld (v := .string (str ([]))) hM8 (i := 1) (j := 0) rfl rfl rfl rfl ?_
  refine stp (v := .string (str ([]))) (o_mv rfl) ?_
  refine h9 _ _ ?_
  clear h9
  refine ⟨(.string (str ([]))), rfl, ?_⟩
  exact ⟨rfl, hM8.upd⟩

/-- (*nums.Cursor).Fail -/
theorem Fail_nil (m : Int) (w : World) : Calls Try.prog 49 [.pointer none, .int .i64 m].toArray w (Rt fun _ w' => Upd [] w w') := by
  have hM0 : Mem w [] w [] := Mem.nil w []
  refine calls_vc mixed Try.func49 rfl C49 (by simp [Try.ntmps49]) ?_
  refine seq fun K1 h1 => ?_
  refine m_bx (v := .int .i64 m) hM0 rfl rfl fun b2 w3 (hM3 : Mem w [] w3 [[⟨b2, 29, [.int .i64 m]⟩]]) => ?_
  refine h1 _ _ ?_
  clear h1
  refine stp (v := .pointer none) (o_mv rfl) ?_
  refine stp (v := .func (.func 57) [].toArray [.pointer (some ⟨b2, 0, none⟩)].toArray) (o_mkf rfl) ?_
  refine m_call (reads_nil _ w3) rfl fun v4 w4 hu4 => ?_
  have hM4 : Mem w [] w4 [[⟨b2, 29, [.int .i64 m]⟩]] := hM3.pure hu4
  refine ⟨(.tuple [].toArray), rfl, ?_⟩
  exact hM4.upd

/-- (*nums.Cursor).Rest -/
theorem Rest_nil (w : World) : Calls Try.prog 30 [.pointer none].toArray w (Rt fun r w' => r = .int .i64 0 ∧ Upd [] w w') := by
  have hM0 : Mem w [] w [] := Mem.nil w []
  refine calls_vc mixed Try.func30 rfl C30 (by simp [Try.ntmps30]) ?_
  refine seq fun K1 h1 => ?_
  refine stp (v := .int .i64 0) (o_mv rfl) ?_
  refine h1 _ _ ?_
  clear h1
  refine seq fun K2 h2 => ?_
  refine seq fun K3 h3 => ?_
  refine stp (v := .pointer none) (o_mv rfl) ?_
  refine stp (v := .bool true) (o_isnil rfl rfl) ?_
  refine stp (v := .bool true) (o_mv rfl) ?_
  refine splitT rfl ?_
  refine gno rfl (by simp) ?_
  refine gno rfl (by simp) ?_
  refine gno rfl (by simp) ?_
  refine gnol rfl (by simp) ?_
  refine gno rfl (by simp) ?_
  refine stp (v := .bool true) (o_pickT rfl rfl) ?_
  refine h3 _ _ ?_
  clear h3
  refine cndT rfl ?_
  refine seq fun K4 h4 => ?_
  refine stp (v := .int .i64 0) (o_mv rfl) ?_
  refine h4 _ _ ?_
  clear h4
  refine ⟨(.int .i64 0), rfl, ?_⟩
  exact ⟨rfl, hM0.upd⟩

set_option maxRecDepth 100000 in
/-- (*nums.Cursor).End -/
theorem End_nil (w : World) : Calls Try.prog 32 [.pointer none].toArray w (Rt fun r w' => r = .agg #[.int .i64 1, .int .i64 0] ∧ Upd [] w w') := by
  have hM0 : Mem w [] w [] := Mem.nil w []
  refine calls_vc mixed Try.func32 rfl C32 (by simp [Try.ntmps32]) ?_
  refine seq fun K1 h1 => ?_
  refine m_al hM0 fun b2 w3 (hM3 : Mem w [] w3 [[⟨b2, 48, [.int .i64 0, .int .i64 0]⟩]]) => ?_
  refine h1 _ _ ?_
  clear h1
  refine seq fun K4 h4 => ?_
  refine seq fun K5 h5 => ?_
  refine stp (v := .pointer none) (o_mv rfl) ?_
  refine stp (v := .bool true) (o_isnil rfl rfl) ?_
  refine stp (v := .bool true) (o_mv rfl) ?_
  refine h5 _ _ ?_
  clear h5
  refine cndT rfl ?_
  refine seq fun K6 h6 => ?_
  refine stp (v := .agg ([.int .i64 1, .int .i64 0] : List Value).toArray) (o_bld rfl rfl) ?_
  refine m_stA (l := [.int .i64 1, .int .i64 0]) hM3 (i := 0) rfl rfl rfl rfl (by simp [oneCells, Value.oneCell', byteV]) (by simp) fun w7 (hM7 : Mem w [] w7 [[⟨b2, 48, [.int .i64 1, .int .i64 0]⟩]]) => ?_
  refine h6 _ _ ?_
  clear h6
  show resV _ _ _ _ _
  refine res_cell (s := some 2) (by kernel_rfl) ?_
  refine vl_ldA (cs := [.int .i64 1, .int .i64 0]) rfl rfl ((hM7.at (i := 0) (j := 0) rfl rfl).agg rfl rfl) ?_
  refine ⟨(.agg ([.int .i64 1, .int .i64 0] : List Value).toArray), rfl, ?_⟩
  exact ⟨rfl, hM7.upd⟩
