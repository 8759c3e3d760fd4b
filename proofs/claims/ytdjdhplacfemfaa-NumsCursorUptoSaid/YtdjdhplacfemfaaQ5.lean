/- The law NumsCursor: every row of calls on a cursor, a nil one, a zero one. -/
import Derived.Test.YtdjdhplacfemfaaQ4
namespace Go.Proofs.Ytdjdhplacfemfaa.E
open Go
theorem getD_rep {α : Type} {n i : Nat} {q z : α} (h : i < n) : (List.replicate n q).getD i z = q := by simp [List.getD_eq_getElem?_getD, h]
theorem ne_at {a c : List UInt8} {i : Nat} {q : UInt8} (hc : c.getD i 0 = q) (h : ¬ ((a.getD i 0).toNat : Int) = q.toNat) : ¬ a = c := fun e => h (by rw [e, hc])
theorem U150 : ((150 : UInt8).toNat : Int) = 150 := rfl
theorem getD_app1 {a b : List UInt8} {i : Nat} (h : i < a.length) : (a ++ b).getD i 0 = a.getD i 0 := by
  rw [List.getD_eq_getElem?_getD, List.getElem?_append_left h, ← List.getD_eq_getElem?_getD]
theorem getD_app2 {a b : List UInt8} {i : Nat} (h : a.length ≤ i) : (a ++ b).getD i 0 = b.getD (i - a.length) 0 := by
  rw [List.getD_eq_getElem?_getD, List.getElem?_append_right h, ← List.getD_eq_getElem?_getD]
theorem ap_set {b : List UInt8} {q c : UInt8} {i m n : Nat} (hn : n = b.length + m) (hi : i < b.length) (hc : c = b.getD i 0) : ((b ++ List.replicate m q).take i ++ List.replicate (n - i) 0).set i c = (b ++ List.replicate m q).take (i + 1) ++ List.replicate (n - (i + 1)) 0 := by
  have e : (b ++ List.replicate m q).take (i + 1) = (b ++ List.replicate m q).take i ++ [b.getD i 0] := by
    rw [take_getD (by simp; omega), getD_app1 hi]
  subst hc
  rw [e, List.set_append_right _ _ (by simp; omega)]
  have h1 : ((b ++ List.replicate m q).take i).length = i := by simp; omega
  obtain ⟨k, hk⟩ : ∃ k, n - i = k + 1 := ⟨n - i - 1, by omega⟩
  rw [h1, Nat.sub_self, hk, List.replicate_succ, List.set_cons_zero, show n - (i + 1) = k by omega]; simp
theorem ap_set2 {b : List UInt8} {q : UInt8} {i m n : Nat} (hn : n = b.length + m) (hi : b.length ≤ i) (h2 : i < n) : ((b ++ List.replicate m q).take i ++ List.replicate (n - i) 0).set i q = (b ++ List.replicate m q).take (i + 1) ++ List.replicate (n - (i + 1)) 0 := by
  have e : (b ++ List.replicate m q).take (i + 1) = (b ++ List.replicate m q).take i ++ [q] := by
    rw [take_getD (by simp; omega), getD_app2 hi, getD_rep (by omega)]
  rw [e, List.set_append_right _ _ (by simp; omega)]
  have h1 : ((b ++ List.replicate m q).take i).length = i := by simp; omega
  obtain ⟨k, hk⟩ : ∃ k, n - i = k + 1 := ⟨n - i - 1, by omega⟩
  rw [h1, Nat.sub_self, hk, List.replicate_succ, List.set_cons_zero, show n - (i + 1) = k by omega]; simp

structure Stp where
  op : Int
  n : Int
def stC (t : Stp) : List Value := [.int .i64 t.op, .int .i64 t.n]
instance : Enc stC 2 := ⟨fun _ => rfl, by omega, fun c => by intro v hv; simp only [stC, List.mem_cons, List.not_mem_nil, or_false] at hv; rcases hv with rfl | rfl <;> rfl⟩
def Stp.ok (t : Stp) : Prop := inK .i64 t.op ∧ inK .i64 t.n
def sz0 : Stp := ⟨0, 0⟩
theorem CurS.zero (bc : Nat) : CurS bc [] 0 0 [⟨bc, 46, [.slice none 0 0, .int .i64 ((0 : Nat) : Int), .int .i64 0]⟩] := ⟨_, [], rfl, Sl.nil 1 5, Nat.le_refl _⟩

/-- winnowlaw2.spare -/
theorem spare_ok (x : Value) (b : List UInt8) (w : World) (hx : RdB w x b) (hl : b.length ≤ 140737488351232) : Calls Try.prog 17 [x].toArray w (Rt fun r w' => ∃ rs, SlB 5 r (b ++ List.replicate 64 150) rs ∧ Mem w [] w' [rs]) := by
  have hM0 : Mem w [] w [] := Mem.nil w []
  refine calls_vc mixed Try.func17 rfl C17 (by simp [Try.ntmps17]) ?_
  refine seq fun K1 h1 => ?_
  refine stp (v := .slice none 0 0) (o_mv rfl) ?_
  refine h1 _ _ ?_
  clear h1
  refine seq fun K2 h2 => ?_
  refine stp (v := x) (o_mv rfl) ?_
  refine stp (v := .int .i64 (b.length : Nat)) (o_lenR (hx.upd hM0.upd) rfl rfl) ?_
  refine stp (v := .int .i64 ((b.length : Nat) + 64)) (o_bin rfl rfl (v_add64 (by constructor <;> omega))) ?_
  refine m_mksE (E := byteV) (z := 0) (n := (b.length + 64)) (c := (b.length + 64)) rfl hM0 (v_int (by omega)) (v_int (by omega)) (by omega) (by omega) (by omega) fun v3 w3 r3 hs3 (hM3 : Mem w [] w3 [r3]) => ?_
  refine stp (v := v3) (o_mv rfl) ?_
  refine h2 _ _ ?_
  clear h2
  refine seq fun K4 h4 => ?_
  refine seq fun K5 h5 => ?_
  refine stp (v := .int .i64 0) (o_mv rfl) ?_
  refine h5 _ _ ?_
  clear h5
  refine lp (n := fun _ _ => False) (ι := (Nat) × (Value) × (List Ent)) (fun ⟨i, g, r⟩ f w' => f 0 = x ∧ f 3 = g ∧ f 4 = .int .i64 (i : Nat) ∧ Mem w [] w' [r] ∧ (SlB 5 g ((b ++ List.replicate 64 (150 : UInt8)).take i ++ List.replicate ((b.length + 64) - i) 0) r) ∧ (i ≤ (b.length + 64)) ∧ (((b ++ List.replicate 64 (150 : UInt8)).take i ++ List.replicate ((b.length + 64) - i) 0).length = (b.length + 64))) (fun ⟨i, g, r⟩ => (b.length + 64) - i) (0, v3, r3) ?_ ?_
  · exact ⟨rfl, rfl, by first | rfl | exact v_int (by omega) | exact v_int (by simp) | exact v_int (by simp; omega), hM3, by simpa using hs3, by omega, by simp⟩
  · rintro ⟨i, g, r⟩ f w6 ⟨e6_0, e6_3, e6_4, hM6, hs, hi, hq⟩ K7 h7
    obtain ⟨frm, rfl⟩ : ∃ frm, f = (upd (upd (upd frm 0 (x)) 3 (g)) 4 (.int .i64 (i : Nat))) := ⟨f, by rw [upd_self e6_0, upd_self e6_3, upd_self e6_4]⟩
    clear e6_0 e6_3 e6_4
    refine seq fun K8 h8 => ?_
    refine seq fun K9 h9 => ?_
    refine stp (v := .int .i64 (i : Nat)) (o_mv rfl) ?_
    refine stp (v := g) (o_mv rfl) ?_
    refine stp (v := .int .i64 (((b ++ List.replicate 64 (150 : UInt8)).take i ++ List.replicate ((b.length + 64) - i) 0).length : Nat)) (o_lenR (hs.rd hM6 (i := 0) rfl) rfl rfl) ?_
    refine stp (v := .bool (decide (((i : Nat) : Int) < (((b ++ List.replicate 64 (150 : UInt8)).take i ++ List.replicate ((b.length + 64) - i) 0).length : Nat)))) (o_bin rfl rfl rfl) ?_
    refine h9 _ _ ?_
    clear h9
    refine cndP rfl (fun c10 => ?_) (fun c10 => ?_)
    ·
      refine h8 _ _ ?_
      clear h8
      refine seq fun K11 h11 => ?_
      refine seq fun K12 h12 => ?_
      refine stp (v := g) (o_mv rfl) ?_
      refine stp (v := .int .i64 (i : Nat)) (o_mv rfl) ?_
      refine m_set (E := byteV) (q := 150) (j := i) hM6 (i := 0) rfl hs rfl rfl (by omega) (by simp) (rfl) fun w13 r13 u13 he13 hs13 (hM13 : Mem w [] w13 [r13]) => ?_
      refine h12 _ _ ?_
      clear h12
      refine seq fun K14 h14 => ?_
      refine stp (v := .int .i64 (i : Nat)) (o_mv rfl) ?_
      refine stp (v := x) (o_mv rfl) ?_
      refine stp (v := .int .i64 (b.length : Nat)) (o_lenR (hx.upd hM13.upd) rfl rfl) ?_
      refine stp (v := .bool (decide (((i : Nat) : Int) < (b.length : Nat)))) (o_bin rfl rfl rfl) ?_
      refine h14 _ _ ?_
      clear h14
      refine cndP rfl (fun c15 => ?_) (fun c15 => ?_)
      ·
        refine stp (v := g) (o_mv rfl) ?_
        refine stp (v := .int .i64 (i : Nat)) (o_mv rfl) ?_
        refine stp (v := x) (o_mv rfl) ?_
        refine stp (v := .int .i64 (i : Nat)) (o_mv rfl) ?_
        refine m_idxE 0 (j := i) (hx.upd hM13.upd) rfl rfl (by omega) fun b16 o16 hp16 => ?_
        refine ld (v := byteV (b.getD i 0)) rfl (hp16) ?_
        refine m_set (E := byteV) (q := b.getD i 0) (j := i) hM13 (i := 0) rfl hs13 rfl rfl (by simp; omega) (by simp) (rfl) fun w17 r17 u17 he17 hs17 (hM17 : Mem w [] w17 [r17]) => ?_
        refine h11 _ _ ?_
        clear h11
        refine stp (v := .int .i64 (i : Nat)) (o_mv rfl) ?_
        refine stp (v := .int .i64 ((i : Nat) + 1)) (o_bin rfl rfl (v_add64 (by constructor <;> omega))) ?_
        refine stp (v := .int .i64 ((i : Nat) + 1)) (o_mv rfl) ?_
        refine h7 (i + 1, g, r17) _ _ ⟨rfl, rfl, by first | rfl | exact v_int (by omega) | exact v_int (by simp) | exact v_int (by simp; omega), hM17, by rw [← ap_set rfl (c := b.getD i 0) (by omega) rfl]; simpa [List.set_set] using hs17, by omega, by simp; omega⟩ (by (try dsimp only); omega)
      ·
        refine h11 _ _ ?_
        clear h11
        refine stp (v := .int .i64 (i : Nat)) (o_mv rfl) ?_
        refine stp (v := .int .i64 ((i : Nat) + 1)) (o_bin rfl rfl (v_add64 (by constructor <;> omega))) ?_
        refine stp (v := .int .i64 ((i : Nat) + 1)) (o_mv rfl) ?_
        refine h7 (i + 1, g, r13) _ _ ⟨rfl, rfl, by first | rfl | exact v_int (by omega) | exact v_int (by simp) | exact v_int (by simp; omega), hM13, by rw [← ap_set2 rfl (by omega) (by omega)]; exact hs13, by omega, by simp; omega⟩ (by (try dsimp only); omega)
    ·
      refine h4 _ _ ?_
      clear h4
      refine seq fun K18 h18 => ?_
      refine stp (v := g) (o_mv rfl) ?_
      refine stp (v := g) (o_mv rfl) ?_
      refine h18 _ _ ?_
      clear h18
      refine ⟨g, rfl, ?_⟩
      have e : i = (b.length + 64) := by omega
      subst e
      rw [Nat.sub_self, List.replicate_zero, List.append_nil, List.take_of_length_le (by simp)] at hs
      exact ⟨_, hs, hM6⟩

/-- winnowlaw2.kept -/
theorem kept_ok (g x : Value) (a b : List UInt8) (w : World) (hg : RdB w g a) (hx : RdB w x b) (hla : a.length ≤ 1152921504606846976) (hl : b.length ≤ 1152921504606846976) : Calls Try.prog 22 [g, x].toArray w (Rt fun r w' => r = .bool (decide (a = b ++ List.replicate 64 150)) ∧ Upd [] w w') := by
  have hM0 : Mem w [] w [] := Mem.nil w []
  refine calls_vc mixed Try.func22 rfl C22 (by simp [Try.ntmps22]) ?_
  refine seq fun K1 h1 => ?_
  refine stp (v := .bool false) (o_mv rfl) ?_
  refine h1 _ _ ?_
  clear h1
  refine seq fun K2 h2 => ?_
  refine seq fun K3 h3 => ?_
  refine stp (v := g) (o_mv rfl) ?_
  refine stp (v := .int .i64 (a.length : Nat)) (o_lenR (hg.upd hM0.upd) rfl rfl) ?_
  refine stp (v := x) (o_mv rfl) ?_
  refine stp (v := .int .i64 (b.length : Nat)) (o_lenR (hx.upd hM0.upd) rfl rfl) ?_
  refine stp (v := .int .i64 ((b.length : Nat) + 64)) (o_bin rfl rfl (v_add64 (by constructor <;> omega))) ?_
  refine stp (v := .bool (decide (¬ ((a.length : Nat) : Int) = ((b.length : Nat) + 64)))) (o_bin rfl rfl v_neq) ?_
  refine h3 _ _ ?_
  clear h3
  refine cndP rfl (fun c4 => ?_) (fun c4 => ?_)
  ·
    refine seq fun K5 h5 => ?_
    refine stp (v := .bool false) (o_mv rfl) ?_
    refine h5 _ _ ?_
    clear h5
    refine ⟨(.bool false), rfl, ?_⟩
    exact ⟨by rw [decide_eq_false (fun e => by have := congrArg List.length e; simp at this; omega)], hM0.upd⟩
  ·
    refine h2 _ _ ?_
    clear h2
    refine seq fun K6 h6 => ?_
    refine seq fun K7 h7 => ?_
    refine stp (v := .int .i64 0) (o_mv rfl) ?_
    refine h7 _ _ ?_
    clear h7
    refine lp (n := fun _ _ => False) (ι := (Nat)) (fun i f w' => f 0 = g ∧ f 1 = x ∧ f 5 = .int .i64 (i : Nat) ∧ Mem w [] w' [] ∧ (i ≤ a.length) ∧ (a.take i = (b ++ List.replicate 64 (150 : UInt8)).take i)) (fun i => a.length - i) (0) ?_ ?_
    · exact ⟨rfl, rfl, by first | rfl | exact v_int (by omega) | exact v_int (by simp) | exact v_int (by simp; omega), hM0, by omega, by simp⟩
    · rintro i f w8 ⟨e8_0, e8_1, e8_5, hM8, hi, hp⟩ K9 h9
      obtain ⟨frm, rfl⟩ : ∃ frm, f = (upd (upd (upd frm 0 (g)) 1 (x)) 5 (.int .i64 (i : Nat))) := ⟨f, by rw [upd_self e8_0, upd_self e8_1, upd_self e8_5]⟩
      clear e8_0 e8_1 e8_5
      refine seq fun K10 h10 => ?_
      refine seq fun K11 h11 => ?_
      refine stp (v := .int .i64 (i : Nat)) (o_mv rfl) ?_
      refine stp (v := g) (o_mv rfl) ?_
      refine stp (v := .int .i64 (a.length : Nat)) (o_lenR (hg.upd hM8.upd) rfl rfl) ?_
      refine stp (v := .bool (decide (((i : Nat) : Int) < (a.length : Nat)))) (o_bin rfl rfl rfl) ?_
      refine h11 _ _ ?_
      clear h11
      refine cndP rfl (fun c12 => ?_) (fun c12 => ?_)
      ·
        refine h10 _ _ ?_
        clear h10
        refine seq fun K13 h13 => ?_
        refine seq fun K14 h14 => ?_
        intro wd e1 e2 e3 e4
        have hd := Upd.same e1 e2 e3 e4 []
        have hM15 := hM8.pure hd
        clear e1 e2 e3 e4
        refine ⟨none, ?_⟩
        show vd _ _ _ _ _ _ _
        refine dq (v := .int .i64 (i : Nat)) (o_mv rfl) ?_
        refine dq (v := x) (o_mv rfl) ?_
        refine dq (v := .int .i64 (b.length : Nat)) (o_lenR (hx.upd hM15.upd) rfl rfl) ?_
        refine dq (v := .bool (decide (((i : Nat) : Int) < (b.length : Nat)))) (o_bin rfl rfl rfl) ?_
        refine dq (v := .bool (decide (((i : Nat) : Int) < (b.length : Nat)))) (o_mv rfl) ?_
        refine dsplitP rfl (fun c16 => ?_) (fun c16 => ?_)
        ·
          refine dqg rfl (v := g) (o_mv rfl) ?_
          refine dqg rfl (v := .int .i64 (i : Nat)) (o_mv rfl) ?_
          refine dgyes rfl rfl (dqp (m_idxE 0 (j := i) (hg.upd hM15.upd) rfl rfl (by omega) fun b17 o17 hp17 => ?_))
          show vd _ _ _ _ _ _ _
          refine dqg rfl (v := x) (o_mv rfl) ?_
          refine dqg rfl (v := .int .i64 (i : Nat)) (o_mv rfl) ?_
          refine dgyes rfl rfl (dqp (m_idxE 0 (j := i) (hx.upd hM15.upd) rfl rfl (by omega) fun b18 o18 hp18 => ?_))
          show vd _ _ _ _ _ _ _
          refine dqgyes rfl rfl ?_
          refine dqld rfl (trivial) (v := byteV (b.getD i 0)) (hp18) ?_
          refine dgyesl rfl ?_
          refine dl (ld (v := byteV (a.getD i 0)) rfl (hp17) ?_)
          refine ⟨rfl, ?_⟩
          refine dqg rfl (v := .bool (decide (¬ ((a.getD i 0).toNat : Int) = ((b.getD i 0).toNat : Int)))) (o_bin rfl rfl v_neq) ?_
          refine dq (v := .bool (decide (¬ ((a.getD i 0).toNat : Int) = ((b.getD i 0).toNat : Int)))) (o_pickT rfl rfl) ?_
          refine dq (v := .bool (decide (¬ ((a.getD i 0).toNat : Int) = ((b.getD i 0).toNat : Int)))) (o_mv rfl) ?_
          refine dsplitP rfl (fun c19 => ?_) (fun c19 => ?_)
          ·
            refine dgno rfl (by simp) ?_
            refine dgno rfl (by simp) ?_
            refine dgno rfl (by simp) ?_
            refine dgno rfl (by simp) ?_
            refine dgno rfl (by simp) ?_
            refine dsplitU rfl ?_
            refine dgnou rfl ?_
            refine dgnou rfl ?_
            refine dgnou rfl ?_
            refine dgnolu rfl ?_
            refine dgnou rfl ?_
            refine dgno rfl (by simp) ?_
            refine dq (v := .bool true) (o_pickT rfl rfl) ?_
            refine h14 _ _ ?_
            clear h14
            refine cndT rfl ?_
            refine seq fun K20 h20 => ?_
            refine stp (v := .bool false) (o_mv rfl) ?_
            refine h20 _ _ ?_
            clear h20
            refine ⟨(.bool false), rfl, ?_⟩
            exact ⟨by rw [decide_eq_false (ne_at (i := i) (getD_app1 (by omega)) (by assumption))], hM15.upd⟩
          ·
            refine dqg rfl (v := .int .i64 (i : Nat)) (o_mv rfl) ?_
            refine dqg rfl (v := x) (o_mv rfl) ?_
            refine dqg rfl (v := .int .i64 (b.length : Nat)) (o_lenR (hx.upd hM15.upd) rfl rfl) ?_
            refine dqg rfl (v := .bool (decide (((b.length : Nat) : Int) ≤ ((i : Nat) : Int)))) (o_bin rfl rfl rfl) ?_
            refine dqg rfl (v := .bool (decide (((b.length : Nat) : Int) ≤ ((i : Nat) : Int)))) (o_mv rfl) ?_
            refine dsplitP rfl (fun c21 => absurd c21 (by omega)) (fun c21 => ?_)
            refine dgno rfl (by simp) ?_
            refine dgno rfl (by simp) ?_
            refine dgno rfl (by simp) ?_
            refine dgnol rfl (by simp) ?_
            refine dgno rfl (by simp) ?_
            refine dqg rfl (v := .bool false) (o_pickF rfl rfl) ?_
            refine dq (v := .bool false) (o_pickF rfl rfl) ?_
            refine h14 _ _ ?_
            clear h14
            refine cndF rfl ?_
            refine h13 _ _ ?_
            clear h13
            refine stp (v := .int .i64 (i : Nat)) (o_mv rfl) ?_
            refine stp (v := .int .i64 ((i : Nat) + 1)) (o_bin rfl rfl (v_add64 (by constructor <;> omega))) ?_
            refine stp (v := .int .i64 ((i : Nat) + 1)) (o_mv rfl) ?_
            refine h9 (i + 1) _ _ ⟨rfl, rfl, by first | rfl | exact v_int (by omega) | exact v_int (by simp) | exact v_int (by simp; omega), hM15, by omega, take_succ_eq hp (by omega) (by simp; omega) (by rw [getD_app1 (by omega)]; exact u8_eq (by omega))⟩ (by (try dsimp only); omega)
        ·
          refine dgno rfl (by simp) ?_
          refine dgno rfl (by simp) ?_
          refine dgno rfl (by simp) ?_
          refine dgno rfl (by simp) ?_
          refine dgno rfl (by simp) ?_
          refine dgno rfl (by simp) ?_
          refine dqgno rfl (by simp) ?_
          refine dgnol rfl (by simp) ?_
          refine dgno rfl (by simp) ?_
          refine dq (v := .bool false) (o_pickF rfl rfl) ?_
          refine dq (v := .bool false) (o_mv rfl) ?_
          refine dsplitF rfl ?_
          refine dqg rfl (v := .int .i64 (i : Nat)) (o_mv rfl) ?_
          refine dqg rfl (v := x) (o_mv rfl) ?_
          refine dqg rfl (v := .int .i64 (b.length : Nat)) (o_lenR (hx.upd hM15.upd) rfl rfl) ?_
          refine dqg rfl (v := .bool (decide (((b.length : Nat) : Int) ≤ ((i : Nat) : Int)))) (o_bin rfl rfl rfl) ?_
          refine dqg rfl (v := .bool (decide (((b.length : Nat) : Int) ≤ ((i : Nat) : Int)))) (o_mv rfl) ?_
          refine dsplitP rfl (fun c22 => ?_) (fun c22 => (c22 (by omega)).elim)
          refine dqg rfl (v := g) (o_mv rfl) ?_
          refine dqg rfl (v := .int .i64 (i : Nat)) (o_mv rfl) ?_
          refine dgyes rfl rfl (dqp (m_idxE 0 (j := i) (hg.upd hM15.upd) rfl rfl (by omega) fun b23 o23 hp23 => ?_))
          show vd _ _ _ _ _ _ _
          refine dgyesl rfl ?_
          refine dl (ld (v := byteV (a.getD i 0)) rfl (hp23) ?_)
          refine ⟨rfl, ?_⟩
          refine dqg rfl (v := .bool (decide (¬ ((a.getD i 0).toNat : Int) = 150))) (o_bin rfl rfl v_neq) ?_
          refine dqg rfl (v := .bool (decide (¬ ((a.getD i 0).toNat : Int) = 150))) (o_pickT rfl rfl) ?_
          refine dq (v := .bool (decide (¬ ((a.getD i 0).toNat : Int) = 150))) (o_pickF rfl rfl) ?_
          refine h14 _ _ ?_
          clear h14
          refine cndP rfl (fun c24 => ?_) (fun c24 => ?_)
          ·
            refine seq fun K25 h25 => ?_
            refine stp (v := .bool false) (o_mv rfl) ?_
            refine h25 _ _ ?_
            clear h25
            refine ⟨(.bool false), rfl, ?_⟩
            exact ⟨by rw [decide_eq_false (ne_at (i := i) (q := 150) (by rw [getD_app2 (by omega), getD_rep (by omega)]) (by rw [U150]; assumption))], hM15.upd⟩
          ·
            refine h13 _ _ ?_
            clear h13
            refine stp (v := .int .i64 (i : Nat)) (o_mv rfl) ?_
            refine stp (v := .int .i64 ((i : Nat) + 1)) (o_bin rfl rfl (v_add64 (by constructor <;> omega))) ?_
            refine stp (v := .int .i64 ((i : Nat) + 1)) (o_mv rfl) ?_
            refine h9 (i + 1) _ _ ⟨rfl, rfl, by first | rfl | exact v_int (by omega) | exact v_int (by simp) | exact v_int (by simp; omega), hM15, by omega, take_succ_eq hp (by omega) (by simp; omega) (by rw [getD_app2 (by omega), getD_rep (by omega)]; exact u8_eq (by simp only [U150]; omega))⟩ (by (try dsimp only); omega)
      ·
        refine h6 _ _ ?_
        clear h6
        refine seq fun K26 h26 => ?_
        refine stp (v := .bool true) (o_mv rfl) ?_
        refine h26 _ _ ?_
        clear h26
        refine ⟨(.bool true), rfl, ?_⟩
        exact ⟨by rw [decide_eq_true]; rw [List.take_of_length_le (by omega), List.take_of_length_le (by simp; omega)] at hp; exact hp, hM8.upd⟩

/-- winnowlaw2.NumsCursor -/
theorem NumsCursor_ok (x : Value) (b : List UInt8) (y : Value) (steps : List Stp) (w : World) (hx : RdE byteV w x b) (hl : b.length ≤ 140737488351232) (hy : RdS stC w y steps) (hok : ∀ s ∈ steps, s.ok) (hsl : steps.length ≤ 1048576) : Calls Try.prog 9 [x, y].toArray w (Rt fun r w' => r = .bool true ∧ Upd [] w w') := by
  have hM0 : Mem w [] w [] := Mem.nil w []
  refine calls_vc mixed Try.func9 rfl C9 (by simp [Try.ntmps9]) ?_
  refine seq fun K1 h1 => ?_
  refine stp (v := .bool false) (o_mv rfl) ?_
  refine h1 _ _ ?_
  clear h1
  refine seq fun K2 h2 => ?_
  refine stp (v := x) (o_mv rfl) ?_
  refine m_call (spare_ok _ b w (hx.upd hM0.upd) (by first | omega | (simp; done) | (simp; omega))) rfl fun v3 w3 ⟨rs3, hs3, hm3⟩ => ?_
  have hM3 : Mem w [] w3 [rs3] := hM0.add hm3
  refine stp (v := v3) (o_mv rfl) ?_
  refine h2 _ _ ?_
  clear h2
  refine seq fun K4 h4 => ?_
  refine stp (v := v3) (o_mv rfl) ?_
  refine stp (v := x) (o_mv rfl) ?_
  refine stp (v := .int .i64 (b.length : Nat)) (o_lenR (hx.upd hM3.upd) rfl rfl) ?_
  refine m_slcO b.length (hs3) rfl (by first | omega | (simp; done) | (simp; omega)) (⟨_, rfl⟩) trivial fun u5 hu5 => ?_
  have hu5' := SlE.eqL (m := b) hu5 (by simp)
  refine m_call (NewCursor_ok _ b w3 (hu5'.rd hM3 (i := 0) rfl) (by first | omega | (simp; done) | (simp; omega))) rfl fun v6 w6 ⟨bc6, rs6, hr6, hc6, hm6⟩ => ?_
  have hM6 : Mem w [] w6 [rs3, rs6] := hM3.add hm6
  subst hr6
  refine stp (v := .pointer (some ⟨bc6, 0, none⟩)) (o_mv rfl) ?_
  refine h4 _ _ ?_
  clear h4
  refine seq fun K7 h7 => ?_
  refine seq fun K8 h8 => ?_
  refine stp (v := .pointer (some ⟨bc6, 0, none⟩)) (o_mv rfl) ?_
  refine stp (v := .bool false) (o_isnil rfl rfl) ?_
  refine stp (v := .bool false) (o_mv rfl) ?_
  refine splitF rfl ?_
  refine stg rfl (v := v3) (o_mv rfl) ?_
  refine stg rfl (v := x) (o_mv rfl) ?_
  refine gyesl rfl ?_
  refine m_call (kept_ok _ _ (b ++ List.replicate 64 (150 : UInt8)) b w6 (hs3.rd hM6 (i := 0) rfl) (hx.upd hM6.upd) (by first | omega | (simp; done) | (simp; omega)) (by first | omega | (simp; done) | (simp; omega))) rfl fun v9 w9 ⟨hr9, hu9⟩ => ?_
  have hM9 : Mem w [] w9 [rs3, rs6] := hM6.pure hu9
  obtain rfl : v9 = .bool true := hr9.trans (by simp)
  clear hr9
  refine stg rfl (v := .bool false) (o_not rfl rfl) ?_
  refine stp (v := .bool false) (o_pickF rfl rfl) ?_
  refine h8 _ _ ?_
  clear h8
  refine cndF rfl ?_
  refine h7 _ _ ?_
  clear h7
  refine seq fun K10 h10 => ?_
  refine stp (v := x) (o_mv rfl) ?_
  refine m_call (rNewCursor_ok _ b w9 (hx.upd hM9.upd) (by first | omega | (simp; done) | (simp; omega))) rfl fun v11 w11 ⟨bc11, rs11, hr11, hc11, hm11⟩ => ?_
  have hM11 : Mem w [] w11 [rs3, rs6, rs11] := hM9.add hm11
  subst hr11
  refine stp (v := .pointer (some ⟨bc11, 0, none⟩)) (o_mv rfl) ?_
  refine h10 _ _ ?_
  clear h10
  refine seq fun K12 h12 => ?_
  refine seq fun K13 h13 => ?_
  refine stp (v := .int .i64 0) (o_mv rfl) ?_
  refine h13 _ _ ?_
  clear h13
  refine lp (n := fun _ _ => False) (ι := (Nat) × (List UInt8) × (List Ent)) (fun ⟨i, G, r5_⟩ f w' => f 8 = .int .i64 (i : Nat) ∧ f 5 = v3 ∧ f 1 = y ∧ f 6 = .pointer (some ⟨bc6, 0, none⟩) ∧ f 7 = .pointer (some ⟨bc11, 0, none⟩) ∧ Mem w [] w' [r5_, rs6, rs11] ∧ (i ≤ G.length ∧ G.length ≤ 140737488351296) ∧ (SlE byteV 5 v3 (G) r5_)) (fun ⟨i, G, r5_⟩ => G.length - i) (0, (b ++ List.replicate 64 (150 : UInt8)), rs3) ?_ ?_
  · exact ⟨by first | rfl | exact v_int (by omega) | exact v_int (by simp) | exact v_int (by simp; omega), rfl, rfl, rfl, rfl, hM11, by simp; omega, by first | exact hs3 | simpa using hs3⟩
  · rintro ⟨i, G, r5_⟩ f w14 ⟨e14_8, e14_5, e14_1, e14_6, e14_7, hM14, hi, hy5_⟩ K15 h15
    obtain ⟨frm, rfl⟩ : ∃ frm, f = (upd (upd (upd (upd (upd frm 8 (.int .i64 (i : Nat))) 5 (v3)) 1 (y)) 6 (.pointer (some ⟨bc6, 0, none⟩))) 7 (.pointer (some ⟨bc11, 0, none⟩))) := ⟨f, by rw [upd_self e14_8, upd_self e14_5, upd_self e14_1, upd_self e14_6, upd_self e14_7]⟩
    clear e14_8 e14_5 e14_1 e14_6 e14_7
    refine seq fun K16 h16 => ?_
    refine seq fun K17 h17 => ?_
    refine stp (v := .int .i64 (i : Nat)) (o_mv rfl) ?_
    refine stp (v := v3) (o_mv rfl) ?_
    refine stp (v := .int .i64 (G.length : Nat)) (o_lenR (hy5_.rd hM14 (i := 0) rfl) rfl rfl) ?_
    refine stp (v := .bool (decide (((i : Nat) : Int) < (G.length : Nat)))) (o_bin rfl rfl rfl) ?_
    refine h17 _ _ ?_
    clear h17
    refine cndP rfl (fun c18 => ?_) (fun c18 => ?_)
    ·
      refine h16 _ _ ?_
      clear h16
      refine seq fun K19 h19 => ?_
      refine stp (v := v3) (o_mv rfl) ?_
      refine stp (v := .int .i64 (i : Nat)) (o_mv rfl) ?_
      refine m_set (E := byteV) (q := 255) (j := i) hM14 (i := 0) rfl hy5_ rfl rfl (by omega) (by simp) (rfl) fun w20 r20 u20 he20 hs20 (hM20 : Mem w [] w20 [r20, rs6, rs11]) => ?_
      refine h19 _ _ ?_
      clear h19
      refine stp (v := .int .i64 (i : Nat)) (o_mv rfl) ?_
      refine stp (v := .int .i64 ((i : Nat) + 1)) (o_bin rfl rfl (v_add64 (by constructor <;> omega))) ?_
      refine stp (v := .int .i64 ((i : Nat) + 1)) (o_mv rfl) ?_
      refine h15 (i + 1, (G.set i 255), r20) _ _ ⟨by first | rfl | exact v_int (by omega) | exact v_int (by simp) | exact v_int (by simp; omega), rfl, rfl, rfl, rfl, hM20, by rw [List.length_set]; omega, by first | exact hs20 | simpa using hs20⟩ (by (try dsimp only); rw [List.length_set]; omega)
    ·
      refine h12 _ _ ?_
      clear h12
      refine seq fun K21 h21 => ?_
      refine stp (v := .pointer none) (o_mv rfl) ?_
      refine h21 _ _ ?_
      clear h21
      refine seq fun K22 h22 => ?_
      refine stp (v := .pointer none) (o_mv rfl) ?_
      refine h22 _ _ ?_
      clear h22
      refine seq fun K23 h23 => ?_
      refine stp (v := .agg ([.slice none 0 0, .int .i64 0, .int .i64 0] : List Value).toArray) (o_bld rfl rfl) ?_
      refine m_bx (v := .agg ([.slice none 0 0, .int .i64 0, .int .i64 0] : List Value).toArray) hM14 rfl rfl fun b24 w25 (hM25 : Mem w [] w25 [r5_, rs6, rs11, [⟨b24, 46, [.slice none 0 0, .int .i64 0, .int .i64 0]⟩]]) => ?_
      refine stp (v := .pointer (some ⟨b24, 0, none⟩)) (o_mv rfl) ?_
      refine h23 _ _ ?_
      clear h23
      refine seq fun K26 h26 => ?_
      have hM27 : Mem w [] w25 [r5_, rs6, rs11, [⟨b24, 46, [.slice none 0 0, .int .i64 ((0 : Nat) : Int), .int .i64 0]⟩]] := hM25
      have hZ := CurS.zero b24
      refine stp (v := .agg ([.slice none 0 0, .int .i64 0, .bool false, .int .i64 0, .int .i64 0] : List Value).toArray) (o_bld rfl rfl) ?_
      refine m_bx (v := .agg ([.slice none 0 0, .int .i64 0, .bool false, .int .i64 0, .int .i64 0] : List Value).toArray) hM27 rfl rfl fun b28 w29 (hM29 : Mem w [] w29 [r5_, rs6, rs11, [⟨b24, 46, [.slice none 0 0, .int .i64 ((0 : Nat) : Int), .int .i64 0]⟩], [⟨b28, 50, [.slice none 0 0, .int .i64 0, .bool false, .int .i64 0, .int .i64 0]⟩]]) => ?_
      refine stp (v := .pointer (some ⟨b28, 0, none⟩)) (o_mv rfl) ?_
      refine h26 _ _ ?_
      clear h26
      refine seq fun K30 h30 => ?_
      refine seq fun K31 h31 => ?_
      have hM32 : Mem w [] w29 [r5_, rs6, rs11, [⟨b24, 46, [.slice none 0 0, .int .i64 ((0 : Nat) : Int), .int .i64 0]⟩], [⟨b28, 50, [.slice none 0 0, .int .i64 ((0 : Nat) : Int), .bool false, .int .i64 0, .int .i64 0]⟩]] := hM29
      have hO : RcS b28 [] 0 0 [⟨b28, 50, [.slice none 0 0, .int .i64 ((0 : Nat) : Int), .bool false, .int .i64 0, .int .i64 0]⟩] := RcS.zero (Sl.nil 1 5) (Nat.le_refl _)
      refine stp (v := .pointer (some ⟨bc6, 0, none⟩)) (o_mv rfl) ?_
      refine m_call (Rest_ok _ b 0 0 rs6 w29 hc6 (hM32.res (i := 1) rfl) (by first | omega | (simp; done) | (simp; omega))) rfl fun v33 w33 ⟨hr33, hm33⟩ => ?_
      have hM33 : Mem w [] w33 [r5_, rs6, rs11, [⟨b24, 46, [.slice none 0 0, .int .i64 ((0 : Nat) : Int), .int .i64 0]⟩], [⟨b28, 50, [.slice none 0 0, .int .i64 ((0 : Nat) : Int), .bool false, .int .i64 0, .int .i64 0]⟩]] := hM32.step 1 rfl hm33
      subst hr33
      refine stp (v := .pointer (some ⟨bc11, 0, none⟩)) (o_mv rfl) ?_
      refine m_call (rRest_ok _ b 0 0 rs11 w33 hc11 (hM33.res (i := 2) rfl) (by first | omega | (simp; done) | (simp; omega))) rfl fun v34 w34 ⟨hr34, hm34⟩ => ?_
      have hM34 : Mem w [] w34 [r5_, rs6, rs11, [⟨b24, 46, [.slice none 0 0, .int .i64 ((0 : Nat) : Int), .int .i64 0]⟩], [⟨b28, 50, [.slice none 0 0, .int .i64 ((0 : Nat) : Int), .bool false, .int .i64 0, .int .i64 0]⟩]] := hM33.step 2 rfl hm34
      subst hr34
      refine stp (v := .bool false) (o_bin rfl rfl v_neF) ?_
      refine stp (v := .bool false) (o_mv rfl) ?_
      refine splitF rfl ?_
      refine stg rfl (v := .pointer (some ⟨bc6, 0, none⟩)) (o_mv rfl) ?_
      refine gyesl rfl ?_
      refine m_call (End_ok _ b 0 0 rs6 w34 hc6 (hM34.res (i := 1) rfl)) rfl fun v35 w35 ⟨hr35, hm35⟩ => ?_
      have hM35 : Mem w [] w35 [r5_, rs6, rs11, [⟨b24, 46, [.slice none 0 0, .int .i64 ((0 : Nat) : Int), .int .i64 0]⟩], [⟨b28, 50, [.slice none 0 0, .int .i64 ((0 : Nat) : Int), .bool false, .int .i64 0, .int .i64 0]⟩]] := hM34.step 1 rfl hm35
      subst hr35
      refine stg rfl (v := .pointer (some ⟨bc11, 0, none⟩)) (o_mv rfl) ?_
      refine gyesl rfl ?_
      refine m_call (rEnd_ok _ b 0 0 rs11 w35 hc11 (hM35.res (i := 2) rfl) (by first | omega | (simp; done) | (simp; omega))) rfl fun v36 w36 ⟨hr36, hm36⟩ => ?_
      have hM36 : Mem w [] w36 [r5_, rs6, rs11, [⟨b24, 46, [.slice none 0 0, .int .i64 ((0 : Nat) : Int), .int .i64 0]⟩], [⟨b28, 50, [.slice none 0 0, .int .i64 ((0 : Nat) : Int), .bool false, .int .i64 0, .int .i64 0]⟩]] := hM35.step 2 rfl hm36
      subst hr36
      refine stg rfl (v := .bool (!(decide ((endE b 0 0) = (endE b 0 0)) && (decide ((endA b 0 0 : Nat) = (endA b 0 0 : Nat)) && true)))) (o_aeq (t := (decide ((endE b 0 0) = (endE b 0 0)) && (decide ((endA b 0 0 : Nat) = (endA b 0 0 : Nat)) && true))) rfl rfl (by simp [eqCs, eqC, toList_str, Int.natCast_inj]) rfl) ?_
      refine stp (v := .bool (!(decide ((endE b 0 0) = (endE b 0 0)) && (decide ((endA b 0 0 : Nat) = (endA b 0 0 : Nat)) && true)))) (o_pickF rfl rfl) ?_
      refine stp (v := .bool (!(decide ((endE b 0 0) = (endE b 0 0)) && (decide ((endA b 0 0 : Nat) = (endA b 0 0 : Nat)) && true)))) (o_mv rfl) ?_
      refine split rfl (fun c37 => absurd c37 (show ¬ (!(decide ((endE b 0 0) = (endE b 0 0)) && (decide ((endA b 0 0 : Nat) = (endA b 0 0 : Nat)) && true))) = true from (by simp))) (fun c37 => ?_)
      refine stg rfl (v := .pointer none) (o_mv rfl) ?_
      refine gyesl rfl ?_
      refine m_call (End_nil w36) rfl fun v38 w38 ⟨hr38, hu38⟩ => ?_
      have hM38 : Mem w [] w38 [r5_, rs6, rs11, [⟨b24, 46, [.slice none 0 0, .int .i64 ((0 : Nat) : Int), .int .i64 0]⟩], [⟨b28, 50, [.slice none 0 0, .int .i64 ((0 : Nat) : Int), .bool false, .int .i64 0, .int .i64 0]⟩]] := hM36.pure hu38
      subst hr38
      refine stg rfl (v := .pointer none) (o_mv rfl) ?_
      refine gyesl rfl ?_
      refine m_call (rEnd_nil w38) rfl fun v39 w39 ⟨hr39, hu39⟩ => ?_
      have hM39 : Mem w [] w39 [r5_, rs6, rs11, [⟨b24, 46, [.slice none 0 0, .int .i64 ((0 : Nat) : Int), .int .i64 0]⟩], [⟨b28, 50, [.slice none 0 0, .int .i64 ((0 : Nat) : Int), .bool false, .int .i64 0, .int .i64 0]⟩]] := hM38.pure hu39
      subst hr39
      refine stg rfl (v := .bool (!(decide (1 = 1) && (decide (0 = 0) && true)))) (o_aeq (t := (decide (1 = 1) && (decide (0 = 0) && true))) rfl rfl (by simp [eqCs, eqC, toList_str, Int.natCast_inj]) rfl) ?_
      refine stp (v := .bool (!(decide (1 = 1) && (decide (0 = 0) && true)))) (o_pickF rfl rfl) ?_
      refine stp (v := .bool (!(decide (1 = 1) && (decide (0 = 0) && true)))) (o_mv rfl) ?_
      refine split rfl (fun c40 => absurd c40 (show ¬ (!(decide (1 = 1) && (decide (0 = 0) && true))) = true from (by simp))) (fun c40 => ?_)
      refine stg rfl (v := .pointer (some ⟨b24, 0, none⟩)) (o_mv rfl) ?_
      refine gyesl rfl ?_
      refine m_call (End_ok _ ([]) 0 0 ([⟨b24, 46, [.slice none 0 0, .int .i64 ((0 : Nat) : Int), .int .i64 0]⟩]) w39 hZ (hM39.res (i := 3) rfl)) rfl fun v41 w41 ⟨hr41, hm41⟩ => ?_
      have hM41 : Mem w [] w41 [r5_, rs6, rs11, [⟨b24, 46, [.slice none 0 0, .int .i64 ((0 : Nat) : Int), .int .i64 0]⟩], [⟨b28, 50, [.slice none 0 0, .int .i64 ((0 : Nat) : Int), .bool false, .int .i64 0, .int .i64 0]⟩]] := hM39.step 3 rfl hm41
      subst hr41
      refine stg rfl (v := .pointer (some ⟨b28, 0, none⟩)) (o_mv rfl) ?_
      refine gyesl rfl ?_
      refine m_call (rEnd_ok _ ([]) 0 0 ([⟨b28, 50, [.slice none 0 0, .int .i64 ((0 : Nat) : Int), .bool false, .int .i64 0, .int .i64 0]⟩]) w41 hO (hM41.res (i := 4) rfl) (by first | omega | (simp; done) | (simp; omega))) rfl fun v42 w42 ⟨hr42, hm42⟩ => ?_
      have hM42 : Mem w [] w42 [r5_, rs6, rs11, [⟨b24, 46, [.slice none 0 0, .int .i64 ((0 : Nat) : Int), .int .i64 0]⟩], [⟨b28, 50, [.slice none 0 0, .int .i64 ((0 : Nat) : Int), .bool false, .int .i64 0, .int .i64 0]⟩]] := hM41.step 4 rfl hm42
      subst hr42
      refine stg rfl (v := .bool (!(decide ((endE ([]) 0 0) = (endE ([]) 0 0)) && (decide ((endA ([]) 0 0 : Nat) = (endA ([]) 0 0 : Nat)) && true)))) (o_aeq (t := (decide ((endE ([]) 0 0) = (endE ([]) 0 0)) && (decide ((endA ([]) 0 0 : Nat) = (endA ([]) 0 0 : Nat)) && true))) rfl rfl (by simp [eqCs, eqC, toList_str, Int.natCast_inj]) rfl) ?_
      refine stp (v := .bool (!(decide ((endE ([]) 0 0) = (endE ([]) 0 0)) && (decide ((endA ([]) 0 0 : Nat) = (endA ([]) 0 0 : Nat)) && true)))) (o_pickF rfl rfl) ?_
      refine h31 _ _ ?_
      clear h31
      refine cnd rfl (fun c43 => absurd c43 (show ¬ (!(decide ((endE ([]) 0 0) = (endE ([]) 0 0)) && (decide ((endA ([]) 0 0 : Nat) = (endA ([]) 0 0 : Nat)) && true))) = true from (by simp))) (fun c43 => ?_)
      refine h30 _ _ ?_
      clear h30
      refine seq fun K44 h44 => ?_
      refine stp (v := .agg ([.slice none 0 0, .slice none 0 0, .slice none 0 0] : List Value).toArray) (o_bld rfl rfl) ?_
      refine m_bx (v := .agg ([.slice none 0 0, .slice none 0 0, .slice none 0 0] : List Value).toArray) hM42 rfl rfl fun b45 w46 (hM46 : Mem w [] w46 [r5_, rs6, rs11, [⟨b24, 46, [.slice none 0 0, .int .i64 ((0 : Nat) : Int), .int .i64 0]⟩], [⟨b28, 50, [.slice none 0 0, .int .i64 ((0 : Nat) : Int), .bool false, .int .i64 0, .int .i64 0]⟩], [⟨b45, 56, [.slice none 0 0, .slice none 0 0, .slice none 0 0]⟩]]) => ?_
      refine stp (v := .pointer (some ⟨b45, 0, none⟩)) (o_mv rfl) ?_
      refine h44 _ _ ?_
      clear h44
      refine seq fun K47 h47 => ?_
      refine seq fun K48 h48 => ?_
      have hM49 : Mem w [] w46 [(rs6 ++ rs11), ([⟨b24, 46, [.slice none 0 0, .int .i64 ((0 : Nat) : Int), .int .i64 0]⟩] ++ [⟨b28, 50, [.slice none 0 0, .int .i64 ((0 : Nat) : Int), .bool false, .int .i64 0, .int .i64 0]⟩]), [⟨b45, 56, [.slice none 0 0, .slice none 0 0, .slice none 0 0]⟩]] := hM46.keep (by simp)
      have hT : TkS b45 [] [⟨b45, 56, [.slice none 0 0, .slice none 0 0, .slice none 0 0]⟩] := ⟨_, _, _, [], [], [], [], rfl, Sl.nil 1 22, Sl.nil 1 22, Sl.nil 1 22, trivial⟩
      refine stp (v := .int .i64 0) (o_mv rfl) ?_
      refine h48 _ _ ?_
      clear h48
      refine lp (n := fun _ _ => False) (ι := (Nat) × (List Tn) × (Nat) × (Int) × (Nat) × (Int) × (List Ent) × (List Ent) × (List Ent) × (List Ent) × (List Ent)) (fun ⟨i, ts, aC, eC, aZ, eZ, rT, rC, rR, rZ, rN⟩ f w' => f 14 = .int .i64 (i : Nat) ∧ f 13 = .pointer (some ⟨b45, 0, none⟩) ∧ f 6 = .pointer (some ⟨bc6, 0, none⟩) ∧ f 7 = .pointer (some ⟨bc11, 0, none⟩) ∧ f 11 = .pointer (some ⟨b24, 0, none⟩) ∧ f 12 = .pointer (some ⟨b28, 0, none⟩) ∧ f 1 = y ∧ f 9 = .pointer none ∧ f 10 = .pointer none ∧ Mem w [] w' [(rC ++ rR), (rZ ++ rN), rT] ∧ (TkS b45 ts rT) ∧ (CurS bc6 b aC eC rC) ∧ (RcS bc11 b aC eC rR) ∧ (CurS b24 [] aZ eZ rZ) ∧ (RcS b28 [] aZ eZ rN) ∧ (Tg odd ts) ∧ (i ≤ steps.length) ∧ (ts.length ≤ 3 * i)) (fun ⟨i, ts, aC, eC, aZ, eZ, rT, rC, rR, rZ, rN⟩ => steps.length - i) (0, [], 0, 0, 0, 0, [⟨b45, 56, [.slice none 0 0, .slice none 0 0, .slice none 0 0]⟩], rs6, rs11, [⟨b24, 46, [.slice none 0 0, .int .i64 ((0 : Nat) : Int), .int .i64 0]⟩], [⟨b28, 50, [.slice none 0 0, .int .i64 ((0 : Nat) : Int), .bool false, .int .i64 0, .int .i64 0]⟩]) ?_ ?_
      · exact ⟨by first | rfl | exact v_int (by omega) | exact v_int (by simp) | exact v_int (by simp; omega), rfl, rfl, rfl, rfl, rfl, rfl, rfl, rfl, hM49, hT, hc6, hc11, hZ, hO, (fun n hn => absurd hn (Nat.not_lt_zero n)), by omega, by simp⟩
      · rintro ⟨i, ts, aC, eC, aZ, eZ, rT, rC, rR, rZ, rN⟩ f w50 ⟨e50_14, e50_13, e50_6, e50_7, e50_11, e50_12, e50_1, e50_9, e50_10, hM50, hT, hC, hR, hZ, hO, hg, hi, htl⟩ K51 h51
        obtain ⟨frm, rfl⟩ : ∃ frm, f = (upd (upd (upd (upd (upd (upd (upd (upd (upd frm 14 (.int .i64 (i : Nat))) 13 (.pointer (some ⟨b45, 0, none⟩))) 6 (.pointer (some ⟨bc6, 0, none⟩))) 7 (.pointer (some ⟨bc11, 0, none⟩))) 11 (.pointer (some ⟨b24, 0, none⟩))) 12 (.pointer (some ⟨b28, 0, none⟩))) 1 (y)) 9 (.pointer none)) 10 (.pointer none)) := ⟨f, by rw [upd_self e50_14, upd_self e50_13, upd_self e50_6, upd_self e50_7, upd_self e50_11, upd_self e50_12, upd_self e50_1, upd_self e50_9, upd_self e50_10]⟩
        clear e50_14 e50_13 e50_6 e50_7 e50_11 e50_12 e50_1 e50_9 e50_10
        refine seq fun K52 h52 => ?_
        refine seq fun K53 h53 => ?_
        refine stp (v := .int .i64 (i : Nat)) (o_mv rfl) ?_
        refine stp (v := y) (o_mv rfl) ?_
        refine stp (v := .int .i64 (steps.length : Nat)) (o_lenR (hy.upd hM50.upd) rfl rfl) ?_
        refine stp (v := .bool (decide (((i : Nat) : Int) < (steps.length : Nat)))) (o_bin rfl rfl rfl) ?_
        refine h53 _ _ ?_
        clear h53
        refine cndP rfl (fun c54 => ?_) (fun c54 => ?_)
        ·
          refine h52 _ _ ?_
          clear h52
          refine seq fun K55 h55 => ?_
          refine seq fun K56 h56 => ?_
          refine stp (v := .pointer (some ⟨b45, 0, none⟩)) (o_mv rfl) ?_
          refine stp (v := .pointer (some ⟨bc6, 0, none⟩)) (o_mv rfl) ?_
          refine stp (v := .pointer (some ⟨bc11, 0, none⟩)) (o_mv rfl) ?_
          refine stp (v := y) (o_mv rfl) ?_
          refine stp (v := .int .i64 (i : Nat)) (o_mv rfl) ?_
          refine m_idxS sz0 (j := i) (hy.upd hM50.upd) rfl rfl (by omega) fun b57 o57 hp57 => ?_
          refine ldA (cs := [.int .i64 ((steps.getD i sz0).op), .int .i64 ((steps.getD i sz0).n)]) rfl rfl (hp57.row (k := 0) rfl rfl) ?_
          refine m_call (told_ok _ _ _ b aC eC ((steps.getD i sz0).op) ((steps.getD i sz0).n) ts rT rC rR w50 hT hg (by omega) hC hR (by first | omega | (simp; done)) (hok _ (getD_memG sz0 (l := steps) (i := i) (by omega))).1 (hok _ (getD_memG sz0 (l := steps) (i := i) (by omega))).2 (Mem.res2 hM50 2 0 rfl rfl (by decide))) rfl fun v58 w58 ⟨hr58, ts58_, a58_, e58_, rT58, rC58, rR58, hT58, hg58, hl58, hC58, hR58, hm58⟩ => ?_
          have hM58 : Mem w [] w58 [(rC58 ++ rR58), (rZ ++ rN), rT58] := Mem.step2 hM50 2 0 rfl rfl (by decide) (hm58.keep (by simp) : Mem _ _ _ [rT58, rC58 ++ rR58])
          subst hr58
          refine stp (v := .bool true) (o_mv rfl) ?_
          refine h56 _ _ ?_
          clear h56
          refine seq fun K59 h59 => ?_
          refine stp (v := .pointer (some ⟨b45, 0, none⟩)) (o_mv rfl) ?_
          refine stp (v := .pointer none) (o_mv rfl) ?_
          refine stp (v := .pointer none) (o_mv rfl) ?_
          refine stp (v := y) (o_mv rfl) ?_
          refine stp (v := .int .i64 (i : Nat)) (o_mv rfl) ?_
          refine m_idxS sz0 (j := i) (hy.upd hM58.upd) rfl rfl (by omega) fun b60 o60 hp60 => ?_
          refine ldA (cs := [.int .i64 ((steps.getD i sz0).op), .int .i64 ((steps.getD i sz0).n)]) rfl rfl (hp60.row (k := 0) rfl rfl) ?_
          refine m_call (told_nil _ ((steps.getD i sz0).op) ((steps.getD i sz0).n) ts58_ rT58 w58 hT58 hg58 (by omega) (hok _ (getD_memG sz0 (l := steps) (i := i) (by omega))).1 (hok _ (getD_memG sz0 (l := steps) (i := i) (by omega))).2 (hM58.res (i := 2) rfl)) rfl fun v61 w61 ⟨hr61, ts61_, rT61, hT61, hg61, hl61, hm61⟩ => ?_
          have hM61 : Mem w [] w61 [(rC58 ++ rR58), (rZ ++ rN), rT61] := hM58.step 2 rfl hm61
          subst hr61
          refine stp (v := .bool true) (o_mv rfl) ?_
          refine h59 _ _ ?_
          clear h59
          refine seq fun K62 h62 => ?_
          refine stp (v := .pointer (some ⟨b45, 0, none⟩)) (o_mv rfl) ?_
          refine stp (v := .pointer (some ⟨b24, 0, none⟩)) (o_mv rfl) ?_
          refine stp (v := .pointer (some ⟨b28, 0, none⟩)) (o_mv rfl) ?_
          refine stp (v := y) (o_mv rfl) ?_
          refine stp (v := .int .i64 (i : Nat)) (o_mv rfl) ?_
          refine m_idxS sz0 (j := i) (hy.upd hM61.upd) rfl rfl (by omega) fun b63 o63 hp63 => ?_
          refine ldA (cs := [.int .i64 ((steps.getD i sz0).op), .int .i64 ((steps.getD i sz0).n)]) rfl rfl (hp63.row (k := 0) rfl rfl) ?_
          refine m_call (told_ok _ _ _ ([]) aZ eZ ((steps.getD i sz0).op) ((steps.getD i sz0).n) ts61_ rT61 rZ rN w61 hT61 hg61 (by omega) hZ hO (by first | omega | (simp; done)) (hok _ (getD_memG sz0 (l := steps) (i := i) (by omega))).1 (hok _ (getD_memG sz0 (l := steps) (i := i) (by omega))).2 (Mem.res2 hM61 2 1 rfl rfl (by decide))) rfl fun v64 w64 ⟨hr64, ts64_, a64_, e64_, rT64, rC64, rR64, hT64, hg64, hl64, hC64, hR64, hm64⟩ => ?_
          have hM64 : Mem w [] w64 [(rC58 ++ rR58), (rC64 ++ rR64), rT64] := Mem.step2 hM61 2 1 rfl rfl (by decide) (hm64.keep (by simp) : Mem _ _ _ [rT64, rC64 ++ rR64])
          subst hr64
          refine stp (v := .bool true) (o_mv rfl) ?_
          refine h62 _ _ ?_
          clear h62
          refine seq fun K65 h65 => ?_
          refine stp (v := .bool true) (o_mv rfl) ?_
          refine stp (v := .bool false) (o_not rfl rfl) ?_
          refine stp (v := .bool false) (o_mv rfl) ?_
          refine splitF rfl ?_
          refine stg rfl (v := .bool true) (o_mv rfl) ?_
          refine stg rfl (v := .bool false) (o_not rfl rfl) ?_
          refine stp (v := .bool false) (o_pickF rfl rfl) ?_
          refine stp (v := .bool false) (o_mv rfl) ?_
          refine splitF rfl ?_
          refine stg rfl (v := .bool true) (o_mv rfl) ?_
          refine stg rfl (v := .bool false) (o_not rfl rfl) ?_
          refine stp (v := .bool false) (o_pickF rfl rfl) ?_
          refine stp (v := .bool false) (o_mv rfl) ?_
          refine splitF rfl ?_
          refine stg rfl (v := .pointer (some ⟨b45, 0, none⟩)) (o_mv rfl) ?_
          refine gyesl rfl ?_
          refine m_call (standsS _ ts64_ rT64 w64 hT64 (hM64.res (i := 2) rfl) (by omega) hg64) rfl fun v66 w66 ⟨hr66, hm66⟩ => ?_
          have hM66 : Mem w [] w66 [(rC58 ++ rR58), (rC64 ++ rR64), rT64] := hM64.step 2 rfl hm66
          subst hr66
          refine stg rfl (v := .bool false) (o_not rfl rfl) ?_
          refine stp (v := .bool false) (o_pickF rfl rfl) ?_
          refine h65 _ _ ?_
          clear h65
          refine cndF rfl ?_
          refine h55 _ _ ?_
          clear h55
          refine stp (v := .int .i64 (i : Nat)) (o_mv rfl) ?_
          refine stp (v := .int .i64 ((i : Nat) + 1)) (o_bin rfl rfl (v_add64 (by constructor <;> omega))) ?_
          refine stp (v := .int .i64 ((i : Nat) + 1)) (o_mv rfl) ?_
          refine h51 (i + 1, ts64_, a58_, e58_, a64_, e64_, rT64, rC58, rR58, rC64, rR64) _ _ ⟨by first | rfl | exact v_int (by omega) | exact v_int (by simp) | exact v_int (by simp; omega), rfl, rfl, rfl, rfl, rfl, rfl, rfl, rfl, hM66, hT64, hC58, hR58, hC64, hR64, hg64, by omega, by omega⟩ (by (try dsimp only); omega)
        ·
          refine h47 _ _ ?_
          clear h47
          refine seq fun K67 h67 => ?_
          refine stp (v := .pointer (some ⟨b45, 0, none⟩)) (o_mv rfl) ?_
          refine m_call (endsS _ ts rT w50 hT (hM50.res (i := 2) rfl) (by omega) hg) rfl fun v68 w68 ⟨hr68, hm68⟩ => ?_
          have hM68 : Mem w [] w68 [(rC ++ rR), (rZ ++ rN), []] := hM50.step 2 (r' := []) rfl (hm68.keep (by simp))
          subst hr68
          refine stp (v := .bool true) (o_mv rfl) ?_
          refine h67 _ _ ?_
          clear h67
          refine ⟨(.bool true), rfl, ?_⟩
          exact ⟨rfl, hM68.upd⟩
