/- Costs. The walks of the code, and what is computed. -/
import Derived.Test.YtojnkjnebejodaaE14
import Derived.Test.YtojnkjnebejodaaM
namespace Go.Proofs.Ytojnkjnebejodaa.E
open Go

def inB (lo hi : Int) (l : List Int) : Bool := l.all fun x => decide (lo ≤ x) && decide (x ≤ hi)
theorem inB_iff {lo hi : Int} {l : List Int} : inB lo hi l = true ↔ ∀ i, i < l.length → lo ≤ l.getD i 0 ∧ l.getD i 0 ≤ hi := by
  unfold inB
  rw [List.all_eq_true]
  constructor
  · intro h i hi'
    have := h (l.getD i 0) (by rw [List.getD_eq_getElem?_getD, List.getElem?_eq_getElem hi']; exact List.getElem_mem hi')
    simpa using this
  · intro h x hx
    obtain ⟨i, hi', rfl⟩ := List.getElem_of_mem hx
    have := h i hi'
    rw [List.getD_eq_getElem?_getD, List.getElem?_eq_getElem hi'] at this
    simpa using this
theorem inB_no {lo hi : Int} {l : List Int} {i : Nat} (h : i < l.length) (h2 : l.getD i 0 < lo ∨ hi < l.getD i 0) : inB lo hi l = false := by
  cases hb : inB lo hi l
  · rfl
  · have := inB_iff.1 hb i h; omega
def errIf (b : Bool) (e : Int) : Int := if b then 0 else e
def dot : List Int → List Int → Int
  | x :: xs, y :: ys => x * y + dot xs ys
  | _, _ => 0
theorem dot_take (i : Nat) : ∀ (xs ys : List Int), i < xs.length → i < ys.length → dot (xs.take (i + 1)) (ys.take (i + 1)) = dot (xs.take i) (ys.take i) + xs.getD i 0 * ys.getD i 0 := by
  induction i with
  | zero =>
    intro xs ys hx hy
    match xs, ys with
    | x :: xs, y :: ys => simp [dot]
  | succ i ih =>
    intro xs ys hx hy
    match xs, ys with
    | x :: xs, y :: ys =>
      simp only [List.length_cons] at hx hy
      have := ih xs ys (by omega) (by omega)
      simp only [List.take_succ_cons, dot] at this ⊢
      rw [this]
      simp
      omega
theorem dot_end (i : Nat) : ∀ (xs ys : List Int), min xs.length ys.length ≤ i → dot (xs.take i) (ys.take i) = dot xs ys := by
  induction i with
  | zero =>
    intro xs ys h
    match xs, ys with
    | [], _ => simp [dot]
    | _ :: _, [] => simp [dot]
    | _ :: _, _ :: _ => simp at h
  | succ i ih =>
    intro xs ys h
    match xs, ys with
    | [], _ => simp [dot]
    | _ :: _, [] => simp [dot]
    | x :: xs, y :: ys =>
      simp only [List.take_succ_cons, dot]
      rw [ih xs ys (by simp at h; omega)]
def cost (cs ls : List Int) : Int × Int := if 256 < cs.length ∨ 256 < ls.length then (0, 2) else if inB 0 1099511627776 cs && inB 0 15 ls then (dot cs ls, 0) else (0, 3)
theorem cost_long {cs ls : List Int} (h : 256 < cs.length ∨ 256 < ls.length) : cost cs ls = (0, 2) := by unfold cost; rw [if_pos h]
theorem cost_bad {cs ls : List Int} (h : ¬ (256 < cs.length ∨ 256 < ls.length)) (h2 : inB 0 1099511627776 cs = false ∨ inB 0 15 ls = false) : cost cs ls = (0, 3) := by
  unfold cost; rw [if_neg h, if_neg]; rcases h2 with h2 | h2 <;> simp [h2]
theorem cost_ok {cs ls : List Int} (h : ¬ (256 < cs.length ∨ 256 < ls.length)) (h1 : inB 0 1099511627776 cs = true) (h2 : inB 0 15 ls = true) : cost cs ls = (dot cs ls, 0) := by
  unfold cost; rw [if_neg h, if_pos (by simp [h1, h2])]
abbrev tup2 (t : Int × Int) : Value := .tuple [.int .i64 t.1, .int .i64 t.2].toArray
theorem mul_bd {c l : Int} (h1 : 0 ≤ c ∧ c ≤ 1099511627776) (h2 : 0 ≤ l ∧ l ≤ 15) : 0 ≤ c * l ∧ c * l ≤ 16492674416640 :=
  ⟨Int.mul_nonneg h1.1 h2.1, by
    have := Int.mul_le_mul h1.2 h2.2 h2.1 (by omega)
    omega⟩

theorem all_succ {l : List Int} {i : Nat} {lo hi : Int} (hp : ∀ j, j < i → lo ≤ l.getD j 0 ∧ l.getD j 0 ≤ hi) (h : lo ≤ l.getD i 0 ∧ l.getD i 0 ≤ hi) : ∀ j, j < i + 1 → lo ≤ l.getD j 0 ∧ l.getD j 0 ≤ hi := by
  intro j hj
  rcases Nat.lt_or_eq_of_le (Nat.le_of_lt_succ hj) with h' | h'
  · exact hp j h'
  · subst h'; exact h

/-- huff.wrong -/
theorem wrong_ok (x : Value) (l : List Int) (w : World) (hx : RdE i64V w x l) (hl : l.length ≤ 1152921504606846976) : Calls Try.prog 39 [x].toArray w (Rt fun r w' => r = .int .i64 (errIf (inB 0 1099511627776 l) 3) ∧ Upd [] w w') := by
  have hM0 : Mem w [] w [] := Mem.nil w []
  refine calls_vc mixed Try.func39 rfl C39 (by simp [Try.ntmps39]) ?_
  refine seq fun K1 h1 => ?_
  refine stp (v := .int .i64 0) (o_mv rfl) ?_
  refine h1 _ _ ?_
  clear h1
  refine seq fun K2 h2 => ?_
  refine seq fun K3 h3 => ?_
  refine stp (v := x) (o_mv rfl) ?_
  refine stp (v := .int .i64 (l.length : Nat)) (o_lenR (hx.upd hM0.upd) rfl rfl) ?_
  refine stp (v := .int .i64 0) (o_mv rfl) ?_
  refine h3 _ _ ?_
  clear h3
  refine lp (n := fun _ _ => False) (ι := (Nat)) (fun i f w' => f 0 = x ∧ f 5 = x ∧ f 6 = .int .i64 (l.length : Nat) ∧ f 7 = .int .i64 (i : Nat) ∧ Mem w [] w' [] ∧ (i ≤ l.length) ∧ (∀ j, j < i → 0 ≤ l.getD j 0 ∧ l.getD j 0 ≤ 1099511627776)) (fun i => l.length - i) (0) ?_ ?_
  · exact ⟨rfl, rfl, by first | rfl | exact v_int (by omega) | exact v_int (by simp) | exact v_int (by simp; omega), by first | rfl | exact v_int (by omega) | exact v_int (by simp) | exact v_int (by simp; omega), hM0, by omega, by omega⟩
  · rintro i f w4 ⟨e4_0, e4_5, e4_6, e4_7, hM4, hi, hp⟩ K5 h5
    obtain ⟨frm, rfl⟩ : ∃ frm, f = (upd (upd (upd (upd frm 0 (x)) 5 (x)) 6 (.int .i64 (l.length : Nat))) 7 (.int .i64 (i : Nat))) := ⟨f, by rw [upd_self e4_0, upd_self e4_5, upd_self e4_6, upd_self e4_7]⟩
    clear e4_0 e4_5 e4_6 e4_7
    refine seq fun K6 h6 => ?_
    refine stp (v := .bool (decide (((i : Nat) : Int) < (l.length : Nat)))) (o_bin rfl rfl rfl) ?_
    refine h6 _ _ ?_
    clear h6
    refine seq fun K7 h7 => ?_
    refine cndP rfl (fun c8 => ?_) (fun c8 => ?_)
    ·
      refine h7 _ _ ?_
      clear h7
      refine seq fun K9 h9 => ?_
      refine seq fun K10 h10 => ?_
      refine m_idxE 0 (j := i) (hx.upd hM4.upd) rfl rfl (by omega) fun b11 o11 hp11 => ?_
      refine ld (v := .int .i64 (l.getD i 0)) rfl (hp11) ?_
      refine stp (v := .int .i64 (l.getD i 0)) (o_mv rfl) ?_
      refine h10 _ _ ?_
      clear h10
      refine seq fun K12 h12 => ?_
      refine stp (v := .int .i64 (l.getD i 0)) (o_mv rfl) ?_
      refine stp (v := .bool (decide ((l.getD i 0) < 0))) (o_bin rfl rfl rfl) ?_
      refine stp (v := .bool (decide ((l.getD i 0) < 0))) (o_mv rfl) ?_
      refine splitP rfl (fun c13 => ?_) (fun c13 => ?_)
      ·
        refine gno rfl (by simp) ?_
        refine gno rfl (by simp) ?_
        refine stp (v := .bool true) (o_pickT rfl rfl) ?_
        refine h12 _ _ ?_
        clear h12
        refine cndT rfl ?_
        refine seq fun K14 h14 => ?_
        refine stp (v := .int .i64 3) (o_mv rfl) ?_
        refine h14 _ _ ?_
        clear h14
        refine ⟨(.int .i64 3), rfl, ?_⟩
        exact ⟨by rw [inB_no (i := i) (by omega) (by omega)] <;> rfl, hM4.upd⟩
      ·
        refine stg rfl (v := .int .i64 (l.getD i 0)) (o_mv rfl) ?_
        refine stg rfl (v := .bool (decide ((1099511627776 : Int) < (l.getD i 0)))) (o_bin rfl rfl rfl) ?_
        refine stp (v := .bool (decide ((1099511627776 : Int) < (l.getD i 0)))) (o_pickF rfl rfl) ?_
        refine h12 _ _ ?_
        clear h12
        refine cndP rfl (fun c15 => ?_) (fun c15 => ?_)
        ·
          refine seq fun K16 h16 => ?_
          refine stp (v := .int .i64 3) (o_mv rfl) ?_
          refine h16 _ _ ?_
          clear h16
          refine ⟨(.int .i64 3), rfl, ?_⟩
          exact ⟨by rw [inB_no (i := i) (by omega) (by omega)] <;> rfl, hM4.upd⟩
        ·
          refine h9 _ _ ?_
          clear h9
          refine stp (v := .int .i64 ((i : Nat) + 1)) (o_bin rfl rfl (v_add64 (by constructor <;> omega))) ?_
          refine stp (v := .int .i64 ((i : Nat) + 1)) (o_mv rfl) ?_
          refine h5 (i + 1) _ _ ⟨rfl, rfl, by first | rfl | exact v_int (by omega) | exact v_int (by simp) | exact v_int (by simp; omega), by first | rfl | exact v_int (by omega) | exact v_int (by simp) | exact v_int (by simp; omega), hM4, by omega, all_succ hp (by omega)⟩ (by (try dsimp only); omega)
    ·
      refine h2 _ _ ?_
      clear h2
      refine seq fun K17 h17 => ?_
      refine stp (v := .int .i64 0) (o_mv rfl) ?_
      refine h17 _ _ ?_
      clear h17
      refine ⟨(.int .i64 0), rfl, ?_⟩
      exact ⟨by rw [inB_iff.2 (fun j hj => hp j (by omega))] <;> rfl, hM4.upd⟩

/-- huff.inside -/
theorem inside_ok (x : Value) (l : List Int) (w : World) (hx : RdE i64V w x l) (hl : l.length ≤ 1152921504606846976) : Calls Try.prog 40 [x].toArray w (Rt fun r w' => r = .bool (inB 0 15 l) ∧ Upd [] w w') := by
  have hM0 : Mem w [] w [] := Mem.nil w []
  refine calls_vc mixed Try.func40 rfl C40 (by simp [Try.ntmps40]) ?_
  refine seq fun K1 h1 => ?_
  refine stp (v := .bool false) (o_mv rfl) ?_
  refine h1 _ _ ?_
  clear h1
  refine seq fun K2 h2 => ?_
  refine seq fun K3 h3 => ?_
  refine stp (v := x) (o_mv rfl) ?_
  refine stp (v := .int .i64 (l.length : Nat)) (o_lenR (hx.upd hM0.upd) rfl rfl) ?_
  refine stp (v := .int .i64 0) (o_mv rfl) ?_
  refine h3 _ _ ?_
  clear h3
  refine lp (n := fun _ _ => False) (ι := (Nat)) (fun i f w' => f 0 = x ∧ f 5 = x ∧ f 6 = .int .i64 (l.length : Nat) ∧ f 7 = .int .i64 (i : Nat) ∧ Mem w [] w' [] ∧ (i ≤ l.length) ∧ (∀ j, j < i → 0 ≤ l.getD j 0 ∧ l.getD j 0 ≤ 15)) (fun i => l.length - i) (0) ?_ ?_
  · exact ⟨rfl, rfl, by first | rfl | exact v_int (by omega) | exact v_int (by simp) | exact v_int (by simp; omega), by first | rfl | exact v_int (by omega) | exact v_int (by simp) | exact v_int (by simp; omega), hM0, by omega, by omega⟩
  · rintro i f w4 ⟨e4_0, e4_5, e4_6, e4_7, hM4, hi, hp⟩ K5 h5
    obtain ⟨frm, rfl⟩ : ∃ frm, f = (upd (upd (upd (upd frm 0 (x)) 5 (x)) 6 (.int .i64 (l.length : Nat))) 7 (.int .i64 (i : Nat))) := ⟨f, by rw [upd_self e4_0, upd_self e4_5, upd_self e4_6, upd_self e4_7]⟩
    clear e4_0 e4_5 e4_6 e4_7
    refine seq fun K6 h6 => ?_
    refine stp (v := .bool (decide (((i : Nat) : Int) < (l.length : Nat)))) (o_bin rfl rfl rfl) ?_
    refine h6 _ _ ?_
    clear h6
    refine seq fun K7 h7 => ?_
    refine cndP rfl (fun c8 => ?_) (fun c8 => ?_)
    ·
      refine h7 _ _ ?_
      clear h7
      refine seq fun K9 h9 => ?_
      refine seq fun K10 h10 => ?_
      refine m_idxE 0 (j := i) (hx.upd hM4.upd) rfl rfl (by omega) fun b11 o11 hp11 => ?_
      refine ld (v := .int .i64 (l.getD i 0)) rfl (hp11) ?_
      refine stp (v := .int .i64 (l.getD i 0)) (o_mv rfl) ?_
      refine h10 _ _ ?_
      clear h10
      refine seq fun K12 h12 => ?_
      refine stp (v := .int .i64 (l.getD i 0)) (o_mv rfl) ?_
      refine stp (v := .bool (decide ((l.getD i 0) < 0))) (o_bin rfl rfl rfl) ?_
      refine stp (v := .bool (decide ((l.getD i 0) < 0))) (o_mv rfl) ?_
      refine splitP rfl (fun c13 => ?_) (fun c13 => ?_)
      ·
        refine gno rfl (by simp) ?_
        refine gno rfl (by simp) ?_
        refine stp (v := .bool true) (o_pickT rfl rfl) ?_
        refine h12 _ _ ?_
        clear h12
        refine cndT rfl ?_
        refine seq fun K14 h14 => ?_
        refine stp (v := .bool false) (o_mv rfl) ?_
        refine h14 _ _ ?_
        clear h14
        refine ⟨(.bool false), rfl, ?_⟩
        exact ⟨by rw [inB_no (i := i) (by omega) (by omega)] <;> rfl, hM4.upd⟩
      ·
        refine stg rfl (v := .int .i64 (l.getD i 0)) (o_mv rfl) ?_
        refine stg rfl (v := .bool (decide ((15 : Int) < (l.getD i 0)))) (o_bin rfl rfl rfl) ?_
        refine stp (v := .bool (decide ((15 : Int) < (l.getD i 0)))) (o_pickF rfl rfl) ?_
        refine h12 _ _ ?_
        clear h12
        refine cndP rfl (fun c15 => ?_) (fun c15 => ?_)
        ·
          refine seq fun K16 h16 => ?_
          refine stp (v := .bool false) (o_mv rfl) ?_
          refine h16 _ _ ?_
          clear h16
          refine ⟨(.bool false), rfl, ?_⟩
          exact ⟨by rw [inB_no (i := i) (by omega) (by omega)] <;> rfl, hM4.upd⟩
        ·
          refine h9 _ _ ?_
          clear h9
          refine stp (v := .int .i64 ((i : Nat) + 1)) (o_bin rfl rfl (v_add64 (by constructor <;> omega))) ?_
          refine stp (v := .int .i64 ((i : Nat) + 1)) (o_mv rfl) ?_
          refine h5 (i + 1) _ _ ⟨rfl, rfl, by first | rfl | exact v_int (by omega) | exact v_int (by simp) | exact v_int (by simp; omega), by first | rfl | exact v_int (by omega) | exact v_int (by simp) | exact v_int (by simp; omega), hM4, by omega, all_succ hp (by omega)⟩ (by (try dsimp only); omega)
    ·
      refine h2 _ _ ?_
      clear h2
      refine seq fun K17 h17 => ?_
      refine stp (v := .bool true) (o_mv rfl) ?_
      refine h17 _ _ ?_
      clear h17
      refine ⟨(.bool true), rfl, ?_⟩
      exact ⟨by rw [inB_iff.2 (fun j hj => hp j (by omega))] <;> rfl, hM4.upd⟩

theorem errIf_ne {b : Bool} (h : ¬ errIf b 3 = 0) : b = false := by cases b <;> simp [errIf] at h ⊢
theorem errIf_eq {b : Bool} (h : ¬ ¬ errIf b 3 = 0) : b = true := by cases b <;> simp [errIf] at h ⊢
theorem dot_step {cs ls : List Int} {i : Nat} (h1 : inB 0 1099511627776 cs = true) (h2 : inB 0 15 ls = true) (hc : i < cs.length) (hl : i < ls.length) (hd : 0 ≤ dot (cs.take i) (ls.take i) ∧ dot (cs.take i) (ls.take i) ≤ (i : Int) * 16492674416640) :
    0 ≤ dot (cs.take (i + 1)) (ls.take (i + 1)) ∧ dot (cs.take (i + 1)) (ls.take (i + 1)) ≤ ((i + 1 : Nat) : Int) * 16492674416640 ∧ 0 ≤ cs.getD i 0 * ls.getD i 0 ∧ cs.getD i 0 * ls.getD i 0 ≤ 16492674416640 := by
  rw [dot_take i cs ls hc hl]
  have := mul_bd (inB_iff.1 h1 i hc) (inB_iff.1 h2 i hl)
  omega

/-- huff.Cost -/
theorem Cost_ok (x y : Value) (cs ls : List Int) (w : World) (hx : RdE i64V w x cs) (hy : RdE i64V w y ls) (hlc : cs.length ≤ 1152921504606846976) (hll : ls.length ≤ 1152921504606846976) : Calls Try.prog 14 [x, y].toArray w (Rt fun r w' => r = tup2 (cost cs ls) ∧ Upd [] w w') := by
  have hM0 : Mem w [] w [] := Mem.nil w []
  refine calls_vc mixed Try.func14 rfl C14 (by simp [Try.ntmps14]) ?_
  refine seq fun K1 h1 => ?_
  refine stp (v := .int .i64 0) (o_mv rfl) ?_
  refine stp (v := .int .i64 0) (o_mv rfl) ?_
  refine h1 _ _ ?_
  clear h1
  refine seq fun K2 h2 => ?_
  refine seq fun K3 h3 => ?_
  refine stp (v := x) (o_mv rfl) ?_
  refine stp (v := .int .i64 (cs.length : Nat)) (o_lenR (hx.upd hM0.upd) rfl rfl) ?_
  refine stp (v := .bool (decide ((256 : Int) < ((cs.length : Nat) : Int)))) (o_bin rfl rfl rfl) ?_
  refine stp (v := .bool (decide ((256 : Int) < ((cs.length : Nat) : Int)))) (o_mv rfl) ?_
  refine splitP rfl (fun c4 => ?_) (fun c4 => ?_)
  ·
    refine gno rfl (by simp) ?_
    refine gno rfl (by simp) ?_
    refine gno rfl (by simp) ?_
    refine stp (v := .bool true) (o_pickT rfl rfl) ?_
    refine h3 _ _ ?_
    clear h3
    refine cndT rfl ?_
    refine seq fun K5 h5 => ?_
    refine stp (v := .int .i64 0) (o_mv rfl) ?_
    refine stp (v := .int .i64 2) (o_mv rfl) ?_
    refine h5 _ _ ?_
    clear h5
    refine ⟨(.tuple [.int .i64 0, .int .i64 2].toArray), rfl, ?_⟩
    exact ⟨by rw [cost_long (by omega)], hM0.upd⟩
  ·
    refine stg rfl (v := y) (o_mv rfl) ?_
    refine stg rfl (v := .int .i64 (ls.length : Nat)) (o_lenR (hy.upd hM0.upd) rfl rfl) ?_
    refine stg rfl (v := .bool (decide ((256 : Int) < ((ls.length : Nat) : Int)))) (o_bin rfl rfl rfl) ?_
    refine stp (v := .bool (decide ((256 : Int) < ((ls.length : Nat) : Int)))) (o_pickF rfl rfl) ?_
    refine h3 _ _ ?_
    clear h3
    refine cndP rfl (fun c6 => ?_) (fun c6 => ?_)
    ·
      refine seq fun K7 h7 => ?_
      refine stp (v := .int .i64 0) (o_mv rfl) ?_
      refine stp (v := .int .i64 2) (o_mv rfl) ?_
      refine h7 _ _ ?_
      clear h7
      refine ⟨(.tuple [.int .i64 0, .int .i64 2].toArray), rfl, ?_⟩
      exact ⟨by rw [cost_long (by omega)], hM0.upd⟩
    ·
      refine h2 _ _ ?_
      clear h2
      refine seq fun K8 h8 => ?_
      refine seq fun K9 h9 => ?_
      refine stp (v := x) (o_mv rfl) ?_
      refine m_call (wrong_ok _ cs w (hx.upd hM0.upd) (by first | omega | (simp; done) | (simp; omega))) rfl fun v10 w10 ⟨hr10, hu10⟩ => ?_
      have hM10 : Mem w [] w10 [] := hM0.pure hu10
      subst hr10
      refine stp (v := .bool (decide (¬ (errIf (inB 0 1099511627776 cs) 3) = 0))) (o_bin rfl rfl v_neq) ?_
      refine stp (v := .bool (decide (¬ (errIf (inB 0 1099511627776 cs) 3) = 0))) (o_mv rfl) ?_
      refine splitP rfl (fun c11 => ?_) (fun c11 => ?_)
      ·
        refine gno rfl (by simp) ?_
        refine gnol rfl (by simp) ?_
        refine gno rfl (by simp) ?_
        refine stp (v := .bool true) (o_pickT rfl rfl) ?_
        refine h9 _ _ ?_
        clear h9
        refine cndT rfl ?_
        refine seq fun K12 h12 => ?_
        refine stp (v := .int .i64 0) (o_mv rfl) ?_
        refine stp (v := .int .i64 3) (o_mv rfl) ?_
        refine h12 _ _ ?_
        clear h12
        refine ⟨(.tuple [.int .i64 0, .int .i64 3].toArray), rfl, ?_⟩
        exact ⟨by rw [cost_bad (by omega) (.inl (errIf_ne (by assumption)))], hM10.upd⟩
      ·
        refine stg rfl (v := y) (o_mv rfl) ?_
        refine gyesl rfl ?_
        refine m_call (inside_ok _ ls w10 (hy.upd hM10.upd) (by first | omega | (simp; done) | (simp; omega))) rfl fun v13 w13 ⟨hr13, hu13⟩ => ?_
        have hM13 : Mem w [] w13 [] := hM10.pure hu13
        subst hr13
        refine stg rfl (v := .bool (!(inB 0 15 ls))) (o_not rfl rfl) ?_
        refine stp (v := .bool (!(inB 0 15 ls))) (o_pickF rfl rfl) ?_
        refine h9 _ _ ?_
        clear h9
        refine cnd rfl (fun c14 => ?_) (fun c14 => ?_)
        ·
          refine seq fun K15 h15 => ?_
          refine stp (v := .int .i64 0) (o_mv rfl) ?_
          refine stp (v := .int .i64 3) (o_mv rfl) ?_
          refine h15 _ _ ?_
          clear h15
          refine ⟨(.tuple [.int .i64 0, .int .i64 3].toArray), rfl, ?_⟩
          exact ⟨by rw [cost_bad (by omega) (.inr (by simpa using ‹(!inB 0 15 ls) = true›))], hM13.upd⟩
        ·
          refine h8 _ _ ?_
          clear h8
          refine seq fun K16 h16 => ?_
          have k1 := errIf_eq ‹_›
          have k2 : inB 0 15 ls = true := by simpa using ‹(!inB 0 15 ls) = false›
          refine stp (v := .int .i64 0) (o_mv rfl) ?_
          refine h16 _ _ ?_
          clear h16
          refine seq fun K17 h17 => ?_
          refine seq fun K18 h18 => ?_
          refine stp (v := x) (o_mv rfl) ?_
          refine stp (v := .int .i64 (cs.length : Nat)) (o_lenR (hx.upd hM13.upd) rfl rfl) ?_
          refine stp (v := y) (o_mv rfl) ?_
          refine stp (v := .int .i64 (ls.length : Nat)) (o_lenR (hy.upd hM13.upd) rfl rfl) ?_
          refine stp (v := .int .i64 (min ((cs.length : Nat) : Int) ((ls.length : Nat) : Int))) (o_mm rfl rfl rfl) ?_
          refine stp (v := .int .i64 0) (o_mv rfl) ?_
          refine h18 _ _ ?_
          clear h18
          refine lp (n := fun _ _ => False) (ι := (Nat)) (fun i f w' => f 0 = x ∧ f 1 = y ∧ f 6 = .int .i64 (dot (cs.take i) (ls.take i)) ∧ f 28 = .int .i64 (min cs.length ls.length : Nat) ∧ f 29 = .int .i64 (i : Nat) ∧ Mem w [] w' [] ∧ (i ≤ cs.length ∧ i ≤ ls.length) ∧ (0 ≤ dot (cs.take i) (ls.take i) ∧ dot (cs.take i) (ls.take i) ≤ (i : Int) * 16492674416640)) (fun i => cs.length - i) (0) ?_ ?_
          · exact ⟨rfl, rfl, by first | rfl | exact v_int (by omega) | exact v_int (by simp) | exact v_int (by simp; omega), by first | rfl | exact v_int (by omega) | exact v_int (by simp) | exact v_int (by simp; omega), by first | rfl | exact v_int (by omega) | exact v_int (by simp) | exact v_int (by simp; omega), hM13, by omega, by simp [dot]⟩
          · rintro i f w19 ⟨e19_0, e19_1, e19_6, e19_28, e19_29, hM19, hi, hdt⟩ K20 h20
            obtain ⟨frm, rfl⟩ : ∃ frm, f = (upd (upd (upd (upd (upd frm 0 (x)) 1 (y)) 6 (.int .i64 (dot (cs.take i) (ls.take i)))) 28 (.int .i64 (min cs.length ls.length : Nat))) 29 (.int .i64 (i : Nat))) := ⟨f, by rw [upd_self e19_0, upd_self e19_1, upd_self e19_6, upd_self e19_28, upd_self e19_29]⟩
            clear e19_0 e19_1 e19_6 e19_28 e19_29
            refine seq fun K21 h21 => ?_
            refine stp (v := .bool (decide (((i : Nat) : Int) < (min cs.length ls.length : Nat)))) (o_bin rfl rfl rfl) ?_
            refine h21 _ _ ?_
            clear h21
            refine seq fun K22 h22 => ?_
            refine cndP rfl (fun c23 => ?_) (fun c23 => ?_)
            ·
              refine h22 _ _ ?_
              clear h22
              refine seq fun K24 h24 => ?_
              refine seq fun K25 h25 => ?_
              refine stp (v := .int .i64 (i : Nat)) (o_mv rfl) ?_
              refine stp (v := .int .i64 (i : Nat)) (o_mv rfl) ?_
              refine h25 _ _ ?_
              clear h25
              intro wd e1 e2 e3 e4
              have hd := Upd.same e1 e2 e3 e4 []
              have hM26 := hM19.pure hd
              clear e1 e2 e3 e4
              refine ⟨none, ?_⟩
              show vd _ _ _ _ _ _ _
              refine dq (v := .int .i64 (dot (cs.take i) (ls.take i))) (o_mv rfl) ?_
              refine dq (v := x) (o_mv rfl) ?_
              refine dq (v := .int .i64 (i : Nat)) (o_mv rfl) ?_
              refine dqp (m_idxE 0 (j := i) (hx.upd hM26.upd) rfl rfl (by omega) fun b27 o27 hp27 => ?_)
              show vd _ _ _ _ _ _ _
              refine dq (v := y) (o_mv rfl) ?_
              refine dq (v := .int .i64 (i : Nat)) (o_mv rfl) ?_
              refine dqp (m_idxE 0 (j := i) (hy.upd hM26.upd) rfl rfl (by omega) fun b28 o28 hp28 => ?_)
              show vd _ _ _ _ _ _ _
              refine dqld rfl (trivial) (v := .int .i64 (ls.getD i 0)) (hp28) ?_
              refine dl (ld (v := .int .i64 (cs.getD i 0)) rfl (hp27) ?_)
              refine ⟨rfl, ?_⟩
              refine dq (v := .int .i64 (cs.getD i 0 * ls.getD i 0)) (o_bin rfl rfl (v_mul64 (by have := dot_step (cs := cs) (ls := ls) (i := i) (by assumption) (by assumption) (by omega) (by omega) hdt; omega))) ?_
              refine dq (v := .int .i64 (dot (cs.take (i + 1)) (ls.take (i + 1)))) (o_bin rfl rfl (by rw [dot_take i cs ls (by omega) (by omega)]; exact v_add64 (by rw [← dot_take i cs ls (by omega) (by omega)]; have := dot_step (cs := cs) (ls := ls) (i := i) (by assumption) (by assumption) (by omega) (by omega) hdt; omega))) ?_
              refine dq (v := .int .i64 (dot (cs.take (i + 1)) (ls.take (i + 1)))) (o_mv rfl) ?_
              refine h24 _ _ ?_
              clear h24
              refine stp (v := .int .i64 ((i : Nat) + 1)) (o_bin rfl rfl (v_add64 (by constructor <;> omega))) ?_
              refine stp (v := .int .i64 ((i : Nat) + 1)) (o_mv rfl) ?_
              refine h20 (i + 1) _ _ ⟨rfl, rfl, by first | rfl | exact v_int (by omega) | exact v_int (by simp) | exact v_int (by simp; omega), by first | rfl | exact v_int (by omega) | exact v_int (by simp) | exact v_int (by simp; omega), by first | rfl | exact v_int (by omega) | exact v_int (by simp) | exact v_int (by simp; omega), hM26, by omega, by have := dot_step (cs := cs) (ls := ls) (i := i) (by assumption) (by assumption) (by omega) (by omega) hdt; omega⟩ (by (try dsimp only); omega)
            ·
              refine h17 _ _ ?_
              clear h17
              refine seq fun K29 h29 => ?_
              refine stp (v := .int .i64 (dot (cs.take i) (ls.take i))) (o_mv rfl) ?_
              refine stp (v := .int .i64 (dot (cs.take i) (ls.take i))) (o_mv rfl) ?_
              refine stp (v := .int .i64 0) (o_mv rfl) ?_
              refine h29 _ _ ?_
              clear h29
              refine ⟨(.tuple [.int .i64 (dot (cs.take i) (ls.take i)), .int .i64 0].toArray), rfl, ?_⟩
              exact ⟨by rw [cost_ok (by omega) k1 k2, dot_end i cs ls (by omega)], hM19.upd⟩
