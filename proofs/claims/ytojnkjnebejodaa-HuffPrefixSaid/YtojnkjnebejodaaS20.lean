/- HuffPrefix: no word begins another. -/
import Derived.Test.YtojnkjnebejodaaS19
import Derived.Test.YtojnkjnebejodaaH5
namespace Go.Proofs.Ytojnkjnebejodaa.E
open Go
theorem word_fit {l : List Int} {s n : Nat} (hu : usedB l 15 ≤ 32768) (h : l.getD s 0 = (n : Int)) (hs : s < l.length) (hn : 1 ≤ n) (h15 : n ≤ 15) : firstW l n + (symN l n s).length < 2 ^ n := by
  have h2 := word_used l n h15
  have h3 : usedB l n ≤ 32768 := by
    have mono : ∀ b, usedB l n ≤ usedB l (n + b) := by
      intro b
      induction b with
      | zero => exact Nat.le_refl _
      | succ b ih => exact Nat.le_trans ih (Nat.le_add_right _ _)
    have := mono (15 - n)
    rw [show n + (15 - n) = 15 by omega] at this
    omega
  have hr := (rank_lt h hs).1
  have hc : cntW l n = (symN l n l.length).length := by unfold cntW; rw [if_neg (by omega)]
  have e : 2 ^ n * 2 ^ (15 - n) = 32768 := by rw [← Nat.pow_add, show n + (15 - n) = 15 by omega]
  have h5 : (firstW l n + cntW l n) * 2 ^ (15 - n) ≤ 2 ^ n * 2 ^ (15 - n) := by omega
  have := Nat.le_of_mul_le_mul_right h5 (Nat.pow_pos (show 0 < 2 by omega))
  omega
theorem code_parts {l : List Int} (hB : inB 0 15 l = true) (hu : usedB l 15 ≤ 32768) {i : Nat} (hi : i < l.length) : ∃ d W : Nat, (codesL l).getD i ((0, 0) : Int × Int) = ((d : Int), (W : Int)) ∧ l.getD i 0 = (d : Int) ∧ d ≤ 15 ∧ (d = 0 → W = 0) ∧ W / 2 ^ d = 0 ∧ W ≤ 32768 ∧ (1 ≤ d → W = firstW l d + (symN l d i).length) := by
  have hb := inB_iff.1 hB i hi
  rw [codesL_get' hi]
  unfold codeAt
  by_cases c : l.getD i 0 ≤ 0
  · rw [if_pos c]
    exact ⟨0, 0, rfl, by omega, by omega, fun _ => rfl, rfl, by omega, fun h => by omega⟩
  · rw [if_neg c]
    have e : l.getD i 0 = (((l.getD i 0).toNat : Nat) : Int) := by omega
    have hf := word_fit (s := i) (n := (l.getD i 0).toNat) hu e hi (by omega) (by omega)
    have hp : 2 ^ (l.getD i 0).toNat ≤ 32768 := Nat.le_trans (Nat.pow_le_pow_right (show 0 < 2 by omega) (show (l.getD i 0).toNat ≤ 15 by omega)) (by decide)
    exact ⟨(l.getD i 0).toNat, firstW l (l.getD i 0).toNat + (symN l (l.getD i 0).toNat i).length, by rw [← e], e, by omega, fun h => by omega, Nat.div_eq_of_lt hf, by omega, fun _ => rfl⟩
theorem rank_mono {l : List Int} {n i k : Nat} (h : l.getD i 0 = (n : Int)) (hik : i < k) : (symN l n i).length < (symN l n k).length := by
  induction k with
  | zero => omega
  | succ k ih =>
    rw [symN_succ]
    by_cases c : i = k
    · subst c; rw [if_pos h, List.length_append, List.length_singleton]; omega
    · have := ih (by omega)
      rw [List.length_append]; omega
/-- of two symbols with words -/
theorem word_two {l : List Int} {i k di dk Wi Wk : Nat} (hi : i < l.length) (hk : k < l.length) (hne : ¬ i = k) (h1 : l.getD i 0 = (di : Int)) (h2 : l.getD k 0 = (dk : Int)) (hd : 1 ≤ di) (hle : di ≤ dk) (hWi : 1 ≤ di → Wi = firstW l di + (symN l di i).length) (hWk : 1 ≤ dk → Wk = firstW l dk + (symN l dk k).length) :
    ¬ Wk / 2 ^ (dk - di) = Wi ∧ (dk = di → (i < k ↔ Wi < Wk)) := by
  have ei := hWi hd
  have ek := hWk (by omega)
  by_cases c : dk = di
  · subst c
    have key : i < k ↔ Wi < Wk := by
      rcases Nat.lt_or_ge i k with a | a
      · have := rank_mono h1 a
        exact ⟨fun _ => by omega, fun _ => a⟩
      · have := rank_mono (i := k) (k := i) h2 (by omega)
        exact ⟨fun h => by omega, fun h => by omega⟩
    refine ⟨?_, fun _ => key⟩
    rw [Nat.sub_self, Nat.pow_zero, Nat.div_one]
    intro e
    rcases Nat.lt_or_ge i k with a | a
    · have := key.1 a; omega
    · have := rank_mono (i := k) (k := i) h2 (by omega)
      omega
  · refine ⟨fun e => ?_, fun e => absurd e c⟩
    have hf := first_ge l di (dk - di - 1)
    rw [show dk - di - 1 + 1 = dk - di by omega, show di + (dk - di - 1) + 1 = dk by omega] at hf
    have h5 := (Nat.le_div_iff_mul_le (Nat.pow_pos (n := dk - di) (show 0 < 2 by omega))).2 (Nat.le_trans hf (Nat.le_add_right _ (symN l dk k).length))
    rw [← ek, e] at h5
    have hr := (rank_lt h1 hi).1
    have hc : cntW l di = (symN l di l.length).length := by unfold cntW; rw [if_neg (by omega)]
    omega
theorem codes_none {l : List Int} (h : ¬ (codes l).2 = 0) : (codes l).1.length = 0 := by
  unfold codes at h ⊢
  split
  · rfl
  · rename_i h1
    rw [if_neg h1] at h
    split
    · rename_i h2
      rw [if_pos h2] at h
      split
      · rfl
      · rename_i h3; rw [if_neg h3] at h; exact absurd rfl h
    · rfl
theorem codes_some {l : List Int} (h : (codes l).2 = 0) : (codes l).1 = codesL l ∧ inB 0 15 l = true ∧ usedB l 15 ≤ 32768 ∧ l.length ≤ 256 := by
  unfold codes at h ⊢
  split
  · rename_i h1; rw [if_pos h1] at h; simp at h
  · rename_i h1
    rw [if_neg h1] at h
    split
    · rename_i h2
      rw [if_pos h2] at h
      split
      · rename_i h3; rw [if_pos h3] at h; simp at h
      · exact ⟨rfl, h2, by omega, by omega⟩
    · rename_i h2; rw [if_neg h2] at h; simp at h

/-- winnowlaw4.HuffPrefix -/
theorem HuffPrefix_no (x : Value) (l : List Int) (w : World) (hx : RdE i64V w x l) (_ : ∀ c ∈ l, inK .i64 c) (hl : l.length * 8 ≤ 140737488351232) (he : ¬ (codes l).2 = 0) : Calls Try.prog 10 [x].toArray w (Rt fun r w' => r = .bool true ∧ Upd [] w w') := by
  have hM0 : Mem w [] w [] := Mem.nil w []
  refine calls_vc mixed Try.func10 rfl C10 (by simp [Try.ntmps10]) ?_
  refine seq fun K1 h1 => ?_
  refine stp (v := .bool false) (o_mv rfl) ?_
  refine h1 _ _ ?_
  clear h1
  refine seq fun K2 h2 => ?_
  refine stp (v := x) (o_mv rfl) ?_
  refine m_call (Codes_ok _ l w (hx.upd hM0.upd) (by omega)) rfl fun v3 w3 ⟨y3, rs3, hr3, hs3, hm3⟩ => ?_
  have hM3 : Mem w [] w3 [rs3] := hM0.add hm3
  subst hr3
  have hcz := codes_none he
  refine stp (v := .tuple [y3, .int .i64 ((codes l).2)].toArray) (o_mv rfl) ?_
  refine stp (v := y3) (o_ext rfl rfl) ?_
  refine stp (v := .int .i64 ((codes l).2)) (o_ext rfl rfl) ?_
  refine stp (v := y3) (o_mv rfl) ?_
  refine stp (v := .int .i64 ((codes l).2)) (o_mv rfl) ?_
  refine h2 _ _ ?_
  clear h2
  refine seq fun K4 h4 => ?_
  refine seq fun K5 h5 => ?_
  refine stp (v := .int .i64 ((codes l).2)) (o_mv rfl) ?_
  refine stp (v := .bool (decide (¬ ((codes l).2) = 0))) (o_bin rfl rfl v_neq) ?_
  refine h5 _ _ ?_
  clear h5
  refine cndP rfl (fun c6 => ?_) (fun c6 => (c6 (he)).elim)
  refine seq fun K7 h7 => ?_
  refine stp (v := y3) (o_mv rfl) ?_
  refine stp (v := .int .i64 (((codes l).1).length : Nat)) (o_lenR (hs3.rd hM3 (i := 0) rfl) rfl rfl) ?_
  refine stp (v := .bool (decide (((((codes l).1).length : Nat) : Int) = 0))) (o_bin rfl rfl rfl) ?_
  refine stp (v := .bool (decide (((((codes l).1).length : Nat) : Int) = 0))) (o_mv rfl) ?_
  refine splitP rfl (fun c8 => ?_) (fun c8 => (c8 (by omega)).elim)
  refine gyesl rfl ?_
  refine m_call (works_ok w3) rfl fun v9 w9 ⟨hr9, hu9⟩ => ?_
  have hM9 : Mem w [] w9 [rs3] := hM3.pure hu9
  subst hr9
  refine stp (v := .bool true) (o_pickT rfl rfl) ?_
  refine stp (v := .bool true) (o_mv rfl) ?_
  refine h7 _ _ ?_
  clear h7
  refine ⟨(.bool true), rfl, ?_⟩
  exact ⟨by first | rfl | simp, hM9.upd⟩

set_option maxRecDepth 100000 in
/-- winnowlaw4.HuffPrefix -/
theorem HuffPrefix_yes (x : Value) (l : List Int) (w : World) (hx : RdE i64V w x l) (_ : ∀ c ∈ l, inK .i64 c) (hl : l.length * 8 ≤ 140737488351232) (he : (codes l).2 = 0) : Calls Try.prog 10 [x].toArray w (Rt fun r w' => r = .bool true ∧ Upd [] w w') := by
  obtain ⟨hcs, hB, hu, h256⟩ := codes_some he
  have hcl := codesL_len l
  have hM0 : Mem w [] w [] := Mem.nil w []
  refine calls_vc mixed Try.func10 rfl C10 (by simp [Try.ntmps10]) ?_
  refine seq fun K1 h1 => ?_
  refine stp (v := .bool false) (o_mv rfl) ?_
  refine h1 _ _ ?_
  clear h1
  refine seq fun K2 h2 => ?_
  refine stp (v := x) (o_mv rfl) ?_
  refine m_call (Codes_ok _ l w (hx.upd hM0.upd) (by omega)) rfl fun v3 w3 ⟨y3, rs3, hr3, hs3, hm3⟩ => ?_
  have hM3 : Mem w [] w3 [rs3] := hM0.add hm3
  rw [he] at hr3
  rw [hcs] at hs3
  subst hr3
  refine stp (v := .tuple [y3, .int .i64 0].toArray) (o_mv rfl) ?_
  refine stp (v := y3) (o_ext rfl rfl) ?_
  refine stp (v := .int .i64 0) (o_ext rfl rfl) ?_
  refine stp (v := y3) (o_mv rfl) ?_
  refine stp (v := .int .i64 0) (o_mv rfl) ?_
  refine h2 _ _ ?_
  clear h2
  refine seq fun K4 h4 => ?_
  refine seq fun K5 h5 => ?_
  refine stp (v := .int .i64 0) (o_mv rfl) ?_
  refine stp (v := .bool false) (o_bin rfl rfl v_neF) ?_
  refine h5 _ _ ?_
  clear h5
  refine cndF rfl ?_
  refine h4 _ _ ?_
  clear h4
  refine seq fun K6 h6 => ?_
  refine seq fun K7 h7 => ?_
  refine stp (v := y3) (o_mv rfl) ?_
  refine stp (v := .int .i64 ((codesL l).length : Nat)) (o_lenR (hs3.rd hM3 (i := 0) rfl) rfl rfl) ?_
  refine stp (v := x) (o_mv rfl) ?_
  refine stp (v := .int .i64 (l.length : Nat)) (o_lenR (hx.upd hM3.upd) rfl rfl) ?_
  refine stp (v := .bool (decide (¬ (((codesL l).length : Nat) : Int) = (l.length : Nat)))) (o_bin rfl rfl v_neq) ?_
  refine h7 _ _ ?_
  clear h7
  refine cndP rfl (fun c8 => absurd c8 (by omega)) (fun c8 => ?_)
  refine h6 _ _ ?_
  clear h6
  refine seq fun K9 h9 => ?_
  refine seq fun K10 h10 => ?_
  refine stp (v := .int .i64 0) (o_mv rfl) ?_
  refine h10 _ _ ?_
  clear h10
  refine lp (n := fun _ _ => False) (ι := (Nat)) (fun i f w' => f 5 = .int .i64 (i : Nat) ∧ f 0 = x ∧ f 3 = y3 ∧ Mem w [] w' [rs3] ∧ (i ≤ l.length)) (fun i => l.length - i) (0) ?_ ?_
  · exact ⟨by first | rfl | exact v_int (by omega) | exact v_int (by simp) | exact v_int (by simp; omega), rfl, rfl, hM3, by omega⟩
  · rintro i f w11 ⟨e11_5, e11_0, e11_3, hM11, hi⟩ K12 h12
    obtain ⟨frm, rfl⟩ : ∃ frm, f = (upd (upd (upd frm 5 (.int .i64 (i : Nat))) 0 (x)) 3 (y3)) := ⟨f, by rw [upd_self e11_5, upd_self e11_0, upd_self e11_3]⟩
    clear e11_5 e11_0 e11_3
    refine seq fun K13 h13 => ?_
    refine seq fun K14 h14 => ?_
    refine stp (v := .int .i64 (i : Nat)) (o_mv rfl) ?_
    refine stp (v := y3) (o_mv rfl) ?_
    refine stp (v := .int .i64 ((codesL l).length : Nat)) (o_lenR (hs3.rd hM11 (i := 0) rfl) rfl rfl) ?_
    refine stp (v := .bool (decide (((i : Nat) : Int) < ((codesL l).length : Nat)))) (o_bin rfl rfl rfl) ?_
    refine h14 _ _ ?_
    clear h14
    refine cndP rfl (fun c15 => ?_) (fun c15 => ?_)
    ·
      refine h13 _ _ ?_
      clear h13
      refine seq fun K16 h16 => ?_
      refine seq fun K17 h17 => ?_
      refine stp (v := y3) (o_mv rfl) ?_
      refine stp (v := .int .i64 (i : Nat)) (o_mv rfl) ?_
      refine m_idxS ((0, 0) : Int × Int) (j := i) (hs3.rd hM11 (i := 0) rfl) rfl rfl (by omega) fun b18 o18 hp18 => ?_
      refine ldA (cs := [.int .i64 (((codesL l).getD i ((0, 0) : Int × Int)).1), .int .u32 (((codesL l).getD i ((0, 0) : Int × Int)).2)]) rfl rfl (hp18.row (k := 0) rfl rfl) ?_
      refine m_al hM11 fun b19 w20 (hM20 : Mem w [] w20 [rs3, [⟨b19, 37, [.int .i64 0, .int .u32 0]⟩]]) => ?_
      refine m_stA (l := [.int .i64 (((codesL l).getD i ((0, 0) : Int × Int)).1), .int .u32 (((codesL l).getD i ((0, 0) : Int × Int)).2)]) hM20 (i := 1) rfl rfl rfl rfl (by simp [oneCells, Value.oneCell', byteV]) (by simp) fun w21 (hM21 : Mem w [] w21 [rs3, [⟨b19, 37, [.int .i64 (((codesL l).getD i ((0, 0) : Int × Int)).1), .int .u32 (((codesL l).getD i ((0, 0) : Int × Int)).2)]⟩]]) => ?_
      refine h17 _ _ ?_
      clear h17
      refine seq fun K22 h22 => ?_
      refine seq fun K23 h23 => ?_
      intro wd e1 e2 e3 e4
      have hd := Upd.same e1 e2 e3 e4 []
      have hM24 := hM21.pure hd
      clear e1 e2 e3 e4
      refine ⟨none, ?_⟩
      show vd _ _ _ _ _ _ _
      obtain ⟨di, Wi, hgi, hli, hdi, hz, hW0, hWi, hfi⟩ := code_parts hB hu (i := i) (by omega)
      have hi1 : ((codesL l).getD i ((0, 0) : Int × Int)).1 = (di : Nat) := by rw [hgi]
      have hi2 : ((codesL l).getD i ((0, 0) : Int × Int)).2 = (Wi : Nat) := by rw [hgi]
      refine dq (v := .pointer (some ⟨b19, 0, none⟩)) (o_fa rfl rfl) ?_
      refine dl (m_ld (v := .int .i64 (((codesL l).getD i ((0, 0) : Int × Int)).1)) hM24 (i := 1) (j := 0) rfl rfl rfl rfl ?_)
      refine ⟨rfl, ?_⟩
      refine dq (v := .bool (decide ((((codesL l).getD i ((0, 0) : Int × Int)).1) < 0))) (o_bin rfl rfl rfl) ?_
      refine dq (v := .bool (decide ((((codesL l).getD i ((0, 0) : Int × Int)).1) < 0))) (o_mv rfl) ?_
      refine dsplitP rfl (fun c25 => absurd c25 (by omega)) (fun c25 => ?_)
      refine dqg rfl (v := .pointer (some ⟨b19, 0, none⟩)) (o_fa rfl rfl) ?_
      refine dgyesl rfl ?_
      refine dl (m_ld (v := .int .i64 (((codesL l).getD i ((0, 0) : Int × Int)).1)) hM24 (i := 1) (j := 0) rfl rfl rfl rfl ?_)
      refine ⟨rfl, ?_⟩
      refine dqg rfl (v := .bool (decide ((15 : Int) < (((codesL l).getD i ((0, 0) : Int × Int)).1)))) (o_bin rfl rfl rfl) ?_
      refine dq (v := .bool (decide ((15 : Int) < (((codesL l).getD i ((0, 0) : Int × Int)).1)))) (o_pickF rfl rfl) ?_
      refine dq (v := .bool (decide ((15 : Int) < (((codesL l).getD i ((0, 0) : Int × Int)).1)))) (o_mv rfl) ?_
      refine dsplitP rfl (fun c26 => absurd c26 (by omega)) (fun c26 => ?_)
      refine dqg rfl (v := .pointer (some ⟨b19, 0, none⟩)) (o_fa rfl rfl) ?_
      refine dqg rfl (v := x) (o_mv rfl) ?_
      refine dqg rfl (v := .int .i64 (i : Nat)) (o_mv rfl) ?_
      refine dgyes rfl rfl (dqp (m_idxE 0 (j := i) (hx.upd hM24.upd) rfl rfl (by omega) fun b27 o27 hp27 => ?_))
      show vd _ _ _ _ _ _ _
      refine dqgyes rfl rfl ?_
      refine dqld rfl (trivial) (v := .int .i64 (((codesL l).getD i ((0, 0) : Int × Int)).1)) ((hM24.at (i := 1) (j := 0) rfl rfl).cell 0) ?_
      refine dgyesl rfl ?_
      refine dl (ld (v := .int .i64 (l.getD i 0)) rfl (hp27) ?_)
      refine ⟨rfl, ?_⟩
      refine dqg rfl (v := .bool (decide (¬ (((codesL l).getD i ((0, 0) : Int × Int)).1) = (l.getD i 0)))) (o_bin rfl rfl v_neq) ?_
      refine dq (v := .bool (decide (¬ (((codesL l).getD i ((0, 0) : Int × Int)).1) = (l.getD i 0)))) (o_pickF rfl rfl) ?_
      refine dq (v := .bool (decide (¬ (((codesL l).getD i ((0, 0) : Int × Int)).1) = (l.getD i 0)))) (o_mv rfl) ?_
      refine dsplitP rfl (fun c28 => absurd c28 (by omega)) (fun c28 => ?_)
      refine dqg rfl (v := .pointer (some ⟨b19, 0, none⟩)) (o_fa rfl rfl) ?_
      refine dgyesl rfl ?_
      refine dl (m_ld (v := .int .i64 (((codesL l).getD i ((0, 0) : Int × Int)).1)) hM24 (i := 1) (j := 0) rfl rfl rfl rfl ?_)
      refine ⟨rfl, ?_⟩
      refine dqg rfl (v := .bool (decide ((((codesL l).getD i ((0, 0) : Int × Int)).1) = 0))) (o_bin rfl rfl rfl) ?_
      refine dqg rfl (v := .bool (decide ((((codesL l).getD i ((0, 0) : Int × Int)).1) = 0))) (o_mv rfl) ?_
      refine dsplitP rfl (fun c29 => ?_) (fun c29 => ?_)
      ·
        refine dqg rfl (v := .pointer (some ⟨b19, 1, none⟩)) (o_fa rfl rfl) ?_
        refine dgyesl rfl ?_
        refine dl (m_ld (v := .int .u32 (((codesL l).getD i ((0, 0) : Int × Int)).2)) hM24 (i := 1) (j := 0) rfl rfl rfl rfl ?_)
        refine ⟨rfl, ?_⟩
        refine dqg rfl (v := .bool (decide (¬ (((codesL l).getD i ((0, 0) : Int × Int)).2) = 0))) (o_bin rfl rfl v_neq) ?_
        refine dqg rfl (v := .bool (decide (¬ (((codesL l).getD i ((0, 0) : Int × Int)).2) = 0))) (o_pickT rfl rfl) ?_
        refine dq (v := .bool (decide (¬ (((codesL l).getD i ((0, 0) : Int × Int)).2) = 0))) (o_pickF rfl rfl) ?_
        refine dq (v := .bool (decide (¬ (((codesL l).getD i ((0, 0) : Int × Int)).2) = 0))) (o_mv rfl) ?_
        refine dsplitP rfl (fun c30 => absurd c30 (by omega)) (fun c30 => ?_)
        refine dqg rfl (v := .pointer (some ⟨b19, 1, none⟩)) (o_fa rfl rfl) ?_
        refine dqg rfl (v := .pointer (some ⟨b19, 0, none⟩)) (o_fa rfl rfl) ?_
        refine dqgyes rfl rfl ?_
        refine dqld rfl (trivial) (v := .int .i64 (((codesL l).getD i ((0, 0) : Int × Int)).1)) ((hM24.at (i := 1) (j := 0) rfl rfl).cell 0) ?_
        refine dgyesl rfl ?_
        refine dl (m_ld (v := .int .u32 (((codesL l).getD i ((0, 0) : Int × Int)).2)) hM24 (i := 1) (j := 0) rfl rfl rfl rfl ?_)
        refine ⟨rfl, ?_⟩
        refine dqg rfl (v := .int .u32 (Wi / 2 ^ di : Nat)) (o_shr rfl rfl (by omega) (shr_at hi2 hi1 (by omega))) ?_
        refine dqg rfl (v := .bool (decide (¬ ((Wi / 2 ^ di : Nat) : Int) = 0))) (o_bin rfl rfl v_neq) ?_
        refine dq (v := .bool (decide (¬ ((Wi / 2 ^ di : Nat) : Int) = 0))) (o_pickF rfl rfl) ?_
        refine h23 _ _ ?_
        clear h23
        refine cndP rfl (fun c31 => absurd c31 (by omega)) (fun c31 => ?_)
        refine h22 _ _ ?_
        clear h22
        refine seq fun K32 h32 => ?_
        refine stp (v := .int .i64 0) (o_mv rfl) ?_
        refine h32 _ _ ?_
        clear h32
        refine lp (n := fun _ _ => False) (ι := (Nat)) (fun k f w' => f 7 = .int .i64 (k : Nat) ∧ f 0 = x ∧ f 3 = y3 ∧ f 5 = .int .i64 (i : Nat) ∧ f 6 = .pointer (some ⟨b19, 0, none⟩) ∧ Mem w [] w' [rs3, [⟨b19, 37, [.int .i64 (((codesL l).getD i ((0, 0) : Int × Int)).1), .int .u32 (((codesL l).getD i ((0, 0) : Int × Int)).2)]⟩]] ∧ (k ≤ l.length)) (fun k => l.length - k) (0) ?_ ?_
        · exact ⟨by first | rfl | exact v_int (by omega) | exact v_int (by simp) | exact v_int (by simp; omega), rfl, rfl, by first | rfl | exact v_int (by omega) | exact v_int (by simp) | exact v_int (by simp; omega), rfl, hM24, by omega⟩
        · rintro k f w33 ⟨e33_7, e33_0, e33_3, e33_5, e33_6, hM33, hk⟩ K34 h34
          obtain ⟨frm, rfl⟩ : ∃ frm, f = (upd (upd (upd (upd (upd frm 7 (.int .i64 (k : Nat))) 0 (x)) 3 (y3)) 5 (.int .i64 (i : Nat))) 6 (.pointer (some ⟨b19, 0, none⟩))) := ⟨f, by rw [upd_self e33_7, upd_self e33_0, upd_self e33_3, upd_self e33_5, upd_self e33_6]⟩
          clear e33_7 e33_0 e33_3 e33_5 e33_6
          refine seq fun K35 h35 => ?_
          refine seq fun K36 h36 => ?_
          refine stp (v := .int .i64 (k : Nat)) (o_mv rfl) ?_
          refine stp (v := y3) (o_mv rfl) ?_
          refine stp (v := .int .i64 ((codesL l).length : Nat)) (o_lenR (hs3.rd hM33 (i := 0) rfl) rfl rfl) ?_
          refine stp (v := .bool (decide (((k : Nat) : Int) < ((codesL l).length : Nat)))) (o_bin rfl rfl rfl) ?_
          refine h36 _ _ ?_
          clear h36
          refine cndP rfl (fun c37 => ?_) (fun c37 => ?_)
          ·
            refine h35 _ _ ?_
            clear h35
            refine seq fun K38 h38 => ?_
            refine seq fun K39 h39 => ?_
            refine stp (v := y3) (o_mv rfl) ?_
            refine stp (v := .int .i64 (k : Nat)) (o_mv rfl) ?_
            refine m_idxS ((0, 0) : Int × Int) (j := k) (hs3.rd hM33 (i := 0) rfl) rfl rfl (by omega) fun b40 o40 hp40 => ?_
            refine ldA (cs := [.int .i64 (((codesL l).getD k ((0, 0) : Int × Int)).1), .int .u32 (((codesL l).getD k ((0, 0) : Int × Int)).2)]) rfl rfl (hp40.row (k := 0) rfl rfl) ?_
            refine m_al hM33 fun b41 w42 (hM42 : Mem w [] w42 [rs3, [⟨b19, 37, [.int .i64 (((codesL l).getD i ((0, 0) : Int × Int)).1), .int .u32 (((codesL l).getD i ((0, 0) : Int × Int)).2)]⟩], [⟨b41, 37, [.int .i64 0, .int .u32 0]⟩]]) => ?_
            refine m_stA (l := [.int .i64 (((codesL l).getD k ((0, 0) : Int × Int)).1), .int .u32 (((codesL l).getD k ((0, 0) : Int × Int)).2)]) hM42 (i := 2) rfl rfl rfl rfl (by simp [oneCells, Value.oneCell', byteV]) (by simp) fun w43 (hM43 : Mem w [] w43 [rs3, [⟨b19, 37, [.int .i64 (((codesL l).getD i ((0, 0) : Int × Int)).1), .int .u32 (((codesL l).getD i ((0, 0) : Int × Int)).2)]⟩], [⟨b41, 37, [.int .i64 (((codesL l).getD k ((0, 0) : Int × Int)).1), .int .u32 (((codesL l).getD k ((0, 0) : Int × Int)).2)]⟩]]) => ?_
            refine h39 _ _ ?_
            clear h39
            refine seq fun K44 h44 => ?_
            refine seq fun K45 h45 => ?_
            obtain ⟨dk, Wk, hgk, hlk, hdk, hzk, hWk0, hWk, hfk⟩ := code_parts hB hu (i := k) (by omega)
            have hk1 : ((codesL l).getD k ((0, 0) : Int × Int)).1 = (dk : Nat) := by rw [hgk]
            have hk2 : ((codesL l).getD k ((0, 0) : Int × Int)).2 = (Wk : Nat) := by rw [hgk]
            refine stp (v := .int .i64 (i : Nat)) (o_mv rfl) ?_
            refine stp (v := .int .i64 (k : Nat)) (o_mv rfl) ?_
            refine stp (v := .bool (decide (((i : Nat) : Int) = (k : Nat)))) (o_bin rfl rfl rfl) ?_
            refine stp (v := .bool (decide (((i : Nat) : Int) = (k : Nat)))) (o_mv rfl) ?_
            refine splitP rfl (fun c46 => ?_) (fun c46 => ?_)
            ·
              refine gno rfl (by simp) ?_
              refine gnol rfl (by simp) ?_
              refine gno rfl (by simp) ?_
              refine stp (v := .bool true) (o_pickT rfl rfl) ?_
              refine stp (v := .bool true) (o_mv rfl) ?_
              refine splitT rfl ?_
              refine gno rfl (by simp) ?_
              refine gnol rfl (by simp) ?_
              refine gno rfl (by simp) ?_
              refine gnol rfl (by simp) ?_
              refine gno rfl (by simp) ?_
              refine stp (v := .bool true) (o_pickT rfl rfl) ?_
              refine h45 _ _ ?_
              clear h45
              refine cndT rfl ?_
              refine h38 _ _ ?_
              clear h38
              refine stp (v := .int .i64 (k : Nat)) (o_mv rfl) ?_
              refine stp (v := .int .i64 ((k : Nat) + 1)) (o_bin rfl rfl (v_add64 (by constructor <;> omega))) ?_
              refine stp (v := .int .i64 ((k : Nat) + 1)) (o_mv rfl) ?_
              refine h34 (k + 1) _ _ ⟨by first | rfl | exact v_int (by omega) | exact v_int (by simp) | exact v_int (by simp; omega), rfl, rfl, by first | rfl | exact v_int (by omega) | exact v_int (by simp) | exact v_int (by simp; omega), rfl, hM43.keep (by simp), by omega⟩ (by (try dsimp only); omega)
            ·
              refine stg rfl (v := .pointer (some ⟨b19, 0, none⟩)) (o_fa rfl rfl) ?_
              refine gyesl rfl ?_
              refine m_ld (v := .int .i64 (((codesL l).getD i ((0, 0) : Int × Int)).1)) hM43 (i := 1) (j := 0) rfl rfl rfl rfl ?_
              refine stg rfl (v := .bool (decide ((((codesL l).getD i ((0, 0) : Int × Int)).1) = 0))) (o_bin rfl rfl rfl) ?_
              refine stp (v := .bool (decide ((((codesL l).getD i ((0, 0) : Int × Int)).1) = 0))) (o_pickF rfl rfl) ?_
              refine stp (v := .bool (decide ((((codesL l).getD i ((0, 0) : Int × Int)).1) = 0))) (o_mv rfl) ?_
              refine splitP rfl (fun c47 => ?_) (fun c47 => ?_)
              ·
                refine gno rfl (by simp) ?_
                refine gnol rfl (by simp) ?_
                refine gno rfl (by simp) ?_
                refine gnol rfl (by simp) ?_
                refine gno rfl (by simp) ?_
                refine stp (v := .bool true) (o_pickT rfl rfl) ?_
                refine h45 _ _ ?_
                clear h45
                refine cndT rfl ?_
                refine h38 _ _ ?_
                clear h38
                refine stp (v := .int .i64 (k : Nat)) (o_mv rfl) ?_
                refine stp (v := .int .i64 ((k : Nat) + 1)) (o_bin rfl rfl (v_add64 (by constructor <;> omega))) ?_
                refine stp (v := .int .i64 ((k : Nat) + 1)) (o_mv rfl) ?_
                refine h34 (k + 1) _ _ ⟨by first | rfl | exact v_int (by omega) | exact v_int (by simp) | exact v_int (by simp; omega), rfl, rfl, by first | rfl | exact v_int (by omega) | exact v_int (by simp) | exact v_int (by simp; omega), rfl, hM43.keep (by simp), by omega⟩ (by (try dsimp only); omega)
              ·
                refine stg rfl (v := .pointer (some ⟨b41, 0, none⟩)) (o_fa rfl rfl) ?_
                refine gyesl rfl ?_
                refine m_ld (v := .int .i64 (((codesL l).getD k ((0, 0) : Int × Int)).1)) hM43 (i := 2) (j := 0) rfl rfl rfl rfl ?_
                refine stg rfl (v := .pointer (some ⟨b19, 0, none⟩)) (o_fa rfl rfl) ?_
                refine gyesl rfl ?_
                refine m_ld (v := .int .i64 (((codesL l).getD i ((0, 0) : Int × Int)).1)) hM43 (i := 1) (j := 0) rfl rfl rfl rfl ?_
                refine stg rfl (v := .bool (decide ((((codesL l).getD k ((0, 0) : Int × Int)).1) < (((codesL l).getD i ((0, 0) : Int × Int)).1)))) (o_bin rfl rfl rfl) ?_
                refine stp (v := .bool (decide ((((codesL l).getD k ((0, 0) : Int × Int)).1) < (((codesL l).getD i ((0, 0) : Int × Int)).1)))) (o_pickF rfl rfl) ?_
                refine h45 _ _ ?_
                clear h45
                refine cndP rfl (fun c48 => ?_) (fun c48 => ?_)
                ·
                  refine h38 _ _ ?_
                  clear h38
                  refine stp (v := .int .i64 (k : Nat)) (o_mv rfl) ?_
                  refine stp (v := .int .i64 ((k : Nat) + 1)) (o_bin rfl rfl (v_add64 (by constructor <;> omega))) ?_
                  refine stp (v := .int .i64 ((k : Nat) + 1)) (o_mv rfl) ?_
                  refine h34 (k + 1) _ _ ⟨by first | rfl | exact v_int (by omega) | exact v_int (by simp) | exact v_int (by simp; omega), rfl, rfl, by first | rfl | exact v_int (by omega) | exact v_int (by simp) | exact v_int (by simp; omega), rfl, hM43.keep (by simp), by omega⟩ (by (try dsimp only); omega)
                ·
                  refine h44 _ _ ?_
                  clear h44
                  refine seq fun K49 h49 => ?_
                  intro wd e1 e2 e3 e4
                  have hd := Upd.same e1 e2 e3 e4 []
                  have hM50 := hM43.pure hd
                  clear e1 e2 e3 e4
                  refine ⟨none, ?_⟩
                  show vd _ _ _ _ _ _ _
                  have htwo := word_two (l := l) (i := i) (k := k) (by omega) (by omega) (by omega) hli hlk (by omega) (by omega) hfi hfk
                  refine dq (v := .pointer (some ⟨b41, 1, none⟩)) (o_fa rfl rfl) ?_
                  refine dq (v := .pointer (some ⟨b41, 0, none⟩)) (o_fa rfl rfl) ?_
                  refine dq (v := .pointer (some ⟨b19, 0, none⟩)) (o_fa rfl rfl) ?_
                  refine dq (v := .pointer (some ⟨b19, 1, none⟩)) (o_fa rfl rfl) ?_
                  refine dqld rfl (trivial) (v := .int .u32 (((codesL l).getD i ((0, 0) : Int × Int)).2)) ((hM50.at (i := 1) (j := 0) rfl rfl).cell 1) ?_
                  refine dqld rfl (trivial) (v := .int .i64 (((codesL l).getD i ((0, 0) : Int × Int)).1)) ((hM50.at (i := 1) (j := 0) rfl rfl).cell 0) ?_
                  refine dqld rfl (trivial) (v := .int .i64 (((codesL l).getD k ((0, 0) : Int × Int)).1)) ((hM50.at (i := 2) (j := 0) rfl rfl).cell 0) ?_
                  refine dq (v := .int .i64 (dk - di : Nat)) (o_bin rfl rfl ((v_sub64 (by omega)).trans (v_int (by omega)))) ?_
                  refine dl (m_ld (v := .int .u32 (((codesL l).getD k ((0, 0) : Int × Int)).2)) hM50 (i := 2) (j := 0) rfl rfl rfl rfl ?_)
                  refine ⟨rfl, ?_⟩
                  refine dq (v := .int .u32 (Wk / 2 ^ (dk - di) : Nat)) (o_shr rfl rfl (by omega) (shr_at hk2 rfl (by omega))) ?_
                  refine dq (v := .bool (decide (((Wk / 2 ^ (dk - di) : Nat) : Int) = (((codesL l).getD i ((0, 0) : Int × Int)).2)))) (o_bin rfl rfl rfl) ?_
                  refine dq (v := .bool (decide (((Wk / 2 ^ (dk - di) : Nat) : Int) = (((codesL l).getD i ((0, 0) : Int × Int)).2)))) (o_mv rfl) ?_
                  refine dsplitP rfl (fun c51 => absurd c51 (fun h => htwo.1 (by omega))) (fun c51 => ?_)
                  refine dqg rfl (v := .pointer (some ⟨b41, 0, none⟩)) (o_fa rfl rfl) ?_
                  refine dqg rfl (v := .pointer (some ⟨b19, 0, none⟩)) (o_fa rfl rfl) ?_
                  refine dqgyes rfl rfl ?_
                  refine dqld rfl (trivial) (v := .int .i64 (((codesL l).getD i ((0, 0) : Int × Int)).1)) ((hM50.at (i := 1) (j := 0) rfl rfl).cell 0) ?_
                  refine dgyesl rfl ?_
                  refine dl (m_ld (v := .int .i64 (((codesL l).getD k ((0, 0) : Int × Int)).1)) hM50 (i := 2) (j := 0) rfl rfl rfl rfl ?_)
                  refine ⟨rfl, ?_⟩
                  refine dqg rfl (v := .bool (decide ((((codesL l).getD k ((0, 0) : Int × Int)).1) = (((codesL l).getD i ((0, 0) : Int × Int)).1)))) (o_bin rfl rfl rfl) ?_
                  refine dqg rfl (v := .bool (decide ((((codesL l).getD k ((0, 0) : Int × Int)).1) = (((codesL l).getD i ((0, 0) : Int × Int)).1)))) (o_mv rfl) ?_
                  refine dsplitP rfl (fun c52 => ?_) (fun c52 => ?_)
                  ·
                    refine dqg rfl (v := .int .i64 (i : Nat)) (o_mv rfl) ?_
                    refine dqg rfl (v := .int .i64 (k : Nat)) (o_mv rfl) ?_
                    refine dqg rfl (v := .bool (decide (((i : Nat) : Int) < (k : Nat)))) (o_bin rfl rfl rfl) ?_
                    refine dqg rfl (v := .pointer (some ⟨b19, 1, none⟩)) (o_fa rfl rfl) ?_
                    refine dqg rfl (v := .pointer (some ⟨b41, 1, none⟩)) (o_fa rfl rfl) ?_
                    refine dqgyes rfl rfl ?_
                    refine dqld rfl (trivial) (v := .int .u32 (((codesL l).getD k ((0, 0) : Int × Int)).2)) ((hM50.at (i := 2) (j := 0) rfl rfl).cell 1) ?_
                    refine dgyesl rfl ?_
                    refine dl (m_ld (v := .int .u32 (((codesL l).getD i ((0, 0) : Int × Int)).2)) hM50 (i := 1) (j := 0) rfl rfl rfl rfl ?_)
                    refine ⟨rfl, ?_⟩
                    refine dqg rfl (v := .bool (decide ((((codesL l).getD i ((0, 0) : Int × Int)).2) < (((codesL l).getD k ((0, 0) : Int × Int)).2)))) (o_bin rfl rfl rfl) ?_
                    refine dqg rfl (v := .bool (decide (¬ (decide (((i : Nat) : Int) < (k : Nat))) = (decide ((((codesL l).getD i ((0, 0) : Int × Int)).2) < (((codesL l).getD k ((0, 0) : Int × Int)).2)) : Bool)))) (o_beq rfl rfl (by simp)) ?_
                    refine dqg rfl (v := .bool (decide (¬ (decide (((i : Nat) : Int) < (k : Nat))) = (decide ((((codesL l).getD i ((0, 0) : Int × Int)).2) < (((codesL l).getD k ((0, 0) : Int × Int)).2)) : Bool)))) (o_pickT rfl rfl) ?_
                    refine dq (v := .bool (decide (¬ (decide (((i : Nat) : Int) < (k : Nat))) = (decide ((((codesL l).getD i ((0, 0) : Int × Int)).2) < (((codesL l).getD k ((0, 0) : Int × Int)).2)) : Bool)))) (o_pickF rfl rfl) ?_
                    refine h49 _ _ ?_
                    clear h49
                    refine cndP rfl (fun c53 => absurd c53 (fun h => h (by rw [decide_eq_decide]; have := htwo.2 (by omega); omega))) (fun c53 => ?_)
                    refine h38 _ _ ?_
                    clear h38
                    refine stp (v := .int .i64 (k : Nat)) (o_mv rfl) ?_
                    refine stp (v := .int .i64 ((k : Nat) + 1)) (o_bin rfl rfl (v_add64 (by constructor <;> omega))) ?_
                    refine stp (v := .int .i64 ((k : Nat) + 1)) (o_mv rfl) ?_
                    refine h34 (k + 1) _ _ ⟨by first | rfl | exact v_int (by omega) | exact v_int (by simp) | exact v_int (by simp; omega), rfl, rfl, by first | rfl | exact v_int (by omega) | exact v_int (by simp) | exact v_int (by simp; omega), rfl, hM50.keep (by simp), by omega⟩ (by (try dsimp only); omega)
                  ·
                    refine dgno rfl (by simp) ?_
                    refine dgno rfl (by simp) ?_
                    refine dgno rfl (by simp) ?_
                    refine dgno rfl (by simp) ?_
                    refine dgno rfl (by simp) ?_
                    refine dqgno rfl (by simp) ?_
                    refine dgnol rfl (by simp) ?_
                    refine dgno rfl (by simp) ?_
                    refine dgno rfl (by simp) ?_
                    refine dqg rfl (v := .bool false) (o_pickF rfl rfl) ?_
                    refine dq (v := .bool false) (o_pickF rfl rfl) ?_
                    refine h49 _ _ ?_
                    clear h49
                    refine cndF rfl ?_
                    refine h38 _ _ ?_
                    clear h38
                    refine stp (v := .int .i64 (k : Nat)) (o_mv rfl) ?_
                    refine stp (v := .int .i64 ((k : Nat) + 1)) (o_bin rfl rfl (v_add64 (by constructor <;> omega))) ?_
                    refine stp (v := .int .i64 ((k : Nat) + 1)) (o_mv rfl) ?_
                    refine h34 (k + 1) _ _ ⟨by first | rfl | exact v_int (by omega) | exact v_int (by simp) | exact v_int (by simp; omega), rfl, rfl, by first | rfl | exact v_int (by omega) | exact v_int (by simp) | exact v_int (by simp; omega), rfl, hM50.keep (by simp), by omega⟩ (by (try dsimp only); omega)
          ·
            refine h16 _ _ ?_
            clear h16
            refine stp (v := .int .i64 (i : Nat)) (o_mv rfl) ?_
            refine stp (v := .int .i64 ((i : Nat) + 1)) (o_bin rfl rfl (v_add64 (by constructor <;> omega))) ?_
            refine stp (v := .int .i64 ((i : Nat) + 1)) (o_mv rfl) ?_
            refine h12 (i + 1) _ _ ⟨by first | rfl | exact v_int (by omega) | exact v_int (by simp) | exact v_int (by simp; omega), rfl, rfl, hM33.keep (by simp), by omega⟩ (by (try dsimp only); omega)
      ·
        refine dgno rfl (by simp) ?_
        refine dgnol rfl (by simp) ?_
        refine dgno rfl (by simp) ?_
        refine dqg rfl (v := .bool false) (o_pickF rfl rfl) ?_
        refine dq (v := .bool false) (o_pickF rfl rfl) ?_
        refine dq (v := .bool false) (o_mv rfl) ?_
        refine dsplitF rfl ?_
        refine dqg rfl (v := .pointer (some ⟨b19, 1, none⟩)) (o_fa rfl rfl) ?_
        refine dqg rfl (v := .pointer (some ⟨b19, 0, none⟩)) (o_fa rfl rfl) ?_
        refine dqgyes rfl rfl ?_
        refine dqld rfl (trivial) (v := .int .i64 (((codesL l).getD i ((0, 0) : Int × Int)).1)) ((hM24.at (i := 1) (j := 0) rfl rfl).cell 0) ?_
        refine dgyesl rfl ?_
        refine dl (m_ld (v := .int .u32 (((codesL l).getD i ((0, 0) : Int × Int)).2)) hM24 (i := 1) (j := 0) rfl rfl rfl rfl ?_)
        refine ⟨rfl, ?_⟩
        refine dqg rfl (v := .int .u32 (Wi / 2 ^ di : Nat)) (o_shr rfl rfl (by omega) (shr_at hi2 hi1 (by omega))) ?_
        refine dqg rfl (v := .bool (decide (¬ ((Wi / 2 ^ di : Nat) : Int) = 0))) (o_bin rfl rfl v_neq) ?_
        refine dq (v := .bool (decide (¬ ((Wi / 2 ^ di : Nat) : Int) = 0))) (o_pickF rfl rfl) ?_
        refine h23 _ _ ?_
        clear h23
        refine cndP rfl (fun c54 => absurd c54 (by omega)) (fun c54 => ?_)
        refine h22 _ _ ?_
        clear h22
        refine seq fun K55 h55 => ?_
        refine stp (v := .int .i64 0) (o_mv rfl) ?_
        refine h55 _ _ ?_
        clear h55
        refine lp (n := fun _ _ => False) (ι := (Nat)) (fun k f w' => f 7 = .int .i64 (k : Nat) ∧ f 0 = x ∧ f 3 = y3 ∧ f 5 = .int .i64 (i : Nat) ∧ f 6 = .pointer (some ⟨b19, 0, none⟩) ∧ Mem w [] w' [rs3, [⟨b19, 37, [.int .i64 (((codesL l).getD i ((0, 0) : Int × Int)).1), .int .u32 (((codesL l).getD i ((0, 0) : Int × Int)).2)]⟩]] ∧ (k ≤ l.length)) (fun k => l.length - k) (0) ?_ ?_
        · exact ⟨by first | rfl | exact v_int (by omega) | exact v_int (by simp) | exact v_int (by simp; omega), rfl, rfl, by first | rfl | exact v_int (by omega) | exact v_int (by simp) | exact v_int (by simp; omega), rfl, hM24, by omega⟩
        · rintro k f w56 ⟨e56_7, e56_0, e56_3, e56_5, e56_6, hM56, hk⟩ K57 h57
          obtain ⟨frm, rfl⟩ : ∃ frm, f = (upd (upd (upd (upd (upd frm 7 (.int .i64 (k : Nat))) 0 (x)) 3 (y3)) 5 (.int .i64 (i : Nat))) 6 (.pointer (some ⟨b19, 0, none⟩))) := ⟨f, by rw [upd_self e56_7, upd_self e56_0, upd_self e56_3, upd_self e56_5, upd_self e56_6]⟩
          clear e56_7 e56_0 e56_3 e56_5 e56_6
          refine seq fun K58 h58 => ?_
          refine seq fun K59 h59 => ?_
          refine stp (v := .int .i64 (k : Nat)) (o_mv rfl) ?_
          refine stp (v := y3) (o_mv rfl) ?_
          refine stp (v := .int .i64 ((codesL l).length : Nat)) (o_lenR (hs3.rd hM56 (i := 0) rfl) rfl rfl) ?_
          refine stp (v := .bool (decide (((k : Nat) : Int) < ((codesL l).length : Nat)))) (o_bin rfl rfl rfl) ?_
          refine h59 _ _ ?_
          clear h59
          refine cndP rfl (fun c60 => ?_) (fun c60 => ?_)
          ·
            refine h58 _ _ ?_
            clear h58
            refine seq fun K61 h61 => ?_
            refine seq fun K62 h62 => ?_
            refine stp (v := y3) (o_mv rfl) ?_
            refine stp (v := .int .i64 (k : Nat)) (o_mv rfl) ?_
            refine m_idxS ((0, 0) : Int × Int) (j := k) (hs3.rd hM56 (i := 0) rfl) rfl rfl (by omega) fun b63 o63 hp63 => ?_
            refine ldA (cs := [.int .i64 (((codesL l).getD k ((0, 0) : Int × Int)).1), .int .u32 (((codesL l).getD k ((0, 0) : Int × Int)).2)]) rfl rfl (hp63.row (k := 0) rfl rfl) ?_
            refine m_al hM56 fun b64 w65 (hM65 : Mem w [] w65 [rs3, [⟨b19, 37, [.int .i64 (((codesL l).getD i ((0, 0) : Int × Int)).1), .int .u32 (((codesL l).getD i ((0, 0) : Int × Int)).2)]⟩], [⟨b64, 37, [.int .i64 0, .int .u32 0]⟩]]) => ?_
            refine m_stA (l := [.int .i64 (((codesL l).getD k ((0, 0) : Int × Int)).1), .int .u32 (((codesL l).getD k ((0, 0) : Int × Int)).2)]) hM65 (i := 2) rfl rfl rfl rfl (by simp [oneCells, Value.oneCell', byteV]) (by simp) fun w66 (hM66 : Mem w [] w66 [rs3, [⟨b19, 37, [.int .i64 (((codesL l).getD i ((0, 0) : Int × Int)).1), .int .u32 (((codesL l).getD i ((0, 0) : Int × Int)).2)]⟩], [⟨b64, 37, [.int .i64 (((codesL l).getD k ((0, 0) : Int × Int)).1), .int .u32 (((codesL l).getD k ((0, 0) : Int × Int)).2)]⟩]]) => ?_
            refine h62 _ _ ?_
            clear h62
            refine seq fun K67 h67 => ?_
            refine seq fun K68 h68 => ?_
            obtain ⟨dk, Wk, hgk, hlk, hdk, hzk, hWk0, hWk, hfk⟩ := code_parts hB hu (i := k) (by omega)
            have hk1 : ((codesL l).getD k ((0, 0) : Int × Int)).1 = (dk : Nat) := by rw [hgk]
            have hk2 : ((codesL l).getD k ((0, 0) : Int × Int)).2 = (Wk : Nat) := by rw [hgk]
            refine stp (v := .int .i64 (i : Nat)) (o_mv rfl) ?_
            refine stp (v := .int .i64 (k : Nat)) (o_mv rfl) ?_
            refine stp (v := .bool (decide (((i : Nat) : Int) = (k : Nat)))) (o_bin rfl rfl rfl) ?_
            refine stp (v := .bool (decide (((i : Nat) : Int) = (k : Nat)))) (o_mv rfl) ?_
            refine splitP rfl (fun c69 => ?_) (fun c69 => ?_)
            ·
              refine gno rfl (by simp) ?_
              refine gnol rfl (by simp) ?_
              refine gno rfl (by simp) ?_
              refine stp (v := .bool true) (o_pickT rfl rfl) ?_
              refine stp (v := .bool true) (o_mv rfl) ?_
              refine splitT rfl ?_
              refine gno rfl (by simp) ?_
              refine gnol rfl (by simp) ?_
              refine gno rfl (by simp) ?_
              refine gnol rfl (by simp) ?_
              refine gno rfl (by simp) ?_
              refine stp (v := .bool true) (o_pickT rfl rfl) ?_
              refine h68 _ _ ?_
              clear h68
              refine cndT rfl ?_
              refine h61 _ _ ?_
              clear h61
              refine stp (v := .int .i64 (k : Nat)) (o_mv rfl) ?_
              refine stp (v := .int .i64 ((k : Nat) + 1)) (o_bin rfl rfl (v_add64 (by constructor <;> omega))) ?_
              refine stp (v := .int .i64 ((k : Nat) + 1)) (o_mv rfl) ?_
              refine h57 (k + 1) _ _ ⟨by first | rfl | exact v_int (by omega) | exact v_int (by simp) | exact v_int (by simp; omega), rfl, rfl, by first | rfl | exact v_int (by omega) | exact v_int (by simp) | exact v_int (by simp; omega), rfl, hM66.keep (by simp), by omega⟩ (by (try dsimp only); omega)
            ·
              refine stg rfl (v := .pointer (some ⟨b19, 0, none⟩)) (o_fa rfl rfl) ?_
              refine gyesl rfl ?_
              refine m_ld (v := .int .i64 (((codesL l).getD i ((0, 0) : Int × Int)).1)) hM66 (i := 1) (j := 0) rfl rfl rfl rfl ?_
              refine stg rfl (v := .bool (decide ((((codesL l).getD i ((0, 0) : Int × Int)).1) = 0))) (o_bin rfl rfl rfl) ?_
              refine stp (v := .bool (decide ((((codesL l).getD i ((0, 0) : Int × Int)).1) = 0))) (o_pickF rfl rfl) ?_
              refine stp (v := .bool (decide ((((codesL l).getD i ((0, 0) : Int × Int)).1) = 0))) (o_mv rfl) ?_
              refine splitP rfl (fun c70 => ?_) (fun c70 => ?_)
              ·
                refine gno rfl (by simp) ?_
                refine gnol rfl (by simp) ?_
                refine gno rfl (by simp) ?_
                refine gnol rfl (by simp) ?_
                refine gno rfl (by simp) ?_
                refine stp (v := .bool true) (o_pickT rfl rfl) ?_
                refine h68 _ _ ?_
                clear h68
                refine cndT rfl ?_
                refine h61 _ _ ?_
                clear h61
                refine stp (v := .int .i64 (k : Nat)) (o_mv rfl) ?_
                refine stp (v := .int .i64 ((k : Nat) + 1)) (o_bin rfl rfl (v_add64 (by constructor <;> omega))) ?_
                refine stp (v := .int .i64 ((k : Nat) + 1)) (o_mv rfl) ?_
                refine h57 (k + 1) _ _ ⟨by first | rfl | exact v_int (by omega) | exact v_int (by simp) | exact v_int (by simp; omega), rfl, rfl, by first | rfl | exact v_int (by omega) | exact v_int (by simp) | exact v_int (by simp; omega), rfl, hM66.keep (by simp), by omega⟩ (by (try dsimp only); omega)
              ·
                refine stg rfl (v := .pointer (some ⟨b64, 0, none⟩)) (o_fa rfl rfl) ?_
                refine gyesl rfl ?_
                refine m_ld (v := .int .i64 (((codesL l).getD k ((0, 0) : Int × Int)).1)) hM66 (i := 2) (j := 0) rfl rfl rfl rfl ?_
                refine stg rfl (v := .pointer (some ⟨b19, 0, none⟩)) (o_fa rfl rfl) ?_
                refine gyesl rfl ?_
                refine m_ld (v := .int .i64 (((codesL l).getD i ((0, 0) : Int × Int)).1)) hM66 (i := 1) (j := 0) rfl rfl rfl rfl ?_
                refine stg rfl (v := .bool (decide ((((codesL l).getD k ((0, 0) : Int × Int)).1) < (((codesL l).getD i ((0, 0) : Int × Int)).1)))) (o_bin rfl rfl rfl) ?_
                refine stp (v := .bool (decide ((((codesL l).getD k ((0, 0) : Int × Int)).1) < (((codesL l).getD i ((0, 0) : Int × Int)).1)))) (o_pickF rfl rfl) ?_
                refine h68 _ _ ?_
                clear h68
                refine cndP rfl (fun c71 => ?_) (fun c71 => ?_)
                ·
                  refine h61 _ _ ?_
                  clear h61
                  refine stp (v := .int .i64 (k : Nat)) (o_mv rfl) ?_
                  refine stp (v := .int .i64 ((k : Nat) + 1)) (o_bin rfl rfl (v_add64 (by constructor <;> omega))) ?_
                  refine stp (v := .int .i64 ((k : Nat) + 1)) (o_mv rfl) ?_
                  refine h57 (k + 1) _ _ ⟨by first | rfl | exact v_int (by omega) | exact v_int (by simp) | exact v_int (by simp; omega), rfl, rfl, by first | rfl | exact v_int (by omega) | exact v_int (by simp) | exact v_int (by simp; omega), rfl, hM66.keep (by simp), by omega⟩ (by (try dsimp only); omega)
                ·
                  refine h67 _ _ ?_
                  clear h67
                  refine seq fun K72 h72 => ?_
                  intro wd e1 e2 e3 e4
                  have hd := Upd.same e1 e2 e3 e4 []
                  have hM73 := hM66.pure hd
                  clear e1 e2 e3 e4
                  refine ⟨none, ?_⟩
                  show vd _ _ _ _ _ _ _
                  have htwo := word_two (l := l) (i := i) (k := k) (by omega) (by omega) (by omega) hli hlk (by omega) (by omega) hfi hfk
                  refine dq (v := .pointer (some ⟨b64, 1, none⟩)) (o_fa rfl rfl) ?_
                  refine dq (v := .pointer (some ⟨b64, 0, none⟩)) (o_fa rfl rfl) ?_
                  refine dq (v := .pointer (some ⟨b19, 0, none⟩)) (o_fa rfl rfl) ?_
                  refine dq (v := .pointer (some ⟨b19, 1, none⟩)) (o_fa rfl rfl) ?_
                  refine dqld rfl (trivial) (v := .int .u32 (((codesL l).getD i ((0, 0) : Int × Int)).2)) ((hM73.at (i := 1) (j := 0) rfl rfl).cell 1) ?_
                  refine dqld rfl (trivial) (v := .int .i64 (((codesL l).getD i ((0, 0) : Int × Int)).1)) ((hM73.at (i := 1) (j := 0) rfl rfl).cell 0) ?_
                  refine dqld rfl (trivial) (v := .int .i64 (((codesL l).getD k ((0, 0) : Int × Int)).1)) ((hM73.at (i := 2) (j := 0) rfl rfl).cell 0) ?_
                  refine dq (v := .int .i64 (dk - di : Nat)) (o_bin rfl rfl ((v_sub64 (by omega)).trans (v_int (by omega)))) ?_
                  refine dl (m_ld (v := .int .u32 (((codesL l).getD k ((0, 0) : Int × Int)).2)) hM73 (i := 2) (j := 0) rfl rfl rfl rfl ?_)
                  refine ⟨rfl, ?_⟩
                  refine dq (v := .int .u32 (Wk / 2 ^ (dk - di) : Nat)) (o_shr rfl rfl (by omega) (shr_at hk2 rfl (by omega))) ?_
                  refine dq (v := .bool (decide (((Wk / 2 ^ (dk - di) : Nat) : Int) = (((codesL l).getD i ((0, 0) : Int × Int)).2)))) (o_bin rfl rfl rfl) ?_
                  refine dq (v := .bool (decide (((Wk / 2 ^ (dk - di) : Nat) : Int) = (((codesL l).getD i ((0, 0) : Int × Int)).2)))) (o_mv rfl) ?_
                  refine dsplitP rfl (fun c74 => absurd c74 (fun h => htwo.1 (by omega))) (fun c74 => ?_)
                  refine dqg rfl (v := .pointer (some ⟨b64, 0, none⟩)) (o_fa rfl rfl) ?_
                  refine dqg rfl (v := .pointer (some ⟨b19, 0, none⟩)) (o_fa rfl rfl) ?_
                  refine dqgyes rfl rfl ?_
                  refine dqld rfl (trivial) (v := .int .i64 (((codesL l).getD i ((0, 0) : Int × Int)).1)) ((hM73.at (i := 1) (j := 0) rfl rfl).cell 0) ?_
                  refine dgyesl rfl ?_
                  refine dl (m_ld (v := .int .i64 (((codesL l).getD k ((0, 0) : Int × Int)).1)) hM73 (i := 2) (j := 0) rfl rfl rfl rfl ?_)
                  refine ⟨rfl, ?_⟩
                  refine dqg rfl (v := .bool (decide ((((codesL l).getD k ((0, 0) : Int × Int)).1) = (((codesL l).getD i ((0, 0) : Int × Int)).1)))) (o_bin rfl rfl rfl) ?_
                  refine dqg rfl (v := .bool (decide ((((codesL l).getD k ((0, 0) : Int × Int)).1) = (((codesL l).getD i ((0, 0) : Int × Int)).1)))) (o_mv rfl) ?_
                  refine dsplitP rfl (fun c75 => ?_) (fun c75 => ?_)
                  ·
                    refine dqg rfl (v := .int .i64 (i : Nat)) (o_mv rfl) ?_
                    refine dqg rfl (v := .int .i64 (k : Nat)) (o_mv rfl) ?_
                    refine dqg rfl (v := .bool (decide (((i : Nat) : Int) < (k : Nat)))) (o_bin rfl rfl rfl) ?_
                    refine dqg rfl (v := .pointer (some ⟨b19, 1, none⟩)) (o_fa rfl rfl) ?_
                    refine dqg rfl (v := .pointer (some ⟨b64, 1, none⟩)) (o_fa rfl rfl) ?_
                    refine dqgyes rfl rfl ?_
                    refine dqld rfl (trivial) (v := .int .u32 (((codesL l).getD k ((0, 0) : Int × Int)).2)) ((hM73.at (i := 2) (j := 0) rfl rfl).cell 1) ?_
                    refine dgyesl rfl ?_
                    refine dl (m_ld (v := .int .u32 (((codesL l).getD i ((0, 0) : Int × Int)).2)) hM73 (i := 1) (j := 0) rfl rfl rfl rfl ?_)
                    refine ⟨rfl, ?_⟩
                    refine dqg rfl (v := .bool (decide ((((codesL l).getD i ((0, 0) : Int × Int)).2) < (((codesL l).getD k ((0, 0) : Int × Int)).2)))) (o_bin rfl rfl rfl) ?_
                    refine dqg rfl (v := .bool (decide (¬ (decide (((i : Nat) : Int) < (k : Nat))) = (decide ((((codesL l).getD i ((0, 0) : Int × Int)).2) < (((codesL l).getD k ((0, 0) : Int × Int)).2)) : Bool)))) (o_beq rfl rfl (by simp)) ?_
                    refine dqg rfl (v := .bool (decide (¬ (decide (((i : Nat) : Int) < (k : Nat))) = (decide ((((codesL l).getD i ((0, 0) : Int × Int)).2) < (((codesL l).getD k ((0, 0) : Int × Int)).2)) : Bool)))) (o_pickT rfl rfl) ?_
                    refine dq (v := .bool (decide (¬ (decide (((i : Nat) : Int) < (k : Nat))) = (decide ((((codesL l).getD i ((0, 0) : Int × Int)).2) < (((codesL l).getD k ((0, 0) : Int × Int)).2)) : Bool)))) (o_pickF rfl rfl) ?_
                    refine h72 _ _ ?_
                    clear h72
                    refine cndP rfl (fun c76 => absurd c76 (fun h => h (by rw [decide_eq_decide]; have := htwo.2 (by omega); omega))) (fun c76 => ?_)
                    refine h61 _ _ ?_
                    clear h61
                    refine stp (v := .int .i64 (k : Nat)) (o_mv rfl) ?_
                    refine stp (v := .int .i64 ((k : Nat) + 1)) (o_bin rfl rfl (v_add64 (by constructor <;> omega))) ?_
                    refine stp (v := .int .i64 ((k : Nat) + 1)) (o_mv rfl) ?_
                    refine h57 (k + 1) _ _ ⟨by first | rfl | exact v_int (by omega) | exact v_int (by simp) | exact v_int (by simp; omega), rfl, rfl, by first | rfl | exact v_int (by omega) | exact v_int (by simp) | exact v_int (by simp; omega), rfl, hM73.keep (by simp), by omega⟩ (by (try dsimp only); omega)
                  ·
                    refine dgno rfl (by simp) ?_
                    refine dgno rfl (by simp) ?_
                    refine dgno rfl (by simp) ?_
                    refine dgno rfl (by simp) ?_
                    refine dgno rfl (by simp) ?_
                    refine dqgno rfl (by simp) ?_
                    refine dgnol rfl (by simp) ?_
                    refine dgno rfl (by simp) ?_
                    refine dgno rfl (by simp) ?_
                    refine dqg rfl (v := .bool false) (o_pickF rfl rfl) ?_
                    refine dq (v := .bool false) (o_pickF rfl rfl) ?_
                    refine h72 _ _ ?_
                    clear h72
                    refine cndF rfl ?_
                    refine h61 _ _ ?_
                    clear h61
                    refine stp (v := .int .i64 (k : Nat)) (o_mv rfl) ?_
                    refine stp (v := .int .i64 ((k : Nat) + 1)) (o_bin rfl rfl (v_add64 (by constructor <;> omega))) ?_
                    refine stp (v := .int .i64 ((k : Nat) + 1)) (o_mv rfl) ?_
                    refine h57 (k + 1) _ _ ⟨by first | rfl | exact v_int (by omega) | exact v_int (by simp) | exact v_int (by simp; omega), rfl, rfl, by first | rfl | exact v_int (by omega) | exact v_int (by simp) | exact v_int (by simp; omega), rfl, hM73.keep (by simp), by omega⟩ (by (try dsimp only); omega)
          ·
            refine h16 _ _ ?_
            clear h16
            refine stp (v := .int .i64 (i : Nat)) (o_mv rfl) ?_
            refine stp (v := .int .i64 ((i : Nat) + 1)) (o_bin rfl rfl (v_add64 (by constructor <;> omega))) ?_
            refine stp (v := .int .i64 ((i : Nat) + 1)) (o_mv rfl) ?_
            refine h12 (i + 1) _ _ ⟨by first | rfl | exact v_int (by omega) | exact v_int (by simp) | exact v_int (by simp; omega), rfl, rfl, hM56.keep (by simp), by omega⟩ (by (try dsimp only); omega)
    ·
      refine h9 _ _ ?_
      clear h9
      refine seq fun K77 h77 => ?_
      refine m_call (works_ok w11) rfl fun v78 w78 ⟨hr78, hu78⟩ => ?_
      have hM78 : Mem w [] w78 [rs3] := hM11.pure hu78
      subst hr78
      refine stp (v := .bool true) (o_mv rfl) ?_
      refine h77 _ _ ?_
      clear h77
      refine ⟨(.bool true), rfl, ?_⟩
      exact ⟨by first | rfl | simp, hM78.upd⟩

theorem HuffPrefix_ok (x : Value) (l : List Int) (w : World) (hx : RdE i64V w x l) (hq : ∀ c ∈ l, inK .i64 c) (hl : l.length * 8 ≤ 140737488351232) : Calls Try.prog 10 [x].toArray w (Rt fun r w' => r = .bool true ∧ Upd [] w w') := by
  by_cases h : (codes l).2 = 0
  · exact HuffPrefix_yes x l w hx hq hl h
  · exact HuffPrefix_no x l w hx hq hl h
