/- The header: runs of lengths. -/
import Derived.Test.YtojnkjnebejodaaS12
import Derived.Test.YtojnkjnebejodaaK1
namespace Go.Proofs.Ytojnkjnebejodaa.E
open Go
def runG (l : List Int) (x : Int) : Nat → Nat → Nat
  | i, 0 => i
  | i, n + 1 => if l.getD i 0 = x then runG l x (i + 1) n else i
/-- the end of the run at i -/
def runK (l : List Int) (i : Nat) : Nat := runG l (l.getD i 0) i (l.length - i)
def IsRun (l : List Int) (i k : Nat) : Prop := i < k ∧ k ≤ l.length ∧ (∀ q, i ≤ q → q < k → l.getD q 0 = l.getD i 0) ∧ (k = l.length ∨ ¬ l.getD k 0 = l.getD i 0)
theorem runG_spec (l : List Int) (x : Int) : ∀ n i, i + n = l.length → i ≤ runG l x i n ∧ runG l x i n ≤ l.length ∧ (∀ q, i ≤ q → q < runG l x i n → l.getD q 0 = x) ∧ (runG l x i n = l.length ∨ ¬ l.getD (runG l x i n) 0 = x)
  | 0, i, h => by
    unfold runG
    exact ⟨Nat.le_refl _, by omega, fun q h1 h2 => by omega, .inl (by omega)⟩
  | n + 1, i, h => by
    unfold runG
    by_cases c : l.getD i 0 = x
    · rw [if_pos c]
      obtain ⟨h1, h2, h3, h4⟩ := runG_spec l x n (i + 1) (by omega)
      refine ⟨by omega, h2, fun q k1 k2 => ?_, h4⟩
      by_cases e : q = i
      · rw [e]; exact c
      · exact h3 q (by omega) k2
    · rw [if_neg c]
      exact ⟨Nat.le_refl _, by omega, fun q h1 h2 => by omega, .inr c⟩
theorem runK_spec {l : List Int} {i : Nat} (h : i < l.length) : IsRun l i (runK l i) := by
  obtain ⟨h1, h2, h3, h4⟩ := runG_spec l (l.getD i 0) (l.length - i) i (by omega)
  refine ⟨?_, h2, h3, h4⟩
  rcases Nat.lt_or_ge i (runK l i) with c | c
  · exact c
  · exfalso
    have e : runG l (l.getD i 0) i (l.length - i) = i := by unfold runK at c; omega
    rw [e] at h4
    rcases h4 with h4 | h4
    · omega
    · exact h4 rfl
theorem run_uniq {l : List Int} {i k m : Nat} (h : IsRun l i k) (h2 : IsRun l i m) : k = m := by
  obtain ⟨a1, a2, a3, a4⟩ := h
  obtain ⟨b1, b2, b3, b4⟩ := h2
  rcases Nat.lt_or_ge k m with c | c
  · rcases a4 with a4 | a4
    · omega
    · exact absurd (b3 k (by omega) c) a4
  · rcases Nat.lt_or_ge m k with d | d
    · rcases b4 with b4 | b4
      · omega
      · exact absurd (a3 m (by omega) d) b4
    · omega
/-- the bytes of the lengths from i on -/
def hdrE (l : List Int) (i : Nat) : List UInt8 :=
  if h : i < l.length then (if runK l i = l.length ∧ l.getD i 0 = 0 then [] else putI ((runK l i : Nat) - (i : Nat)) ++ [(l.getD i 0).toNat.toUInt8] ++ hdrE l (runK l i)) else []
termination_by l.length - i
decreasing_by have := runK_spec h; have := this.1; omega
theorem hdrE_end {l : List Int} {i : Nat} (h : ¬ i < l.length) : hdrE l i = [] := by rw [hdrE, dif_neg h]
theorem hdrE_zero {l : List Int} {i k : Nat} (hr : IsRun l i k) (h : k = l.length) (h0 : l.getD i 0 = 0) : hdrE l i = [] := by
  have hi : i < l.length := by have := hr.1; have := hr.2.1; omega
  have e := run_uniq (runK_spec hi) hr
  rw [hdrE, dif_pos hi, if_pos ⟨by omega, h0⟩]
theorem hdrE_run {l : List Int} {i k : Nat} (hr : IsRun l i k) (h : ¬ k = l.length ∨ ¬ l.getD i 0 = 0) : hdrE l i = putI ((k : Nat) - (i : Nat)) ++ [(l.getD i 0).toNat.toUInt8] ++ hdrE l k := by
  have hi : i < l.length := by have := hr.1; have := hr.2.1; omega
  have e := run_uniq (runK_spec hi) hr
  rw [hdrE, dif_pos hi, e, if_neg (fun k => h.elim (fun h => h k.1) (fun h => h k.2))]

/-- huff.header -/
theorem header_ok (x : Value) (l : List Int) (w : World) (hx : RdE i64V w x l) (hl : l.length ≤ 256) (hB : inB 0 15 l = true) : Calls Try.prog 57 [x].toArray w (Rt fun r w' => ∃ rs, SlE byteV 5 r (hdrE l 0 ++ [0]) rs ∧ Mem w [] w' [rs]) := by
  have hM0 : Mem w [] w [] := Mem.nil w []
  refine calls_vc mixed Try.func57 rfl C57 (by simp [Try.ntmps57]) ?_
  refine seq fun K1 h1 => ?_
  refine stp (v := .slice none 0 0) (o_mv rfl) ?_
  refine h1 _ _ ?_
  clear h1
  refine seq fun K2 h2 => ?_
  refine stp (v := .slice none 0 0) (o_mv rfl) ?_
  refine h2 _ _ ?_
  clear h2
  refine seq fun K3 h3 => ?_
  refine seq fun K4 h4 => ?_
  refine stp (v := .int .i64 0) (o_mv rfl) ?_
  refine h4 _ _ ?_
  clear h4
  have hM5 : Mem w [] w [[]] := hM0.addNil
  have hs5 : SlE byteV 5 (.slice none 0 0) [] [] := Sl.nil 1 5
  refine lp (n := fun _ _ => False) (ι := (Nat) × (List UInt8) × (Value) × (List Ent)) (fun ⟨i, lo, y3_, r3_⟩ f w' => f 3 = y3_ ∧ f 4 = .int .i64 (i : Nat) ∧ f 0 = x ∧ Mem w [] w' [r3_] ∧ (i ≤ l.length) ∧ (lo.length ≤ 10 * i) ∧ (lo ++ hdrE l i = hdrE l 0) ∧ (SlE byteV 5 y3_ (lo) r3_)) (fun ⟨i, lo, y3_, r3_⟩ => l.length - i) (0, [], ((.slice none 0 0)), ([])) ?_ ?_
  · exact ⟨rfl, by first | rfl | exact v_int (by omega) | exact v_int (by simp) | exact v_int (by simp; omega), rfl, hM5, by omega, by simp, by simp, by first | exact hs5 | simpa using hs5⟩
  · rintro ⟨i, lo, y3_, r3_⟩ f w6 ⟨e6_3, e6_4, e6_0, hM6, hi, hlo, hE, hy3_⟩ K7 h7
    obtain ⟨frm, rfl⟩ : ∃ frm, f = (upd (upd (upd frm 3 (y3_)) 4 (.int .i64 (i : Nat))) 0 (x)) := ⟨f, by rw [upd_self e6_3, upd_self e6_4, upd_self e6_0]⟩
    clear e6_3 e6_4 e6_0
    refine seq fun K8 h8 => ?_
    refine seq fun K9 h9 => ?_
    refine stp (v := .int .i64 (i : Nat)) (o_mv rfl) ?_
    refine stp (v := x) (o_mv rfl) ?_
    refine stp (v := .int .i64 (l.length : Nat)) (o_lenR (hx.upd hM6.upd) rfl rfl) ?_
    refine stp (v := .bool (decide (((i : Nat) : Int) < (l.length : Nat)))) (o_bin rfl rfl rfl) ?_
    refine h9 _ _ ?_
    clear h9
    refine cndP rfl (fun c10 => ?_) (fun c10 => ?_)
    ·
      refine h8 _ _ ?_
      clear h8
      refine seq fun K11 h11 => ?_
      refine stp (v := .int .i64 (i : Nat)) (o_mv rfl) ?_
      refine stp (v := .int .i64 (i : Nat)) (o_mv rfl) ?_
      refine h11 _ _ ?_
      clear h11
      refine seq fun K12 h12 => ?_
      refine lp (n := fun _ _ => False) (ι := (Nat)) (fun k f w' => f 5 = .int .i64 (k : Nat) ∧ f 0 = x ∧ f 3 = y3_ ∧ f 4 = .int .i64 (i : Nat) ∧ Mem w [] w' [r3_] ∧ (i ≤ k ∧ k ≤ l.length ∧ (k = i → i < l.length)) ∧ (∀ q, i ≤ q → q < k → l.getD q 0 = l.getD i 0)) (fun k => l.length - k) (i) ?_ ?_
      · exact ⟨by first | rfl | exact v_int (by omega) | exact v_int (by simp) | exact v_int (by simp; omega), rfl, rfl, by first | rfl | exact v_int (by omega) | exact v_int (by simp) | exact v_int (by simp; omega), hM6, by omega, fun q h1 h2 => by omega⟩
      · rintro k f w13 ⟨e13_5, e13_0, e13_3, e13_4, hM13, hk, hq⟩ K14 h14
        obtain ⟨frm, rfl⟩ : ∃ frm, f = (upd (upd (upd (upd frm 5 (.int .i64 (k : Nat))) 0 (x)) 3 (y3_)) 4 (.int .i64 (i : Nat))) := ⟨f, by rw [upd_self e13_5, upd_self e13_0, upd_self e13_3, upd_self e13_4]⟩
        clear e13_5 e13_0 e13_3 e13_4
        refine seq fun K15 h15 => ?_
        refine seq fun K16 h16 => ?_
        intro wd e1 e2 e3 e4
        have hd := Upd.same e1 e2 e3 e4 []
        have hM17 := hM13.pure hd
        clear e1 e2 e3 e4
        refine ⟨none, ?_⟩
        show vd _ _ _ _ _ _ _
        refine dq (v := .int .i64 (k : Nat)) (o_mv rfl) ?_
        refine dq (v := x) (o_mv rfl) ?_
        refine dq (v := .int .i64 (l.length : Nat)) (o_lenR (hx.upd hM17.upd) rfl rfl) ?_
        refine dq (v := .bool (decide (((k : Nat) : Int) < (l.length : Nat)))) (o_bin rfl rfl rfl) ?_
        refine dq (v := .bool (decide (((k : Nat) : Int) < (l.length : Nat)))) (o_mv rfl) ?_
        refine dsplitP rfl (fun c18 => ?_) (fun c18 => ?_)
        ·
          refine dqg rfl (v := x) (o_mv rfl) ?_
          refine dqg rfl (v := .int .i64 (k : Nat)) (o_mv rfl) ?_
          refine dgyes rfl rfl (dqp (m_idxE 0 (j := k) (hx.upd hM17.upd) rfl rfl (by omega) fun b19 o19 hp19 => ?_))
          show vd _ _ _ _ _ _ _
          refine dqg rfl (v := x) (o_mv rfl) ?_
          refine dqg rfl (v := .int .i64 (i : Nat)) (o_mv rfl) ?_
          refine dgyes rfl rfl (dqp (m_idxE 0 (j := i) (hx.upd hM17.upd) rfl rfl (by omega) fun b20 o20 hp20 => ?_))
          show vd _ _ _ _ _ _ _
          refine dqgyes rfl rfl ?_
          refine dqld rfl (trivial) (v := .int .i64 (l.getD i 0)) (hp20) ?_
          refine dgyesl rfl ?_
          refine dl (ld (v := .int .i64 (l.getD k 0)) rfl (hp19) ?_)
          refine ⟨rfl, ?_⟩
          refine dqg rfl (v := .bool (decide ((l.getD k 0) = (l.getD i 0)))) (o_bin rfl rfl rfl) ?_
          refine dq (v := .bool (decide ((l.getD k 0) = (l.getD i 0)))) (o_pickT rfl rfl) ?_
          refine h16 _ _ ?_
          clear h16
          refine cndP rfl (fun c21 => ?_) (fun c21 => ?_)
          ·
            refine h15 _ _ ?_
            clear h15
            refine stp (v := .int .i64 (k : Nat)) (o_mv rfl) ?_
            refine stp (v := .int .i64 ((k : Nat) + 1)) (o_bin rfl rfl (v_add64 (by constructor <;> omega))) ?_
            refine stp (v := .int .i64 ((k : Nat) + 1)) (o_mv rfl) ?_
            refine h14 (k + 1) _ _ ⟨by first | rfl | exact v_int (by omega) | exact v_int (by simp) | exact v_int (by simp; omega), rfl, rfl, by first | rfl | exact v_int (by omega) | exact v_int (by simp) | exact v_int (by simp; omega), hM17, by omega, fun q h1 h2 => by
              by_cases e : q = k
              · subst e; assumption
              · exact hq q h1 (by omega)⟩ (by (try dsimp only); omega)
          ·
            refine h12 _ _ ?_
            clear h12
            refine seq fun K22 h22 => ?_
            refine seq fun K23 h23 => ?_
            refine stp (v := .int .i64 (k : Nat)) (o_mv rfl) ?_
            refine stp (v := x) (o_mv rfl) ?_
            refine stp (v := .int .i64 (l.length : Nat)) (o_lenR (hx.upd hM17.upd) rfl rfl) ?_
            refine stp (v := .bool (decide (((k : Nat) : Int) < (l.length : Nat)))) (o_bin rfl rfl rfl) ?_
            refine stp (v := .bool (decide (((k : Nat) : Int) < (l.length : Nat)))) (o_mv rfl) ?_
            refine splitP rfl (fun c24 => ?_) (fun c24 => ?_)
            ·
              refine gno rfl (by simp) ?_
              refine gno rfl (by simp) ?_
              refine gno rfl (by simp) ?_
              refine gnol rfl (by simp) ?_
              refine gno rfl (by simp) ?_
              refine stp (v := .bool true) (o_pickT rfl rfl) ?_
              refine h23 _ _ ?_
              clear h23
              refine cndT rfl ?_
              refine seq fun K25 h25 => ?_
              refine stp (v := y3_) (o_mv rfl) ?_
              refine stp (v := .int .i64 (k : Nat)) (o_mv rfl) ?_
              refine stp (v := .int .i64 (i : Nat)) (o_mv rfl) ?_
              refine stp (v := .int .i64 ((k : Nat) - (i : Nat))) (o_bin rfl rfl (v_sub64 (by constructor <;> omega))) ?_
              refine m_call (Put_ok ((k : Nat) - (i : Nat)) (by simp only [inK]; omega) wd) rfl fun v26 w26 ⟨rs26, hs26, hm26⟩ => ?_
              have hM26 : Mem w [] w26 [r3_, rs26] := hM17.add hm26
              have hn26 := putI_len (v := (k : Nat) - (i : Nat)) (by omega)
              refine m_appE hM26 (i := 0) rfl hy3_ rfl rfl (hs26.rd hM26 (i := 1) rfl) (by first | omega | (simp; omega)) (by omega) fun v27 w27 r27 (hs27 : SlE byteV 5 v27 (lo ++ (putI ((k : Nat) - (i : Nat)))) r27) (hM27 : Mem w [] w27 [r27, rs26]) => ?_
              refine stp (v := v27) (o_mv rfl) ?_
              refine h25 _ _ ?_
              clear h25
              refine stp (v := v27) (o_mv rfl) ?_
              refine stp (v := x) (o_mv rfl) ?_
              refine stp (v := .int .i64 (i : Nat)) (o_mv rfl) ?_
              refine m_idxE 0 (j := i) (hx.upd hM27.upd) rfl rfl (by omega) fun b28 o28 hp28 => ?_
              refine ld (v := .int .i64 (l.getD i 0)) rfl (hp28) ?_
              have hbi := inB_iff.1 hB i (by omega)
              refine stp (v := .int .u8 (l.getD i 0)) (o_conv rfl (v_same (by simp only [inK]; omega))) ?_
              refine m_app1 (E := byteV) (q := (l.getD i 0).toNat.toUInt8) hM27 (i := 0) rfl hs27 rfl (by simp) (byteV_of (by omega) (by omega)) (by rw [List.length_append]; omega) (by omega) fun v29 w29 r29 u29 (hs29 : SlE byteV 5 v29 ((lo ++ (putI ((k : Nat) - (i : Nat)))) ++ [(l.getD i 0).toNat.toUInt8]) r29) (hM29 : Mem w [] w29 [r29, rs26]) => ?_
              refine stp (v := v29) (o_mv rfl) ?_
              refine h22 _ _ ?_
              clear h22
              refine stp (v := .int .i64 (k : Nat)) (o_mv rfl) ?_
              refine stp (v := .int .i64 (k : Nat)) (o_mv rfl) ?_
              refine h7 (k, (lo ++ (putI ((k : Nat) - (i : Nat)))) ++ [(l.getD i 0).toNat.toUInt8], v29, r29) _ _ ⟨rfl, by first | rfl | exact v_int (by omega) | exact v_int (by simp) | exact v_int (by simp; omega), rfl, hM29.keep (by simp), by omega, (by have hki : ¬ k = i := (fun e => (by first | omega | (subst e; exact absurd rfl (by assumption)))); rw [List.length_append, List.length_append, List.length_singleton]; omega), by
                have hki : ¬ k = i := (fun e => (by first | omega | (subst e; exact absurd rfl (by assumption))))
                have hr : IsRun l i k := ⟨by omega, by omega, hq, .inr (by assumption)⟩
                rw [hdrE_run hr (by omega), ← List.append_assoc, ← List.append_assoc] at hE
                exact hE, by first | exact hs29 | simpa using hs29⟩ (by (try dsimp only); have hki : ¬ k = i := (fun e => (by first | omega | (subst e; exact absurd rfl (by assumption)))); omega)
            ·
              refine stg rfl (v := x) (o_mv rfl) ?_
              refine stg rfl (v := .int .i64 (i : Nat)) (o_mv rfl) ?_
              refine gyes rfl rfl (m_idxE 0 (j := i) (hx.upd hM17.upd) rfl rfl (by omega) fun b30 o30 hp30 => ?_)
              refine gyesl rfl ?_
              refine ld (v := .int .i64 (l.getD i 0)) rfl (hp30) ?_
              refine stg rfl (v := .bool (decide (¬ (l.getD i 0) = 0))) (o_bin rfl rfl v_neq) ?_
              refine stp (v := .bool (decide (¬ (l.getD i 0) = 0))) (o_pickF rfl rfl) ?_
              refine h23 _ _ ?_
              clear h23
              refine cndP rfl (fun c31 => ?_) (fun c31 => ?_)
              ·
                refine seq fun K32 h32 => ?_
                refine stp (v := y3_) (o_mv rfl) ?_
                refine stp (v := .int .i64 (k : Nat)) (o_mv rfl) ?_
                refine stp (v := .int .i64 (i : Nat)) (o_mv rfl) ?_
                refine stp (v := .int .i64 ((k : Nat) - (i : Nat))) (o_bin rfl rfl (v_sub64 (by constructor <;> omega))) ?_
                refine m_call (Put_ok ((k : Nat) - (i : Nat)) (by simp only [inK]; omega) wd) rfl fun v33 w33 ⟨rs33, hs33, hm33⟩ => ?_
                have hM33 : Mem w [] w33 [r3_, rs33] := hM17.add hm33
                have hn33 := putI_len (v := (k : Nat) - (i : Nat)) (by omega)
                refine m_appE hM33 (i := 0) rfl hy3_ rfl rfl (hs33.rd hM33 (i := 1) rfl) (by first | omega | (simp; omega)) (by omega) fun v34 w34 r34 (hs34 : SlE byteV 5 v34 (lo ++ (putI ((k : Nat) - (i : Nat)))) r34) (hM34 : Mem w [] w34 [r34, rs33]) => ?_
                refine stp (v := v34) (o_mv rfl) ?_
                refine h32 _ _ ?_
                clear h32
                refine stp (v := v34) (o_mv rfl) ?_
                refine stp (v := x) (o_mv rfl) ?_
                refine stp (v := .int .i64 (i : Nat)) (o_mv rfl) ?_
                refine m_idxE 0 (j := i) (hx.upd hM34.upd) rfl rfl (by omega) fun b35 o35 hp35 => ?_
                refine ld (v := .int .i64 (l.getD i 0)) rfl (hp35) ?_
                have hbi := inB_iff.1 hB i (by omega)
                refine stp (v := .int .u8 (l.getD i 0)) (o_conv rfl (v_same (by simp only [inK]; omega))) ?_
                refine m_app1 (E := byteV) (q := (l.getD i 0).toNat.toUInt8) hM34 (i := 0) rfl hs34 rfl (by simp) (byteV_of (by omega) (by omega)) (by rw [List.length_append]; omega) (by omega) fun v36 w36 r36 u36 (hs36 : SlE byteV 5 v36 ((lo ++ (putI ((k : Nat) - (i : Nat)))) ++ [(l.getD i 0).toNat.toUInt8]) r36) (hM36 : Mem w [] w36 [r36, rs33]) => ?_
                refine stp (v := v36) (o_mv rfl) ?_
                refine h22 _ _ ?_
                clear h22
                refine stp (v := .int .i64 (k : Nat)) (o_mv rfl) ?_
                refine stp (v := .int .i64 (k : Nat)) (o_mv rfl) ?_
                refine h7 (k, (lo ++ (putI ((k : Nat) - (i : Nat)))) ++ [(l.getD i 0).toNat.toUInt8], v36, r36) _ _ ⟨rfl, by first | rfl | exact v_int (by omega) | exact v_int (by simp) | exact v_int (by simp; omega), rfl, hM36.keep (by simp), by omega, (by have hki : ¬ k = i := (fun e => (by first | omega | (subst e; exact absurd rfl (by assumption)))); rw [List.length_append, List.length_append, List.length_singleton]; omega), by
                  have hki : ¬ k = i := (fun e => (by first | omega | (subst e; exact absurd rfl (by assumption))))
                  have hr : IsRun l i k := ⟨by omega, by omega, hq, .inr (by assumption)⟩
                  rw [hdrE_run hr (by omega), ← List.append_assoc, ← List.append_assoc] at hE
                  exact hE, by first | exact hs36 | simpa using hs36⟩ (by (try dsimp only); have hki : ¬ k = i := (fun e => (by first | omega | (subst e; exact absurd rfl (by assumption)))); omega)
              ·
                refine h22 _ _ ?_
                clear h22
                refine stp (v := .int .i64 (k : Nat)) (o_mv rfl) ?_
                refine stp (v := .int .i64 (k : Nat)) (o_mv rfl) ?_
                refine h7 (k, lo, y3_, r3_) _ _ ⟨rfl, by first | rfl | exact v_int (by omega) | exact v_int (by simp) | exact v_int (by simp; omega), rfl, hM17.keep (by simp), by omega, by omega, by
                  have hr : IsRun l i k := ⟨by omega, by omega, hq, .inl (by omega)⟩
                  rw [hdrE_zero hr (by omega) (by omega)] at hE
                  rw [hdrE_end (by omega)]; exact hE, by first | exact hy3_ | simpa using hy3_⟩ (by (try dsimp only); omega)
        ·
          refine dgno rfl (by simp) ?_
          refine dgno rfl (by simp) ?_
          refine dgno rfl (by simp) ?_
          refine dgno rfl (by simp) ?_
          refine dgno rfl (by simp) ?_
          refine dgno rfl (by simp) ?_
          refine dqgno rfl (by simp) ?_
          refine dgnol rfl (by simp) ?_
          refine dgno rfl (by simp) ?_
          refine dq (v := .bool false) (o_pickF rfl rfl) ?_
          refine h16 _ _ ?_
          clear h16
          refine cndF rfl ?_
          refine h12 _ _ ?_
          clear h12
          refine seq fun K37 h37 => ?_
          refine seq fun K38 h38 => ?_
          refine stp (v := .int .i64 (k : Nat)) (o_mv rfl) ?_
          refine stp (v := x) (o_mv rfl) ?_
          refine stp (v := .int .i64 (l.length : Nat)) (o_lenR (hx.upd hM17.upd) rfl rfl) ?_
          refine stp (v := .bool (decide (((k : Nat) : Int) < (l.length : Nat)))) (o_bin rfl rfl rfl) ?_
          refine stp (v := .bool (decide (((k : Nat) : Int) < (l.length : Nat)))) (o_mv rfl) ?_
          refine splitP rfl (fun c39 => ?_) (fun c39 => ?_)
          ·
            refine gno rfl (by simp) ?_
            refine gno rfl (by simp) ?_
            refine gno rfl (by simp) ?_
            refine gnol rfl (by simp) ?_
            refine gno rfl (by simp) ?_
            refine stp (v := .bool true) (o_pickT rfl rfl) ?_
            refine h38 _ _ ?_
            clear h38
            refine cndT rfl ?_
            refine seq fun K40 h40 => ?_
            refine stp (v := y3_) (o_mv rfl) ?_
            refine stp (v := .int .i64 (k : Nat)) (o_mv rfl) ?_
            refine stp (v := .int .i64 (i : Nat)) (o_mv rfl) ?_
            refine stp (v := .int .i64 ((k : Nat) - (i : Nat))) (o_bin rfl rfl (v_sub64 (by constructor <;> omega))) ?_
            refine m_call (Put_ok ((k : Nat) - (i : Nat)) (by simp only [inK]; omega) wd) rfl fun v41 w41 ⟨rs41, hs41, hm41⟩ => ?_
            have hM41 : Mem w [] w41 [r3_, rs41] := hM17.add hm41
            have hn41 := putI_len (v := (k : Nat) - (i : Nat)) (by omega)
            refine m_appE hM41 (i := 0) rfl hy3_ rfl rfl (hs41.rd hM41 (i := 1) rfl) (by first | omega | (simp; omega)) (by omega) fun v42 w42 r42 (hs42 : SlE byteV 5 v42 (lo ++ (putI ((k : Nat) - (i : Nat)))) r42) (hM42 : Mem w [] w42 [r42, rs41]) => ?_
            refine stp (v := v42) (o_mv rfl) ?_
            refine h40 _ _ ?_
            clear h40
            refine stp (v := v42) (o_mv rfl) ?_
            refine stp (v := x) (o_mv rfl) ?_
            refine stp (v := .int .i64 (i : Nat)) (o_mv rfl) ?_
            refine m_idxE 0 (j := i) (hx.upd hM42.upd) rfl rfl (by omega) fun b43 o43 hp43 => ?_
            refine ld (v := .int .i64 (l.getD i 0)) rfl (hp43) ?_
            have hbi := inB_iff.1 hB i (by omega)
            refine stp (v := .int .u8 (l.getD i 0)) (o_conv rfl (v_same (by simp only [inK]; omega))) ?_
            refine m_app1 (E := byteV) (q := (l.getD i 0).toNat.toUInt8) hM42 (i := 0) rfl hs42 rfl (by simp) (byteV_of (by omega) (by omega)) (by rw [List.length_append]; omega) (by omega) fun v44 w44 r44 u44 (hs44 : SlE byteV 5 v44 ((lo ++ (putI ((k : Nat) - (i : Nat)))) ++ [(l.getD i 0).toNat.toUInt8]) r44) (hM44 : Mem w [] w44 [r44, rs41]) => ?_
            refine stp (v := v44) (o_mv rfl) ?_
            refine h37 _ _ ?_
            clear h37
            refine stp (v := .int .i64 (k : Nat)) (o_mv rfl) ?_
            refine stp (v := .int .i64 (k : Nat)) (o_mv rfl) ?_
            refine h7 (k, (lo ++ (putI ((k : Nat) - (i : Nat)))) ++ [(l.getD i 0).toNat.toUInt8], v44, r44) _ _ ⟨rfl, by first | rfl | exact v_int (by omega) | exact v_int (by simp) | exact v_int (by simp; omega), rfl, hM44.keep (by simp), by omega, (by have hki : ¬ k = i := (fun e => (by first | omega | (subst e; exact absurd rfl (by assumption)))); rw [List.length_append, List.length_append, List.length_singleton]; omega), by
              have hki : ¬ k = i := (fun e => (by first | omega | (subst e; exact absurd rfl (by assumption))))
              have hr : IsRun l i k := ⟨by omega, by omega, hq, .inl (by omega)⟩
              rw [hdrE_run hr (by omega), ← List.append_assoc, ← List.append_assoc] at hE
              exact hE, by first | exact hs44 | simpa using hs44⟩ (by (try dsimp only); have hki : ¬ k = i := (fun e => (by first | omega | (subst e; exact absurd rfl (by assumption)))); omega)
          ·
            refine stg rfl (v := x) (o_mv rfl) ?_
            refine stg rfl (v := .int .i64 (i : Nat)) (o_mv rfl) ?_
            refine gyes rfl rfl (m_idxE 0 (j := i) (hx.upd hM17.upd) rfl rfl (by omega) fun b45 o45 hp45 => ?_)
            refine gyesl rfl ?_
            refine ld (v := .int .i64 (l.getD i 0)) rfl (hp45) ?_
            refine stg rfl (v := .bool (decide (¬ (l.getD i 0) = 0))) (o_bin rfl rfl v_neq) ?_
            refine stp (v := .bool (decide (¬ (l.getD i 0) = 0))) (o_pickF rfl rfl) ?_
            refine h38 _ _ ?_
            clear h38
            refine cndP rfl (fun c46 => ?_) (fun c46 => ?_)
            ·
              refine seq fun K47 h47 => ?_
              refine stp (v := y3_) (o_mv rfl) ?_
              refine stp (v := .int .i64 (k : Nat)) (o_mv rfl) ?_
              refine stp (v := .int .i64 (i : Nat)) (o_mv rfl) ?_
              refine stp (v := .int .i64 ((k : Nat) - (i : Nat))) (o_bin rfl rfl (v_sub64 (by constructor <;> omega))) ?_
              refine m_call (Put_ok ((k : Nat) - (i : Nat)) (by simp only [inK]; omega) wd) rfl fun v48 w48 ⟨rs48, hs48, hm48⟩ => ?_
              have hM48 : Mem w [] w48 [r3_, rs48] := hM17.add hm48
              have hn48 := putI_len (v := (k : Nat) - (i : Nat)) (by omega)
              refine m_appE hM48 (i := 0) rfl hy3_ rfl rfl (hs48.rd hM48 (i := 1) rfl) (by first | omega | (simp; omega)) (by omega) fun v49 w49 r49 (hs49 : SlE byteV 5 v49 (lo ++ (putI ((k : Nat) - (i : Nat)))) r49) (hM49 : Mem w [] w49 [r49, rs48]) => ?_
              refine stp (v := v49) (o_mv rfl) ?_
              refine h47 _ _ ?_
              clear h47
              refine stp (v := v49) (o_mv rfl) ?_
              refine stp (v := x) (o_mv rfl) ?_
              refine stp (v := .int .i64 (i : Nat)) (o_mv rfl) ?_
              refine m_idxE 0 (j := i) (hx.upd hM49.upd) rfl rfl (by omega) fun b50 o50 hp50 => ?_
              refine ld (v := .int .i64 (l.getD i 0)) rfl (hp50) ?_
              have hbi := inB_iff.1 hB i (by omega)
              refine stp (v := .int .u8 (l.getD i 0)) (o_conv rfl (v_same (by simp only [inK]; omega))) ?_
              refine m_app1 (E := byteV) (q := (l.getD i 0).toNat.toUInt8) hM49 (i := 0) rfl hs49 rfl (by simp) (byteV_of (by omega) (by omega)) (by rw [List.length_append]; omega) (by omega) fun v51 w51 r51 u51 (hs51 : SlE byteV 5 v51 ((lo ++ (putI ((k : Nat) - (i : Nat)))) ++ [(l.getD i 0).toNat.toUInt8]) r51) (hM51 : Mem w [] w51 [r51, rs48]) => ?_
              refine stp (v := v51) (o_mv rfl) ?_
              refine h37 _ _ ?_
              clear h37
              refine stp (v := .int .i64 (k : Nat)) (o_mv rfl) ?_
              refine stp (v := .int .i64 (k : Nat)) (o_mv rfl) ?_
              refine h7 (k, (lo ++ (putI ((k : Nat) - (i : Nat)))) ++ [(l.getD i 0).toNat.toUInt8], v51, r51) _ _ ⟨rfl, by first | rfl | exact v_int (by omega) | exact v_int (by simp) | exact v_int (by simp; omega), rfl, hM51.keep (by simp), by omega, (by have hki : ¬ k = i := (fun e => (by first | omega | (subst e; exact absurd rfl (by assumption)))); rw [List.length_append, List.length_append, List.length_singleton]; omega), by
                have hki : ¬ k = i := (fun e => (by first | omega | (subst e; exact absurd rfl (by assumption))))
                have hr : IsRun l i k := ⟨by omega, by omega, hq, .inl (by omega)⟩
                rw [hdrE_run hr (by omega), ← List.append_assoc, ← List.append_assoc] at hE
                exact hE, by first | exact hs51 | simpa using hs51⟩ (by (try dsimp only); have hki : ¬ k = i := (fun e => (by first | omega | (subst e; exact absurd rfl (by assumption)))); omega)
            ·
              refine h37 _ _ ?_
              clear h37
              refine stp (v := .int .i64 (k : Nat)) (o_mv rfl) ?_
              refine stp (v := .int .i64 (k : Nat)) (o_mv rfl) ?_
              refine h7 (k, lo, y3_, r3_) _ _ ⟨rfl, by first | rfl | exact v_int (by omega) | exact v_int (by simp) | exact v_int (by simp; omega), rfl, hM17.keep (by simp), by omega, by omega, by
                have hr : IsRun l i k := ⟨by omega, by omega, hq, .inl (by omega)⟩
                rw [hdrE_zero hr (by omega) (by omega)] at hE
                rw [hdrE_end (by omega)]; exact hE, by first | exact hy3_ | simpa using hy3_⟩ (by (try dsimp only); omega)
    ·
      refine h3 _ _ ?_
      clear h3
      refine seq fun K52 h52 => ?_
      refine stp (v := y3_) (o_mv rfl) ?_
      refine m_app1 (E := byteV) (q := 0) hM6 (i := 0) rfl hy3_ rfl (by simp) (rfl) (by omega) (by omega) fun v53 w53 r53 u53 (hs53 : SlE byteV 5 v53 (lo ++ [0]) r53) (hM53 : Mem w [] w53 [r53]) => ?_
      refine stp (v := v53) (o_mv rfl) ?_
      refine h52 _ _ ?_
      clear h52
      refine ⟨v53, rfl, ?_⟩
      rw [hdrE_end (by omega), List.append_nil] at hE
      exact ⟨_, by rw [← hE]; exact hs53, hM53.keep (by simp)⟩
