/- HuffLeast: what the law's own helpers do. -/
import Derived.Test.YtojnkjnebejodaaS9
import Derived.Test.YtojnkjnebejodaaH3
namespace Go.Proofs.Ytojnkjnebejodaa.E
open Go
def absm (c : Int) : Int := if c.tmod 1073741824 < 0 then 0 - c.tmod 1073741824 else c.tmod 1073741824
theorem absm_bd (c : Int) : 0 ≤ absm c ∧ absm c < 1073741824 := by
  have h1 := Int.tmod_lt_of_pos c (b := 1073741824) (by omega)
  have h2 := Int.lt_tmod_of_pos c (b := 1073741824) (by omega)
  unfold absm
  split <;> omega
def bentF (cs : List Int) : List Int := (cs.take 256).map absm
theorem bent_len (cs : List Int) : (bentF cs).length ≤ 256 := by unfold bentF; rw [List.length_map, List.length_take]; omega
theorem bent_bd (cs : List Int) (i : Nat) : 0 ≤ (bentF cs).getD i 0 ∧ (bentF cs).getD i 0 < 1073741824 := by
  rcases Nat.lt_or_ge i (bentF cs).length with h | h
  · have hm := getD_memG 0 h
    obtain ⟨x, _, hx⟩ := List.mem_map.1 (show _ ∈ (cs.take 256).map absm from hm)
    rw [← hx]; exact absm_bd _
  · rw [List.getD_eq_getElem?_getD, List.getElem?_eq_none h]
    exact ⟨Int.le_refl _, by decide⟩
theorem bent_step {cs : List Int} {i : Nat} (h : i < cs.length) {x : Int} (hx : x = absm (cs.getD i 0)) : (cs.take i).map absm ++ [x] = (cs.take (i + 1)).map absm := by
  rw [List.take_add_one, List.getElem?_eq_getElem h, List.map_append, hx, List.getD_eq_getElem?_getD, List.getElem?_eq_getElem h]; rfl
theorem bent_end {cs : List Int} {i : Nat} (h : i ≤ 256) (h2 : cs.length ≤ i ∨ 256 ≤ i) : (cs.take i).map absm = bentF cs := by
  unfold bentF
  rcases h2 with h2 | h2
  · rw [List.take_of_length_le h2, List.take_of_length_le (by omega)]
  · rw [show i = 256 by omega]
def usedF (cs : List Int) : Nat → Nat
  | 0 => 0
  | i + 1 => usedF cs i + if 0 < cs.getD i 0 then 1 else 0
theorem used_yes {cs : List Int} {i : Nat} (h : 0 < cs.getD i 0) : usedF cs (i + 1) = usedF cs i + 1 := by rw [usedF, if_pos h]
theorem used_no {cs : List Int} {i : Nat} (h : ¬ 0 < cs.getD i 0) : usedF cs (i + 1) = usedF cs i := by rw [usedF, if_neg h]; rfl
theorem used_le (cs : List Int) : ∀ i, usedF cs i ≤ i
  | 0 => Nat.le_refl _
  | i + 1 => by have := used_le cs i; rw [usedF]; split <;> omega
theorem krK_yes {l : List Int} {k s : Nat} (h : 0 < l.getD s 0 ∧ l.getD s 0 ≤ k) : krK l k (s + 1) = krK l k s + pw (l.getD s 0).toNat := by rw [krK, if_pos h]
theorem krK_no {l : List Int} {k s : Nat} (h : ¬ (0 < l.getD s 0 ∧ l.getD s 0 ≤ k)) : krK l k (s + 1) = krK l k s := by rw [krK, if_neg h]; rfl
theorem krK_le (l : List Int) (k : Nat) : ∀ s, krK l k s ≤ s * 32768
  | 0 => Nat.zero_le _
  | s + 1 => by
    rw [krK, Nat.succ_mul]
    refine Nat.add_le_add (krK_le l k s) ?_
    split
    · exact pow15 _
    · exact Nat.zero_le _

set_option maxRecDepth 100000 in
/-- winnowlaw4.bent -/
theorem bent_ok (x : Value) (l : List Int) (w : World) (hx : RdE i64V w x l) (hl : l.length ≤ 1152921504606846976) : Calls Try.prog 31 [x].toArray w (Rt fun r w' => ∃ rs, SlE i64V 2 r (bentF l) rs ∧ Mem w [] w' [rs]) := by
  have hM0 : Mem w [] w [] := Mem.nil w []
  refine calls_vc mixed Try.func31 rfl C31 (by simp [Try.ntmps31]) ?_
  refine seq fun K1 h1 => ?_
  refine stp (v := .slice none 0 0) (o_mv rfl) ?_
  refine h1 _ _ ?_
  clear h1
  refine seq fun K2 h2 => ?_
  refine stp (v := .slice none 0 0) (o_mv rfl) ?_
  refine h2 _ _ ?_
  clear h2
  refine seq fun K3 h3 => ?_
  refine seq fun K4 h4 => ?_
  refine stp (v := .int .i64 0) (o_mv rfl) ?_
  refine h4 _ _ ?_
  clear h4
  have hM5 : Mem w [] w [[]] := hM0.addNil
  have hs5 : SlE i64V 2 (.slice none 0 0) [] [] := Sl.nil 1 2
  refine lp (n := fun _ _ => False) (ι := (Nat) × (Value) × (List Ent)) (fun ⟨i, y3_, r3_⟩ f w' => f 3 = y3_ ∧ f 4 = .int .i64 (i : Nat) ∧ f 0 = x ∧ Mem w [] w' [r3_] ∧ (i ≤ l.length ∧ i ≤ 256) ∧ (SlE i64V 2 y3_ ((l.take i).map absm) r3_)) (fun ⟨i, y3_, r3_⟩ => l.length - i) (0, ((.slice none 0 0)), ([])) ?_ ?_
  · exact ⟨rfl, by first | rfl | exact v_int (by omega) | exact v_int (by simp) | exact v_int (by simp; omega), rfl, hM5, by omega, by first | exact hs5 | simpa using hs5⟩
  · rintro ⟨i, y3_, r3_⟩ f w6 ⟨e6_3, e6_4, e6_0, hM6, hi, hy3_⟩ K7 h7
    obtain ⟨frm, rfl⟩ : ∃ frm, f = (upd (upd (upd frm 3 (y3_)) 4 (.int .i64 (i : Nat))) 0 (x)) := ⟨f, by rw [upd_self e6_3, upd_self e6_4, upd_self e6_0]⟩
    clear e6_3 e6_4 e6_0
    refine seq fun K8 h8 => ?_
    refine seq fun K9 h9 => ?_
    refine stp (v := .int .i64 (i : Nat)) (o_mv rfl) ?_
    refine stp (v := x) (o_mv rfl) ?_
    refine stp (v := .int .i64 (l.length : Nat)) (o_lenR (hx.upd hM6.upd) rfl rfl) ?_
    refine stp (v := .bool (decide (((i : Nat) : Int) < (l.length : Nat)))) (o_bin rfl rfl rfl) ?_
    refine stp (v := .bool (decide (((i : Nat) : Int) < (l.length : Nat)))) (o_mv rfl) ?_
    refine splitP rfl (fun c10 => ?_) (fun c10 => ?_)
    ·
      refine stg rfl (v := .int .i64 (i : Nat)) (o_mv rfl) ?_
      refine stg rfl (v := .bool (decide (((i : Nat) : Int) < 256))) (o_bin rfl rfl rfl) ?_
      refine stp (v := .bool (decide (((i : Nat) : Int) < 256))) (o_pickT rfl rfl) ?_
      refine h9 _ _ ?_
      clear h9
      refine cndP rfl (fun c11 => ?_) (fun c11 => ?_)
      ·
        refine h8 _ _ ?_
        clear h8
        refine seq fun K12 h12 => ?_
        refine seq fun K13 h13 => ?_
        refine stp (v := x) (o_mv rfl) ?_
        refine stp (v := .int .i64 (i : Nat)) (o_mv rfl) ?_
        refine m_idxE 0 (j := i) (hx.upd hM6.upd) rfl rfl (by omega) fun b14 o14 hp14 => ?_
        refine ld (v := .int .i64 (l.getD i 0)) rfl (hp14) ?_
        have hb1 := Int.tmod_lt_of_pos (l.getD i 0) (b := 1073741824) (by omega)
        have hb2 := Int.lt_tmod_of_pos (l.getD i 0) (b := 1073741824) (by omega)
        have hlt : (List.map absm (l.take i)).length ≤ 256 := by rw [List.length_map, List.length_take]; omega
        refine stp (v := .int .i64 ((l.getD i 0).tmod 1073741824)) (o_rem rfl rfl (by omega) (rfl)) ?_
        refine stp (v := .int .i64 ((l.getD i 0).tmod 1073741824)) (o_mv rfl) ?_
        refine h13 _ _ ?_
        clear h13
        refine seq fun K15 h15 => ?_
        refine seq fun K16 h16 => ?_
        refine stp (v := .int .i64 ((l.getD i 0).tmod 1073741824)) (o_mv rfl) ?_
        refine stp (v := .bool (decide (((l.getD i 0).tmod 1073741824) < 0))) (o_bin rfl rfl rfl) ?_
        refine h16 _ _ ?_
        clear h16
        refine cndP rfl (fun c17 => ?_) (fun c17 => ?_)
        ·
          refine stp (v := .int .i64 ((l.getD i 0).tmod 1073741824)) (o_mv rfl) ?_
          refine stp (v := .int .i64 (0 - ((l.getD i 0).tmod 1073741824))) (o_neg rfl (v_same (by simp only [inK]; omega))) ?_
          refine stp (v := .int .i64 (0 - ((l.getD i 0).tmod 1073741824))) (o_mv rfl) ?_
          refine h15 _ _ ?_
          clear h15
          refine stp (v := y3_) (o_mv rfl) ?_
          refine stp (v := .int .i64 (0 - ((l.getD i 0).tmod 1073741824))) (o_mv rfl) ?_
          refine m_app1 (E := i64V) (q := 0 - ((l.getD i 0).tmod 1073741824)) hM6 (i := 0) rfl hy3_ rfl (by simp) (rfl) (by omega) (by omega) fun v18 w18 r18 u18 (hs18 : SlE i64V 2 v18 (((l.take i).map absm) ++ [0 - ((l.getD i 0).tmod 1073741824)]) r18) (hM18 : Mem w [] w18 [r18]) => ?_
          refine stp (v := v18) (o_mv rfl) ?_
          refine h12 _ _ ?_
          clear h12
          refine stp (v := .int .i64 (i : Nat)) (o_mv rfl) ?_
          refine stp (v := .int .i64 ((i : Nat) + 1)) (o_bin rfl rfl (v_add64 (by constructor <;> omega))) ?_
          refine stp (v := .int .i64 ((i : Nat) + 1)) (o_mv rfl) ?_
          refine h7 (i + 1, v18, r18) _ _ ⟨rfl, by first | rfl | exact v_int (by omega) | exact v_int (by simp) | exact v_int (by simp; omega), rfl, hM18, by omega, by rw [← bent_step (by omega) (by unfold absm; rw [if_pos (by assumption)])]; exact hs18⟩ (by (try dsimp only); omega)
        ·
          refine h15 _ _ ?_
          clear h15
          refine stp (v := y3_) (o_mv rfl) ?_
          refine stp (v := .int .i64 ((l.getD i 0).tmod 1073741824)) (o_mv rfl) ?_
          refine m_app1 (E := i64V) (q := (l.getD i 0).tmod 1073741824) hM6 (i := 0) rfl hy3_ rfl (by simp) (rfl) (by omega) (by omega) fun v19 w19 r19 u19 (hs19 : SlE i64V 2 v19 (((l.take i).map absm) ++ [(l.getD i 0).tmod 1073741824]) r19) (hM19 : Mem w [] w19 [r19]) => ?_
          refine stp (v := v19) (o_mv rfl) ?_
          refine h12 _ _ ?_
          clear h12
          refine stp (v := .int .i64 (i : Nat)) (o_mv rfl) ?_
          refine stp (v := .int .i64 ((i : Nat) + 1)) (o_bin rfl rfl (v_add64 (by constructor <;> omega))) ?_
          refine stp (v := .int .i64 ((i : Nat) + 1)) (o_mv rfl) ?_
          refine h7 (i + 1, v19, r19) _ _ ⟨rfl, by first | rfl | exact v_int (by omega) | exact v_int (by simp) | exact v_int (by simp; omega), rfl, hM19, by omega, by rw [← bent_step (by omega) (by unfold absm; rw [if_neg (by assumption)])]; exact hs19⟩ (by (try dsimp only); omega)
      ·
        refine h3 _ _ ?_
        clear h3
        refine seq fun K20 h20 => ?_
        refine stp (v := y3_) (o_mv rfl) ?_
        refine stp (v := y3_) (o_mv rfl) ?_
        refine h20 _ _ ?_
        clear h20
        refine ⟨y3_, rfl, ?_⟩
        exact ⟨_, SlE.eqL (hy3_) (bent_end (by omega) (by omega)), hM6.keep (by simp)⟩
    ·
      refine gno rfl (by simp) ?_
      refine gno rfl (by simp) ?_
      refine stp (v := .bool false) (o_pickF rfl rfl) ?_
      refine h9 _ _ ?_
      clear h9
      refine cndF rfl ?_
      refine h3 _ _ ?_
      clear h3
      refine seq fun K21 h21 => ?_
      refine stp (v := y3_) (o_mv rfl) ?_
      refine stp (v := y3_) (o_mv rfl) ?_
      refine h21 _ _ ?_
      clear h21
      refine ⟨y3_, rfl, ?_⟩
      exact ⟨_, SlE.eqL (hy3_) (bent_end (by omega) (by omega)), hM6.keep (by simp)⟩

/-- winnowlaw4.used -/
theorem used_ok (x : Value) (l : List Int) (w : World) (hx : RdE i64V w x l) (hl : l.length ≤ 1000000) : Calls Try.prog 32 [x].toArray w (Rt fun r w' => r = .int .i64 (usedF l l.length : Nat) ∧ Upd [] w w') := by
  have hM0 : Mem w [] w [] := Mem.nil w []
  refine calls_vc mixed Try.func32 rfl C32 (by simp [Try.ntmps32]) ?_
  refine seq fun K1 h1 => ?_
  refine stp (v := .int .i64 0) (o_mv rfl) ?_
  refine h1 _ _ ?_
  clear h1
  refine seq fun K2 h2 => ?_
  refine stp (v := .int .i64 0) (o_mv rfl) ?_
  refine h2 _ _ ?_
  clear h2
  refine seq fun K3 h3 => ?_
  refine seq fun K4 h4 => ?_
  refine stp (v := .int .i64 0) (o_mv rfl) ?_
  refine h4 _ _ ?_
  clear h4
  refine lp (n := fun _ _ => False) (ι := (Nat)) (fun i f w' => f 3 = .int .i64 (usedF l i : Nat) ∧ f 4 = .int .i64 (i : Nat) ∧ f 0 = x ∧ Mem w [] w' [] ∧ (i ≤ l.length)) (fun i => l.length - i) (0) ?_ ?_
  · exact ⟨by first | rfl | exact v_int (by omega) | exact v_int (by simp) | exact v_int (by simp; omega), by first | rfl | exact v_int (by omega) | exact v_int (by simp) | exact v_int (by simp; omega), rfl, hM0, by omega⟩
  · rintro i f w5 ⟨e5_3, e5_4, e5_0, hM5, hi⟩ K6 h6
    obtain ⟨frm, rfl⟩ : ∃ frm, f = (upd (upd (upd frm 3 (.int .i64 (usedF l i : Nat))) 4 (.int .i64 (i : Nat))) 0 (x)) := ⟨f, by rw [upd_self e5_3, upd_self e5_4, upd_self e5_0]⟩
    clear e5_3 e5_4 e5_0
    refine seq fun K7 h7 => ?_
    refine seq fun K8 h8 => ?_
    refine stp (v := .int .i64 (i : Nat)) (o_mv rfl) ?_
    refine stp (v := x) (o_mv rfl) ?_
    refine stp (v := .int .i64 (l.length : Nat)) (o_lenR (hx.upd hM5.upd) rfl rfl) ?_
    refine stp (v := .bool (decide (((i : Nat) : Int) < (l.length : Nat)))) (o_bin rfl rfl rfl) ?_
    refine h8 _ _ ?_
    clear h8
    refine cndP rfl (fun c9 => ?_) (fun c9 => ?_)
    ·
      refine h7 _ _ ?_
      clear h7
      refine seq fun K10 h10 => ?_
      refine seq fun K11 h11 => ?_
      refine stp (v := x) (o_mv rfl) ?_
      refine stp (v := .int .i64 (i : Nat)) (o_mv rfl) ?_
      refine m_idxE 0 (j := i) (hx.upd hM5.upd) rfl rfl (by omega) fun b12 o12 hp12 => ?_
      refine ld (v := .int .i64 (l.getD i 0)) rfl (hp12) ?_
      refine stp (v := .bool (decide ((0 : Int) < (l.getD i 0)))) (o_bin rfl rfl rfl) ?_
      refine h11 _ _ ?_
      clear h11
      refine cndP rfl (fun c13 => ?_) (fun c13 => ?_)
      ·
        refine stp (v := .int .i64 (usedF l i : Nat)) (o_mv rfl) ?_
        refine stp (v := .int .i64 (usedF l (i + 1) : Nat)) (o_bin rfl rfl (by rw [used_yes (by assumption)]; have := used_le l i; exact (v_add64 (by omega)).trans (v_int (by omega)))) ?_
        refine stp (v := .int .i64 (usedF l (i + 1) : Nat)) (o_mv rfl) ?_
        refine h10 _ _ ?_
        clear h10
        refine stp (v := .int .i64 (i : Nat)) (o_mv rfl) ?_
        refine stp (v := .int .i64 ((i : Nat) + 1)) (o_bin rfl rfl (v_add64 (by constructor <;> omega))) ?_
        refine stp (v := .int .i64 ((i : Nat) + 1)) (o_mv rfl) ?_
        refine h6 (i + 1) _ _ ⟨by first | rfl | exact v_int (by rw [used_no (by assumption)]), by first | rfl | exact v_int (by omega) | exact v_int (by simp) | exact v_int (by simp; omega), rfl, hM5, by omega⟩ (by (try dsimp only); omega)
      ·
        refine h10 _ _ ?_
        clear h10
        refine stp (v := .int .i64 (i : Nat)) (o_mv rfl) ?_
        refine stp (v := .int .i64 ((i : Nat) + 1)) (o_bin rfl rfl (v_add64 (by constructor <;> omega))) ?_
        refine stp (v := .int .i64 ((i : Nat) + 1)) (o_mv rfl) ?_
        refine h6 (i + 1) _ _ ⟨by first | rfl | exact v_int (by rw [used_no (by assumption)]), by first | rfl | exact v_int (by omega) | exact v_int (by simp) | exact v_int (by simp; omega), rfl, hM5, by omega⟩ (by (try dsimp only); omega)
    ·
      refine h3 _ _ ?_
      clear h3
      refine seq fun K14 h14 => ?_
      refine stp (v := .int .i64 (usedF l i : Nat)) (o_mv rfl) ?_
      refine stp (v := .int .i64 (usedF l i : Nat)) (o_mv rfl) ?_
      refine h14 _ _ ?_
      clear h14
      refine ⟨(.int .i64 (usedF l i : Nat)), rfl, ?_⟩
      have e : i = l.length := by omega
      subst e
      exact ⟨rfl, hM5.upd⟩

/-- winnowlaw4.limited -/
theorem limited_ok (lim : Int) (n : Nat) (w : World) (hk : inK .i64 lim) (hn : n ≤ 256) : Calls Try.prog 33 [.int .i64 lim, .int .i64 (n : Nat)].toArray w (Rt fun r w' => ∃ L : Nat, r = .int .i64 (L : Nat) ∧ (1 ≤ L ∧ L ≤ 15 ∧ n ≤ 2 ^ L) ∧ Upd [] w w') := by
  have hM0 : Mem w [] w [] := Mem.nil w []
  simp only [inK] at hk
  refine calls_vc mixed Try.func33 rfl C33 (by simp [Try.ntmps33]) ?_
  refine seq fun K1 h1 => ?_
  refine stp (v := .int .i64 0) (o_mv rfl) ?_
  refine h1 _ _ ?_
  clear h1
  refine seq fun K2 h2 => ?_
  refine stp (v := .int .i64 lim) (o_mv rfl) ?_
  obtain ⟨t, ht⟩ : ∃ t, t = lim.tmod 15 := ⟨_, rfl⟩
  have ht1 : t < 15 := by rw [ht]; exact Int.tmod_lt_of_pos _ (by omega)
  have ht2 : -15 < t := by rw [ht]; exact Int.lt_tmod_of_pos _ (by omega)
  refine stp (v := .int .i64 t) (o_rem rfl rfl (by omega) (v_int ht.symm)) ?_
  refine stp (v := .int .i64 t) (o_mv rfl) ?_
  refine h2 _ _ ?_
  clear h2
  refine seq fun K3 h3 => ?_
  refine seq fun K4 h4 => ?_
  refine stp (v := .int .i64 t) (o_mv rfl) ?_
  refine stp (v := .bool (decide (t < 0))) (o_bin rfl rfl rfl) ?_
  refine h4 _ _ ?_
  clear h4
  refine cndP rfl (fun c5 => ?_) (fun c5 => ?_)
  ·
    refine stp (v := .int .i64 t) (o_mv rfl) ?_
    refine stp (v := .int .i64 (t + 15)) (o_bin rfl rfl (v_add64 (by constructor <;> omega))) ?_
    refine stp (v := .int .i64 (t + 15)) (o_mv rfl) ?_
    refine h3 _ _ ?_
    clear h3
    refine seq fun K6 h6 => ?_
    refine stp (v := .int .i64 (t + 15)) (o_mv rfl) ?_
    refine stp (v := .int .i64 ((t + 15) + 1)) (o_bin rfl rfl (v_add64 (by constructor <;> omega))) ?_
    refine stp (v := .int .i64 ((t + 15) + 1)) (o_mv rfl) ?_
    refine h6 _ _ ?_
    clear h6
    refine seq fun K7 h7 => ?_
    refine lp (n := fun _ _ => False) (ι := (Nat)) (fun l f w' => f 5 = .int .i64 (l : Nat) ∧ f 1 = .int .i64 (n : Nat) ∧ Mem w [] w' [] ∧ (1 ≤ l ∧ l ≤ 15)) (fun l => 15 - l) (((t + 15) + 1).toNat) ?_ ?_
    · exact ⟨by first | rfl | exact v_int (by omega) | exact v_int (by simp) | exact v_int (by simp; omega), by first | rfl | exact v_int (by omega) | exact v_int (by simp) | exact v_int (by simp; omega), hM0, by omega⟩
    · rintro l f w8 ⟨e8_5, e8_1, hM8, hl⟩ K9 h9
      obtain ⟨frm, rfl⟩ : ∃ frm, f = (upd (upd frm 5 (.int .i64 (l : Nat))) 1 (.int .i64 (n : Nat))) := ⟨f, by rw [upd_self e8_5, upd_self e8_1]⟩
      clear e8_5 e8_1
      refine seq fun K10 h10 => ?_
      refine seq fun K11 h11 => ?_
      refine stp (v := .int .i64 (n : Nat)) (o_mv rfl) ?_
      refine stp (v := .int .i64 (l : Nat)) (o_mv rfl) ?_
      refine stp (v := .int .i64 (2 ^ l : Nat)) (o_shl rfl rfl (by omega) (shl_one (by omega))) ?_
      refine stp (v := .bool (decide (((2 ^ l : Nat) : Int) < ((n : Nat) : Int)))) (o_bin rfl rfl rfl) ?_
      refine h11 _ _ ?_
      clear h11
      refine cndP rfl (fun c12 => ?_) (fun c12 => ?_)
      ·
        refine h10 _ _ ?_
        clear h10
        have hl15 : l < 15 := by
          rcases Nat.lt_or_ge l 15 with k | k
          · exact k
          · exfalso
            have e : l = 15 := by omega
            subst e
            omega
        refine stp (v := .int .i64 (l : Nat)) (o_mv rfl) ?_
        refine stp (v := .int .i64 ((l : Nat) + 1)) (o_bin rfl rfl (v_add64 (by constructor <;> omega))) ?_
        refine stp (v := .int .i64 ((l : Nat) + 1)) (o_mv rfl) ?_
        refine h9 (l + 1) _ _ ⟨by first | rfl | exact v_int (by omega) | exact v_int (by simp) | exact v_int (by simp; omega), by first | rfl | exact v_int (by omega) | exact v_int (by simp) | exact v_int (by simp; omega), hM8, by omega⟩ (by (try dsimp only); omega)
      ·
        refine h7 _ _ ?_
        clear h7
        refine seq fun K13 h13 => ?_
        refine stp (v := .int .i64 (l : Nat)) (o_mv rfl) ?_
        refine stp (v := .int .i64 (l : Nat)) (o_mv rfl) ?_
        refine h13 _ _ ?_
        clear h13
        refine ⟨(.int .i64 (l : Nat)), rfl, ?_⟩
        exact ⟨l, rfl, ⟨by omega, by omega, by omega⟩, hM8.upd⟩
  ·
    refine h3 _ _ ?_
    clear h3
    refine seq fun K14 h14 => ?_
    refine stp (v := .int .i64 t) (o_mv rfl) ?_
    refine stp (v := .int .i64 (t + 1)) (o_bin rfl rfl (v_add64 (by constructor <;> omega))) ?_
    refine stp (v := .int .i64 (t + 1)) (o_mv rfl) ?_
    refine h14 _ _ ?_
    clear h14
    refine seq fun K15 h15 => ?_
    refine lp (n := fun _ _ => False) (ι := (Nat)) (fun l f w' => f 5 = .int .i64 (l : Nat) ∧ f 1 = .int .i64 (n : Nat) ∧ Mem w [] w' [] ∧ (1 ≤ l ∧ l ≤ 15)) (fun l => 15 - l) ((t + 1).toNat) ?_ ?_
    · exact ⟨by first | rfl | exact v_int (by omega) | exact v_int (by simp) | exact v_int (by simp; omega), by first | rfl | exact v_int (by omega) | exact v_int (by simp) | exact v_int (by simp; omega), hM0, by omega⟩
    · rintro l f w16 ⟨e16_5, e16_1, hM16, hl⟩ K17 h17
      obtain ⟨frm, rfl⟩ : ∃ frm, f = (upd (upd frm 5 (.int .i64 (l : Nat))) 1 (.int .i64 (n : Nat))) := ⟨f, by rw [upd_self e16_5, upd_self e16_1]⟩
      clear e16_5 e16_1
      refine seq fun K18 h18 => ?_
      refine seq fun K19 h19 => ?_
      refine stp (v := .int .i64 (n : Nat)) (o_mv rfl) ?_
      refine stp (v := .int .i64 (l : Nat)) (o_mv rfl) ?_
      refine stp (v := .int .i64 (2 ^ l : Nat)) (o_shl rfl rfl (by omega) (shl_one (by omega))) ?_
      refine stp (v := .bool (decide (((2 ^ l : Nat) : Int) < ((n : Nat) : Int)))) (o_bin rfl rfl rfl) ?_
      refine h19 _ _ ?_
      clear h19
      refine cndP rfl (fun c20 => ?_) (fun c20 => ?_)
      ·
        refine h18 _ _ ?_
        clear h18
        have hl15 : l < 15 := by
          rcases Nat.lt_or_ge l 15 with k | k
          · exact k
          · exfalso
            have e : l = 15 := by omega
            subst e
            omega
        refine stp (v := .int .i64 (l : Nat)) (o_mv rfl) ?_
        refine stp (v := .int .i64 ((l : Nat) + 1)) (o_bin rfl rfl (v_add64 (by constructor <;> omega))) ?_
        refine stp (v := .int .i64 ((l : Nat) + 1)) (o_mv rfl) ?_
        refine h17 (l + 1) _ _ ⟨by first | rfl | exact v_int (by omega) | exact v_int (by simp) | exact v_int (by simp; omega), by first | rfl | exact v_int (by omega) | exact v_int (by simp) | exact v_int (by simp; omega), hM16, by omega⟩ (by (try dsimp only); omega)
      ·
        refine h15 _ _ ?_
        clear h15
        refine seq fun K21 h21 => ?_
        refine stp (v := .int .i64 (l : Nat)) (o_mv rfl) ?_
        refine stp (v := .int .i64 (l : Nat)) (o_mv rfl) ?_
        refine h21 _ _ ?_
        clear h21
        refine ⟨(.int .i64 (l : Nat)), rfl, ?_⟩
        exact ⟨l, rfl, ⟨by omega, by omega, by omega⟩, hM16.upd⟩

/-- winnowlaw4.kraft -/
theorem kraftL_ok (x : Value) (l : List Int) (w : World) (hx : RdE i64V w x l) (hl : l.length ≤ 1000000) : Calls Try.prog 34 [x].toArray w (Rt fun r w' => r = .int .i64 (krK l 15 l.length : Nat) ∧ Upd [] w w') := by
  have hM0 : Mem w [] w [] := Mem.nil w []
  refine calls_vc mixed Try.func34 rfl C34 (by simp [Try.ntmps34]) ?_
  refine seq fun K1 h1 => ?_
  refine stp (v := .int .i64 0) (o_mv rfl) ?_
  refine h1 _ _ ?_
  clear h1
  refine seq fun K2 h2 => ?_
  refine stp (v := .int .i64 0) (o_mv rfl) ?_
  refine h2 _ _ ?_
  clear h2
  refine seq fun K3 h3 => ?_
  refine seq fun K4 h4 => ?_
  refine stp (v := .int .i64 0) (o_mv rfl) ?_
  refine h4 _ _ ?_
  clear h4
  refine lp (n := fun _ _ => False) (ι := (Nat)) (fun i f w' => f 3 = .int .i64 (krK l 15 i : Nat) ∧ f 4 = .int .i64 (i : Nat) ∧ f 0 = x ∧ Mem w [] w' [] ∧ (i ≤ l.length)) (fun i => l.length - i) (0) ?_ ?_
  · exact ⟨by first | rfl | exact v_int (by omega) | exact v_int (by simp) | exact v_int (by simp; omega), by first | rfl | exact v_int (by omega) | exact v_int (by simp) | exact v_int (by simp; omega), rfl, hM0, by omega⟩
  · rintro i f w5 ⟨e5_3, e5_4, e5_0, hM5, hi⟩ K6 h6
    obtain ⟨frm, rfl⟩ : ∃ frm, f = (upd (upd (upd frm 3 (.int .i64 (krK l 15 i : Nat))) 4 (.int .i64 (i : Nat))) 0 (x)) := ⟨f, by rw [upd_self e5_3, upd_self e5_4, upd_self e5_0]⟩
    clear e5_3 e5_4 e5_0
    refine seq fun K7 h7 => ?_
    refine seq fun K8 h8 => ?_
    refine stp (v := .int .i64 (i : Nat)) (o_mv rfl) ?_
    refine stp (v := x) (o_mv rfl) ?_
    refine stp (v := .int .i64 (l.length : Nat)) (o_lenR (hx.upd hM5.upd) rfl rfl) ?_
    refine stp (v := .bool (decide (((i : Nat) : Int) < (l.length : Nat)))) (o_bin rfl rfl rfl) ?_
    refine h8 _ _ ?_
    clear h8
    refine cndP rfl (fun c9 => ?_) (fun c9 => ?_)
    ·
      refine h7 _ _ ?_
      clear h7
      refine seq fun K10 h10 => ?_
      refine seq fun K11 h11 => ?_
      refine stp (v := x) (o_mv rfl) ?_
      refine stp (v := .int .i64 (i : Nat)) (o_mv rfl) ?_
      refine m_idxE 0 (j := i) (hx.upd hM5.upd) rfl rfl (by omega) fun b12 o12 hp12 => ?_
      refine ld (v := .int .i64 (l.getD i 0)) rfl (hp12) ?_
      refine stp (v := .bool (decide ((0 : Int) < (l.getD i 0)))) (o_bin rfl rfl rfl) ?_
      refine stp (v := .bool (decide ((0 : Int) < (l.getD i 0)))) (o_mv rfl) ?_
      refine splitP rfl (fun c13 => ?_) (fun c13 => ?_)
      ·
        refine stg rfl (v := x) (o_mv rfl) ?_
        refine stg rfl (v := .int .i64 (i : Nat)) (o_mv rfl) ?_
        refine gyes rfl rfl (m_idxE 0 (j := i) (hx.upd hM5.upd) rfl rfl (by omega) fun b14 o14 hp14 => ?_)
        refine gyesl rfl ?_
        refine ld (v := .int .i64 (l.getD i 0)) rfl (hp14) ?_
        refine stg rfl (v := .bool (decide ((l.getD i 0) ≤ 15))) (o_bin rfl rfl rfl) ?_
        refine stp (v := .bool (decide ((l.getD i 0) ≤ 15))) (o_pickT rfl rfl) ?_
        refine h11 _ _ ?_
        clear h11
        refine cndP rfl (fun c15 => ?_) (fun c15 => ?_)
        ·
          refine stp (v := .int .i64 (krK l 15 i : Nat)) (o_mv rfl) ?_
          refine stp (v := x) (o_mv rfl) ?_
          refine stp (v := .int .i64 (i : Nat)) (o_mv rfl) ?_
          refine m_idxE 0 (j := i) (hx.upd hM5.upd) rfl rfl (by omega) fun b16 o16 hp16 => ?_
          refine ld (v := .int .i64 (l.getD i 0)) rfl (hp16) ?_
          refine stp (v := .int .i64 (15 - (l.getD i 0))) (o_bin rfl rfl (v_sub64 (by constructor <;> omega))) ?_
          refine stp (v := .int .i64 (pw (l.getD i 0).toNat : Nat)) (o_shl rfl rfl (by omega) (shl15x (by omega) (by omega))) ?_
          refine stp (v := .int .i64 (krK l 15 (i + 1) : Nat)) (o_bin rfl rfl (by rw [krK_yes (by omega)]; have := krK_le l 15 i; have := pow15 (l.getD i 0).toNat; exact (v_add64 (by omega)).trans (v_int (by omega)))) ?_
          refine stp (v := .int .i64 (krK l 15 (i + 1) : Nat)) (o_mv rfl) ?_
          refine h10 _ _ ?_
          clear h10
          refine stp (v := .int .i64 (i : Nat)) (o_mv rfl) ?_
          refine stp (v := .int .i64 ((i : Nat) + 1)) (o_bin rfl rfl (v_add64 (by constructor <;> omega))) ?_
          refine stp (v := .int .i64 ((i : Nat) + 1)) (o_mv rfl) ?_
          refine h6 (i + 1) _ _ ⟨by first | rfl | exact v_int (by rw [krK_no (by omega)]), by first | rfl | exact v_int (by omega) | exact v_int (by simp) | exact v_int (by simp; omega), rfl, hM5, by omega⟩ (by (try dsimp only); omega)
        ·
          refine h10 _ _ ?_
          clear h10
          refine stp (v := .int .i64 (i : Nat)) (o_mv rfl) ?_
          refine stp (v := .int .i64 ((i : Nat) + 1)) (o_bin rfl rfl (v_add64 (by constructor <;> omega))) ?_
          refine stp (v := .int .i64 ((i : Nat) + 1)) (o_mv rfl) ?_
          refine h6 (i + 1) _ _ ⟨by first | rfl | exact v_int (by rw [krK_no (by omega)]), by first | rfl | exact v_int (by omega) | exact v_int (by simp) | exact v_int (by simp; omega), rfl, hM5, by omega⟩ (by (try dsimp only); omega)
      ·
        refine gno rfl (by simp) ?_
        refine gno rfl (by simp) ?_
        refine gno rfl (by simp) ?_
        refine gnol rfl (by simp) ?_
        refine gno rfl (by simp) ?_
        refine stp (v := .bool false) (o_pickF rfl rfl) ?_
        refine h11 _ _ ?_
        clear h11
        refine cndF rfl ?_
        refine h10 _ _ ?_
        clear h10
        refine stp (v := .int .i64 (i : Nat)) (o_mv rfl) ?_
        refine stp (v := .int .i64 ((i : Nat) + 1)) (o_bin rfl rfl (v_add64 (by constructor <;> omega))) ?_
        refine stp (v := .int .i64 ((i : Nat) + 1)) (o_mv rfl) ?_
        refine h6 (i + 1) _ _ ⟨by first | rfl | exact v_int (by rw [krK_no (by omega)]), by first | rfl | exact v_int (by omega) | exact v_int (by simp) | exact v_int (by simp; omega), rfl, hM5, by omega⟩ (by (try dsimp only); omega)
    ·
      refine h3 _ _ ?_
      clear h3
      refine seq fun K17 h17 => ?_
      refine stp (v := .int .i64 (krK l 15 i : Nat)) (o_mv rfl) ?_
      refine stp (v := .int .i64 (krK l 15 i : Nat)) (o_mv rfl) ?_
      refine h17 _ _ ?_
      clear h17
      refine ⟨(.int .i64 (krK l 15 i : Nat)), rfl, ?_⟩
      have e : i = l.length := by omega
      subst e
      exact ⟨rfl, hM5.upd⟩
