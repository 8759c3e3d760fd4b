/- HuffCodes: canonical words. The walks of the code, and what is computed. -/
import Derived.Test.YtojnkjnebejodaaH2
import Derived.Test.YtojnkjnebejodaaE15
namespace Go.Proofs.Ytojnkjnebejodaa.E
open Go

/-- the symbols of length n among the first s -/
def symN (l : List Int) (n s : Nat) : List Nat := (List.range s).filter fun i => decide (l.getD i 0 = (n : Int))
theorem symN_succ (l : List Int) (n s : Nat) : symN l n (s + 1) = symN l n s ++ if l.getD s 0 = (n : Int) then [s] else [] := by
  unfold symN
  rw [List.range_succ, List.filter_append]
  congr 1
  by_cases h : l.getD s 0 = (n : Int)
  · rw [if_pos h, List.filter_cons_of_pos (by simpa using h)]; rfl
  · rw [if_neg h, List.filter_cons_of_neg (by simpa using h)]; rfl
theorem symN_yes {l : List Int} {n s : Nat} (h : l.getD s 0 = (n : Int)) : symN l n (s + 1) = symN l n s ++ [s] := by rw [symN_succ, if_pos h]
theorem symN_no {l : List Int} {n s : Nat} (h : ¬ l.getD s 0 = (n : Int)) : symN l n (s + 1) = symN l n s := by rw [symN_succ, if_neg h, List.append_nil]
theorem symN_le (l : List Int) (n s : Nat) : (symN l n s).length ≤ s := by
  unfold symN
  exact Nat.le_trans (List.length_filter_le _ _) (by simp)
/-- the symbols with a word up to the length k, by lengths -/
def ordB (l : List Int) : Nat → List Nat
  | 0 => []
  | k + 1 => ordB l k ++ symN l (k + 1) l.length
theorem ordB_le (l : List Int) (k : Nat) (h : l.length ≤ 256) : (ordB l k).length ≤ k * 256 := by
  induction k with
  | zero => simp [ordB]
  | succ k ih =>
    have := symN_le l (k + 1) l.length
    simp only [ordB, List.length_append, Nat.succ_mul]; omega
/-- how many there are of each length, when the first s of length n have been told -/
def manyL (l : List Int) (n s : Nat) : List Int := (List.range 16).map fun k => if 1 ≤ k ∧ k < n then (((symN l k l.length).length : Nat) : Int) else if k = n then (((symN l n s).length : Nat) : Int) else 0
theorem manyL_length (l : List Int) (n s : Nat) : (manyL l n s).length = 16 := by simp [manyL]
theorem many_get (l : List Int) {n s : Nat} (h : n ≤ 15) : ((manyL l n s).map i64V)[n]? = some (i64V ((symN l n s).length : Nat)) := by
  rw [List.getElem?_map, manyL, List.getElem?_map, List.getElem?_range (by omega)]
  simp
theorem many_set {l : List Int} {n s : Nat} (h : n ≤ 15) (hs : l.getD s 0 = (n : Int)) : ((manyL l n s).map i64V).set n (.int .i64 (((symN l n s).length : Nat) + 1)) = (manyL l n (s + 1)).map i64V := by
  apply List.ext_getElem?
  intro k
  rw [List.getElem?_set]
  split
  · rename_i e; subst e
    rw [many_get l h, if_pos (by simp [manyL_length]; omega), symN_yes hs, List.length_append]; rfl
  · rename_i e
    rw [List.getElem?_map, List.getElem?_map, manyL, manyL, List.getElem?_map, List.getElem?_map]
    by_cases hk : k < 16
    · rw [List.getElem?_range hk]
      simp only [Option.map_some]
      by_cases h1 : 1 ≤ k ∧ k < n
      · rw [if_pos h1, if_pos h1]
      · rw [if_neg h1, if_neg h1, if_neg (fun h => e h.symm), if_neg (fun h => e h.symm)]
    · rw [List.getElem?_eq_none (by simpa using hk)]; rfl
theorem many_skip {l : List Int} {n s : Nat} (hs : ¬ l.getD s 0 = (n : Int)) : manyL l n (s + 1) = manyL l n s := by unfold manyL; rw [symN_no hs]
theorem many_next {l : List Int} {n : Nat} (h : 1 ≤ n) : manyL l (n + 1) 0 = manyL l n l.length := by
  unfold manyL
  apply List.map_congr_left
  intro k _
  have e : (symN l (n + 1) 0).length = 0 := rfl
  by_cases h1 : 1 ≤ k ∧ k < n
  · rw [if_pos h1, if_pos (by omega)]
  · rw [if_neg h1]
    by_cases h2 : k = n
    · subst h2; rw [if_pos (by omega), if_pos rfl]
    · rw [if_neg (by omega), if_neg h2, e]; simp
/-- what the words up to the length k take of 2^15 -/
def usedB (l : List Int) : Nat → Nat
  | 0 => 0
  | k + 1 => usedB l k + (symN l (k + 1) l.length).length * 2 ^ (15 - (k + 1))
theorem usedB_le (l : List Int) (k : Nat) (h : l.length ≤ 256) : usedB l k ≤ k * 4194304 := by
  induction k with
  | zero => simp [usedB]
  | succ k ih =>
    have h1 := symN_le l (k + 1) l.length
    have h2 : 2 ^ (15 - (k + 1)) ≤ 16384 := by
      calc 2 ^ (15 - (k + 1)) ≤ 2 ^ 14 := Nat.pow_le_pow_right (by omega) (by omega)
        _ = 16384 := by decide
    have h3 : (symN l (k + 1) l.length).length * 2 ^ (15 - (k + 1)) ≤ 256 * 16384 := Nat.mul_le_mul (by omega) h2
    simp only [usedB]; omega
/-- the same, when the first s of length n have been told -/
def usedP (l : List Int) (n s : Nat) : Nat := usedB l (n - 1) + (symN l n s).length * 2 ^ (15 - n)
def pw (n : Nat) : Nat := 2 ^ (15 - n)
theorem usedP_zero (l : List Int) (n : Nat) : usedP l n 0 = usedB l (n - 1) := by simp [usedP, symN]
theorem usedP_end (l : List Int) {n : Nat} (h : 1 ≤ n) : usedP l n l.length = usedB l n := by
  obtain ⟨k, rfl⟩ : ∃ k, n = k + 1 := ⟨n - 1, by omega⟩
  rfl
theorem usedP_yes {l : List Int} {n s : Nat} (h : l.getD s 0 = (n : Int)) : usedP l n (s + 1) = usedP l n s + pw n := by
  unfold usedP pw; rw [symN_yes h, List.length_append, List.length_singleton, Nat.add_mul, Nat.one_mul, Nat.add_assoc]
theorem usedP_no {l : List Int} {n s : Nat} (h : ¬ l.getD s 0 = (n : Int)) : usedP l n (s + 1) = usedP l n s := by unfold usedP; rw [symN_no h]
theorem pow15 (n : Nat) : pw n ≤ 32768 := by
  show 2 ^ (15 - n) ≤ 32768
  calc 2 ^ (15 - n) ≤ 2 ^ 15 := Nat.pow_le_pow_right (by omega) (by omega)
    _ = 32768 := by decide
theorem usedP_le (l : List Int) (n s : Nat) (h : l.length ≤ 256) (hs : s ≤ 256) (hn : n ≤ 16) : usedP l n s ≤ 150000000 := by
  have h1 := usedB_le l (n - 1) h
  have h2 : (symN l n s).length * 2 ^ (15 - n) ≤ 256 * 32768 := Nat.mul_le_mul (Nat.le_trans (symN_le l n s) hs) (pow15 n)
  unfold usedP; omega
theorem shl15 {n : Nat} (h1 : 1 ≤ n) (h2 : n ≤ 15) : Value.int .i64 (IntKind.i64.wrap (1 * 2 ^ min (15 - (n : Int)).toNat IntKind.i64.bits)) = .int .i64 ((pw n : Nat) : Int) := by
  have e : (15 - (n : Int)).toNat = 15 - n := by omega
  have hp : 2 ^ (15 - n) ≤ 32768 := pow15 n
  have h := shlI_nat (k := .i64) (a := 1) (n := 15 - n) (by simp only [IntKind.bits]; omega) (by rw [Nat.one_mul]; simp only [inK]; generalize 2 ^ (15 - n) = q at hp ⊢; omega)
  unfold shlI at h
  rw [Int.toNat_natCast, Nat.one_mul] at h
  rw [e]; exact v_int h

theorem ord_next {l : List Int} {n : Nat} (h : 1 ≤ n) : ordB l (n + 1 - 1) = ordB l (n - 1) ++ symN l n l.length := by
  obtain ⟨k, rfl⟩ : ∃ k, n = k + 1 := ⟨n - 1, by omega⟩
  rfl

set_option maxRecDepth 100000 in
/-- huff.order -/
theorem order_ok (x : Value) (l : List Int) (w : World) (hx : RdE i64V w x l) (hl : l.length ≤ 256) : Calls Try.prog 42 [x].toArray w (Rt fun r w' => ∃ v rs, r = .tuple [v, .agg ((manyL l 16 0).map i64V).toArray, .bool (decide (0 ≤ 32768 - ((usedB l 15 : Nat) : Int)))].toArray ∧ SlE natV 3 v (ordB l 15) rs ∧ Mem w [] w' [rs]) := by
  have hM0 : Mem w [] w [] := Mem.nil w []
  refine calls_vc mixed Try.func42 rfl C42 (by simp [Try.ntmps42]) ?_
  refine seq fun K1 h1 => ?_
  refine stp (v := .slice none 0 0) (o_mv rfl) ?_
  refine m_al hM0 fun b2 w3 (hM3 : Mem w [] w3 [[⟨b2, 61, (List.replicate 16 (.int .i64 0))⟩]]) => ?_
  refine stp (v := .bool false) (o_mv rfl) ?_
  refine h1 _ _ ?_
  clear h1
  refine seq fun K4 h4 => ?_
  refine stp (v := .slice none 0 0) (o_mv rfl) ?_
  refine h4 _ _ ?_
  clear h4
  refine seq fun K5 h5 => ?_
  refine m_al hM3 fun b6 w7 (hM7 : Mem w [] w7 [[⟨b2, 61, (List.replicate 16 (.int .i64 0))⟩], [⟨b6, 61, (List.replicate 16 (.int .i64 0))⟩]]) => ?_
  refine h5 _ _ ?_
  clear h5
  refine seq fun K8 h8 => ?_
  refine stp (v := .int .i64 32768) (o_mv rfl) ?_
  refine h8 _ _ ?_
  clear h8
  refine seq fun K9 h9 => ?_
  refine seq fun K10 h10 => ?_
  refine stp (v := .int .i64 1) (o_mv rfl) ?_
  refine h10 _ _ ?_
  clear h10
  refine lp (n := fun _ _ => False) (ι := (Nat) × (Value) × (List Ent)) (fun ⟨n, y, r⟩ f w' => f 0 = x ∧ f 3 = .pointer (some ⟨b2, 0, none⟩) ∧ f 6 = .pointer (some ⟨b6, 0, none⟩) ∧ f 5 = y ∧ f 7 = .int .i64 (32768 - (usedB l (n - 1) : Nat)) ∧ f 8 = .int .i64 (n : Nat) ∧ Mem w [] w' [[⟨b2, 61, (List.replicate 16 (.int .i64 0))⟩], [⟨b6, 61, (manyL l n 0).map i64V⟩], r] ∧ (SlE natV 3 y (ordB l (n - 1)) r) ∧ (1 ≤ n ∧ n ≤ 16)) (fun ⟨n, y, r⟩ => 16 - n) (1, .slice none 0 0, []) ?_ ?_
  · exact ⟨rfl, rfl, rfl, rfl, by first | rfl | exact v_int (by omega) | exact v_int (by simp) | exact v_int (by simp; omega), by first | rfl | exact v_int (by omega) | exact v_int (by simp) | exact v_int (by simp; omega), hM7.addNil, Sl.nil 1 3, by omega⟩
  · rintro ⟨n, y, r⟩ f w11 ⟨e11_0, e11_3, e11_6, e11_5, e11_7, e11_8, hM11, hs, hn⟩ K12 h12
    obtain ⟨frm, rfl⟩ : ∃ frm, f = (upd (upd (upd (upd (upd (upd frm 0 (x)) 3 (.pointer (some ⟨b2, 0, none⟩))) 6 (.pointer (some ⟨b6, 0, none⟩))) 5 (y)) 7 (.int .i64 (32768 - (usedB l (n - 1) : Nat)))) 8 (.int .i64 (n : Nat))) := ⟨f, by rw [upd_self e11_0, upd_self e11_3, upd_self e11_6, upd_self e11_5, upd_self e11_7, upd_self e11_8]⟩
    clear e11_0 e11_3 e11_6 e11_5 e11_7 e11_8
    refine seq fun K13 h13 => ?_
    refine seq fun K14 h14 => ?_
    have ho := ordB_le l (n - 1) hl
    refine stp (v := .int .i64 (n : Nat)) (o_mv rfl) ?_
    refine stp (v := .bool (decide (((n : Nat) : Int) ≤ 15))) (o_bin rfl rfl rfl) ?_
    refine h14 _ _ ?_
    clear h14
    refine cndP rfl (fun c15 => ?_) (fun c15 => ?_)
    ·
      refine h13 _ _ ?_
      clear h13
      refine seq fun K16 h16 => ?_
      refine seq fun K17 h17 => ?_
      refine stp (v := x) (o_mv rfl) ?_
      refine stp (v := .int .i64 (l.length : Nat)) (o_lenR (hx.upd hM11.upd) rfl rfl) ?_
      refine stp (v := .int .i64 0) (o_mv rfl) ?_
      refine h17 _ _ ?_
      clear h17
      refine lp (n := fun _ _ => False) (ι := (Nat) × (Value) × (List Ent)) (fun ⟨s, y, r⟩ f w' => f 0 = x ∧ f 3 = .pointer (some ⟨b2, 0, none⟩) ∧ f 6 = .pointer (some ⟨b6, 0, none⟩) ∧ f 5 = y ∧ f 7 = .int .i64 (32768 - (usedP l n s : Nat)) ∧ f 8 = .int .i64 (n : Nat) ∧ f 15 = x ∧ f 16 = .int .i64 (l.length : Nat) ∧ f 17 = .int .i64 (s : Nat) ∧ Mem w [] w' [[⟨b2, 61, (List.replicate 16 (.int .i64 0))⟩], [⟨b6, 61, (manyL l n s).map i64V⟩], r] ∧ (SlE natV 3 y (ordB l (n - 1) ++ symN l n s) r) ∧ (s ≤ l.length)) (fun ⟨s, y, r⟩ => l.length - s) (0, y, r) ?_ ?_
      · exact ⟨rfl, rfl, rfl, rfl, v_int (by rw [usedP_zero]), by first | rfl | exact v_int (by omega) | exact v_int (by simp) | exact v_int (by simp; omega), rfl, by first | rfl | exact v_int (by omega) | exact v_int (by simp) | exact v_int (by simp; omega), by first | rfl | exact v_int (by omega) | exact v_int (by simp) | exact v_int (by simp; omega), hM11, by simpa [symN] using hs, by omega⟩
      · rintro ⟨s, y, r⟩ f w18 ⟨e18_0, e18_3, e18_6, e18_5, e18_7, e18_8, e18_15, e18_16, e18_17, hM18, hs2, hi⟩ K19 h19
        obtain ⟨frm, rfl⟩ : ∃ frm, f = (upd (upd (upd (upd (upd (upd (upd (upd (upd frm 0 (x)) 3 (.pointer (some ⟨b2, 0, none⟩))) 6 (.pointer (some ⟨b6, 0, none⟩))) 5 (y)) 7 (.int .i64 (32768 - (usedP l n s : Nat)))) 8 (.int .i64 (n : Nat))) 15 (x)) 16 (.int .i64 (l.length : Nat))) 17 (.int .i64 (s : Nat))) := ⟨f, by rw [upd_self e18_0, upd_self e18_3, upd_self e18_6, upd_self e18_5, upd_self e18_7, upd_self e18_8, upd_self e18_15, upd_self e18_16, upd_self e18_17]⟩
        clear e18_0 e18_3 e18_6 e18_5 e18_7 e18_8 e18_15 e18_16 e18_17
        refine seq fun K20 h20 => ?_
        refine stp (v := .bool (decide (((s : Nat) : Int) < (l.length : Nat)))) (o_bin rfl rfl rfl) ?_
        refine h20 _ _ ?_
        clear h20
        refine seq fun K21 h21 => ?_
        refine cndP rfl (fun c22 => ?_) (fun c22 => ?_)
        ·
          refine h21 _ _ ?_
          clear h21
          refine seq fun K23 h23 => ?_
          refine seq fun K24 h24 => ?_
          refine stp (v := .int .i64 (s : Nat)) (o_mv rfl) ?_
          refine m_idxE 0 (j := s) (hx.upd hM18.upd) rfl rfl (by omega) fun b25 o25 hp25 => ?_
          refine ld (v := .int .i64 (l.getD s 0)) rfl (hp25) ?_
          refine stp (v := .int .i64 (s : Nat)) (o_mv rfl) ?_
          refine stp (v := .int .i64 (l.getD s 0)) (o_mv rfl) ?_
          refine h24 _ _ ?_
          clear h24
          refine seq fun K26 h26 => ?_
          refine stp (v := .int .i64 (l.getD s 0)) (o_mv rfl) ?_
          refine stp (v := .int .i64 (n : Nat)) (o_mv rfl) ?_
          refine stp (v := .bool (decide ((l.getD s 0) = (n : Nat)))) (o_bin rfl rfl rfl) ?_
          refine h26 _ _ ?_
          clear h26
          refine cndP rfl (fun c27 => ?_) (fun c27 => ?_)
          ·
            refine seq fun K28 h28 => ?_
            refine stp (v := y) (o_mv rfl) ?_
            refine stp (v := .int .i64 (s : Nat)) (o_mv rfl) ?_
            refine m_app1 (E := natV) (q := s) hM18 (i := 2) rfl hs2 rfl (by simp) (rfl) (by have h1 := symN_le l n s; simp only [List.length_append]; omega) (by omega) fun v29 w29 r29 u29 (hs29 : SlE natV 3 v29 ((ordB l (n - 1) ++ symN l n s) ++ [s]) r29) (hM29 : Mem w [] w29 [[⟨b2, 61, (List.replicate 16 (.int .i64 0))⟩], [⟨b6, 61, (manyL l n s).map i64V⟩], r29]) => ?_
            refine stp (v := v29) (o_mv rfl) ?_
            refine h28 _ _ ?_
            clear h28
            refine seq fun K30 h30 => ?_
            refine stp (v := .int .i64 (n : Nat)) (o_mv rfl) ?_
            refine stp (v := .pointer (some ⟨b6, n, none⟩)) (o_idxa rfl rfl (by omega) (v_ptr (by first | (rw [Int.toNat_natCast, Nat.mul_one]; done) | (simp; done) | omega))) ?_
            refine ld (v := .int .i64 ((symN l n s).length : Nat)) rfl (((hM29.at (i := 1) (j := 0) rfl rfl).cell n).trans (many_get l (by omega))) ?_
            refine stp (v := .int .i64 (((symN l n s).length : Nat) + 1)) (o_bin rfl rfl (v_add64 (by have := symN_le l n s; omega))) ?_
            refine stp (v := .pointer (some ⟨b6, n, none⟩)) (o_idxa rfl rfl (by omega) (v_ptr (by first | (rw [Int.toNat_natCast, Nat.mul_one]; done) | (simp; done) | omega))) ?_
            refine m_st (v := .int .i64 (((symN l n s).length : Nat) + 1)) hM29 (i := 1) rfl rfl rfl rfl (by simp [manyL_length]; omega) fun w31 hm31 => ?_
            have hM31 : Mem w [] w31 [[⟨b2, 61, (List.replicate 16 (.int .i64 0))⟩], [⟨b6, 61, (manyL l n (s + 1)).map i64V⟩], r29] := by
              have e : ((manyL l n s).map i64V).set n (.int .i64 (((symN l n s).length : Nat) + 1)) = ((manyL l n (s + 1)).map i64V) := many_set (by omega) (by assumption)
              rw [← e]; exact hm31
            refine h30 _ _ ?_
            clear h30
            refine stp (v := .int .i64 (32768 - (usedP l n s : Nat))) (o_mv rfl) ?_
            refine stp (v := .int .i64 (n : Nat)) (o_mv rfl) ?_
            refine stp (v := .int .i64 (15 - (n : Nat))) (o_bin rfl rfl (v_sub64 (by constructor <;> omega))) ?_
            refine stp (v := .int .i64 (pw n : Nat)) (o_shl rfl rfl (by omega) (shl15 (by omega) (by omega))) ?_
            refine stp (v := .int .i64 (32768 - (usedP l n (s + 1) : Nat))) (o_bin rfl rfl (by rw [usedP_yes (by assumption)]; have := usedP_le l n s hl (by omega) (by omega); have := pow15 n; exact (v_sub64 (by omega)).trans (v_int (by omega)))) ?_
            refine stp (v := .int .i64 (32768 - (usedP l n (s + 1) : Nat))) (o_mv rfl) ?_
            refine h23 _ _ ?_
            clear h23
            refine stp (v := .int .i64 ((s : Nat) + 1)) (o_bin rfl rfl (v_add64 (by constructor <;> omega))) ?_
            refine stp (v := .int .i64 ((s : Nat) + 1)) (o_mv rfl) ?_
            refine h19 (s + 1, v29, r29) _ _ ⟨rfl, rfl, rfl, rfl, by first | rfl | exact v_int (by rw [usedP_no (by assumption)]), by first | rfl | exact v_int (by omega) | exact v_int (by simp) | exact v_int (by simp; omega), rfl, by first | rfl | exact v_int (by omega) | exact v_int (by simp) | exact v_int (by simp; omega), by first | rfl | exact v_int (by omega) | exact v_int (by simp) | exact v_int (by simp; omega), hM31, by rw [symN_yes (by assumption), ← List.append_assoc]; exact hs29, by omega⟩ (by dsimp only; omega)
          ·
            refine h23 _ _ ?_
            clear h23
            refine stp (v := .int .i64 ((s : Nat) + 1)) (o_bin rfl rfl (v_add64 (by constructor <;> omega))) ?_
            refine stp (v := .int .i64 ((s : Nat) + 1)) (o_mv rfl) ?_
            refine h19 (s + 1, y, r) _ _ ⟨rfl, rfl, rfl, rfl, by first | rfl | exact v_int (by rw [usedP_no (by assumption)]), by first | rfl | exact v_int (by omega) | exact v_int (by simp) | exact v_int (by simp; omega), rfl, by first | rfl | exact v_int (by omega) | exact v_int (by simp) | exact v_int (by simp; omega), by first | rfl | exact v_int (by omega) | exact v_int (by simp) | exact v_int (by simp; omega), by rw [many_skip (by assumption)]; exact hM18, by rw [symN_no (by assumption)]; exact hs2, by omega⟩ (by dsimp only; omega)
        ·
          refine h16 _ _ ?_
          clear h16
          refine stp (v := .int .i64 (n : Nat)) (o_mv rfl) ?_
          refine stp (v := .int .i64 ((n : Nat) + 1)) (o_bin rfl rfl (v_add64 (by constructor <;> omega))) ?_
          refine stp (v := .int .i64 ((n : Nat) + 1)) (o_mv rfl) ?_
          refine h12 (n + 1, y, r) _ _ ⟨rfl, rfl, rfl, rfl, v_int (by (obtain rfl : s = l.length := by omega); rw [usedP_end l (n := n) (by omega)]; rfl), by first | rfl | exact v_int (by omega) | exact v_int (by simp) | exact v_int (by simp; omega), by rw [many_next (l := l) (n := n) (by omega)]; (obtain rfl : s = l.length := by omega); exact hM18, by (obtain rfl : s = l.length := by omega); rw [ord_next (l := l) (n := n) (by omega)]; exact hs2, by omega⟩ (by dsimp only; omega)
    ·
      refine h9 _ _ ?_
      clear h9
      refine seq fun K32 h32 => ?_
      intro wd e1 e2 e3 e4
      have hd := Upd.same e1 e2 e3 e4 []
      have hM33 := hM11.pure hd
      clear e1 e2 e3 e4
      refine ⟨(some []), ?_⟩
      show vd _ _ _ _ _ _ _
      refine dq (v := y) (o_mv rfl) ?_
      refine dq (v := .int .i64 (32768 - (usedB l (n - 1) : Nat))) (o_mv rfl) ?_
      refine dq (v := .bool (decide ((0 : Int) ≤ (32768 - (usedB l (n - 1) : Nat) : Int)))) (o_bin rfl rfl rfl) ?_
      refine dq (v := y) (o_mv rfl) ?_
      refine dl (ldA (cs := ((manyL l n 0).map i64V)) rfl (by first | rfl | simp [manyL_length]) ((hM33.at (i := 1) (j := 0) rfl rfl).all) ?_)
      refine ⟨(fun b hb => by cases hb), ?_⟩
      refine dl (m_stA (l := ((manyL l n 0).map i64V)) hM33 (i := 0) rfl rfl rfl (by simp [manyL_length]) (one_elems _) (by simp) fun w34 hm34 => ?_)
      refine ⟨(fun b hb => by cases hb), ?_⟩
      have hM34 : Mem w [] w34 [[⟨b2, 61, ((manyL l n 0).map i64V)⟩], [⟨b6, 61, (manyL l n 0).map i64V⟩], r] := by
        have e : splice (List.replicate 16 (.int .i64 0)) 0 ((manyL l n 0).map i64V) = ((manyL l n 0).map i64V) := splice_full (by simp; first | done | (simp [manyL_length]) | omega)
        first | (rw [e] at hm34; exact hm34) | (rw [← e]; exact hm34)
      refine dq (v := .bool (decide ((0 : Int) ≤ (32768 - (usedB l (n - 1) : Nat) : Int)))) (o_mv rfl) ?_
      refine h32 _ _ ?_
      clear h32
      show resV _ _ _ _ _
      refine res_tmp ?_
      refine res_cell (s := some 16) (by kernel_rfl) ?_
      refine vl_ldA (cs := ((manyL l n 0).map i64V)) rfl (by simp [manyL_length]) (hM34.at (i := 0) (j := 0) rfl rfl).all ?_
      refine res_tmp ?_
      refine ⟨(.tuple [y, .agg ((((manyL l n 0).map i64V)).toArray), .bool (decide ((0 : Int) ≤ (32768 - (usedB l (n - 1) : Nat) : Int)))].toArray), rfl, ?_⟩
      have e : n = 16 := by omega
      subst e
      exact ⟨_, _, rfl, hs, hM34.keep (by simp)⟩

/-- what the words of the first s symbols take of 2^15 -/
def kr (l : List Int) : Nat → Nat
  | 0 => 0
  | s + 1 => kr l s + if 0 < l.getD s 0 then pw (l.getD s 0).toNat else 0
theorem kr_le (l : List Int) (s : Nat) : kr l s ≤ s * 32768 := by
  induction s with
  | zero => exact Nat.zero_le _
  | succ s ih =>
    have := pow15 (l.getD s 0).toNat
    show kr l s + (if 0 < l.getD s 0 then pw (l.getD s 0).toNat else 0) ≤ (s + 1) * 32768
    rw [Nat.succ_mul]
    refine Nat.add_le_add ih ?_
    split
    · exact this
    · exact Nat.zero_le _
theorem kr_yes {l : List Int} {s : Nat} (h : 0 < l.getD s 0) : kr l (s + 1) = kr l s + pw (l.getD s 0).toNat := by rw [kr, if_pos h]
theorem kr_no {l : List Int} {s : Nat} (h : ¬ 0 < l.getD s 0) : kr l (s + 1) = kr l s := by rw [kr, if_neg h]; rfl
theorem shl15x {x : Int} (h1 : 1 ≤ x) (h2 : x ≤ 15) : Value.int .i64 (IntKind.i64.wrap (1 * 2 ^ min (15 - x).toNat IntKind.i64.bits)) = .int .i64 ((pw x.toNat : Nat) : Int) := by
  have := shl15 (n := x.toNat) (by omega) (by omega)
  rwa [Int.toNat_of_nonneg (by omega)] at this
/-- the same sum, taken by lengths up to k -/
def krK (l : List Int) (k : Nat) : Nat → Nat
  | 0 => 0
  | s + 1 => krK l k s + if 0 < l.getD s 0 ∧ l.getD s 0 ≤ k then pw (l.getD s 0).toNat else 0
theorem krK_zero (l : List Int) (s : Nat) : krK l 0 s = 0 := by
  induction s with
  | zero => rfl
  | succ s ih => simp only [krK, ih]; rw [if_neg (by omega)]
theorem krK_succ (l : List Int) (k s : Nat) : krK l (k + 1) s = krK l k s + (symN l (k + 1) s).length * 2 ^ (15 - (k + 1)) := by
  induction s with
  | zero => simp [krK, symN]
  | succ s ih =>
    simp only [krK, ih]
    by_cases h : l.getD s 0 = ((k + 1 : Nat) : Int)
    · rw [symN_yes h, List.length_append, List.length_singleton, Nat.add_mul, Nat.one_mul, if_pos (by omega), if_neg (by omega), h]
      have : pw ((k + 1 : Nat) : Int).toNat = 2 ^ (15 - (k + 1)) := by rw [Int.toNat_natCast]; rfl
      rw [this]; omega
    · rw [symN_no h]
      by_cases h2 : 0 < l.getD s 0 ∧ l.getD s 0 ≤ k
      · rw [if_pos (by omega), if_pos h2]; omega
      · rw [if_neg (by omega), if_neg h2, Nat.add_zero]; rfl
theorem krK_used (l : List Int) (k : Nat) : krK l k l.length = usedB l k := by
  induction k with
  | zero => rw [krK_zero]; rfl
  | succ k ih => rw [krK_succ, ih]; rfl
theorem kr_used {l : List Int} (h : inB 0 15 l = true) : kr l l.length = usedB l 15 := by
  rw [← krK_used]
  have key : ∀ s, s ≤ l.length → kr l s = krK l 15 s := by
    intro s
    induction s with
    | zero => intro _; rfl
    | succ s ih =>
      intro hs
      have hb := inB_iff.1 h s (by omega)
      simp only [kr, krK, ih (by omega)]
      by_cases h0 : 0 < l.getD s 0
      · rw [if_pos h0, if_pos ⟨h0, by omega⟩]
      · rw [if_neg h0, if_neg (by omega)]
  exact key _ (Nat.le_refl _)
