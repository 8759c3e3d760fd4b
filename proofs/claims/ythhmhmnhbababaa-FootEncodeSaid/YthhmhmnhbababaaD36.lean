/- FootEncode's helpers. -/
import Derived.Test.YthhmhmnhbababaaD35
import Derived.Test.YthhmhmnhbababaaD30
namespace Go.Proofs.Ythhmhmnhbababaa.E
open Go
theorem st_len (n : Nat) : (List.replicate n (51 : UInt8) ++ List.replicate 64 52).length = n + 64 := by
  rw [List.length_append, List.length_replicate, List.length_replicate]
theorem st_lo {n i : Nat} (h : i < n) : (List.replicate n (51 : UInt8) ++ List.replicate 64 52).getD i 0 = 51 := by
  rw [List.getD_eq_getElem?_getD, List.getElem?_append_left (by rw [List.length_replicate]; exact h), List.getElem?_replicate, if_pos h]; rfl
theorem st_hi {n i : Nat} (h : n ≤ i) (h2 : i < n + 64) : (List.replicate n (51 : UInt8) ++ List.replicate 64 52).getD i 0 = 52 := by
  rw [List.getD_eq_getElem?_getD, List.getElem?_append_right (by rw [List.length_replicate]; exact h), List.length_replicate, List.getElem?_replicate, if_pos (by omega)]; rfl

/-- winnowlaw8.sameTiles -/
theorem sameTiles_eq (tl sl : List Ti) (v u : Value) (w : World) (hv : RdS tiC w v tl) (hu : RdS tiC w u sl) (hl : tl.length ≤ 1099511627776) (hbc : tl = sl) : Calls Try.prog 28 [v, u].toArray w (Rt fun r w' => r = .bool true ∧ Upd [] w w') := by
  subst hbc
  have hM0 : Mem w [] w [] := Mem.nil w []
  refine calls_vc mixed Try.func28 rfl C28 (by simp [Try.ntmps28]) ?_
  refine seq fun K1 h1 => ?_
  refine stp (v := .bool false) (o_mv rfl) ?_
  refine h1 _ _ ?_
  clear h1
  refine seq fun K2 h2 => ?_
  refine seq fun K3 h3 => ?_
  refine stp (v := v) (o_mv rfl) ?_
  refine stp (v := .int .i64 (tl.length : Nat)) (o_lenR (hv.upd hM0.upd) rfl rfl) ?_
  refine stp (v := u) (o_mv rfl) ?_
  refine stp (v := .int .i64 (tl.length : Nat)) (o_lenR (hu.upd hM0.upd) rfl rfl) ?_
  refine stp (v := .bool false) (o_bin rfl rfl v_neF) ?_
  refine h3 _ _ ?_
  clear h3
  refine cndF rfl ?_
  refine h2 _ _ ?_
  clear h2
  refine seq fun K4 h4 => ?_
  refine seq fun K5 h5 => ?_
  refine stp (v := .int .i64 0) (o_mv rfl) ?_
  refine h5 _ _ ?_
  clear h5
  refine lp (n := fun _ _ => False) (ι := (Nat)) (fun i f w' => f 5 = .int .i64 (i : Nat) ∧ f 0 = v ∧ f 1 = u ∧ Mem w [] w' [] ∧ (i ≤ tl.length)) (fun i => tl.length - i) (0) ?_ ?_
  · exact ⟨by first | rfl | exact v_int (by omega) | exact v_int (by simp) | exact v_int (by simp; omega), rfl, rfl, hM0, by omega⟩
  · rintro i f w6 ⟨e6_5, e6_0, e6_1, hM6, hi⟩ K7 h7
    obtain ⟨frm, rfl⟩ : ∃ frm, f = (upd (upd (upd frm 5 (.int .i64 (i : Nat))) 0 (v)) 1 (u)) := ⟨f, by rw [upd_self e6_5, upd_self e6_0, upd_self e6_1]⟩
    clear e6_5 e6_0 e6_1
    refine seq fun K8 h8 => ?_
    refine seq fun K9 h9 => ?_
    refine stp (v := .int .i64 (i : Nat)) (o_mv rfl) ?_
    refine stp (v := v) (o_mv rfl) ?_
    refine stp (v := .int .i64 (tl.length : Nat)) (o_lenR (hv.upd hM6.upd) rfl rfl) ?_
    refine stp (v := .bool (decide (((i : Nat) : Int) < (tl.length : Nat)))) (o_bin rfl rfl rfl) ?_
    refine h9 _ _ ?_
    clear h9
    refine cndP rfl (fun c10 => ?_) (fun c10 => ?_)
    ·
      refine h8 _ _ ?_
      clear h8
      refine seq fun K11 h11 => ?_
      refine seq fun K12 h12 => ?_
      intro wd e1 e2 e3 e4
      have hd := Upd.same e1 e2 e3 e4 []
      have hM13 := hM6.pure hd
      clear e1 e2 e3 e4
      refine ⟨none, ?_⟩
      show vd _ _ _ _ _ _ _
      refine dq (v := v) (o_mv rfl) ?_
      refine dq (v := .int .i64 (i : Nat)) (o_mv rfl) ?_
      refine dqp (m_idxS ti0 (j := i) (hv.upd hM13.upd) rfl rfl (by omega) fun b14 o14 hp14 => ?_)
      show vd _ _ _ _ _ _ _
      refine dq (v := u) (o_mv rfl) ?_
      refine dq (v := .int .i64 (i : Nat)) (o_mv rfl) ?_
      refine dqp (m_idxS ti0 (j := i) (hu.upd hM13.upd) rfl rfl (by omega) fun b15 o15 hp15 => ?_)
      show vd _ _ _ _ _ _ _
      refine dqldA (cs := [.int .i64 ((tl.getD i ti0).kd), .int .i64 ((tl.getD i ti0).fr), .int .i64 ((tl.getD i ti0).to)]) rfl (trivial) rfl (hp15.row (k := 0) rfl rfl) ?_
      refine dl (ldA (cs := [.int .i64 ((tl.getD i ti0).kd), .int .i64 ((tl.getD i ti0).fr), .int .i64 ((tl.getD i ti0).to)]) rfl rfl (hp14.row (k := 0) rfl rfl) ?_)
      refine ⟨rfl, ?_⟩
      refine dq (v := .bool (!(decide (((tl.getD i ti0).kd) = ((tl.getD i ti0).kd)) && (decide (((tl.getD i ti0).fr) = ((tl.getD i ti0).fr)) && (decide (((tl.getD i ti0).to) = ((tl.getD i ti0).to)) && true))))) (o_aeq (t := (decide (((tl.getD i ti0).kd) = ((tl.getD i ti0).kd)) && (decide (((tl.getD i ti0).fr) = ((tl.getD i ti0).fr)) && (decide (((tl.getD i ti0).to) = ((tl.getD i ti0).to)) && true)))) rfl rfl (by simp [eqCs, eqC, toList_str, Int.natCast_inj]) rfl) ?_
      refine h12 _ _ ?_
      clear h12
      refine cnd rfl (fun c16 => absurd c16 (show ¬ (!(decide (((tl.getD i ti0).kd) = ((tl.getD i ti0).kd)) && (decide (((tl.getD i ti0).fr) = ((tl.getD i ti0).fr)) && (decide (((tl.getD i ti0).to) = ((tl.getD i ti0).to)) && true)))) = true from (by simp))) (fun c16 => ?_)
      refine h11 _ _ ?_
      clear h11
      refine stp (v := .int .i64 (i : Nat)) (o_mv rfl) ?_
      refine stp (v := .int .i64 ((i : Nat) + 1)) (o_bin rfl rfl (v_add64 (by constructor <;> omega))) ?_
      refine stp (v := .int .i64 ((i : Nat) + 1)) (o_mv rfl) ?_
      refine h7 (i + 1) _ _ ⟨by first | rfl | exact v_int (by omega) | exact v_int (by simp) | exact v_int (by simp; omega), rfl, rfl, hM13, by omega⟩ (by (try dsimp only); omega)
    ·
      refine h4 _ _ ?_
      clear h4
      refine seq fun K17 h17 => ?_
      refine stp (v := .bool true) (o_mv rfl) ?_
      refine h17 _ _ ?_
      clear h17
      refine ⟨(.bool true), rfl, ?_⟩
      exact ⟨rfl, hM6.upd⟩

/-- winnowlaw8.stays -/
theorem stays_ok (v : Value) (n : Nat) (w : World) (hv : RdE byteV w v (List.replicate n 51 ++ List.replicate 64 52)) (hn : n ≤ 1099511627776) : Calls Try.prog 30 [v, .int .i64 (n : Nat)].toArray w (Rt fun r w' => r = .bool true ∧ Upd [] w w') := by
  have hM0 : Mem w [] w [] := Mem.nil w []
  have hsl := st_len n
  refine calls_vc mixed Try.func30 rfl C30 (by simp [Try.ntmps30]) ?_
  refine seq fun K1 h1 => ?_
  refine stp (v := .bool false) (o_mv rfl) ?_
  refine h1 _ _ ?_
  clear h1
  refine seq fun K2 h2 => ?_
  refine seq fun K3 h3 => ?_
  refine stp (v := .int .i64 0) (o_mv rfl) ?_
  refine h3 _ _ ?_
  clear h3
  refine lp (n := fun _ _ => False) (ι := (Nat)) (fun i f w' => f 5 = .int .i64 (i : Nat) ∧ f 0 = v ∧ f 1 = .int .i64 (n : Nat) ∧ Mem w [] w' [] ∧ (i ≤ n + 64)) (fun i => n + 64 - i) (0) ?_ ?_
  · exact ⟨by first | rfl | exact v_int (by omega) | exact v_int (by simp) | exact v_int (by simp; omega), rfl, by first | rfl | exact v_int (by omega) | exact v_int (by simp) | exact v_int (by simp; omega), hM0, by omega⟩
  · rintro i f w4 ⟨e4_5, e4_0, e4_1, hM4, hi⟩ K5 h5
    obtain ⟨frm, rfl⟩ : ∃ frm, f = (upd (upd (upd frm 5 (.int .i64 (i : Nat))) 0 (v)) 1 (.int .i64 (n : Nat))) := ⟨f, by rw [upd_self e4_5, upd_self e4_0, upd_self e4_1]⟩
    clear e4_5 e4_0 e4_1
    refine seq fun K6 h6 => ?_
    refine seq fun K7 h7 => ?_
    refine stp (v := .int .i64 (i : Nat)) (o_mv rfl) ?_
    refine stp (v := v) (o_mv rfl) ?_
    refine stp (v := .int .i64 ((List.replicate n (51 : UInt8) ++ List.replicate 64 52).length : Nat)) (o_lenR (hv.upd hM4.upd) rfl rfl) ?_
    refine stp (v := .bool (decide (((i : Nat) : Int) < ((List.replicate n (51 : UInt8) ++ List.replicate 64 52).length : Nat)))) (o_bin rfl rfl rfl) ?_
    refine h7 _ _ ?_
    clear h7
    refine cndP rfl (fun c8 => ?_) (fun c8 => ?_)
    ·
      refine h6 _ _ ?_
      clear h6
      refine seq fun K9 h9 => ?_
      refine seq fun K10 h10 => ?_
      refine stp (v := .int .i64 (i : Nat)) (o_mv rfl) ?_
      refine stp (v := .int .i64 (n : Nat)) (o_mv rfl) ?_
      refine stp (v := .bool (decide (((i : Nat) : Int) < (n : Nat)))) (o_bin rfl rfl rfl) ?_
      refine stp (v := .bool (decide (((i : Nat) : Int) < (n : Nat)))) (o_mv rfl) ?_
      refine splitP rfl (fun c11 => ?_) (fun c11 => ?_)
      ·
        refine stg rfl (v := v) (o_mv rfl) ?_
        refine stg rfl (v := .int .i64 (i : Nat)) (o_mv rfl) ?_
        refine gyes rfl rfl (m_idxE 0 (j := i) (hv.upd hM4.upd) rfl rfl (by omega) fun b12 o12 hp12 => ?_)
        refine gyesl rfl ?_
        refine ld (v := byteV ((List.replicate n (51 : UInt8) ++ List.replicate 64 52).getD i 0)) rfl (hp12) ?_
        refine stg rfl (v := .bool (decide (¬ (((List.replicate n (51 : UInt8) ++ List.replicate 64 52).getD i 0).toNat : Int) = 51))) (o_bin rfl rfl v_neq) ?_
        refine stp (v := .bool (decide (¬ (((List.replicate n (51 : UInt8) ++ List.replicate 64 52).getD i 0).toNat : Int) = 51))) (o_pickT rfl rfl) ?_
        refine stp (v := .bool (decide (¬ (((List.replicate n (51 : UInt8) ++ List.replicate 64 52).getD i 0).toNat : Int) = 51))) (o_mv rfl) ?_
        refine splitP rfl (fun c13 => absurd c13 (by rw [st_lo (by omega)]; exact fun h => h rfl)) (fun c13 => ?_)
        refine stg rfl (v := .int .i64 (i : Nat)) (o_mv rfl) ?_
        refine stg rfl (v := .int .i64 (n : Nat)) (o_mv rfl) ?_
        refine stg rfl (v := .bool (decide (((n : Nat) : Int) ≤ ((i : Nat) : Int)))) (o_bin rfl rfl rfl) ?_
        refine stg rfl (v := .bool (decide (((n : Nat) : Int) ≤ ((i : Nat) : Int)))) (o_mv rfl) ?_
        refine splitP rfl (fun c14 => absurd c14 (by omega)) (fun c14 => ?_)
        refine gno rfl (by simp) ?_
        refine gno rfl (by simp) ?_
        refine gno rfl (by simp) ?_
        refine gnol rfl (by simp) ?_
        refine gno rfl (by simp) ?_
        refine stg rfl (v := .bool false) (o_pickF rfl rfl) ?_
        refine stp (v := .bool false) (o_pickF rfl rfl) ?_
        refine h10 _ _ ?_
        clear h10
        refine cndF rfl ?_
        refine h9 _ _ ?_
        clear h9
        refine stp (v := .int .i64 (i : Nat)) (o_mv rfl) ?_
        refine stp (v := .int .i64 ((i : Nat) + 1)) (o_bin rfl rfl (v_add64 (by constructor <;> omega))) ?_
        refine stp (v := .int .i64 ((i : Nat) + 1)) (o_mv rfl) ?_
        refine h5 (i + 1) _ _ ⟨by first | rfl | exact v_int (by omega) | exact v_int (by simp) | exact v_int (by simp; omega), rfl, by first | rfl | exact v_int (by omega) | exact v_int (by simp) | exact v_int (by simp; omega), hM4, by omega⟩ (by (try dsimp only); omega)
      ·
        refine gno rfl (by simp) ?_
        refine gno rfl (by simp) ?_
        refine gno rfl (by simp) ?_
        refine gnol rfl (by simp) ?_
        refine gno rfl (by simp) ?_
        refine stp (v := .bool false) (o_pickF rfl rfl) ?_
        refine stp (v := .bool false) (o_mv rfl) ?_
        refine splitF rfl ?_
        refine stg rfl (v := .int .i64 (i : Nat)) (o_mv rfl) ?_
        refine stg rfl (v := .int .i64 (n : Nat)) (o_mv rfl) ?_
        refine stg rfl (v := .bool (decide (((n : Nat) : Int) ≤ ((i : Nat) : Int)))) (o_bin rfl rfl rfl) ?_
        refine stg rfl (v := .bool (decide (((n : Nat) : Int) ≤ ((i : Nat) : Int)))) (o_mv rfl) ?_
        refine splitP rfl (fun c15 => ?_) (fun c15 => (c15 (by omega)).elim)
        refine stg rfl (v := v) (o_mv rfl) ?_
        refine stg rfl (v := .int .i64 (i : Nat)) (o_mv rfl) ?_
        refine gyes rfl rfl (m_idxE 0 (j := i) (hv.upd hM4.upd) rfl rfl (by omega) fun b16 o16 hp16 => ?_)
        refine gyesl rfl ?_
        refine ld (v := byteV ((List.replicate n (51 : UInt8) ++ List.replicate 64 52).getD i 0)) rfl (hp16) ?_
        refine stg rfl (v := .bool (decide (¬ (((List.replicate n (51 : UInt8) ++ List.replicate 64 52).getD i 0).toNat : Int) = 52))) (o_bin rfl rfl v_neq) ?_
        refine stg rfl (v := .bool (decide (¬ (((List.replicate n (51 : UInt8) ++ List.replicate 64 52).getD i 0).toNat : Int) = 52))) (o_pickT rfl rfl) ?_
        refine stp (v := .bool (decide (¬ (((List.replicate n (51 : UInt8) ++ List.replicate 64 52).getD i 0).toNat : Int) = 52))) (o_pickF rfl rfl) ?_
        refine h10 _ _ ?_
        clear h10
        refine cndP rfl (fun c17 => absurd c17 (by rw [st_hi (by omega) (by omega)]; exact fun h => h rfl)) (fun c17 => ?_)
        refine h9 _ _ ?_
        clear h9
        refine stp (v := .int .i64 (i : Nat)) (o_mv rfl) ?_
        refine stp (v := .int .i64 ((i : Nat) + 1)) (o_bin rfl rfl (v_add64 (by constructor <;> omega))) ?_
        refine stp (v := .int .i64 ((i : Nat) + 1)) (o_mv rfl) ?_
        refine h5 (i + 1) _ _ ⟨by first | rfl | exact v_int (by omega) | exact v_int (by simp) | exact v_int (by simp; omega), rfl, by first | rfl | exact v_int (by omega) | exact v_int (by simp) | exact v_int (by simp; omega), hM4, by omega⟩ (by (try dsimp only); omega)
    ·
      refine h2 _ _ ?_
      clear h2
      refine seq fun K18 h18 => ?_
      refine stp (v := v) (o_mv rfl) ?_
      refine stp (v := .int .i64 ((List.replicate n (51 : UInt8) ++ List.replicate 64 52).length : Nat)) (o_lenR (hv.upd hM4.upd) rfl rfl) ?_
      refine stp (v := .int .i64 (n : Nat)) (o_mv rfl) ?_
      refine stp (v := .int .i64 ((n : Nat) + 64)) (o_bin rfl rfl (v_add64 (by constructor <;> omega))) ?_
      refine stp (v := .bool (decide ((((List.replicate n (51 : UInt8) ++ List.replicate 64 52).length : Nat) : Int) = ((n : Nat) + 64)))) (o_bin rfl rfl rfl) ?_
      refine stp (v := .bool (decide ((((List.replicate n (51 : UInt8) ++ List.replicate 64 52).length : Nat) : Int) = ((n : Nat) + 64)))) (o_mv rfl) ?_
      refine h18 _ _ ?_
      clear h18
      refine ⟨(.bool (decide ((((List.replicate n (51 : UInt8) ++ List.replicate 64 52).length : Nat) : Int) = ((n : Nat) + 64)))), rfl, ?_⟩
      exact ⟨congrArg Value.bool (decide_eq_true (by omega)), hM4.upd⟩
