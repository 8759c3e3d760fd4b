/- HuffLeast: the law's walk. -/
import Derived.Test.YtojnkjnebejodaaS21
import Derived.Test.YtojnkjnebejodaaS22
namespace Go.Proofs.Ytojnkjnebejodaa.E
open Go
theorem used_sum (cs : List Int) : ∀ i, usedF cs i = sumU i fun s => if 0 < cs.getD s 0 then 1 else 0
  | 0 => rfl
  | i + 1 => by rw [usedF, sumU, used_sum cs i]
theorem used_eq (cs : List Int) : usedF cs cs.length = (thF cs).length := by rw [used_sum, thF_count]
theorem krK_sum (l : List Int) (k : Nat) : ∀ s, krK l k s = sumU s fun i => if 0 < l.getD i 0 ∧ l.getD i 0 ≤ k then pw (l.getD i 0).toNat else 0
  | 0 => rfl
  | s + 1 => by rw [krK, sumU, krK_sum l k s]
theorem getI_set {l : List Int} {i : Nat} {x : Int} (h : i < l.length) : (l.set i x).getD i 0 = x := by
  rw [List.getD_eq_getElem?_getD, List.getElem?_set, if_pos rfl, if_pos h]; rfl
theorem getI_ne {l : List Int} {i s : Nat} {x : Int} (h : ¬ s = i) : (l.set i x).getD s 0 = l.getD s 0 := by
  rw [List.getD_eq_getElem?_getD, List.getElem?_set, if_neg (fun e => h e.symm), ← List.getD_eq_getElem?_getD]
theorem dot_sumN : ∀ (n : Nat) (cs ls : List Int), n ≤ cs.length → n ≤ ls.length → dot (cs.take n) (ls.take n) = sumN n fun i => cs.getD i 0 * ls.getD i 0
  | 0, cs, ls, _, _ => by simp [dot, sumN]
  | n + 1, cs, ls, h1, h2 => by
    rw [dot_take n cs ls (by omega) (by omega), dot_sumN n cs ls (by omega) (by omega), sumN]
theorem dF_all {cs : List Int} (hl : cs.length ≤ 256) (h0 : ∀ i, 0 ≤ cs.getD i 0) {lim : Nat} (h1 : 1 ≤ lim) (hk : (thF cs).length ≤ 2 ^ lim) {i : Nat} (hi : i < cs.length) (hc : 0 < cs.getD i 0) : 1 ≤ dF cs lim i := by
  rcases Nat.lt_or_ge (thF cs).length 2 with k | k
  · have hone : (thF cs).length = 1 := by
      have hs := sumU_ge (g := fun i => if 0 < cs.getD i 0 then 1 else 0) hi
      rw [thF_count] at hs
      rw [if_pos hc] at hs; omega
    have e := lens_get (cs := cs) (lim := lim) hi
    rw [lens_one hone, mapR_get hi, if_pos hc] at e
    omega
  · exact dF_pos hl h0 h1 hk k hi hc
theorem lens_krle {cs : List Int} (hl : cs.length ≤ 256) (h0 : ∀ i, 0 ≤ cs.getD i 0) {lim : Nat} (h1 : 1 ≤ lim) (h15 : lim ≤ 15) (hk : (thF cs).length ≤ 2 ^ lim) : krK (lensF cs lim) 15 (lensF cs lim).length ≤ 32768 := by
  rw [krK_used]; exact (lens_codes hl h0 h1 h15 hk).1
/-- other lengths: from 1 to L where there is a count, else 0 -/
def MnI (c M : List Int) (L : Nat) (s : Nat) : Prop := (0 < c.getD s 0 → 1 ≤ M.getD s 0 ∧ M.getD s 0 ≤ L) ∧ (¬ 0 < c.getD s 0 → M.getD s 0 = 0)
theorem mine_kr {c M : List Int} {L : Nat} (h15 : L ≤ 15) (hM : ∀ s, s < c.length → MnI c M L s) : krK M 15 c.length = sumU c.length (fun i => if 0 < c.getD i 0 then 2 ^ (L - (M.getD i 0).toNat) else 0) * 2 ^ (15 - L) := by
  rw [krK_sum, ← sumU_mul]
  refine sumU_congr fun i hi => ?_
  obtain ⟨a, b⟩ := hM i hi
  by_cases d : 0 < c.getD i 0
  · have := a d
    rw [if_pos (by omega), if_pos d]
    unfold pw
    rw [← Nat.pow_add]; congr 1; omega
  · rw [b d, if_neg (by omega), if_neg d, Nat.zero_mul]
theorem mine_end {c M : List Int} {L : Nat} (h15 : L ≤ 15) (hM : ∀ s, s < c.length → MnI c M L s) (hk : (thF c).length ≤ 2 ^ L) (hd : (∀ s, s < c.length → 0 < c.getD s 0 → M.getD s 0 = L) ∨ krK M 15 c.length ≤ 32768) : krK M 15 c.length ≤ 32768 := by
  rcases hd with hd | hd
  · rw [mine_kr h15 hM, sumU_congr (h := fun i => if 0 < c.getD i 0 then 1 else 0) fun i hi => ?_, thF_count]
    · have e : 2 ^ L * 2 ^ (15 - L) = 32768 := by rw [← Nat.pow_add, show L + (15 - L) = 15 by omega]
      have := Nat.mul_le_mul_right (2 ^ (15 - L)) hk
      omega
    · by_cases d : 0 < c.getD i 0
      · rw [if_pos d, if_pos d, hd i hi d, Int.toNat_natCast, Nat.sub_self, Nat.pow_zero]
      · rw [if_neg d, if_neg d]
  · exact hd
/-- **the law's last line** -/
theorem mine_cost {c M : List Int} {L : Nat} (hl : c.length ≤ 256) (h0 : ∀ i, 0 ≤ c.getD i 0) (h1 : 1 ≤ L) (h15 : L ≤ 15) (hk : (thF c).length ≤ 2 ^ L) (hM : ∀ s, s < c.length → MnI c M L s) (hkr : krK M 15 c.length ≤ 32768) : dot c (lensF c L) ≤ sumN c.length fun i => c.getD i 0 * M.getD i 0 := by
  have e := dot_sumN c.length c (lensF c L) (Nat.le_refl _) (by rw [lens_len]; exact Nat.le_refl _)
  have hll := lens_len c L
  rw [List.take_length, ← hll, List.take_length, hll] at e
  rw [e]
  have hq : ∀ i, i < c.length → M.getD i 0 = (((if i < c.length then (M.getD i 0).toNat else 0 : Nat)) : Int) := fun i hi => by
    rw [if_pos hi]
    obtain ⟨a, b⟩ := hM i hi
    by_cases d : 0 < c.getD i 0
    · have := a d; omega
    · rw [b d]; rfl
  rw [sumN_congr (g := fun i => c.getD i 0 * (lensF c L).getD i 0) (h := fun i => c.getD i 0 * (dF c L i : Nat)) fun i hi => by rw [lens_get hi]]
  rw [sumN_congr (g := fun i => c.getD i 0 * M.getD i 0) (h := fun i => c.getD i 0 * (((if i < c.length then (M.getD i 0).toNat else 0 : Nat)) : Int)) fun i hi => by rw [← hq i hi]]
  refine least_lens hl h0 h1 hk _ (fun i => ?_) (fun i hi hc => ?_) (fun i hi => ?_) ?_
  · split
    · rename_i hi
      obtain ⟨a, b⟩ := hM i hi
      by_cases d : 0 < c.getD i 0
      · have := a d; omega
      · rw [b d]; exact Nat.zero_le _
    · exact Nat.zero_le _
  · rw [if_pos hi]
    have := (hM i hi).1 hc; omega
  · by_cases d : i < c.length
    · rw [if_pos d, (hM i d).2 (fun k => hi ⟨d, k⟩)]; rfl
    · rw [if_neg d]
  · rw [mine_kr h15 hM] at hkr
    have e2 : 2 ^ L * 2 ^ (15 - L) = 32768 := by rw [← Nat.pow_add, show L + (15 - L) = 15 by omega]
    rw [sumU_congr (h := fun i => if 0 < c.getD i 0 then 2 ^ (L - (M.getD i 0).toNat) else 0) fun i hi => by rw [if_pos hi]]
    have h3 : sumU c.length (fun i => if 0 < c.getD i 0 then 2 ^ (L - (M.getD i 0).toNat) else 0) * 2 ^ (15 - L) ≤ 2 ^ L * 2 ^ (15 - L) := by omega
    exact Nat.le_of_mul_le_mul_right h3 (Nat.pow_pos (show 0 < 2 by omega))
theorem mine_set {c M : List Int} {L i : Nat} {v : Int} (hi : i < M.length) (hc : 0 < c.getD i 0) (hv : 1 ≤ v ∧ v ≤ L) {s : Nat} (hs : s = i ∨ MnI c M L s) : MnI c (M.set i v) L s := by
  by_cases e : s = i
  · subst e
    unfold MnI
    rw [getI_set hi]
    exact ⟨fun _ => hv, fun k => absurd hc k⟩
  · unfold MnI
    rw [getI_ne e]
    rcases hs with hs | hs
    · exact absurd hs e
    · exact hs

set_option maxHeartbeats 1000000 in
set_option maxRecDepth 100000 in
/-- winnowlaw4.HuffLeast -/
theorem HuffLeast_ok (x : Value) (cs : List Int) (lim : Int) (y : Value) (os : List Int) (hk : inK .i64 lim) (w : World) (hx : RdE i64V w x cs) (_ : ∀ c ∈ cs, inK .i64 c) (hl : cs.length * 8 ≤ 140737488351232) (hy : RdE i64V w y os) (hoB : ∀ c ∈ os, inK .i64 c) (hlo : os.length * 8 ≤ 140737488351232) : Calls Try.prog 7 [x, .int .i64 lim, y].toArray w (Rt fun r w' => r = .bool true ∧ Upd [] w w') := by
  have hM0 : Mem w [] w [] := Mem.nil w []
  simp only [inK] at hk
  refine calls_vc mixed Try.func7 rfl C7 (by simp [Try.ntmps7]) ?_
  refine seq fun K1 h1 => ?_
  refine stp (v := .bool false) (o_mv rfl) ?_
  refine h1 _ _ ?_
  clear h1
  refine seq fun K2 h2 => ?_
  refine stp (v := x) (o_mv rfl) ?_
  refine m_call (bent_ok _ cs w (hx.upd hM0.upd) (by omega)) rfl fun v3 w3 ⟨rs3, hs3, hm3⟩ => ?_
  have hM3 : Mem w [] w3 [rs3] := hM0.add hm3
  have hbl := bent_len cs
  have hb0 : ∀ i, 0 ≤ (bentF cs).getD i 0 := fun i => (bent_bd cs i).1
  refine stp (v := v3) (o_mv rfl) ?_
  refine h2 _ _ ?_
  clear h2
  refine seq fun K4 h4 => ?_
  refine stp (v := v3) (o_mv rfl) ?_
  refine m_call (used_ok _ (bentF cs) w3 (hs3.rd hM3 (i := 0) rfl) (by omega)) rfl fun v5 w5 ⟨hr5, hu5⟩ => ?_
  have hM5 : Mem w [] w5 [rs3] := hM3.pure hu5
  rw [used_eq] at hr5
  subst hr5
  have hfl := thF_len (bentF cs)
  refine stp (v := .int .i64 ((thF (bentF cs)).length : Nat)) (o_mv rfl) ?_
  refine h4 _ _ ?_
  clear h4
  refine seq fun K6 h6 => ?_
  refine stp (v := .int .i64 lim) (o_mv rfl) ?_
  refine stp (v := .int .i64 ((thF (bentF cs)).length : Nat)) (o_mv rfl) ?_
  refine m_call (limited_ok lim ((thF (bentF cs)).length) w5 (by simp only [inK]; omega) (by omega)) rfl fun v7 w7 ⟨L, hr7, hL, hu7⟩ => ?_
  have hM7 : Mem w [] w7 [rs3] := hM5.pure hu7
  subst hr7
  have hinB : inB 0 1099511627776 (bentF cs) = true := inB_iff.2 fun i _ => (by have := bent_bd cs i; omega)
  have hlen : lenF (bentF cs) (L : Nat) = ((lensF (bentF cs) L), 0) := lenF_ok (by omega) ⟨hinB, by omega, by omega⟩ (by rw [Int.toNat_natCast]; omega)
  have hlb := lens_inB (cs := (bentF cs)) (lim := L) (by omega) (by omega)
  have hll := lens_len (bentF cs) L
  have hcost : cost (bentF cs) (lensF (bentF cs) L) = (dot (bentF cs) (lensF (bentF cs) L), 0) := cost_ok (by omega) hinB hlb
  refine stp (v := .int .i64 (L : Nat)) (o_mv rfl) ?_
  refine h6 _ _ ?_
  clear h6
  refine seq fun K8 h8 => ?_
  refine stp (v := v3) (o_mv rfl) ?_
  refine stp (v := .int .i64 (L : Nat)) (o_mv rfl) ?_
  refine m_call (Lengths_ok _ (bentF cs) (L : Nat) w7 (hs3.rd hM7 (i := 0) rfl) (by omega) (by simp only [inK]; omega)) rfl fun v9 w9 ⟨y9, rs9, hr9, hs9, hm9⟩ => ?_
  have hM9 : Mem w [] w9 [rs3, rs9] := hM7.add hm9
  rw [hlen] at hr9 hs9
  dsimp only at hr9 hs9
  subst hr9
  refine stp (v := .tuple [y9, .int .i64 0].toArray) (o_mv rfl) ?_
  refine stp (v := y9) (o_ext rfl rfl) ?_
  refine stp (v := .int .i64 0) (o_ext rfl rfl) ?_
  refine stp (v := y9) (o_mv rfl) ?_
  refine stp (v := .int .i64 0) (o_mv rfl) ?_
  refine h8 _ _ ?_
  clear h8
  refine seq fun K10 h10 => ?_
  refine stp (v := v3) (o_mv rfl) ?_
  refine stp (v := y9) (o_mv rfl) ?_
  refine m_call (Cost_ok _ _ (bentF cs) (lensF (bentF cs) L) w9 (hs3.rd hM9 (i := 0) rfl) (hs9.rd hM9 (i := 1) rfl) (by omega) (by omega)) rfl fun v11 w11 ⟨hr11, hu11⟩ => ?_
  have hM11 : Mem w [] w11 [rs3, rs9] := hM9.pure hu11
  rw [hcost] at hr11
  subst hr11
  refine stp (v := .tuple [.int .i64 (dot (bentF cs) (lensF (bentF cs) L)), .int .i64 0].toArray) (o_mv rfl) ?_
  refine stp (v := .int .i64 (dot (bentF cs) (lensF (bentF cs) L))) (o_ext rfl rfl) ?_
  refine stp (v := .int .i64 0) (o_ext rfl rfl) ?_
  refine stp (v := .int .i64 (dot (bentF cs) (lensF (bentF cs) L))) (o_mv rfl) ?_
  refine stp (v := .int .i64 0) (o_mv rfl) ?_
  refine h10 _ _ ?_
  clear h10
  refine seq fun K12 h12 => ?_
  refine seq fun K13 h13 => ?_
  refine stp (v := .int .i64 0) (o_mv rfl) ?_
  refine stp (v := .bool false) (o_bin rfl rfl v_neF) ?_
  refine stp (v := .bool false) (o_mv rfl) ?_
  refine splitF rfl ?_
  refine stg rfl (v := .int .i64 0) (o_mv rfl) ?_
  refine stg rfl (v := .bool false) (o_bin rfl rfl v_neF) ?_
  refine stp (v := .bool false) (o_pickF rfl rfl) ?_
  refine stp (v := .bool false) (o_mv rfl) ?_
  refine splitF rfl ?_
  refine stg rfl (v := y9) (o_mv rfl) ?_
  refine stg rfl (v := .int .i64 ((lensF (bentF cs) L).length : Nat)) (o_lenR (hs9.rd hM11 (i := 1) rfl) rfl rfl) ?_
  refine stg rfl (v := v3) (o_mv rfl) ?_
  refine stg rfl (v := .int .i64 ((bentF cs).length : Nat)) (o_lenR (hs3.rd hM11 (i := 0) rfl) rfl rfl) ?_
  refine stg rfl (v := .bool (decide (¬ (((lensF (bentF cs) L).length : Nat) : Int) = ((bentF cs).length : Nat)))) (o_bin rfl rfl v_neq) ?_
  refine stp (v := .bool (decide (¬ (((lensF (bentF cs) L).length : Nat) : Int) = ((bentF cs).length : Nat)))) (o_pickF rfl rfl) ?_
  refine h13 _ _ ?_
  clear h13
  refine cndP rfl (fun c14 => absurd c14 (by omega)) (fun c14 => ?_)
  refine h12 _ _ ?_
  clear h12
  refine seq fun K15 h15 => ?_
  refine seq fun K16 h16 => ?_
  refine stp (v := .int .i64 0) (o_mv rfl) ?_
  refine h16 _ _ ?_
  clear h16
  refine lp (n := fun _ _ => False) (ι := (Nat)) (fun i f w' => f 14 = .int .i64 (i : Nat) ∧ f 2 = y ∧ f 7 = v3 ∧ f 9 = .int .i64 (L : Nat) ∧ f 10 = y9 ∧ f 12 = .int .i64 (dot (bentF cs) (lensF (bentF cs) L)) ∧ Mem w [] w' [rs3, rs9] ∧ (i ≤ (bentF cs).length)) (fun i => (bentF cs).length - i) (0) ?_ ?_
  · exact ⟨by first | rfl | exact v_int (by omega) | exact v_int (by simp) | exact v_int (by simp; omega), rfl, rfl, by first | rfl | exact v_int (by omega) | exact v_int (by simp) | exact v_int (by simp; omega), rfl, by first | rfl | exact v_int (by omega) | exact v_int (by simp) | exact v_int (by simp; omega), hM11, by omega⟩
  · rintro i f w17 ⟨e17_14, e17_2, e17_7, e17_9, e17_10, e17_12, hM17, hi⟩ K18 h18
    obtain ⟨frm, rfl⟩ : ∃ frm, f = (upd (upd (upd (upd (upd (upd frm 14 (.int .i64 (i : Nat))) 2 (y)) 7 (v3)) 9 (.int .i64 (L : Nat))) 10 (y9)) 12 (.int .i64 (dot (bentF cs) (lensF (bentF cs) L)))) := ⟨f, by rw [upd_self e17_14, upd_self e17_2, upd_self e17_7, upd_self e17_9, upd_self e17_10, upd_self e17_12]⟩
    clear e17_14 e17_2 e17_7 e17_9 e17_10 e17_12
    refine seq fun K19 h19 => ?_
    refine seq fun K20 h20 => ?_
    refine stp (v := .int .i64 (i : Nat)) (o_mv rfl) ?_
    refine stp (v := v3) (o_mv rfl) ?_
    refine stp (v := .int .i64 ((bentF cs).length : Nat)) (o_lenR (hs3.rd hM17 (i := 0) rfl) rfl rfl) ?_
    refine stp (v := .bool (decide (((i : Nat) : Int) < ((bentF cs).length : Nat)))) (o_bin rfl rfl rfl) ?_
    refine h20 _ _ ?_
    clear h20
    refine cndP rfl (fun c21 => ?_) (fun c21 => ?_)
    ·
      refine h19 _ _ ?_
      clear h19
      refine seq fun K22 h22 => ?_
      refine seq fun K23 h23 => ?_
      intro wd e1 e2 e3 e4
      have hd := Upd.same e1 e2 e3 e4 []
      have hM24 := hM17.pure hd
      clear e1 e2 e3 e4
      refine ⟨none, ?_⟩
      show vd _ _ _ _ _ _ _
      have hlg := lens_get (cs := (bentF cs)) (lim := L) (i := i) (by omega)
      have hdl := dF_le (cs := (bentF cs)) (lim := L) (by omega) i
      have hbi := hb0 i
      have hda : 0 < (bentF cs).getD i 0 → 1 ≤ dF (bentF cs) L i := fun hc => dF_all (by omega) hb0 (by omega) (by omega) (by omega) hc
      have hdb : ¬ 0 < (bentF cs).getD i 0 → dF (bentF cs) L i = 0 := fun hc => dF_absent (fun k => hc k.2)
      refine dq (v := y9) (o_mv rfl) ?_
      refine dq (v := .int .i64 (i : Nat)) (o_mv rfl) ?_
      refine dqp (m_idxE 0 (j := i) (hs9.rd hM24 (i := 1) rfl) rfl rfl (by omega) fun b25 o25 hp25 => ?_)
      show vd _ _ _ _ _ _ _
      refine dl (ld (v := .int .i64 ((lensF (bentF cs) L).getD i 0)) rfl (hp25) ?_)
      refine ⟨rfl, ?_⟩
      refine dq (v := .bool (decide (((lensF (bentF cs) L).getD i 0) < 0))) (o_bin rfl rfl rfl) ?_
      refine dq (v := .bool (decide (((lensF (bentF cs) L).getD i 0) < 0))) (o_mv rfl) ?_
      refine dsplitP rfl (fun c26 => absurd c26 (by omega)) (fun c26 => ?_)
      refine dqg rfl (v := y9) (o_mv rfl) ?_
      refine dqg rfl (v := .int .i64 (i : Nat)) (o_mv rfl) ?_
      refine dgyes rfl rfl (dqp (m_idxE 0 (j := i) (hs9.rd hM24 (i := 1) rfl) rfl rfl (by omega) fun b27 o27 hp27 => ?_))
      show vd _ _ _ _ _ _ _
      refine dqg rfl (v := .int .i64 (L : Nat)) (o_mv rfl) ?_
      refine dgyesl rfl ?_
      refine dl (ld (v := .int .i64 ((lensF (bentF cs) L).getD i 0)) rfl (hp27) ?_)
      refine ⟨rfl, ?_⟩
      refine dqg rfl (v := .bool (decide ((L : Nat) < ((lensF (bentF cs) L).getD i 0)))) (o_bin rfl rfl rfl) ?_
      refine dq (v := .bool (decide ((L : Nat) < ((lensF (bentF cs) L).getD i 0)))) (o_pickF rfl rfl) ?_
      refine dq (v := .bool (decide ((L : Nat) < ((lensF (bentF cs) L).getD i 0)))) (o_mv rfl) ?_
      refine dsplitP rfl (fun c28 => absurd c28 (by omega)) (fun c28 => ?_)
      refine dqg rfl (v := y9) (o_mv rfl) ?_
      refine dqg rfl (v := .int .i64 (i : Nat)) (o_mv rfl) ?_
      refine dgyes rfl rfl (dqp (m_idxE 0 (j := i) (hs9.rd hM24 (i := 1) rfl) rfl rfl (by omega) fun b29 o29 hp29 => ?_))
      show vd _ _ _ _ _ _ _
      refine dqg rfl (v := v3) (o_mv rfl) ?_
      refine dqg rfl (v := .int .i64 (i : Nat)) (o_mv rfl) ?_
      refine dgyes rfl rfl (dqp (m_idxE 0 (j := i) (hs3.rd hM24 (i := 0) rfl) rfl rfl (by omega) fun b30 o30 hp30 => ?_))
      show vd _ _ _ _ _ _ _
      refine dqgyes rfl rfl ?_
      refine dqld rfl (trivial) (v := .int .i64 ((bentF cs).getD i 0)) (hp30) ?_
      refine dqg rfl (v := .bool (decide ((0 : Int) < ((bentF cs).getD i 0)))) (o_bin rfl rfl rfl) ?_
      refine dgyesl rfl ?_
      refine dl (ld (v := .int .i64 ((lensF (bentF cs) L).getD i 0)) rfl (hp29) ?_)
      refine ⟨rfl, ?_⟩
      refine dqg rfl (v := .bool (decide ((0 : Int) < ((lensF (bentF cs) L).getD i 0)))) (o_bin rfl rfl rfl) ?_
      refine dqg rfl (v := .bool (decide (¬ (decide ((0 : Int) < ((lensF (bentF cs) L).getD i 0))) = (decide ((0 : Int) < ((bentF cs).getD i 0)) : Bool)))) (o_beq rfl rfl (by simp)) ?_
      refine dq (v := .bool (decide (¬ (decide ((0 : Int) < ((lensF (bentF cs) L).getD i 0))) = (decide ((0 : Int) < ((bentF cs).getD i 0)) : Bool)))) (o_pickF rfl rfl) ?_
      refine h23 _ _ ?_
      clear h23
      refine cndP rfl (fun c31 => absurd c31 (fun h => h (by rw [decide_eq_decide]; omega))) (fun c31 => ?_)
      refine h22 _ _ ?_
      clear h22
      refine stp (v := .int .i64 (i : Nat)) (o_mv rfl) ?_
      refine stp (v := .int .i64 ((i : Nat) + 1)) (o_bin rfl rfl (v_add64 (by constructor <;> omega))) ?_
      refine stp (v := .int .i64 ((i : Nat) + 1)) (o_mv rfl) ?_
      refine h18 (i + 1) _ _ ⟨by first | rfl | exact v_int (by omega) | exact v_int (by simp) | exact v_int (by simp; omega), rfl, rfl, by first | rfl | exact v_int (by omega) | exact v_int (by simp) | exact v_int (by simp; omega), rfl, by first | rfl | exact v_int (by omega) | exact v_int (by simp) | exact v_int (by simp; omega), hM24, by omega⟩ (by (try dsimp only); omega)
    ·
      refine h15 _ _ ?_
      clear h15
      refine seq fun K32 h32 => ?_
      refine stp (v := v3) (o_mv rfl) ?_
      refine stp (v := .int .i64 ((bentF cs).length : Nat)) (o_lenR (hs3.rd hM17 (i := 0) rfl) rfl rfl) ?_
      refine m_mksE (E := i64V) (z := 0) (n := (bentF cs).length) (c := (bentF cs).length) rfl hM17 (v_int (by omega)) (v_int (by omega)) (by omega) (by omega) (by omega) fun v33 w33 r33 hs33 (hM33 : Mem w [] w33 [rs3, rs9, r33]) => ?_
      refine stp (v := v33) (o_mv rfl) ?_
      refine h32 _ _ ?_
      clear h32
      refine seq fun K34 h34 => ?_
      refine seq fun K35 h35 => ?_
      refine stp (v := .int .i64 0) (o_mv rfl) ?_
      refine h35 _ _ ?_
      clear h35
      refine lp (n := fun _ _ => False) (ι := (Nat) × (List Int) × (Value) × (List Ent)) (fun ⟨i, M, y15_, r15_⟩ f w' => f 16 = .int .i64 (i : Nat) ∧ f 15 = y15_ ∧ f 2 = y ∧ f 7 = v3 ∧ f 9 = .int .i64 (L : Nat) ∧ f 10 = y9 ∧ f 12 = .int .i64 (dot (bentF cs) (lensF (bentF cs) L)) ∧ Mem w [] w' [rs3, rs9, r15_] ∧ (i ≤ (bentF cs).length) ∧ (M.length = (bentF cs).length) ∧ (∀ s, s < (bentF cs).length → (s < i → MnI (bentF cs) M L s) ∧ (i ≤ s → M.getD s 0 = 0)) ∧ (SlE i64V 3 y15_ (M) r15_)) (fun ⟨i, M, y15_, r15_⟩ => (bentF cs).length - i) (0, List.replicate (bentF cs).length 0, v33, r33) ?_ ?_
      · exact ⟨by first | rfl | exact v_int (by omega) | exact v_int (by simp) | exact v_int (by simp; omega), rfl, rfl, rfl, by first | rfl | exact v_int (by omega) | exact v_int (by simp) | exact v_int (by simp; omega), rfl, by first | rfl | exact v_int (by omega) | exact v_int (by simp) | exact v_int (by simp; omega), hM33, by omega, List.length_replicate, fun s hs => ⟨fun h => by omega, fun _ => by rw [List.getD_eq_getElem?_getD, List.getElem?_replicate, if_pos hs]; rfl⟩, by first | exact hs33 | simpa using hs33⟩
      · rintro ⟨i, M, y15_, r15_⟩ f w36 ⟨e36_16, e36_15, e36_2, e36_7, e36_9, e36_10, e36_12, hM36, hi, hMl, hM0, hy15_⟩ K37 h37
        obtain ⟨frm, rfl⟩ : ∃ frm, f = (upd (upd (upd (upd (upd (upd (upd frm 16 (.int .i64 (i : Nat))) 15 (y15_)) 2 (y)) 7 (v3)) 9 (.int .i64 (L : Nat))) 10 (y9)) 12 (.int .i64 (dot (bentF cs) (lensF (bentF cs) L)))) := ⟨f, by rw [upd_self e36_16, upd_self e36_15, upd_self e36_2, upd_self e36_7, upd_self e36_9, upd_self e36_10, upd_self e36_12]⟩
        clear e36_16 e36_15 e36_2 e36_7 e36_9 e36_10 e36_12
        refine seq fun K38 h38 => ?_
        refine seq fun K39 h39 => ?_
        refine stp (v := .int .i64 (i : Nat)) (o_mv rfl) ?_
        refine stp (v := v3) (o_mv rfl) ?_
        refine stp (v := .int .i64 ((bentF cs).length : Nat)) (o_lenR (hs3.rd hM36 (i := 0) rfl) rfl rfl) ?_
        refine stp (v := .bool (decide (((i : Nat) : Int) < ((bentF cs).length : Nat)))) (o_bin rfl rfl rfl) ?_
        refine h39 _ _ ?_
        clear h39
        refine cndP rfl (fun c40 => ?_) (fun c40 => ?_)
        ·
          refine h38 _ _ ?_
          clear h38
          refine seq fun K41 h41 => ?_
          refine seq fun K42 h42 => ?_
          refine seq fun K43 h43 => ?_
          refine stp (v := v3) (o_mv rfl) ?_
          refine stp (v := .int .i64 (i : Nat)) (o_mv rfl) ?_
          refine m_idxE 0 (j := i) (hs3.rd hM36 (i := 0) rfl) rfl rfl (by omega) fun b44 o44 hp44 => ?_
          refine ld (v := .int .i64 ((bentF cs).getD i 0)) rfl (hp44) ?_
          refine stp (v := .bool (decide (((bentF cs).getD i 0) = 0))) (o_bin rfl rfl rfl) ?_
          refine h43 _ _ ?_
          clear h43
          refine cndP rfl (fun c45 => ?_) (fun c45 => ?_)
          ·
            refine h41 _ _ ?_
            clear h41
            refine stp (v := .int .i64 (i : Nat)) (o_mv rfl) ?_
            refine stp (v := .int .i64 ((i : Nat) + 1)) (o_bin rfl rfl (v_add64 (by constructor <;> omega))) ?_
            refine stp (v := .int .i64 ((i : Nat) + 1)) (o_mv rfl) ?_
            refine h37 (i + 1, M, y15_, r15_) _ _ ⟨by first | rfl | exact v_int (by omega) | exact v_int (by simp) | exact v_int (by simp; omega), rfl, rfl, rfl, by first | rfl | exact v_int (by omega) | exact v_int (by simp) | exact v_int (by simp; omega), rfl, by first | rfl | exact v_int (by omega) | exact v_int (by simp) | exact v_int (by simp; omega), hM36, by omega, hMl, fun s hs => ⟨fun h => by
              by_cases e : s = i
              · subst e; exact ⟨fun k => by omega, fun _ => (hM0 s hs).2 (Nat.le_refl _)⟩
              · exact (hM0 s hs).1 (by omega), fun h => (hM0 s hs).2 (by omega)⟩, by first | exact hy15_ | simpa using hy15_⟩ (by (try dsimp only); omega)
          ·
            refine h42 _ _ ?_
            clear h42
            refine seq fun K46 h46 => ?_
            refine stp (v := y15_) (o_mv rfl) ?_
            refine stp (v := .int .i64 (i : Nat)) (o_mv rfl) ?_
            refine stp (v := .int .i64 (L : Nat)) (o_mv rfl) ?_
            refine m_set (E := i64V) (q := (L : Nat)) (j := i) hM36 (i := 2) rfl hy15_ rfl rfl (by omega) (by simp) (rfl) fun w47 r47 u47 he47 hs47 (hM47 : Mem w [] w47 [rs3, rs9, r47]) => ?_
            refine h46 _ _ ?_
            clear h46
            refine seq fun K48 h48 => ?_
            refine seq fun K49 h49 => ?_
            refine stp (v := .int .i64 (i : Nat)) (o_mv rfl) ?_
            refine stp (v := y) (o_mv rfl) ?_
            refine stp (v := .int .i64 (os.length : Nat)) (o_lenR (hy.upd hM47.upd) rfl rfl) ?_
            refine stp (v := .bool (decide (((i : Nat) : Int) < (os.length : Nat)))) (o_bin rfl rfl rfl) ?_
            refine h49 _ _ ?_
            clear h49
            refine cndP rfl (fun c50 => ?_) (fun c50 => ?_)
            ·
              refine stp (v := y15_) (o_mv rfl) ?_
              refine stp (v := .int .i64 (i : Nat)) (o_mv rfl) ?_
              refine stp (v := y) (o_mv rfl) ?_
              refine stp (v := .int .i64 (i : Nat)) (o_mv rfl) ?_
              refine m_idxE 0 (j := i) (hy.upd hM47.upd) rfl rfl (by omega) fun b51 o51 hp51 => ?_
              have hoi := hoB _ (getD_memG 0 (l := os) (i := i) (by omega))
              simp only [inK] at hoi
              refine ld (v := .int .i64 (os.getD i 0)) rfl (hp51) ?_
              refine m_call (limited_ok (os.getD i 0) 0 w47 (by simp only [inK]; omega) (by omega)) rfl fun v52 w52 ⟨L2, hr52, hL2, hu52⟩ => ?_
              have hM52 : Mem w [] w52 [rs3, rs9, r47] := hM47.pure hu52
              subst hr52
              refine m_set (E := i64V) (q := (L2 : Nat)) (j := i) hM52 (i := 2) rfl hs47 rfl rfl (by rw [List.length_set]; omega) (by simp) (rfl) fun w53 r53 u53 he53 hs53 (hM53 : Mem w [] w53 [rs3, rs9, r53]) => ?_
              refine h48 _ _ ?_
              clear h48
              refine stp (v := y15_) (o_mv rfl) ?_
              refine stp (v := .int .i64 (i : Nat)) (o_mv rfl) ?_
              refine stp (v := y15_) (o_mv rfl) ?_
              refine stp (v := .int .i64 (i : Nat)) (o_mv rfl) ?_
              refine m_idxE 0 (j := i) (hs53.rd hM53 (i := 2) rfl) rfl rfl (by simp only [List.length_set]; omega) fun b54 o54 hp54 => ?_
              refine ld (v := .int .i64 (((M.set i (L : Nat)).set i (L2 : Nat)).getD i 0)) rfl (hp54) ?_
              refine stp (v := .int .i64 (L : Nat)) (o_mv rfl) ?_
              refine stp (v := .int .i64 (min L2 L : Nat)) (o_mm rfl rfl (v_int (by rw [getI_set (by rw [List.length_set]; omega)]; simp only [if_false, Bool.false_eq_true]; omega))) ?_
              refine m_set (E := i64V) (q := (min L2 L : Nat)) (j := i) hM53 (i := 2) rfl hs53 rfl rfl (by simp only [List.length_set]; omega) (by simp) (rfl) fun w55 r55 u55 he55 hs55 (hM55 : Mem w [] w55 [rs3, rs9, r55]) => ?_
              refine h41 _ _ ?_
              clear h41
              refine stp (v := .int .i64 (i : Nat)) (o_mv rfl) ?_
              refine stp (v := .int .i64 ((i : Nat) + 1)) (o_bin rfl rfl (v_add64 (by constructor <;> omega))) ?_
              refine stp (v := .int .i64 ((i : Nat) + 1)) (o_mv rfl) ?_
              refine h37 (i + 1, M.set i (min L2 L : Nat), y15_, r55) _ _ ⟨by first | rfl | exact v_int (by omega) | exact v_int (by simp) | exact v_int (by simp; omega), rfl, rfl, rfl, by first | rfl | exact v_int (by omega) | exact v_int (by simp) | exact v_int (by simp; omega), rfl, by first | rfl | exact v_int (by omega) | exact v_int (by simp) | exact v_int (by simp; omega), hM55, by omega, by rw [List.length_set]; exact hMl, fun s hs => ⟨fun h => mine_set (by omega) (by have := hb0 i; omega) (by omega) (by
                by_cases e : s = i
                · exact .inl e
                · exact .inr ((hM0 s hs).1 (by omega))), fun h => by rw [getI_ne (by omega)]; exact (hM0 s hs).2 (by omega)⟩, by have h15 := hs55; simp only [List.set_set] at h15; exact h15⟩ (by (try dsimp only); omega)
            ·
              refine h48 _ _ ?_
              clear h48
              refine stp (v := y15_) (o_mv rfl) ?_
              refine stp (v := .int .i64 (i : Nat)) (o_mv rfl) ?_
              refine stp (v := y15_) (o_mv rfl) ?_
              refine stp (v := .int .i64 (i : Nat)) (o_mv rfl) ?_
              refine m_idxE 0 (j := i) (hs47.rd hM47 (i := 2) rfl) rfl rfl (by simp only [List.length_set]; omega) fun b56 o56 hp56 => ?_
              refine ld (v := .int .i64 ((M.set i (L : Nat)).getD i 0)) rfl (hp56) ?_
              refine stp (v := .int .i64 (L : Nat)) (o_mv rfl) ?_
              refine stp (v := .int .i64 (L : Nat)) (o_mm rfl rfl (v_int (by rw [getI_set (by omega)]; simp only [if_false, Bool.false_eq_true]; omega))) ?_
              refine m_set (E := i64V) (q := (L : Nat)) (j := i) hM47 (i := 2) rfl hs47 rfl rfl (by simp only [List.length_set]; omega) (by simp) (rfl) fun w57 r57 u57 he57 hs57 (hM57 : Mem w [] w57 [rs3, rs9, r57]) => ?_
              refine h41 _ _ ?_
              clear h41
              refine stp (v := .int .i64 (i : Nat)) (o_mv rfl) ?_
              refine stp (v := .int .i64 ((i : Nat) + 1)) (o_bin rfl rfl (v_add64 (by constructor <;> omega))) ?_
              refine stp (v := .int .i64 ((i : Nat) + 1)) (o_mv rfl) ?_
              refine h37 (i + 1, M.set i (L : Nat), y15_, r57) _ _ ⟨by first | rfl | exact v_int (by omega) | exact v_int (by simp) | exact v_int (by simp; omega), rfl, rfl, rfl, by first | rfl | exact v_int (by omega) | exact v_int (by simp) | exact v_int (by simp; omega), rfl, by first | rfl | exact v_int (by omega) | exact v_int (by simp) | exact v_int (by simp; omega), hM57, by omega, by rw [List.length_set]; exact hMl, fun s hs => ⟨fun h => mine_set (by omega) (by have := hb0 i; omega) (by omega) (by
                by_cases e : s = i
                · exact .inl e
                · exact .inr ((hM0 s hs).1 (by omega))), fun h => by rw [getI_ne (by omega)]; exact (hM0 s hs).2 (by omega)⟩, by have h15 := hs57; simp only [List.set_set] at h15; exact h15⟩ (by (try dsimp only); omega)
        ·
          refine h34 _ _ ?_
          clear h34
          refine seq fun K58 h58 => ?_
          refine seq fun K59 h59 => ?_
          refine stp (v := .int .i64 0) (o_mv rfl) ?_
          refine h59 _ _ ?_
          clear h59
          refine lp (n := fun _ _ => False) (ι := (Nat) × (List Int) × (Value) × (List Ent)) (fun ⟨i, M, y15_, r15_⟩ f w' => f 17 = .int .i64 (i : Nat) ∧ f 15 = y15_ ∧ f 7 = v3 ∧ f 9 = .int .i64 (L : Nat) ∧ f 10 = y9 ∧ f 12 = .int .i64 (dot (bentF cs) (lensF (bentF cs) L)) ∧ Mem w [] w' [rs3, rs9, r15_] ∧ (i ≤ (bentF cs).length) ∧ (M.length = (bentF cs).length) ∧ (∀ s, s < (bentF cs).length → MnI (bentF cs) M L s) ∧ ((∀ s, s < i → 0 < (bentF cs).getD s 0 → M.getD s 0 = L) ∨ krK M 15 (bentF cs).length ≤ 32768) ∧ (SlE i64V 3 y15_ (M) r15_)) (fun ⟨i, M, y15_, r15_⟩ => (bentF cs).length - i) (0, M, y15_, r15_) ?_ ?_
          · exact ⟨by first | rfl | exact v_int (by omega) | exact v_int (by simp) | exact v_int (by simp; omega), rfl, rfl, by first | rfl | exact v_int (by omega) | exact v_int (by simp) | exact v_int (by simp; omega), rfl, by first | rfl | exact v_int (by omega) | exact v_int (by simp) | exact v_int (by simp; omega), hM36, by omega, hMl, fun s hs => (hM0 s hs).1 (by omega), .inl fun s h => by omega, by first | exact hy15_ | simpa using hy15_⟩
          · rintro ⟨i, M, y15_, r15_⟩ f w60 ⟨e60_17, e60_15, e60_7, e60_9, e60_10, e60_12, hM60, hi, hMl, hM, hd, hy15_⟩ K61 h61
            obtain ⟨frm, rfl⟩ : ∃ frm, f = (upd (upd (upd (upd (upd (upd frm 17 (.int .i64 (i : Nat))) 15 (y15_)) 7 (v3)) 9 (.int .i64 (L : Nat))) 10 (y9)) 12 (.int .i64 (dot (bentF cs) (lensF (bentF cs) L)))) := ⟨f, by rw [upd_self e60_17, upd_self e60_15, upd_self e60_7, upd_self e60_9, upd_self e60_10, upd_self e60_12]⟩
            clear e60_17 e60_15 e60_7 e60_9 e60_10 e60_12
            refine seq fun K62 h62 => ?_
            refine seq fun K63 h63 => ?_
            refine stp (v := .int .i64 (i : Nat)) (o_mv rfl) ?_
            refine stp (v := y15_) (o_mv rfl) ?_
            refine stp (v := .int .i64 (M.length : Nat)) (o_lenR (hy15_.rd hM60 (i := 2) rfl) rfl rfl) ?_
            refine stp (v := .bool (decide (((i : Nat) : Int) < (M.length : Nat)))) (o_bin rfl rfl rfl) ?_
            refine stp (v := .bool (decide (((i : Nat) : Int) < (M.length : Nat)))) (o_mv rfl) ?_
            refine splitP rfl (fun c64 => ?_) (fun c64 => ?_)
            ·
              refine stg rfl (v := y15_) (o_mv rfl) ?_
              refine gyesl rfl ?_
              refine m_call (kraftL_ok _ M w60 (hy15_.rd hM60 (i := 2) rfl) (by omega)) rfl fun v65 w65 ⟨hr65, hu65⟩ => ?_
              have hM65 : Mem w [] w65 [rs3, rs9, r15_] := hM60.pure hu65
              rw [show M.length = (bentF cs).length by omega] at hr65
              subst hr65
              refine stg rfl (v := .bool (decide ((32768 : Int) < ((krK M 15 (bentF cs).length : Nat) : Int)))) (o_bin rfl rfl rfl) ?_
              refine stp (v := .bool (decide ((32768 : Int) < ((krK M 15 (bentF cs).length : Nat) : Int)))) (o_pickT rfl rfl) ?_
              refine h63 _ _ ?_
              clear h63
              refine cndP rfl (fun c66 => ?_) (fun c66 => ?_)
              ·
                refine h62 _ _ ?_
                clear h62
                refine seq fun K67 h67 => ?_
                refine lp (n := fun _ _ => False) (ι := (List Int) × (Value) × (List Ent)) (fun ⟨M2, y15_, r15_⟩ f w' => f 15 = y15_ ∧ f 7 = v3 ∧ f 9 = .int .i64 (L : Nat) ∧ f 10 = y9 ∧ f 12 = .int .i64 (dot (bentF cs) (lensF (bentF cs) L)) ∧ f 17 = .int .i64 (i : Nat) ∧ Mem w [] w' [rs3, rs9, r15_] ∧ (M2.length = (bentF cs).length) ∧ (∀ s, s < (bentF cs).length → MnI (bentF cs) M2 L s) ∧ (∀ s, s < i → 0 < (bentF cs).getD s 0 → M2.getD s 0 = L) ∧ (SlE i64V 3 y15_ (M2) r15_)) (fun ⟨M2, y15_, r15_⟩ => L - (M2.getD i 0).toNat) (M, y15_, r15_) ?_ ?_
                · exact ⟨rfl, rfl, by first | rfl | exact v_int (by omega) | exact v_int (by simp) | exact v_int (by simp; omega), rfl, by first | rfl | exact v_int (by omega) | exact v_int (by simp) | exact v_int (by simp; omega), by first | rfl | exact v_int (by omega) | exact v_int (by simp) | exact v_int (by simp; omega), hM65, hMl, hM, by
                  rcases hd with hd | hd
                  · exact hd
                  · omega, by first | exact hy15_ | simpa using hy15_⟩
                · rintro ⟨M2, y15_, r15_⟩ f w68 ⟨e68_15, e68_7, e68_9, e68_10, e68_12, e68_17, hM68, hMl2, hM2, hd2, hy15_⟩ K69 h69
                  obtain ⟨frm, rfl⟩ : ∃ frm, f = (upd (upd (upd (upd (upd (upd frm 15 (y15_)) 7 (v3)) 9 (.int .i64 (L : Nat))) 10 (y9)) 12 (.int .i64 (dot (bentF cs) (lensF (bentF cs) L)))) 17 (.int .i64 (i : Nat))) := ⟨f, by rw [upd_self e68_15, upd_self e68_7, upd_self e68_9, upd_self e68_10, upd_self e68_12, upd_self e68_17]⟩
                  clear e68_15 e68_7 e68_9 e68_10 e68_12 e68_17
                  refine seq fun K70 h70 => ?_
                  refine seq fun K71 h71 => ?_
                  have hMi := hM2 i (by omega)
                  unfold MnI at hMi
                  refine stp (v := y15_) (o_mv rfl) ?_
                  refine stp (v := .int .i64 (i : Nat)) (o_mv rfl) ?_
                  refine m_idxE 0 (j := i) (hy15_.rd hM68 (i := 2) rfl) rfl rfl (by omega) fun b72 o72 hp72 => ?_
                  refine ld (v := .int .i64 (M2.getD i 0)) rfl (hp72) ?_
                  refine stp (v := .bool (decide ((0 : Int) < (M2.getD i 0)))) (o_bin rfl rfl rfl) ?_
                  refine stp (v := .bool (decide ((0 : Int) < (M2.getD i 0)))) (o_mv rfl) ?_
                  refine splitP rfl (fun c73 => ?_) (fun c73 => ?_)
                  ·
                    refine stg rfl (v := y15_) (o_mv rfl) ?_
                    refine stg rfl (v := .int .i64 (i : Nat)) (o_mv rfl) ?_
                    refine gyes rfl rfl (m_idxE 0 (j := i) (hy15_.rd hM68 (i := 2) rfl) rfl rfl (by omega) fun b74 o74 hp74 => ?_)
                    refine gyesl rfl ?_
                    refine ld (v := .int .i64 (M2.getD i 0)) rfl (hp74) ?_
                    refine stg rfl (v := .int .i64 (L : Nat)) (o_mv rfl) ?_
                    refine stg rfl (v := .bool (decide ((M2.getD i 0) < (L : Nat)))) (o_bin rfl rfl rfl) ?_
                    refine stp (v := .bool (decide ((M2.getD i 0) < (L : Nat)))) (o_pickT rfl rfl) ?_
                    refine stp (v := .bool (decide ((M2.getD i 0) < (L : Nat)))) (o_mv rfl) ?_
                    refine splitP rfl (fun c75 => ?_) (fun c75 => ?_)
                    ·
                      refine stg rfl (v := y15_) (o_mv rfl) ?_
                      refine gyesl rfl ?_
                      refine m_call (kraftL_ok _ M2 w68 (hy15_.rd hM68 (i := 2) rfl) (by omega)) rfl fun v76 w76 ⟨hr76, hu76⟩ => ?_
                      have hM76 : Mem w [] w76 [rs3, rs9, r15_] := hM68.pure hu76
                      rw [show M2.length = (bentF cs).length by omega] at hr76
                      subst hr76
                      refine stg rfl (v := .bool (decide ((32768 : Int) < ((krK M2 15 (bentF cs).length : Nat) : Int)))) (o_bin rfl rfl rfl) ?_
                      refine stp (v := .bool (decide ((32768 : Int) < ((krK M2 15 (bentF cs).length : Nat) : Int)))) (o_pickT rfl rfl) ?_
                      refine h71 _ _ ?_
                      clear h71
                      refine cndP rfl (fun c77 => ?_) (fun c77 => ?_)
                      ·
                        refine h70 _ _ ?_
                        clear h70
                        have hMi := hM2 i (by omega)
                        unfold MnI at hMi
                        refine stp (v := y15_) (o_mv rfl) ?_
                        refine stp (v := .int .i64 (i : Nat)) (o_mv rfl) ?_
                        refine m_idxE 0 (j := i) (hy15_.rd hM76 (i := 2) rfl) rfl rfl (by omega) fun b78 o78 hp78 => ?_
                        refine ld (v := .int .i64 (M2.getD i 0)) rfl (hp78) ?_
                        refine stp (v := .int .i64 ((M2.getD i 0) + 1)) (o_bin rfl rfl (v_add64 (by constructor <;> omega))) ?_
                        refine m_set (E := i64V) (q := (M2.getD i 0) + 1) (j := i) hM76 (i := 2) rfl hy15_ rfl rfl (by omega) (by simp) (rfl) fun w79 r79 u79 he79 hs79 (hM79 : Mem w [] w79 [rs3, rs9, r79]) => ?_
                        refine h69 (M2.set i (M2.getD i 0 + 1), y15_, r79) _ _ ⟨rfl, rfl, by first | rfl | exact v_int (by omega) | exact v_int (by simp) | exact v_int (by simp; omega), rfl, by first | rfl | exact v_int (by omega) | exact v_int (by simp) | exact v_int (by simp; omega), by first | rfl | exact v_int (by omega) | exact v_int (by simp) | exact v_int (by simp; omega), hM79, by rw [List.length_set]; exact hMl2, fun s hs => mine_set (by omega) (by have := hb0 i; omega) (by omega) (.inr (hM2 s hs)), fun s h hc => by rw [getI_ne (by omega)]; exact hd2 s h hc, by first | exact hs79 | simpa using hs79⟩ (by (try dsimp only); rw [getI_set (by omega)]; omega)
                      ·
                        refine h67 _ _ ?_
                        clear h67
                        refine stp (v := .int .i64 (i : Nat)) (o_mv rfl) ?_
                        refine stp (v := .int .i64 ((i : Nat) + 1)) (o_bin rfl rfl (v_add64 (by constructor <;> omega))) ?_
                        refine stp (v := .int .i64 ((i : Nat) + 1)) (o_mv rfl) ?_
                        refine h61 (i + 1, M2, y15_, r15_) _ _ ⟨by first | rfl | exact v_int (by omega) | exact v_int (by simp) | exact v_int (by simp; omega), rfl, rfl, by first | rfl | exact v_int (by omega) | exact v_int (by simp) | exact v_int (by simp; omega), rfl, by first | rfl | exact v_int (by omega) | exact v_int (by simp) | exact v_int (by simp; omega), hM76, by omega, hMl2, hM2, by
                          by_cases hkq : krK M2 15 (bentF cs).length ≤ 32768
                          · exact .inr hkq
                          · refine .inl fun s h hc => ?_
                            by_cases e : s = i
                            · subst e; omega
                            · exact hd2 s (by omega) hc, by first | exact hy15_ | simpa using hy15_⟩ (by (try dsimp only); omega)
                    ·
                      refine gno rfl (by simp) ?_
                      refine gnol rfl (by simp) ?_
                      refine gno rfl (by simp) ?_
                      refine stp (v := .bool false) (o_pickF rfl rfl) ?_
                      refine h71 _ _ ?_
                      clear h71
                      refine cndF rfl ?_
                      refine h67 _ _ ?_
                      clear h67
                      refine stp (v := .int .i64 (i : Nat)) (o_mv rfl) ?_
                      refine stp (v := .int .i64 ((i : Nat) + 1)) (o_bin rfl rfl (v_add64 (by constructor <;> omega))) ?_
                      refine stp (v := .int .i64 ((i : Nat) + 1)) (o_mv rfl) ?_
                      refine h61 (i + 1, M2, y15_, r15_) _ _ ⟨by first | rfl | exact v_int (by omega) | exact v_int (by simp) | exact v_int (by simp; omega), rfl, rfl, by first | rfl | exact v_int (by omega) | exact v_int (by simp) | exact v_int (by simp; omega), rfl, by first | rfl | exact v_int (by omega) | exact v_int (by simp) | exact v_int (by simp; omega), hM68, by omega, hMl2, hM2, by
                        by_cases hkq : krK M2 15 (bentF cs).length ≤ 32768
                        · exact .inr hkq
                        · refine .inl fun s h hc => ?_
                          by_cases e : s = i
                          · subst e; omega
                          · exact hd2 s (by omega) hc, by first | exact hy15_ | simpa using hy15_⟩ (by (try dsimp only); omega)
                  ·
                    refine gno rfl (by simp) ?_
                    refine gno rfl (by simp) ?_
                    refine gno rfl (by simp) ?_
                    refine gnol rfl (by simp) ?_
                    refine gno rfl (by simp) ?_
                    refine gno rfl (by simp) ?_
                    refine stp (v := .bool false) (o_pickF rfl rfl) ?_
                    refine stp (v := .bool false) (o_mv rfl) ?_
                    refine splitF rfl ?_
                    refine gno rfl (by simp) ?_
                    refine gnol rfl (by simp) ?_
                    refine gno rfl (by simp) ?_
                    refine stp (v := .bool false) (o_pickF rfl rfl) ?_
                    refine h71 _ _ ?_
                    clear h71
                    refine cndF rfl ?_
                    refine h67 _ _ ?_
                    clear h67
                    refine stp (v := .int .i64 (i : Nat)) (o_mv rfl) ?_
                    refine stp (v := .int .i64 ((i : Nat) + 1)) (o_bin rfl rfl (v_add64 (by constructor <;> omega))) ?_
                    refine stp (v := .int .i64 ((i : Nat) + 1)) (o_mv rfl) ?_
                    refine h61 (i + 1, M2, y15_, r15_) _ _ ⟨by first | rfl | exact v_int (by omega) | exact v_int (by simp) | exact v_int (by simp; omega), rfl, rfl, by first | rfl | exact v_int (by omega) | exact v_int (by simp) | exact v_int (by simp; omega), rfl, by first | rfl | exact v_int (by omega) | exact v_int (by simp) | exact v_int (by simp; omega), hM68, by omega, hMl2, hM2, by
                      by_cases hkq : krK M2 15 (bentF cs).length ≤ 32768
                      · exact .inr hkq
                      · refine .inl fun s h hc => ?_
                        by_cases e : s = i
                        · subst e; omega
                        · exact hd2 s (by omega) hc, by first | exact hy15_ | simpa using hy15_⟩ (by (try dsimp only); omega)
              ·
                refine h58 _ _ ?_
                clear h58
                refine seq fun K80 h80 => ?_
                refine seq fun K81 h81 => ?_
                refine stp (v := y15_) (o_mv rfl) ?_
                refine m_call (kraftL_ok _ M w65 (hy15_.rd hM65 (i := 2) rfl) (by omega)) rfl fun v82 w82 ⟨hr82, hu82⟩ => ?_
                have hM82 : Mem w [] w82 [rs3, rs9, r15_] := hM65.pure hu82
                rw [show M.length = (bentF cs).length by omega] at hr82
                subst hr82
                refine stp (v := .bool (decide ((32768 : Int) < ((krK M 15 (bentF cs).length : Nat) : Int)))) (o_bin rfl rfl rfl) ?_
                refine h81 _ _ ?_
                clear h81
                refine cndP rfl (fun c83 => absurd c83 (by have := mine_end (by omega) hM (by omega) (hd.imp (fun k s hs => k s (by omega)) id); omega)) (fun c83 => ?_)
                refine h80 _ _ ?_
                clear h80
                refine seq fun K84 h84 => ?_
                refine stp (v := .int .i64 0) (o_mv rfl) ?_
                refine h84 _ _ ?_
                clear h84
                refine seq fun K85 h85 => ?_
                refine seq fun K86 h86 => ?_
                refine stp (v := .int .i64 0) (o_mv rfl) ?_
                refine h86 _ _ ?_
                clear h86
                refine lp (n := fun _ _ => False) (ι := (Nat) × (Int)) (fun ⟨i, sm⟩ f w' => f 19 = .int .i64 (i : Nat) ∧ f 18 = .int .i64 sm ∧ f 7 = v3 ∧ f 10 = y9 ∧ f 12 = .int .i64 (dot (bentF cs) (lensF (bentF cs) L)) ∧ f 15 = y15_ ∧ Mem w [] w' [rs3, rs9, r15_] ∧ (i ≤ (bentF cs).length) ∧ (sm = sumN i fun s => (bentF cs).getD s 0 * M.getD s 0) ∧ (0 ≤ sm ∧ sm ≤ (i : Int) * 16492674416640)) (fun ⟨i, sm⟩ => (bentF cs).length - i) (0, 0) ?_ ?_
                · exact ⟨by first | rfl | exact v_int (by omega) | exact v_int (by simp) | exact v_int (by simp; omega), by first | rfl | exact v_int (by omega) | exact v_int (by simp) | exact v_int (by simp; omega), rfl, rfl, by first | rfl | exact v_int (by omega) | exact v_int (by simp) | exact v_int (by simp; omega), rfl, hM82, by omega, rfl, by omega⟩
                · rintro ⟨i, sm⟩ f w87 ⟨e87_19, e87_18, e87_7, e87_10, e87_12, e87_15, hM87, hi, hsm, hsb⟩ K88 h88
                  obtain ⟨frm, rfl⟩ : ∃ frm, f = (upd (upd (upd (upd (upd (upd frm 19 (.int .i64 (i : Nat))) 18 (.int .i64 sm)) 7 (v3)) 10 (y9)) 12 (.int .i64 (dot (bentF cs) (lensF (bentF cs) L)))) 15 (y15_)) := ⟨f, by rw [upd_self e87_19, upd_self e87_18, upd_self e87_7, upd_self e87_10, upd_self e87_12, upd_self e87_15]⟩
                  clear e87_19 e87_18 e87_7 e87_10 e87_12 e87_15
                  refine seq fun K89 h89 => ?_
                  refine seq fun K90 h90 => ?_
                  refine stp (v := .int .i64 (i : Nat)) (o_mv rfl) ?_
                  refine stp (v := v3) (o_mv rfl) ?_
                  refine stp (v := .int .i64 ((bentF cs).length : Nat)) (o_lenR (hs3.rd hM87 (i := 0) rfl) rfl rfl) ?_
                  refine stp (v := .bool (decide (((i : Nat) : Int) < ((bentF cs).length : Nat)))) (o_bin rfl rfl rfl) ?_
                  refine h90 _ _ ?_
                  clear h90
                  refine cndP rfl (fun c91 => ?_) (fun c91 => ?_)
                  ·
                    refine h89 _ _ ?_
                    clear h89
                    refine seq fun K92 h92 => ?_
                    intro wd e1 e2 e3 e4
                    have hd := Upd.same e1 e2 e3 e4 []
                    have hM93 := hM87.pure hd
                    clear e1 e2 e3 e4
                    refine ⟨none, ?_⟩
                    show vd _ _ _ _ _ _ _
                    refine dq (v := .int .i64 sm) (o_mv rfl) ?_
                    refine dq (v := v3) (o_mv rfl) ?_
                    refine dq (v := .int .i64 (i : Nat)) (o_mv rfl) ?_
                    refine dqp (m_idxE 0 (j := i) (hs3.rd hM93 (i := 0) rfl) rfl rfl (by omega) fun b94 o94 hp94 => ?_)
                    show vd _ _ _ _ _ _ _
                    refine dq (v := y15_) (o_mv rfl) ?_
                    refine dq (v := .int .i64 (i : Nat)) (o_mv rfl) ?_
                    refine dqp (m_idxE 0 (j := i) (hy15_.rd hM93 (i := 2) rfl) rfl rfl (by omega) fun b95 o95 hp95 => ?_)
                    show vd _ _ _ _ _ _ _
                    refine dqld rfl (trivial) (v := .int .i64 (M.getD i 0)) (hp95) ?_
                    refine dl (ld (v := .int .i64 ((bentF cs).getD i 0)) rfl (hp94) ?_)
                    refine ⟨rfl, ?_⟩
                    have hmi := hM i (by omega)
                    unfold MnI at hmi
                    have hci := bent_bd cs i
                    have hmb := mul_bd (c := (bentF cs).getD i 0) (l := M.getD i 0) (by omega) (by by_cases hc : 0 < (bentF cs).getD i 0 <;> omega)
                    refine dq (v := .int .i64 (((bentF cs).getD i 0) * (M.getD i 0))) (o_bin rfl rfl (v_mul64 (by constructor <;> omega))) ?_
                    refine dq (v := .int .i64 (sm + (((bentF cs).getD i 0) * (M.getD i 0)))) (o_bin rfl rfl (v_add64 (by constructor <;> omega))) ?_
                    refine dq (v := .int .i64 (sm + (((bentF cs).getD i 0) * (M.getD i 0)))) (o_mv rfl) ?_
                    refine h92 _ _ ?_
                    clear h92
                    refine stp (v := .int .i64 (i : Nat)) (o_mv rfl) ?_
                    refine stp (v := .int .i64 ((i : Nat) + 1)) (o_bin rfl rfl (v_add64 (by constructor <;> omega))) ?_
                    refine stp (v := .int .i64 ((i : Nat) + 1)) (o_mv rfl) ?_
                    refine h88 (i + 1, sm + (bentF cs).getD i 0 * M.getD i 0) _ _ ⟨by first | rfl | exact v_int (by omega) | exact v_int (by simp) | exact v_int (by simp; omega), by first | rfl | exact v_int (by omega) | exact v_int (by simp) | exact v_int (by simp; omega), rfl, rfl, by first | rfl | exact v_int (by omega) | exact v_int (by simp) | exact v_int (by simp; omega), rfl, hM93, by omega, by rw [sumN, hsm], by omega⟩ (by (try dsimp only); omega)
                  ·
                    refine h85 _ _ ?_
                    clear h85
                    refine seq fun K96 h96 => ?_
                    refine stp (v := y9) (o_mv rfl) ?_
                    refine m_call (kraftL_ok _ (lensF (bentF cs) L) w87 (hs9.rd hM87 (i := 1) rfl) (by omega)) rfl fun v97 w97 ⟨hr97, hu97⟩ => ?_
                    have hM97 : Mem w [] w97 [rs3, rs9, r15_] := hM87.pure hu97
                    subst hr97
                    have hkl := lens_krle (cs := (bentF cs)) (lim := L) (by omega) hb0 (by omega) (by omega) (by omega)
                    refine stp (v := .bool (decide (((krK (lensF (bentF cs) L) 15 (lensF (bentF cs) L).length : Nat) : Int) ≤ 32768))) (o_bin rfl rfl rfl) ?_
                    refine stp (v := .bool (decide (((krK (lensF (bentF cs) L) 15 (lensF (bentF cs) L).length : Nat) : Int) ≤ 32768))) (o_mv rfl) ?_
                    refine splitP rfl (fun c98 => ?_) (fun c98 => (c98 (by omega)).elim)
                    refine stg rfl (v := .int .i64 (dot (bentF cs) (lensF (bentF cs) L))) (o_mv rfl) ?_
                    refine stg rfl (v := .int .i64 sm) (o_mv rfl) ?_
                    have hmc := mine_cost (c := (bentF cs)) (M := M) (L := L) (by omega) hb0 (by omega) (by omega) (by omega) hM (by omega)
                    rw [show (bentF cs).length = i by omega] at hmc
                    refine stg rfl (v := .bool (decide ((dot (bentF cs) (lensF (bentF cs) L)) ≤ sm))) (o_bin rfl rfl rfl) ?_
                    refine stp (v := .bool (decide ((dot (bentF cs) (lensF (bentF cs) L)) ≤ sm))) (o_pickT rfl rfl) ?_
                    refine stp (v := .bool (decide ((dot (bentF cs) (lensF (bentF cs) L)) ≤ sm))) (o_mv rfl) ?_
                    refine h96 _ _ ?_
                    clear h96
                    refine ⟨(.bool (decide ((dot (bentF cs) (lensF (bentF cs) L)) ≤ sm))), rfl, ?_⟩
                    exact ⟨by first | rfl | exact congrArg Value.bool (decide_eq_true (by rw [hsm]; exact hmc)), hM97.upd⟩
            ·
              refine gno rfl (by simp) ?_
              refine gnol rfl (by simp) ?_
              refine gno rfl (by simp) ?_
              refine stp (v := .bool false) (o_pickF rfl rfl) ?_
              refine h63 _ _ ?_
              clear h63
              refine cndF rfl ?_
              refine h58 _ _ ?_
              clear h58
              refine seq fun K99 h99 => ?_
              refine seq fun K100 h100 => ?_
              refine stp (v := y15_) (o_mv rfl) ?_
              refine m_call (kraftL_ok _ M w60 (hy15_.rd hM60 (i := 2) rfl) (by omega)) rfl fun v101 w101 ⟨hr101, hu101⟩ => ?_
              have hM101 : Mem w [] w101 [rs3, rs9, r15_] := hM60.pure hu101
              rw [show M.length = (bentF cs).length by omega] at hr101
              subst hr101
              refine stp (v := .bool (decide ((32768 : Int) < ((krK M 15 (bentF cs).length : Nat) : Int)))) (o_bin rfl rfl rfl) ?_
              refine h100 _ _ ?_
              clear h100
              refine cndP rfl (fun c102 => absurd c102 (by have := mine_end (by omega) hM (by omega) (hd.imp (fun k s hs => k s (by omega)) id); omega)) (fun c102 => ?_)
              refine h99 _ _ ?_
              clear h99
              refine seq fun K103 h103 => ?_
              refine stp (v := .int .i64 0) (o_mv rfl) ?_
              refine h103 _ _ ?_
              clear h103
              refine seq fun K104 h104 => ?_
              refine seq fun K105 h105 => ?_
              refine stp (v := .int .i64 0) (o_mv rfl) ?_
              refine h105 _ _ ?_
              clear h105
              refine lp (n := fun _ _ => False) (ι := (Nat) × (Int)) (fun ⟨i, sm⟩ f w' => f 19 = .int .i64 (i : Nat) ∧ f 18 = .int .i64 sm ∧ f 7 = v3 ∧ f 10 = y9 ∧ f 12 = .int .i64 (dot (bentF cs) (lensF (bentF cs) L)) ∧ f 15 = y15_ ∧ Mem w [] w' [rs3, rs9, r15_] ∧ (i ≤ (bentF cs).length) ∧ (sm = sumN i fun s => (bentF cs).getD s 0 * M.getD s 0) ∧ (0 ≤ sm ∧ sm ≤ (i : Int) * 16492674416640)) (fun ⟨i, sm⟩ => (bentF cs).length - i) (0, 0) ?_ ?_
              · exact ⟨by first | rfl | exact v_int (by omega) | exact v_int (by simp) | exact v_int (by simp; omega), by first | rfl | exact v_int (by omega) | exact v_int (by simp) | exact v_int (by simp; omega), rfl, rfl, by first | rfl | exact v_int (by omega) | exact v_int (by simp) | exact v_int (by simp; omega), rfl, hM101, by omega, rfl, by omega⟩
              · rintro ⟨i, sm⟩ f w106 ⟨e106_19, e106_18, e106_7, e106_10, e106_12, e106_15, hM106, hi, hsm, hsb⟩ K107 h107
                obtain ⟨frm, rfl⟩ : ∃ frm, f = (upd (upd (upd (upd (upd (upd frm 19 (.int .i64 (i : Nat))) 18 (.int .i64 sm)) 7 (v3)) 10 (y9)) 12 (.int .i64 (dot (bentF cs) (lensF (bentF cs) L)))) 15 (y15_)) := ⟨f, by rw [upd_self e106_19, upd_self e106_18, upd_self e106_7, upd_self e106_10, upd_self e106_12, upd_self e106_15]⟩
                clear e106_19 e106_18 e106_7 e106_10 e106_12 e106_15
                refine seq fun K108 h108 => ?_
                refine seq fun K109 h109 => ?_
                refine stp (v := .int .i64 (i : Nat)) (o_mv rfl) ?_
                refine stp (v := v3) (o_mv rfl) ?_
                refine stp (v := .int .i64 ((bentF cs).length : Nat)) (o_lenR (hs3.rd hM106 (i := 0) rfl) rfl rfl) ?_
                refine stp (v := .bool (decide (((i : Nat) : Int) < ((bentF cs).length : Nat)))) (o_bin rfl rfl rfl) ?_
                refine h109 _ _ ?_
                clear h109
                refine cndP rfl (fun c110 => ?_) (fun c110 => ?_)
                ·
                  refine h108 _ _ ?_
                  clear h108
                  refine seq fun K111 h111 => ?_
                  intro wd e1 e2 e3 e4
                  have hd := Upd.same e1 e2 e3 e4 []
                  have hM112 := hM106.pure hd
                  clear e1 e2 e3 e4
                  refine ⟨none, ?_⟩
                  show vd _ _ _ _ _ _ _
                  refine dq (v := .int .i64 sm) (o_mv rfl) ?_
                  refine dq (v := v3) (o_mv rfl) ?_
                  refine dq (v := .int .i64 (i : Nat)) (o_mv rfl) ?_
                  refine dqp (m_idxE 0 (j := i) (hs3.rd hM112 (i := 0) rfl) rfl rfl (by omega) fun b113 o113 hp113 => ?_)
                  show vd _ _ _ _ _ _ _
                  refine dq (v := y15_) (o_mv rfl) ?_
                  refine dq (v := .int .i64 (i : Nat)) (o_mv rfl) ?_
                  refine dqp (m_idxE 0 (j := i) (hy15_.rd hM112 (i := 2) rfl) rfl rfl (by omega) fun b114 o114 hp114 => ?_)
                  show vd _ _ _ _ _ _ _
                  refine dqld rfl (trivial) (v := .int .i64 (M.getD i 0)) (hp114) ?_
                  refine dl (ld (v := .int .i64 ((bentF cs).getD i 0)) rfl (hp113) ?_)
                  refine ⟨rfl, ?_⟩
                  have hmi := hM i (by omega)
                  unfold MnI at hmi
                  have hci := bent_bd cs i
                  have hmb := mul_bd (c := (bentF cs).getD i 0) (l := M.getD i 0) (by omega) (by by_cases hc : 0 < (bentF cs).getD i 0 <;> omega)
                  refine dq (v := .int .i64 (((bentF cs).getD i 0) * (M.getD i 0))) (o_bin rfl rfl (v_mul64 (by constructor <;> omega))) ?_
                  refine dq (v := .int .i64 (sm + (((bentF cs).getD i 0) * (M.getD i 0)))) (o_bin rfl rfl (v_add64 (by constructor <;> omega))) ?_
                  refine dq (v := .int .i64 (sm + (((bentF cs).getD i 0) * (M.getD i 0)))) (o_mv rfl) ?_
                  refine h111 _ _ ?_
                  clear h111
                  refine stp (v := .int .i64 (i : Nat)) (o_mv rfl) ?_
                  refine stp (v := .int .i64 ((i : Nat) + 1)) (o_bin rfl rfl (v_add64 (by constructor <;> omega))) ?_
                  refine stp (v := .int .i64 ((i : Nat) + 1)) (o_mv rfl) ?_
                  refine h107 (i + 1, sm + (bentF cs).getD i 0 * M.getD i 0) _ _ ⟨by first | rfl | exact v_int (by omega) | exact v_int (by simp) | exact v_int (by simp; omega), by first | rfl | exact v_int (by omega) | exact v_int (by simp) | exact v_int (by simp; omega), rfl, rfl, by first | rfl | exact v_int (by omega) | exact v_int (by simp) | exact v_int (by simp; omega), rfl, hM112, by omega, by rw [sumN, hsm], by omega⟩ (by (try dsimp only); omega)
                ·
                  refine h104 _ _ ?_
                  clear h104
                  refine seq fun K115 h115 => ?_
                  refine stp (v := y9) (o_mv rfl) ?_
                  refine m_call (kraftL_ok _ (lensF (bentF cs) L) w106 (hs9.rd hM106 (i := 1) rfl) (by omega)) rfl fun v116 w116 ⟨hr116, hu116⟩ => ?_
                  have hM116 : Mem w [] w116 [rs3, rs9, r15_] := hM106.pure hu116
                  subst hr116
                  have hkl := lens_krle (cs := (bentF cs)) (lim := L) (by omega) hb0 (by omega) (by omega) (by omega)
                  refine stp (v := .bool (decide (((krK (lensF (bentF cs) L) 15 (lensF (bentF cs) L).length : Nat) : Int) ≤ 32768))) (o_bin rfl rfl rfl) ?_
                  refine stp (v := .bool (decide (((krK (lensF (bentF cs) L) 15 (lensF (bentF cs) L).length : Nat) : Int) ≤ 32768))) (o_mv rfl) ?_
                  refine splitP rfl (fun c117 => ?_) (fun c117 => (c117 (by omega)).elim)
                  refine stg rfl (v := .int .i64 (dot (bentF cs) (lensF (bentF cs) L))) (o_mv rfl) ?_
                  refine stg rfl (v := .int .i64 sm) (o_mv rfl) ?_
                  have hmc := mine_cost (c := (bentF cs)) (M := M) (L := L) (by omega) hb0 (by omega) (by omega) (by omega) hM (by omega)
                  rw [show (bentF cs).length = i by omega] at hmc
                  refine stg rfl (v := .bool (decide ((dot (bentF cs) (lensF (bentF cs) L)) ≤ sm))) (o_bin rfl rfl rfl) ?_
                  refine stp (v := .bool (decide ((dot (bentF cs) (lensF (bentF cs) L)) ≤ sm))) (o_pickT rfl rfl) ?_
                  refine stp (v := .bool (decide ((dot (bentF cs) (lensF (bentF cs) L)) ≤ sm))) (o_mv rfl) ?_
                  refine h115 _ _ ?_
                  clear h115
                  refine ⟨(.bool (decide ((dot (bentF cs) (lensF (bentF cs) L)) ≤ sm))), rfl, ?_⟩
                  exact ⟨by first | rfl | exact congrArg Value.bool (decide_eq_true (by rw [hsm]; exact hmc)), hM116.upd⟩
