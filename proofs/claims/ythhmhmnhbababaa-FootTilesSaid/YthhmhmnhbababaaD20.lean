/- Footers: the tiles tile the file. -/
import Derived.Test.YthhmhmnhbababaaD19
namespace Go.Proofs.Ythhmhmnhbababaa.E
open Go
theorem drop_head {α : Type} {l : List α} {n : Nat} {x : α} {r : List α} (z : α) (h : l.drop n = x :: r) : n < l.length ∧ l.getD n z = x ∧ l.drop (n + 1) = r := by
  have hl : n < l.length := by
    have := congrArg List.length h
    rw [List.length_drop, List.length_cons] at this; omega
  rw [dropG z hl] at h
  exact ⟨hl, (List.cons.inj h).1, (List.cons.inj h).2⟩
theorem tailT_len {sp : Int} {n : Nat} (h : 1 ≤ n) : 2 ≤ (tailT sp n).length := by
  unfold tailT
  rw [tlsG_cons (by omega) (by omega), List.length_append, List.length_cons]; simp
theorem tlsG_le : ∀ (k : Nat) (a left : Int), (tlsG k a left).length ≤ k
  | 0, _, _ => by simp [tlsG]
  | k + 1, a, left => by
    rw [tlsG]
    split
    · simp
    · have := tlsG_le k (a + min left 4100) (left - min left 4100)
      rw [List.length_cons]; omega
theorem tailT_le {sp : Int} {n : Nat} : (tailT sp n).length ≤ n + 1 := by
  have := tlsG_le n sp n
  unfold tailT
  rw [List.length_append, List.length_singleton]; omega
def TInv (TT : List Ti) (T0 : Int) (j : Nat) (a kd : Int) : Prop := ∃ (left : Int) (q : Nat), (TT.drop j = tlsG q a left ++ [⟨2, T0, T0 + 24⟩] ∧ 0 ≤ left ∧ left ≤ q ∧ a + left = T0 ∧ 0 ≤ kd ∧ kd ≤ 1) ∨ (TT.drop j = [] ∧ a = T0 + 24)
theorem TInv.step {TT : List Ti} {T0 : Int} {j : Nat} {a kd : Int} (h : TInv TT T0 j a kd) (hj : j < TT.length) :
    (TT.getD j ti0).fr = a ∧ (a < (TT.getD j ti0).to ∧ kd ≤ (TT.getD j ti0).kd) ∧ (((TT.getD j ti0).kd = 2 ∧ TT.length = j + 1 ∧ (TT.getD j ti0).to - a = 24) ∨ ((TT.getD j ti0).kd = 1 ∧ j + 2 ≤ TT.length ∧ (TT.getD j ti0).to - a ≤ 4100 ∧ (4100 ≤ (TT.getD j ti0).to - a ∨ TT.length = j + 2))) ∧ TInv TT T0 (j + 1) (TT.getD j ti0).to (TT.getD j ti0).kd := by
  obtain ⟨left, q, ⟨h1, h2, h3, h4, h5, h6⟩ | ⟨h1, -⟩⟩ := h
  · by_cases c : 0 < left
    · rw [tlsG_cons c h3, List.cons_append] at h1
      obtain ⟨-, e1, e2⟩ := drop_head ti0 h1
      have hl := congrArg List.length e2
      rw [List.length_drop, List.length_append, List.length_singleton] at hl
      refine ⟨by rw [e1], by rw [e1]; dsimp only; omega, .inr ?_, left - min left 4100, q - 1, .inl ⟨by rw [e1]; exact e2, by omega, by omega, by rw [e1]; dsimp only; omega, by rw [e1]; dsimp only; omega, by rw [e1]; dsimp only; omega⟩⟩
      rw [e1]
      dsimp only
      refine ⟨rfl, by omega, by omega, ?_⟩
      by_cases c2 : 4100 ≤ left
      · exact .inl (by omega)
      · rw [tlsG_end (by omega), List.length_nil] at hl
        exact .inr (by omega)
    · rw [tlsG_end (by omega), List.nil_append] at h1
      obtain ⟨-, e1, e2⟩ := drop_head ti0 h1
      have hl := congrArg List.length e2
      rw [List.length_drop, List.length_nil] at hl
      have h0 : a = T0 := by omega
      refine ⟨by rw [e1, h0], by rw [e1]; dsimp only; omega, .inl ?_, 0, 0, .inr ⟨e2, by rw [e1]⟩⟩
      rw [e1]
      exact ⟨rfl, by omega, by dsimp only; omega⟩
  · have := congrArg List.length h1
    rw [List.length_drop, List.length_nil] at this; omega
theorem TInv.done {TT : List Ti} {T0 : Int} {j : Nat} {a kd : Int} (h : TInv TT T0 j a kd) (hj : TT.length ≤ j) : a = T0 + 24 := by
  obtain ⟨left, q, ⟨h1, h2, h3, h4, h5, h6⟩ | ⟨h1, h2⟩⟩ := h
  · rw [List.drop_eq_nil_of_le hj] at h1
    have := congrArg List.length h1
    rw [List.length_append] at this; simp at this
  · exact h2
theorem TInv.init {TT : List Ti} {sp : Int} {N n : Nat} (h : TT.drop n = tailT sp N) : TInv TT (sp + (N : Nat)) n sp 0 := ⟨N, N, .inl ⟨h, by omega, by omega, rfl, by omega, by omega⟩⟩

set_option maxRecDepth 100000 in
/-- winnowlaw8.FootTiles -/
theorem FootTiles_no (f : Ft) (w : World) (hf : f.ok w) (he : ¬ (encT f.parts (f.ps.map Pr.p)).2 = 0) : Calls Try.prog 11 [.agg (ftC f).toArray].toArray w (Rt fun r w' => r = .bool true ∧ Upd [] w w') := by
  obtain ⟨parts, x, ps⟩ := f
  obtain ⟨hx, hok, hl, hp⟩ := hf
  dsimp only at hx hok hl hp he
  simp only [inK] at hp
  obtain ⟨TT, hTT⟩ : ∃ T, T = tilesF parts (ps.map Pr.p) := ⟨_, rfl⟩
  have hT0 : TT.length = 0 := by rw [hTT]; unfold tilesF; rw [if_neg he]; rfl
  have hM0 : Mem w [] w [] := Mem.nil w []
  refine calls_vc mixed Try.func11 rfl C11 (by simp [Try.ntmps11]) ?_
  refine seq fun K1 h1 => ?_
  refine m_bx (v := .agg ([.int .i64 parts, x] : List Value).toArray) hM0 rfl rfl fun b2 w3 (hM3 : Mem w [] w3 [[⟨b2, 24, [.int .i64 parts, x]⟩]]) => ?_
  refine stp (v := .bool false) (o_mv rfl) ?_
  refine h1 _ _ ?_
  clear h1
  refine seq fun K4 h4 => ?_
  refine m_ldA (l := [.int .i64 parts, x]) hM3 (i := 0) (j := 0) rfl rfl rfl rfl rfl ?_
  refine m_call (Tiles_ok parts _ ps w3 (hx.upd hM3.upd) (fun p hp => (hok p hp).upd hM3.upd) (by omega) (by simp only [inK]; omega)) rfl fun v5 w5 ⟨y5, rs5, hr5, hs5, hm5⟩ => ?_
  have hM5 : Mem w [] w5 [[⟨b2, 24, [.int .i64 parts, x]⟩], rs5] := hM3.add hm5
  subst hr5
  rw [← hTT] at hs5
  refine stp (v := v5) (o_mv rfl) ?_
  refine h4 _ _ ?_
  clear h4
  refine seq fun K6 h6 => ?_
  refine m_ldA (l := [.int .i64 parts, x]) hM5 (i := 0) (j := 0) rfl rfl rfl rfl rfl ?_
  refine m_call (Encode_ok parts _ ps w5 (hx.upd hM5.upd) (fun p hp => (hok p hp).upd hM5.upd) (by omega) (by simp only [inK]; omega)) rfl fun v7 w7 ⟨y7, rs7, hr7, hs7, hm7⟩ => ?_
  have hM7 : Mem w [] w7 [[⟨b2, 24, [.int .i64 parts, x]⟩], rs5, rs7] := hM5.add hm7
  subst hr7
  refine stp (v := .tuple [y7, .int .i64 ((encT parts (List.map Pr.p ps)).2)].toArray) (o_mv rfl) ?_
  refine stp (v := y7) (o_ext rfl rfl) ?_
  refine stp (v := .int .i64 ((encT parts (List.map Pr.p ps)).2)) (o_ext rfl rfl) ?_
  refine stp (v := y7) (o_mv rfl) ?_
  refine stp (v := .int .i64 ((encT parts (List.map Pr.p ps)).2)) (o_mv rfl) ?_
  refine h6 _ _ ?_
  clear h6
  refine seq fun K8 h8 => ?_
  refine seq fun K9 h9 => ?_
  refine stp (v := .int .i64 ((encT parts (List.map Pr.p ps)).2)) (o_mv rfl) ?_
  refine stp (v := .bool (decide (¬ ((encT parts (List.map Pr.p ps)).2) = 0))) (o_bin rfl rfl v_neq) ?_
  refine h9 _ _ ?_
  clear h9
  refine cndP rfl (fun c10 => ?_) (fun c10 => (c10 (he)).elim)
  refine seq fun K11 h11 => ?_
  refine stp (v := v5) (o_mv rfl) ?_
  refine stp (v := .int .i64 (TT.length : Nat)) (o_lenR (hs5.rd hM7 (i := 1) rfl) rfl rfl) ?_
  refine stp (v := .bool (decide (((TT.length : Nat) : Int) = 0))) (o_bin rfl rfl rfl) ?_
  refine stp (v := .bool (decide (((TT.length : Nat) : Int) = 0))) (o_mv rfl) ?_
  refine splitP rfl (fun c12 => ?_) (fun c12 => ?_)
  ·
    refine gyesl rfl ?_
    refine m_call (head_ok w7) rfl fun v13 w13 ⟨hr13, hu13⟩ => ?_
    have hM13 : Mem w [] w13 [[⟨b2, 24, [.int .i64 parts, x]⟩], rs5, rs7] := hM7.pure hu13
    subst hr13
    refine stp (v := .bool true) (o_pickT rfl rfl) ?_
    refine stp (v := .bool true) (o_mv rfl) ?_
    refine h11 _ _ ?_
    clear h11
    refine ⟨(.bool true), rfl, ?_⟩
    first | exact ⟨rfl, hM13.upd⟩ | (exfalso; omega)
  ·
    refine gnol rfl (by simp) ?_
    refine stp (v := .bool false) (o_pickF rfl rfl) ?_
    refine stp (v := .bool false) (o_mv rfl) ?_
    refine h11 _ _ ?_
    clear h11
    refine ⟨(.bool false), rfl, ?_⟩
    first | exact ⟨rfl, hM7.upd⟩ | (exfalso; omega)

set_option maxRecDepth 100000 in
/-- winnowlaw8.FootTiles -/
theorem FootTiles_yes (f : Ft) (w : World) (hf : f.ok w) (he : (encT f.parts (f.ps.map Pr.p)).2 = 0) : Calls Try.prog 11 [.agg (ftC f).toArray].toArray w (Rt fun r w' => r = .bool true ∧ Upd [] w w') := by
  obtain ⟨parts, x, ps⟩ := f
  obtain ⟨hx, hok, hl, hp⟩ := hf
  dsimp only at hx hok hl hp he
  simp only [inK] at hp
  obtain ⟨TT, hTT⟩ : ∃ T, T = tilesF parts (ps.map Pr.p) := ⟨_, rfl⟩
  obtain ⟨hft, hm, henc⟩ := enc_0 he
  have hm2 := hm
  unfold mayT at hm2
  have hTe : TT = tlsP 0 (ps.map Pr.p) ++ tailT (spaceF (List.map Pr.p ps)) (pagesF (bodyF parts (List.map Pr.p ps))).length := by rw [hTT]; unfold tilesF; rw [if_pos he]
  have htl2 := tailT_len (sp := (spaceF (List.map Pr.p ps))) (n := (pagesF (bodyF parts (List.map Pr.p ps))).length) (by omega)
  have hM0 : Mem w [] w [] := Mem.nil w []
  refine calls_vc mixed Try.func11 rfl C11 (by simp [Try.ntmps11]) ?_
  refine seq fun K1 h1 => ?_
  refine m_bx (v := .agg ([.int .i64 parts, x] : List Value).toArray) hM0 rfl rfl fun b2 w3 (hM3 : Mem w [] w3 [[⟨b2, 24, [.int .i64 parts, x]⟩]]) => ?_
  refine stp (v := .bool false) (o_mv rfl) ?_
  refine h1 _ _ ?_
  clear h1
  refine seq fun K4 h4 => ?_
  refine m_ldA (l := [.int .i64 parts, x]) hM3 (i := 0) (j := 0) rfl rfl rfl rfl rfl ?_
  refine m_call (Tiles_ok parts _ ps w3 (hx.upd hM3.upd) (fun p hp => (hok p hp).upd hM3.upd) (by omega) (by simp only [inK]; omega)) rfl fun v5 w5 ⟨y5, rs5, hr5, hs5, hm5⟩ => ?_
  have hM5 : Mem w [] w5 [[⟨b2, 24, [.int .i64 parts, x]⟩], rs5] := hM3.add hm5
  subst hr5
  rw [← hTT] at hs5
  refine stp (v := v5) (o_mv rfl) ?_
  refine h4 _ _ ?_
  clear h4
  refine seq fun K6 h6 => ?_
  refine m_ldA (l := [.int .i64 parts, x]) hM5 (i := 0) (j := 0) rfl rfl rfl rfl rfl ?_
  refine m_call (Encode_ok parts _ ps w5 (hx.upd hM5.upd) (fun p hp => (hok p hp).upd hM5.upd) (by omega) (by simp only [inK]; omega)) rfl fun v7 w7 ⟨y7, rs7, hr7, hs7, hm7⟩ => ?_
  have hM7 : Mem w [] w7 [[⟨b2, 24, [.int .i64 parts, x]⟩], rs5, rs7] := hM5.add hm7
  rw [henc] at hr7 hs7
  dsimp only at hr7 hs7
  subst hr7
  have hel7 : ((pagesF (bodyF parts (List.map Pr.p ps))) ++ (trF (spaceF (List.map Pr.p ps)) (pagesF (bodyF parts (List.map Pr.p ps))).length)).length = (pagesF (bodyF parts (List.map Pr.p ps))).length + 24 := by rw [List.length_append, trF_len]
  refine stp (v := .tuple [y7, .int .i64 0].toArray) (o_mv rfl) ?_
  refine stp (v := y7) (o_ext rfl rfl) ?_
  refine stp (v := .int .i64 0) (o_ext rfl rfl) ?_
  refine stp (v := y7) (o_mv rfl) ?_
  refine stp (v := .int .i64 0) (o_mv rfl) ?_
  refine h6 _ _ ?_
  clear h6
  refine seq fun K8 h8 => ?_
  refine seq fun K9 h9 => ?_
  refine stp (v := .int .i64 0) (o_mv rfl) ?_
  refine stp (v := .bool false) (o_bin rfl rfl v_neF) ?_
  refine h9 _ _ ?_
  clear h9
  refine cndF rfl ?_
  refine h8 _ _ ?_
  clear h8
  refine seq fun K10 h10 => ?_
  refine stp (v := .int .i64 0) (o_mv rfl) ?_
  refine h10 _ _ ?_
  clear h10
  refine seq fun K11 h11 => ?_
  refine stp (v := .int .i64 0) (o_mv rfl) ?_
  refine h11 _ _ ?_
  clear h11
  refine seq fun K12 h12 => ?_
  refine stp (v := .int .i64 0) (o_mv rfl) ?_
  refine h12 _ _ ?_
  clear h12
  refine seq fun K13 h13 => ?_
  refine seq fun K14 h14 => ?_
  refine stp (v := .int .i64 0) (o_mv rfl) ?_
  refine h14 _ _ ?_
  clear h14
  refine lp (n := fun _ _ => False) (ι := (Nat) × (Int) × (Nat) × (Int)) (fun ⟨i, last, n, a⟩ f w' => f 9 = .int .i64 (i : Nat) ∧ f 8 = .int .i64 (n : Nat) ∧ f 6 = .int .i64 a ∧ f 1 = .pointer (some ⟨b2, 0, none⟩) ∧ f 3 = v5 ∧ f 4 = y7 ∧ f 7 = .int .i64 0 ∧ Mem w [] w' [[⟨b2, 24, [.int .i64 parts, x]⟩], rs5, rs7] ∧ (i ≤ ps.length) ∧ (infOk parts last n ((ps.drop i).map Pr.p)) ∧ (n ≤ 262144) ∧ (0 ≤ a ∧ a ≤ n * 65541) ∧ (spaceF (ps.map Pr.p) = a + spaceF ((ps.drop i).map Pr.p)) ∧ (TT.drop n = tlsP a ((ps.drop i).map Pr.p) ++ tailT (spaceF (List.map Pr.p ps)) (pagesF (bodyF parts (List.map Pr.p ps))).length)) (fun ⟨i, last, n, a⟩ => ps.length - i) (0, (-1), 0, 0) ?_ ?_
  · exact ⟨by first | rfl | exact v_int (by omega) | exact v_int (by simp) | exact v_int (by simp; omega), by first | rfl | exact v_int (by omega) | exact v_int (by simp) | exact v_int (by simp; omega), by first | rfl | exact v_int (by omega) | exact v_int (by simp) | exact v_int (by simp; omega), rfl, rfl, rfl, by first | rfl | exact v_int (by omega) | exact v_int (by simp) | exact v_int (by simp; omega), hM7, by omega, hft.2, by omega, by omega, by rw [List.drop_zero]; omega, by rw [List.drop_zero, List.drop_zero]; exact hTe⟩
  · rintro ⟨i, last, n, a⟩ f w15 ⟨e15_9, e15_8, e15_6, e15_1, e15_3, e15_4, e15_7, hM15, hi, hI, hn, ha, hE, hD⟩ K16 h16
    obtain ⟨frm, rfl⟩ : ∃ frm, f = (upd (upd (upd (upd (upd (upd (upd frm 9 (.int .i64 (i : Nat))) 8 (.int .i64 (n : Nat))) 6 (.int .i64 a)) 1 (.pointer (some ⟨b2, 0, none⟩))) 3 (v5)) 4 (y7)) 7 (.int .i64 0)) := ⟨f, by rw [upd_self e15_9, upd_self e15_8, upd_self e15_6, upd_self e15_1, upd_self e15_3, upd_self e15_4, upd_self e15_7]⟩
    clear e15_9 e15_8 e15_6 e15_1 e15_3 e15_4 e15_7
    refine seq fun K17 h17 => ?_
    refine seq fun K18 h18 => ?_
    refine stp (v := .int .i64 (i : Nat)) (o_mv rfl) ?_
    refine stp (v := .pointer (some ⟨b2, 1, none⟩)) (o_fa rfl rfl) ?_
    refine m_ld (v := x) hM15 (i := 0) (j := 0) rfl rfl rfl rfl ?_
    refine stp (v := .int .i64 (ps.length : Nat)) (o_lenR (hx.upd hM15.upd) rfl rfl) ?_
    refine stp (v := .bool (decide (((i : Nat) : Int) < (ps.length : Nat)))) (o_bin rfl rfl rfl) ?_
    refine h18 _ _ ?_
    clear h18
    refine cndP rfl (fun c19 => ?_) (fun c19 => ?_)
    ·
      refine h17 _ _ ?_
      clear h17
      refine seq fun K20 h20 => ?_
      refine seq fun K21 h21 => ?_
      have hpi := hok _ (getD_memG pz (l := ps) (i := i) (by omega))
      have hic := (inf_cons (ps := ps) (i := i) (parts := parts) (last := last) (n := n) (by omega)).1 hI
      have hsc := sp_cons (ps := ps) (i := i) (by omega)
      have htc := tlsP_cons (ps := ps) (i := i) (a := a) (by omega)
      refine stp (v := .int .i64 0) (o_mv rfl) ?_
      refine h21 _ _ ?_
      clear h21
      refine lp (n := fun _ _ => False) (ι := (Nat) × (List UInt8) × (Nat) × (Int)) (fun ⟨k, key, n2, a2⟩ f w' => f 10 = .int .i64 (k : Nat) ∧ f 8 = .int .i64 (n2 : Nat) ∧ f 6 = .int .i64 a2 ∧ f 1 = .pointer (some ⟨b2, 0, none⟩) ∧ f 3 = v5 ∧ f 4 = y7 ∧ f 7 = .int .i64 0 ∧ f 9 = .int .i64 (i : Nat) ∧ Mem w [] w' [[⟨b2, 24, [.int .i64 parts, x]⟩], rs5, rs7] ∧ (k ≤ (ps.getD i pz).bl.length) ∧ (blsOk key ((ps.getD i pz).bl.drop k)) ∧ (0 ≤ a2 ∧ a2 ≤ (n + k : Nat) * 65541) ∧ (a + spB (ps.getD i pz).bl = a2 + spB ((ps.getD i pz).bl.drop k)) ∧ (n2 = n + k) ∧ (TT.drop n2 = tlsB a2 ((ps.getD i pz).bl.drop k) ++ (tlsP (a + spB (ps.getD i pz).bl) ((ps.drop (i + 1)).map Pr.p) ++ tailT (spaceF (List.map Pr.p ps)) (pagesF (bodyF parts (List.map Pr.p ps))).length))) (fun ⟨k, key, n2, a2⟩ => (ps.getD i pz).bl.length - k) (0, [], n, a) ?_ ?_
      · exact ⟨by first | rfl | exact v_int (by omega) | exact v_int (by simp) | exact v_int (by simp; omega), by first | rfl | exact v_int (by omega) | exact v_int (by simp) | exact v_int (by simp; omega), by first | rfl | exact v_int (by omega) | exact v_int (by simp) | exact v_int (by simp; omega), rfl, rfl, rfl, by first | rfl | exact v_int (by omega) | exact v_int (by simp) | exact v_int (by simp; omega), by first | rfl | exact v_int (by omega) | exact v_int (by simp) | exact v_int (by simp; omega), hM15, by omega, hic.1.1.2.2.2.2, by omega, by rw [List.drop_zero], by omega, by rw [hD, htc, List.drop_zero, List.append_assoc]⟩
      · rintro ⟨k, key, n2, a2⟩ f w22 ⟨e22_10, e22_8, e22_6, e22_1, e22_3, e22_4, e22_7, e22_9, hM22, hk, hB, ht, hT, hn2, hD2⟩ K23 h23
        obtain ⟨frm, rfl⟩ : ∃ frm, f = (upd (upd (upd (upd (upd (upd (upd (upd frm 10 (.int .i64 (k : Nat))) 8 (.int .i64 (n2 : Nat))) 6 (.int .i64 a2)) 1 (.pointer (some ⟨b2, 0, none⟩))) 3 (v5)) 4 (y7)) 7 (.int .i64 0)) 9 (.int .i64 (i : Nat))) := ⟨f, by rw [upd_self e22_10, upd_self e22_8, upd_self e22_6, upd_self e22_1, upd_self e22_3, upd_self e22_4, upd_self e22_7, upd_self e22_9]⟩
        clear e22_10 e22_8 e22_6 e22_1 e22_3 e22_4 e22_7 e22_9
        refine seq fun K24 h24 => ?_
        refine seq fun K25 h25 => ?_
        refine stp (v := .int .i64 (k : Nat)) (o_mv rfl) ?_
        refine stp (v := .pointer (some ⟨b2, 1, none⟩)) (o_fa rfl rfl) ?_
        refine m_ld (v := x) hM22 (i := 0) (j := 0) rfl rfl rfl rfl ?_
        refine stp (v := .int .i64 (i : Nat)) (o_mv rfl) ?_
        refine m_idxS pz (j := i) (hx.upd hM22.upd) rfl rfl (by omega) fun b26 o26 hp26 => ?_
        refine stp (v := .pointer (some ⟨b26, o26 + 1, none⟩)) (o_fa rfl rfl) ?_
        refine ld (v := (ps.getD i pz).bv) rfl (hp26.get 1 rfl) ?_
        refine stp (v := .int .i64 (((ps.getD i pz).bl).length : Nat)) (o_lenR (((fun p hp => (hok p hp).upd hM22.upd) _ (getD_memG pz (by omega))).rb) rfl rfl) ?_
        refine stp (v := .bool (decide (((k : Nat) : Int) < (((ps.getD i pz).bl).length : Nat)))) (o_bin rfl rfl rfl) ?_
        refine h25 _ _ ?_
        clear h25
        refine cndP rfl (fun c27 => ?_) (fun c27 => ?_)
        ·
          refine h24 _ _ ?_
          clear h24
          refine seq fun K28 h28 => ?_
          refine seq fun K29 h29 => ?_
          refine seq fun K30 h30 => ?_
          intro wd e1 e2 e3 e4
          have hd := Upd.same e1 e2 e3 e4 []
          have hM31 := hM22.pure hd
          clear e1 e2 e3 e4
          refine ⟨none, ?_⟩
          show vd _ _ _ _ _ _ _
          have hbc := (bls_cons (last := key) (bl := (ps.getD i pz).bl) (k := k) (by omega)).1 hB
          have hbk := hbc.1.1.1
          have hsk := spB_cons (bl := (ps.getD i pz).bl) (k := k) (by omega)
          obtain ⟨hx1, hx2, hx3⟩ := drop_head ti0 (hD2.trans (by rw [tlsB_cons (by omega)]; rfl))
          have hk1 : (TT.getD n2 ti0).kd = 0 := by rw [hx2]
          have hk2 : (TT.getD n2 ti0).fr = a2 := by rw [hx2]
          have hk3 : (TT.getD n2 ti0).to = a2 + (((ps.getD i pz).bl.getD k bz).st + 5) := by rw [hx2]
          refine dq (v := .int .i64 (n2 : Nat)) (o_mv rfl) ?_
          refine dq (v := v5) (o_mv rfl) ?_
          refine dq (v := .int .i64 (TT.length : Nat)) (o_lenR (hs5.rd hM31 (i := 1) rfl) rfl rfl) ?_
          refine dq (v := .bool (decide (((TT.length : Nat) : Int) ≤ ((n2 : Nat) : Int)))) (o_bin rfl rfl rfl) ?_
          refine dq (v := .bool (decide (((TT.length : Nat) : Int) ≤ ((n2 : Nat) : Int)))) (o_mv rfl) ?_
          refine dsplitP rfl (fun c32 => absurd c32 (by omega)) (fun c32 => ?_)
          refine dqg rfl (v := v5) (o_mv rfl) ?_
          refine dqg rfl (v := .int .i64 (n2 : Nat)) (o_mv rfl) ?_
          refine dgyes rfl rfl (dqp (m_idxS ti0 (j := n2) (hs5.rd hM31 (i := 1) rfl) rfl rfl (by omega) fun b33 o33 hp33 => ?_))
          show vd _ _ _ _ _ _ _
          refine dqg rfl (v := .pointer (some ⟨b33, o33, none⟩)) (o_fa rfl rfl) ?_
          refine dgyesl rfl ?_
          refine dl (ld (v := .int .i64 ((TT.getD n2 ti0).kd)) rfl (hp33.get 0 rfl) ?_)
          refine ⟨rfl, ?_⟩
          refine dqg rfl (v := .bool (decide (¬ ((TT.getD n2 ti0).kd) = 0))) (o_bin rfl rfl v_neq) ?_
          refine dq (v := .bool (decide (¬ ((TT.getD n2 ti0).kd) = 0))) (o_pickF rfl rfl) ?_
          refine dq (v := .bool (decide (¬ ((TT.getD n2 ti0).kd) = 0))) (o_mv rfl) ?_
          refine dsplitP rfl (fun c34 => absurd c34 (by omega)) (fun c34 => ?_)
          refine dqg rfl (v := v5) (o_mv rfl) ?_
          refine dqg rfl (v := .int .i64 (n2 : Nat)) (o_mv rfl) ?_
          refine dgyes rfl rfl (dqp (m_idxS ti0 (j := n2) (hs5.rd hM31 (i := 1) rfl) rfl rfl (by omega) fun b35 o35 hp35 => ?_))
          show vd _ _ _ _ _ _ _
          refine dqg rfl (v := .pointer (some ⟨b35, o35 + 1, none⟩)) (o_fa rfl rfl) ?_
          refine dqg rfl (v := .int .i64 a2) (o_mv rfl) ?_
          refine dgyesl rfl ?_
          refine dl (ld (v := .int .i64 ((TT.getD n2 ti0).fr)) rfl (hp35.get 1 rfl) ?_)
          refine ⟨rfl, ?_⟩
          refine dqg rfl (v := .bool (decide (¬ ((TT.getD n2 ti0).fr) = a2))) (o_bin rfl rfl v_neq) ?_
          refine dq (v := .bool (decide (¬ ((TT.getD n2 ti0).fr) = a2))) (o_pickF rfl rfl) ?_
          refine dq (v := .bool (decide (¬ ((TT.getD n2 ti0).fr) = a2))) (o_mv rfl) ?_
          refine dsplitP rfl (fun c36 => absurd c36 (by omega)) (fun c36 => ?_)
          refine dqg rfl (v := v5) (o_mv rfl) ?_
          refine dqg rfl (v := .int .i64 (n2 : Nat)) (o_mv rfl) ?_
          refine dgyes rfl rfl (dqp (m_idxS ti0 (j := n2) (hs5.rd hM31 (i := 1) rfl) rfl rfl (by omega) fun b37 o37 hp37 => ?_))
          show vd _ _ _ _ _ _ _
          refine dqg rfl (v := .pointer (some ⟨b37, o37 + 2, none⟩)) (o_fa rfl rfl) ?_
          refine dqg rfl (v := .int .i64 a2) (o_mv rfl) ?_
          refine dqg rfl (v := .pointer (some ⟨b2, 1, none⟩)) (o_fa rfl rfl) ?_
          refine dqg rfl (v := .int .i64 (i : Nat)) (o_mv rfl) ?_
          refine dqg rfl (v := .int .i64 (k : Nat)) (o_mv rfl) ?_
          refine dqgyes rfl rfl ?_
          refine dqld rfl (trivial) (v := x) ((hM31.at (i := 0) (j := 0) rfl rfl).cell 1) ?_
          refine dgyes rfl rfl (dqp (m_idxS pz (j := i) (hx.upd hM31.upd) rfl rfl (by omega) fun b38 o38 hp38 => ?_))
          show vd _ _ _ _ _ _ _
          refine dqg rfl (v := .pointer (some ⟨b38, o38 + 1, none⟩)) (o_fa rfl rfl) ?_
          refine dqgyes rfl rfl ?_
          refine dqld rfl (trivial) (v := (ps.getD i pz).bv) (hp38.get 1 rfl) ?_
          refine dgyes rfl rfl (dqp (m_idxS bz (j := k) (((fun p hp => (hok p hp).upd hM31.upd) _ (getD_memG pz (by omega))).rb) rfl rfl (by omega) fun b39 o39 hp39 => ?_))
          show vd _ _ _ _ _ _ _
          refine dqg rfl (v := .pointer (some ⟨b39, o39, none⟩)) (o_fa rfl rfl) ?_
          refine dqgyes rfl rfl ?_
          refine dqld rfl (trivial) (v := .int .i64 ((((ps.getD i pz).bl).getD k bz).st)) (hp39.get 0 rfl) ?_
          refine dqg rfl (v := .int .i64 (a2 + ((((ps.getD i pz).bl).getD k bz).st))) (o_bin rfl rfl (v_add64 (by constructor <;> omega))) ?_
          refine dqg rfl (v := .int .i64 ((a2 + ((((ps.getD i pz).bl).getD k bz).st)) + 5)) (o_bin rfl rfl (v_add64 (by constructor <;> omega))) ?_
          refine dgyesl rfl ?_
          refine dl (ld (v := .int .i64 ((TT.getD n2 ti0).to)) rfl (hp37.get 2 rfl) ?_)
          refine ⟨rfl, ?_⟩
          refine dqg rfl (v := .bool (decide (¬ ((TT.getD n2 ti0).to) = ((a2 + ((((ps.getD i pz).bl).getD k bz).st)) + 5)))) (o_bin rfl rfl v_neq) ?_
          refine dq (v := .bool (decide (¬ ((TT.getD n2 ti0).to) = ((a2 + ((((ps.getD i pz).bl).getD k bz).st)) + 5)))) (o_pickF rfl rfl) ?_
          refine h30 _ _ ?_
          clear h30
          refine cndP rfl (fun c40 => absurd c40 (by omega)) (fun c40 => ?_)
          refine h29 _ _ ?_
          clear h29
          refine seq fun K41 h41 => ?_
          refine stp (v := v5) (o_mv rfl) ?_
          refine stp (v := .int .i64 (n2 : Nat)) (o_mv rfl) ?_
          refine m_idxS ti0 (j := n2) (hs5.rd hM31 (i := 1) rfl) rfl rfl (by omega) fun b42 o42 hp42 => ?_
          refine stp (v := .pointer (some ⟨b42, o42 + 2, none⟩)) (o_fa rfl rfl) ?_
          refine ld (v := .int .i64 ((TT.getD n2 ti0).to)) rfl (hp42.get 2 rfl) ?_
          refine stp (v := .int .i64 ((TT.getD n2 ti0).to)) (o_mv rfl) ?_
          refine h41 _ _ ?_
          clear h41
          refine stp (v := .int .i64 (n2 : Nat)) (o_mv rfl) ?_
          refine stp (v := .int .i64 ((n2 : Nat) + 1)) (o_bin rfl rfl (v_add64 (by constructor <;> omega))) ?_
          refine stp (v := .int .i64 ((n2 : Nat) + 1)) (o_mv rfl) ?_
          refine h28 _ _ ?_
          clear h28
          refine stp (v := .int .i64 (k : Nat)) (o_mv rfl) ?_
          refine stp (v := .int .i64 ((k : Nat) + 1)) (o_bin rfl rfl (v_add64 (by constructor <;> omega))) ?_
          have hpi := hok _ (getD_memG pz (l := ps) (i := i) (by omega))
          have hic := (inf_cons (ps := ps) (i := i) (parts := parts) (last := last) (n := n) (by omega)).1 hI
          have hsc := sp_cons (ps := ps) (i := i) (by omega)
          have htc := tlsP_cons (ps := ps) (i := i) (a := a) (by omega)
          refine stp (v := .int .i64 ((k : Nat) + 1)) (o_mv rfl) ?_
          refine h23 (k + 1, ((ps.getD i pz).bl.getD k bz).cut, n2 + 1, a2 + (((ps.getD i pz).bl.getD k bz).st + 5)) _ _ ⟨by first | rfl | exact v_int (by omega) | exact v_int (by simp) | exact v_int (by simp; omega), by first | rfl | exact v_int (by omega) | exact v_int (by simp) | exact v_int (by simp; omega), by first | rfl | exact v_int (by omega) | exact v_int (by simp) | exact v_int (by simp; omega), rfl, rfl, rfl, by first | rfl | exact v_int (by omega) | exact v_int (by simp) | exact v_int (by simp; omega), by first | rfl | exact v_int (by omega) | exact v_int (by simp) | exact v_int (by simp; omega), hM31, by omega, hbc.2, by omega, by omega, by omega, hx3⟩ (by (try dsimp only); omega)
        ·
          refine h20 _ _ ?_
          clear h20
          refine stp (v := .int .i64 (i : Nat)) (o_mv rfl) ?_
          refine stp (v := .int .i64 ((i : Nat) + 1)) (o_bin rfl rfl (v_add64 (by constructor <;> omega))) ?_
          refine stp (v := .int .i64 ((i : Nat) + 1)) (o_mv rfl) ?_
          refine h16 (i + 1, (ps.getD i pz).part, n + (ps.getD i pz).bl.length, a2) _ _ ⟨by first | rfl | exact v_int (by omega) | exact v_int (by simp) | exact v_int (by simp; omega), by first | rfl | exact v_int (by omega) | exact v_int (by simp) | exact v_int (by simp; omega), by first | rfl | exact v_int (by omega) | exact v_int (by simp) | exact v_int (by simp; omega), rfl, rfl, rfl, by first | rfl | exact v_int (by omega) | exact v_int (by simp) | exact v_int (by simp; omega), hM22, by omega, hic.2, hic.1.2, by have := spB_end (bl := (ps.getD i pz).bl) (k := k) (by omega); omega, by have := spB_end (bl := (ps.getD i pz).bl) (k := k) (by omega); omega, by have h9 := spB_end (bl := (ps.getD i pz).bl) (k := k) (by omega); rw [show n + (ps.getD i pz).bl.length = n2 by omega, hD2, tlsB_end (by omega), List.nil_append, show a + spB (ps.getD i pz).bl = a2 by omega]⟩ (by (try dsimp only); omega)
    ·
      refine h13 _ _ ?_
      clear h13
      refine seq fun K43 h43 => ?_
      refine seq fun K44 h44 => ?_
      refine stp (v := .int .i64 (n : Nat)) (o_mv rfl) ?_
      refine stp (v := .int .i64 (n : Nat)) (o_mv rfl) ?_
      refine h44 _ _ ?_
      clear h44
      refine lp (n := fun _ _ => False) (ι := (Nat) × (Int) × (Int)) (fun ⟨j, a3, kd⟩ f w' => f 11 = .int .i64 (j : Nat) ∧ f 6 = .int .i64 a3 ∧ f 7 = .int .i64 kd ∧ f 1 = .pointer (some ⟨b2, 0, none⟩) ∧ f 3 = v5 ∧ f 4 = y7 ∧ f 8 = .int .i64 (n : Nat) ∧ Mem w [] w' [[⟨b2, 24, [.int .i64 parts, x]⟩], rs5, rs7] ∧ (TInv TT ((spaceF (List.map Pr.p ps)) + (pagesF (bodyF parts (List.map Pr.p ps))).length) j a3 kd) ∧ (j ≤ TT.length) ∧ (n + 2 ≤ TT.length) ∧ (TT.length ≤ 262144 + (pagesF (bodyF parts (List.map Pr.p ps))).length + 1)) (fun ⟨j, a3, kd⟩ => TT.length - j) (n, a, 0) ?_ ?_
      · exact ⟨by first | rfl | exact v_int (by omega) | exact v_int (by simp) | exact v_int (by simp; omega), by first | rfl | exact v_int (by omega) | exact v_int (by simp) | exact v_int (by simp; omega), by first | rfl | exact v_int (by omega) | exact v_int (by simp) | exact v_int (by simp; omega), rfl, rfl, rfl, by first | rfl | exact v_int (by omega) | exact v_int (by simp) | exact v_int (by simp; omega), hM15, by have h9 := sp_end (ps := ps) (i := i) (by omega); have e9 : (spaceF (List.map Pr.p ps)) = a := (by omega); rw [← e9]; exact TInv.init (by rw [hD, tlsP_end (by omega), List.nil_append]), by have h9 := congrArg List.length hD; rw [List.length_drop, List.length_append] at h9; omega, by have h9 := congrArg List.length hD; rw [List.length_drop, List.length_append] at h9; omega, by have h9 := congrArg List.length hD; rw [List.length_drop, tlsP_end (by omega), List.nil_append] at h9; have h8 := tailT_le (sp := (spaceF (List.map Pr.p ps))) (n := (pagesF (bodyF parts (List.map Pr.p ps))).length); omega⟩
      · rintro ⟨j, a3, kd⟩ f w45 ⟨e45_11, e45_6, e45_7, e45_1, e45_3, e45_4, e45_8, hM45, hV, hj, hn5, hTl⟩ K46 h46
        obtain ⟨frm, rfl⟩ : ∃ frm, f = (upd (upd (upd (upd (upd (upd (upd frm 11 (.int .i64 (j : Nat))) 6 (.int .i64 a3)) 7 (.int .i64 kd)) 1 (.pointer (some ⟨b2, 0, none⟩))) 3 (v5)) 4 (y7)) 8 (.int .i64 (n : Nat))) := ⟨f, by rw [upd_self e45_11, upd_self e45_6, upd_self e45_7, upd_self e45_1, upd_self e45_3, upd_self e45_4, upd_self e45_8]⟩
        clear e45_11 e45_6 e45_7 e45_1 e45_3 e45_4 e45_8
        refine seq fun K47 h47 => ?_
        refine seq fun K48 h48 => ?_
        refine stp (v := .int .i64 (j : Nat)) (o_mv rfl) ?_
        refine stp (v := v5) (o_mv rfl) ?_
        refine stp (v := .int .i64 (TT.length : Nat)) (o_lenR (hs5.rd hM45 (i := 1) rfl) rfl rfl) ?_
        refine stp (v := .bool (decide (((j : Nat) : Int) < (TT.length : Nat)))) (o_bin rfl rfl rfl) ?_
        refine h48 _ _ ?_
        clear h48
        refine cndP rfl (fun c49 => ?_) (fun c49 => ?_)
        ·
          refine h47 _ _ ?_
          clear h47
          refine seq fun K50 h50 => ?_
          refine seq fun K51 h51 => ?_
          refine seq fun K52 h52 => ?_
          obtain ⟨hy1, hy2, hy3, hy4⟩ := hV.step (by omega)
          refine stp (v := v5) (o_mv rfl) ?_
          refine stp (v := .int .i64 (j : Nat)) (o_mv rfl) ?_
          refine m_idxS ti0 (j := j) (hs5.rd hM45 (i := 1) rfl) rfl rfl (by omega) fun b53 o53 hp53 => ?_
          refine stp (v := .pointer (some ⟨b53, o53 + 1, none⟩)) (o_fa rfl rfl) ?_
          refine ld (v := .int .i64 ((TT.getD j ti0).fr)) rfl (hp53.get 1 rfl) ?_
          refine stp (v := .int .i64 a3) (o_mv rfl) ?_
          refine stp (v := .bool (decide (¬ ((TT.getD j ti0).fr) = a3))) (o_bin rfl rfl v_neq) ?_
          refine stp (v := .bool (decide (¬ ((TT.getD j ti0).fr) = a3))) (o_mv rfl) ?_
          refine splitP rfl (fun c54 => absurd c54 (by omega)) (fun c54 => ?_)
          refine stg rfl (v := v5) (o_mv rfl) ?_
          refine stg rfl (v := .int .i64 (j : Nat)) (o_mv rfl) ?_
          refine gyes rfl rfl (m_idxS ti0 (j := j) (hs5.rd hM45 (i := 1) rfl) rfl rfl (by omega) fun b55 o55 hp55 => ?_)
          refine stg rfl (v := .pointer (some ⟨b55, o55 + 2, none⟩)) (o_fa rfl rfl) ?_
          refine gyesl rfl ?_
          refine ld (v := .int .i64 ((TT.getD j ti0).to)) rfl (hp55.get 2 rfl) ?_
          refine stg rfl (v := .int .i64 a3) (o_mv rfl) ?_
          refine stg rfl (v := .bool (decide (((TT.getD j ti0).to) ≤ a3))) (o_bin rfl rfl rfl) ?_
          refine stp (v := .bool (decide (((TT.getD j ti0).to) ≤ a3))) (o_pickF rfl rfl) ?_
          refine stp (v := .bool (decide (((TT.getD j ti0).to) ≤ a3))) (o_mv rfl) ?_
          refine splitP rfl (fun c56 => absurd c56 (by omega)) (fun c56 => ?_)
          refine stg rfl (v := v5) (o_mv rfl) ?_
          refine stg rfl (v := .int .i64 (j : Nat)) (o_mv rfl) ?_
          refine gyes rfl rfl (m_idxS ti0 (j := j) (hs5.rd hM45 (i := 1) rfl) rfl rfl (by omega) fun b57 o57 hp57 => ?_)
          refine stg rfl (v := .pointer (some ⟨b57, o57, none⟩)) (o_fa rfl rfl) ?_
          refine gyesl rfl ?_
          refine ld (v := .int .i64 ((TT.getD j ti0).kd)) rfl (hp57.get 0 rfl) ?_
          refine stg rfl (v := .int .i64 kd) (o_mv rfl) ?_
          refine stg rfl (v := .bool (decide (((TT.getD j ti0).kd) < kd))) (o_bin rfl rfl rfl) ?_
          refine stp (v := .bool (decide (((TT.getD j ti0).kd) < kd))) (o_pickF rfl rfl) ?_
          refine h52 _ _ ?_
          clear h52
          refine cndP rfl (fun c58 => absurd c58 (by omega)) (fun c58 => ?_)
          refine h51 _ _ ?_
          clear h51
          refine seq fun K59 h59 => ?_
          refine stp (v := v5) (o_mv rfl) ?_
          refine stp (v := .int .i64 (j : Nat)) (o_mv rfl) ?_
          refine m_idxS ti0 (j := j) (hs5.rd hM45 (i := 1) rfl) rfl rfl (by omega) fun b60 o60 hp60 => ?_
          refine stp (v := .pointer (some ⟨b60, o60 + 2, none⟩)) (o_fa rfl rfl) ?_
          refine ld (v := .int .i64 ((TT.getD j ti0).to)) rfl (hp60.get 2 rfl) ?_
          refine stp (v := .int .i64 a3) (o_mv rfl) ?_
          refine stp (v := .int .i64 (((TT.getD j ti0).to) - a3)) (o_bin rfl rfl (v_sub64 (by constructor <;> omega))) ?_
          refine stp (v := .int .i64 (((TT.getD j ti0).to) - a3)) (o_mv rfl) ?_
          refine h59 _ _ ?_
          clear h59
          refine seq fun K61 h61 => ?_
          refine stp (v := .int .i64 (j : Nat)) (o_mv rfl) ?_
          refine stp (v := v5) (o_mv rfl) ?_
          refine stp (v := .int .i64 (TT.length : Nat)) (o_lenR (hs5.rd hM45 (i := 1) rfl) rfl rfl) ?_
          refine stp (v := .int .i64 ((TT.length : Nat) - 1)) (o_bin rfl rfl (v_sub64 (by constructor <;> omega))) ?_
          refine stp (v := .bool (decide (((j : Nat) : Int) = ((TT.length : Nat) - 1)))) (o_bin rfl rfl rfl) ?_
          refine stp (v := .bool (decide (((j : Nat) : Int) = ((TT.length : Nat) - 1)))) (o_mv rfl) ?_
          refine h61 _ _ ?_
          clear h61
          refine seq fun K62 h62 => ?_
          refine seq fun K63 h63 => ?_
          refine stp (v := .bool (decide (((j : Nat) : Int) = ((TT.length : Nat) - 1)))) (o_mv rfl) ?_
          refine stp (v := v5) (o_mv rfl) ?_
          refine stp (v := .int .i64 (j : Nat)) (o_mv rfl) ?_
          refine m_idxS ti0 (j := j) (hs5.rd hM45 (i := 1) rfl) rfl rfl (by omega) fun b64 o64 hp64 => ?_
          refine stp (v := .pointer (some ⟨b64, o64, none⟩)) (o_fa rfl rfl) ?_
          refine ld (v := .int .i64 ((TT.getD j ti0).kd)) rfl (hp64.get 0 rfl) ?_
          refine stp (v := .bool (decide (((TT.getD j ti0).kd) = 2))) (o_bin rfl rfl rfl) ?_
          refine stp (v := .bool (decide (¬ (decide (((j : Nat) : Int) = ((TT.length : Nat) - 1))) = (decide (((TT.getD j ti0).kd) = 2) : Bool)))) (o_beq rfl rfl (by simp)) ?_
          refine stp (v := .bool (decide (¬ (decide (((j : Nat) : Int) = ((TT.length : Nat) - 1))) = (decide (((TT.getD j ti0).kd) = 2) : Bool)))) (o_mv rfl) ?_
          refine splitP rfl (fun c65 => absurd c65 (fun k => k (by rw [decide_eq_decide]; omega))) (fun c65 => ?_)
          refine stg rfl (v := .bool (decide (((j : Nat) : Int) = ((TT.length : Nat) - 1)))) (o_mv rfl) ?_
          refine stg rfl (v := .bool (decide (((j : Nat) : Int) = ((TT.length : Nat) - 1)))) (o_mv rfl) ?_
          refine splitP rfl (fun c66 => ?_) (fun c66 => ?_)
          ·
            refine stg rfl (v := .int .i64 (((TT.getD j ti0).to) - a3)) (o_mv rfl) ?_
            refine stg rfl (v := .bool (decide (¬ (((TT.getD j ti0).to) - a3) = 24))) (o_bin rfl rfl v_neq) ?_
            refine stg rfl (v := .bool (decide (¬ (((TT.getD j ti0).to) - a3) = 24))) (o_pickT rfl rfl) ?_
            refine stp (v := .bool (decide (¬ (((TT.getD j ti0).to) - a3) = 24))) (o_pickF rfl rfl) ?_
            refine stp (v := .bool (decide (¬ (((TT.getD j ti0).to) - a3) = 24))) (o_mv rfl) ?_
            refine splitP rfl (fun c67 => absurd c67 (by omega)) (fun c67 => ?_)
            refine stg rfl (v := .bool (decide (((j : Nat) : Int) = ((TT.length : Nat) - 1)))) (o_mv rfl) ?_
            refine stg rfl (v := .bool (decide (¬ (((j : Nat) : Int) = ((TT.length : Nat) - 1))))) (o_not rfl v_not) ?_
            refine stg rfl (v := .bool (decide (¬ (((j : Nat) : Int) = ((TT.length : Nat) - 1))))) (o_mv rfl) ?_
            refine splitP rfl (fun c68 => ?_) (fun c68 => ?_)
            ·
              refine stg rfl (v := v5) (o_mv rfl) ?_
              refine stg rfl (v := .int .i64 (j : Nat)) (o_mv rfl) ?_
              refine gyes rfl rfl (m_idxS ti0 (j := j) (hs5.rd hM45 (i := 1) rfl) rfl rfl (by omega) fun b69 o69 hp69 => ?_)
              refine stg rfl (v := .pointer (some ⟨b69, o69, none⟩)) (o_fa rfl rfl) ?_
              refine gyesl rfl ?_
              refine ld (v := .int .i64 ((TT.getD j ti0).kd)) rfl (hp69.get 0 rfl) ?_
              refine stg rfl (v := .bool (decide (¬ ((TT.getD j ti0).kd) = 1))) (o_bin rfl rfl v_neq) ?_
              refine stg rfl (v := .bool (decide (¬ ((TT.getD j ti0).kd) = 1))) (o_mv rfl) ?_
              refine splitP rfl (fun c70 => absurd c70 (by omega)) (fun c70 => ?_)
              refine stg rfl (v := .int .i64 (((TT.getD j ti0).to) - a3)) (o_mv rfl) ?_
              refine stg rfl (v := .bool (decide ((4100 : Int) < (((TT.getD j ti0).to) - a3)))) (o_bin rfl rfl rfl) ?_
              refine stg rfl (v := .bool (decide ((4100 : Int) < (((TT.getD j ti0).to) - a3)))) (o_pickF rfl rfl) ?_
              refine stg rfl (v := .bool (decide ((4100 : Int) < (((TT.getD j ti0).to) - a3)))) (o_mv rfl) ?_
              refine splitP rfl (fun c71 => absurd c71 (by omega)) (fun c71 => ?_)
              refine stg rfl (v := .int .i64 (((TT.getD j ti0).to) - a3)) (o_mv rfl) ?_
              refine stg rfl (v := .bool (decide ((((TT.getD j ti0).to) - a3) < 4100))) (o_bin rfl rfl rfl) ?_
              refine stg rfl (v := .bool (decide ((((TT.getD j ti0).to) - a3) < 4100))) (o_mv rfl) ?_
              refine splitP rfl (fun c72 => ?_) (fun c72 => ?_)
              ·
                refine stg rfl (v := .int .i64 (j : Nat)) (o_mv rfl) ?_
                refine stg rfl (v := v5) (o_mv rfl) ?_
                refine stg rfl (v := .int .i64 (TT.length : Nat)) (o_lenR (hs5.rd hM45 (i := 1) rfl) rfl rfl) ?_
                refine stg rfl (v := .int .i64 ((TT.length : Nat) - 2)) (o_bin rfl rfl (v_sub64 (by constructor <;> omega))) ?_
                refine stg rfl (v := .bool (decide (¬ ((j : Nat) : Int) = ((TT.length : Nat) - 2)))) (o_bin rfl rfl v_neq) ?_
                refine stg rfl (v := .bool (decide (¬ ((j : Nat) : Int) = ((TT.length : Nat) - 2)))) (o_pickT rfl rfl) ?_
                refine stg rfl (v := .bool (decide (¬ ((j : Nat) : Int) = ((TT.length : Nat) - 2)))) (o_pickF rfl rfl) ?_
                refine stg rfl (v := .bool (decide (¬ ((j : Nat) : Int) = ((TT.length : Nat) - 2)))) (o_pickT rfl rfl) ?_
                refine stp (v := .bool (decide (¬ ((j : Nat) : Int) = ((TT.length : Nat) - 2)))) (o_pickF rfl rfl) ?_
                refine h63 _ _ ?_
                clear h63
                refine cndP rfl (fun c73 => absurd c73 (by omega)) (fun c73 => ?_)
                refine h62 _ _ ?_
                clear h62
                refine seq fun K74 h74 => ?_
                refine stp (v := v5) (o_mv rfl) ?_
                refine stp (v := .int .i64 (j : Nat)) (o_mv rfl) ?_
                refine m_idxS ti0 (j := j) (hs5.rd hM45 (i := 1) rfl) rfl rfl (by omega) fun b75 o75 hp75 => ?_
                refine stp (v := .pointer (some ⟨b75, o75, none⟩)) (o_fa rfl rfl) ?_
                refine ld (v := .int .i64 ((TT.getD j ti0).kd)) rfl (hp75.get 0 rfl) ?_
                refine stp (v := .int .i64 ((TT.getD j ti0).kd)) (o_mv rfl) ?_
                refine h74 _ _ ?_
                clear h74
                refine stp (v := v5) (o_mv rfl) ?_
                refine stp (v := .int .i64 (j : Nat)) (o_mv rfl) ?_
                refine m_idxS ti0 (j := j) (hs5.rd hM45 (i := 1) rfl) rfl rfl (by omega) fun b76 o76 hp76 => ?_
                refine stp (v := .pointer (some ⟨b76, o76 + 2, none⟩)) (o_fa rfl rfl) ?_
                refine ld (v := .int .i64 ((TT.getD j ti0).to)) rfl (hp76.get 2 rfl) ?_
                refine stp (v := .int .i64 ((TT.getD j ti0).to)) (o_mv rfl) ?_
                refine h50 _ _ ?_
                clear h50
                refine stp (v := .int .i64 (j : Nat)) (o_mv rfl) ?_
                refine stp (v := .int .i64 ((j : Nat) + 1)) (o_bin rfl rfl (v_add64 (by constructor <;> omega))) ?_
                refine stp (v := .int .i64 ((j : Nat) + 1)) (o_mv rfl) ?_
                refine h46 (j + 1, (TT.getD j ti0).to, (TT.getD j ti0).kd) _ _ ⟨by first | rfl | exact v_int (by omega) | exact v_int (by simp) | exact v_int (by simp; omega), by first | rfl | exact v_int (by omega) | exact v_int (by simp) | exact v_int (by simp; omega), by first | rfl | exact v_int (by omega) | exact v_int (by simp) | exact v_int (by simp; omega), rfl, rfl, rfl, by first | rfl | exact v_int (by omega) | exact v_int (by simp) | exact v_int (by simp; omega), hM45, hy4, by omega, by omega, by omega⟩ (by (try dsimp only); omega)
              ·
                refine gno rfl (by simp) ?_
                refine gno rfl (by simp) ?_
                refine gno rfl (by simp) ?_
                refine gno rfl (by simp) ?_
                refine gno rfl (by simp) ?_
                refine stg rfl (v := .bool false) (o_pickF rfl rfl) ?_
                refine stg rfl (v := .bool false) (o_pickF rfl rfl) ?_
                refine stg rfl (v := .bool false) (o_pickT rfl rfl) ?_
                refine stp (v := .bool false) (o_pickF rfl rfl) ?_
                refine h63 _ _ ?_
                clear h63
                refine cndF rfl ?_
                refine h62 _ _ ?_
                clear h62
                refine seq fun K77 h77 => ?_
                refine stp (v := v5) (o_mv rfl) ?_
                refine stp (v := .int .i64 (j : Nat)) (o_mv rfl) ?_
                refine m_idxS ti0 (j := j) (hs5.rd hM45 (i := 1) rfl) rfl rfl (by omega) fun b78 o78 hp78 => ?_
                refine stp (v := .pointer (some ⟨b78, o78, none⟩)) (o_fa rfl rfl) ?_
                refine ld (v := .int .i64 ((TT.getD j ti0).kd)) rfl (hp78.get 0 rfl) ?_
                refine stp (v := .int .i64 ((TT.getD j ti0).kd)) (o_mv rfl) ?_
                refine h77 _ _ ?_
                clear h77
                refine stp (v := v5) (o_mv rfl) ?_
                refine stp (v := .int .i64 (j : Nat)) (o_mv rfl) ?_
                refine m_idxS ti0 (j := j) (hs5.rd hM45 (i := 1) rfl) rfl rfl (by omega) fun b79 o79 hp79 => ?_
                refine stp (v := .pointer (some ⟨b79, o79 + 2, none⟩)) (o_fa rfl rfl) ?_
                refine ld (v := .int .i64 ((TT.getD j ti0).to)) rfl (hp79.get 2 rfl) ?_
                refine stp (v := .int .i64 ((TT.getD j ti0).to)) (o_mv rfl) ?_
                refine h50 _ _ ?_
                clear h50
                refine stp (v := .int .i64 (j : Nat)) (o_mv rfl) ?_
                refine stp (v := .int .i64 ((j : Nat) + 1)) (o_bin rfl rfl (v_add64 (by constructor <;> omega))) ?_
                refine stp (v := .int .i64 ((j : Nat) + 1)) (o_mv rfl) ?_
                refine h46 (j + 1, (TT.getD j ti0).to, (TT.getD j ti0).kd) _ _ ⟨by first | rfl | exact v_int (by omega) | exact v_int (by simp) | exact v_int (by simp; omega), by first | rfl | exact v_int (by omega) | exact v_int (by simp) | exact v_int (by simp; omega), by first | rfl | exact v_int (by omega) | exact v_int (by simp) | exact v_int (by simp; omega), rfl, rfl, rfl, by first | rfl | exact v_int (by omega) | exact v_int (by simp) | exact v_int (by simp; omega), hM45, hy4, by omega, by omega, by omega⟩ (by (try dsimp only); omega)
            ·
              refine gno rfl (by simp) ?_
              refine gno rfl (by simp) ?_
              refine gno rfl (by simp) ?_
              refine gno rfl (by simp) ?_
              refine gnol rfl (by simp) ?_
              refine gno rfl (by simp) ?_
              refine gno rfl (by simp) ?_
              refine splitU rfl ?_
              refine gnou rfl ?_
              refine gnou rfl ?_
              refine gno rfl (by simp) ?_
              refine gno rfl (by simp) ?_
              refine splitU rfl ?_
              refine gnou rfl ?_
              refine gnou rfl ?_
              refine gnou rfl ?_
              refine splitU rfl ?_
              refine gnou rfl ?_
              refine gnou rfl ?_
              refine gnou rfl ?_
              refine gnou rfl ?_
              refine gnou rfl ?_
              refine gnou rfl ?_
              refine gno rfl (by simp) ?_
              refine stg rfl (v := .bool false) (o_pickF rfl rfl) ?_
              refine stp (v := .bool false) (o_pickF rfl rfl) ?_
              refine h63 _ _ ?_
              clear h63
              refine cndF rfl ?_
              refine h62 _ _ ?_
              clear h62
              refine seq fun K80 h80 => ?_
              refine stp (v := v5) (o_mv rfl) ?_
              refine stp (v := .int .i64 (j : Nat)) (o_mv rfl) ?_
              refine m_idxS ti0 (j := j) (hs5.rd hM45 (i := 1) rfl) rfl rfl (by omega) fun b81 o81 hp81 => ?_
              refine stp (v := .pointer (some ⟨b81, o81, none⟩)) (o_fa rfl rfl) ?_
              refine ld (v := .int .i64 ((TT.getD j ti0).kd)) rfl (hp81.get 0 rfl) ?_
              refine stp (v := .int .i64 ((TT.getD j ti0).kd)) (o_mv rfl) ?_
              refine h80 _ _ ?_
              clear h80
              refine stp (v := v5) (o_mv rfl) ?_
              refine stp (v := .int .i64 (j : Nat)) (o_mv rfl) ?_
              refine m_idxS ti0 (j := j) (hs5.rd hM45 (i := 1) rfl) rfl rfl (by omega) fun b82 o82 hp82 => ?_
              refine stp (v := .pointer (some ⟨b82, o82 + 2, none⟩)) (o_fa rfl rfl) ?_
              refine ld (v := .int .i64 ((TT.getD j ti0).to)) rfl (hp82.get 2 rfl) ?_
              refine stp (v := .int .i64 ((TT.getD j ti0).to)) (o_mv rfl) ?_
              refine h50 _ _ ?_
              clear h50
              refine stp (v := .int .i64 (j : Nat)) (o_mv rfl) ?_
              refine stp (v := .int .i64 ((j : Nat) + 1)) (o_bin rfl rfl (v_add64 (by constructor <;> omega))) ?_
              refine stp (v := .int .i64 ((j : Nat) + 1)) (o_mv rfl) ?_
              refine h46 (j + 1, (TT.getD j ti0).to, (TT.getD j ti0).kd) _ _ ⟨by first | rfl | exact v_int (by omega) | exact v_int (by simp) | exact v_int (by simp; omega), by first | rfl | exact v_int (by omega) | exact v_int (by simp) | exact v_int (by simp; omega), by first | rfl | exact v_int (by omega) | exact v_int (by simp) | exact v_int (by simp; omega), rfl, rfl, rfl, by first | rfl | exact v_int (by omega) | exact v_int (by simp) | exact v_int (by simp; omega), hM45, hy4, by omega, by omega, by omega⟩ (by (try dsimp only); omega)
          ·
            refine gno rfl (by simp) ?_
            refine gno rfl (by simp) ?_
            refine stg rfl (v := .bool false) (o_pickF rfl rfl) ?_
            refine stp (v := .bool false) (o_pickF rfl rfl) ?_
            refine stp (v := .bool false) (o_mv rfl) ?_
            refine splitF rfl ?_
            refine stg rfl (v := .bool (decide (((j : Nat) : Int) = ((TT.length : Nat) - 1)))) (o_mv rfl) ?_
            refine stg rfl (v := .bool (decide (¬ (((j : Nat) : Int) = ((TT.length : Nat) - 1))))) (o_not rfl v_not) ?_
            refine stg rfl (v := .bool (decide (¬ (((j : Nat) : Int) = ((TT.length : Nat) - 1))))) (o_mv rfl) ?_
            refine splitP rfl (fun c83 => ?_) (fun c83 => ?_)
            ·
              refine stg rfl (v := v5) (o_mv rfl) ?_
              refine stg rfl (v := .int .i64 (j : Nat)) (o_mv rfl) ?_
              refine gyes rfl rfl (m_idxS ti0 (j := j) (hs5.rd hM45 (i := 1) rfl) rfl rfl (by omega) fun b84 o84 hp84 => ?_)
              refine stg rfl (v := .pointer (some ⟨b84, o84, none⟩)) (o_fa rfl rfl) ?_
              refine gyesl rfl ?_
              refine ld (v := .int .i64 ((TT.getD j ti0).kd)) rfl (hp84.get 0 rfl) ?_
              refine stg rfl (v := .bool (decide (¬ ((TT.getD j ti0).kd) = 1))) (o_bin rfl rfl v_neq) ?_
              refine stg rfl (v := .bool (decide (¬ ((TT.getD j ti0).kd) = 1))) (o_mv rfl) ?_
              refine splitP rfl (fun c85 => absurd c85 (by omega)) (fun c85 => ?_)
              refine stg rfl (v := .int .i64 (((TT.getD j ti0).to) - a3)) (o_mv rfl) ?_
              refine stg rfl (v := .bool (decide ((4100 : Int) < (((TT.getD j ti0).to) - a3)))) (o_bin rfl rfl rfl) ?_
              refine stg rfl (v := .bool (decide ((4100 : Int) < (((TT.getD j ti0).to) - a3)))) (o_pickF rfl rfl) ?_
              refine stg rfl (v := .bool (decide ((4100 : Int) < (((TT.getD j ti0).to) - a3)))) (o_mv rfl) ?_
              refine splitP rfl (fun c86 => absurd c86 (by omega)) (fun c86 => ?_)
              refine stg rfl (v := .int .i64 (((TT.getD j ti0).to) - a3)) (o_mv rfl) ?_
              refine stg rfl (v := .bool (decide ((((TT.getD j ti0).to) - a3) < 4100))) (o_bin rfl rfl rfl) ?_
              refine stg rfl (v := .bool (decide ((((TT.getD j ti0).to) - a3) < 4100))) (o_mv rfl) ?_
              refine splitP rfl (fun c87 => ?_) (fun c87 => ?_)
              ·
                refine stg rfl (v := .int .i64 (j : Nat)) (o_mv rfl) ?_
                refine stg rfl (v := v5) (o_mv rfl) ?_
                refine stg rfl (v := .int .i64 (TT.length : Nat)) (o_lenR (hs5.rd hM45 (i := 1) rfl) rfl rfl) ?_
                refine stg rfl (v := .int .i64 ((TT.length : Nat) - 2)) (o_bin rfl rfl (v_sub64 (by constructor <;> omega))) ?_
                refine stg rfl (v := .bool (decide (¬ ((j : Nat) : Int) = ((TT.length : Nat) - 2)))) (o_bin rfl rfl v_neq) ?_
                refine stg rfl (v := .bool (decide (¬ ((j : Nat) : Int) = ((TT.length : Nat) - 2)))) (o_pickT rfl rfl) ?_
                refine stg rfl (v := .bool (decide (¬ ((j : Nat) : Int) = ((TT.length : Nat) - 2)))) (o_pickF rfl rfl) ?_
                refine stg rfl (v := .bool (decide (¬ ((j : Nat) : Int) = ((TT.length : Nat) - 2)))) (o_pickT rfl rfl) ?_
                refine stp (v := .bool (decide (¬ ((j : Nat) : Int) = ((TT.length : Nat) - 2)))) (o_pickF rfl rfl) ?_
                refine h63 _ _ ?_
                clear h63
                refine cndP rfl (fun c88 => absurd c88 (by omega)) (fun c88 => ?_)
                refine h62 _ _ ?_
                clear h62
                refine seq fun K89 h89 => ?_
                refine stp (v := v5) (o_mv rfl) ?_
                refine stp (v := .int .i64 (j : Nat)) (o_mv rfl) ?_
                refine m_idxS ti0 (j := j) (hs5.rd hM45 (i := 1) rfl) rfl rfl (by omega) fun b90 o90 hp90 => ?_
                refine stp (v := .pointer (some ⟨b90, o90, none⟩)) (o_fa rfl rfl) ?_
                refine ld (v := .int .i64 ((TT.getD j ti0).kd)) rfl (hp90.get 0 rfl) ?_
                refine stp (v := .int .i64 ((TT.getD j ti0).kd)) (o_mv rfl) ?_
                refine h89 _ _ ?_
                clear h89
                refine stp (v := v5) (o_mv rfl) ?_
                refine stp (v := .int .i64 (j : Nat)) (o_mv rfl) ?_
                refine m_idxS ti0 (j := j) (hs5.rd hM45 (i := 1) rfl) rfl rfl (by omega) fun b91 o91 hp91 => ?_
                refine stp (v := .pointer (some ⟨b91, o91 + 2, none⟩)) (o_fa rfl rfl) ?_
                refine ld (v := .int .i64 ((TT.getD j ti0).to)) rfl (hp91.get 2 rfl) ?_
                refine stp (v := .int .i64 ((TT.getD j ti0).to)) (o_mv rfl) ?_
                refine h50 _ _ ?_
                clear h50
                refine stp (v := .int .i64 (j : Nat)) (o_mv rfl) ?_
                refine stp (v := .int .i64 ((j : Nat) + 1)) (o_bin rfl rfl (v_add64 (by constructor <;> omega))) ?_
                refine stp (v := .int .i64 ((j : Nat) + 1)) (o_mv rfl) ?_
                refine h46 (j + 1, (TT.getD j ti0).to, (TT.getD j ti0).kd) _ _ ⟨by first | rfl | exact v_int (by omega) | exact v_int (by simp) | exact v_int (by simp; omega), by first | rfl | exact v_int (by omega) | exact v_int (by simp) | exact v_int (by simp; omega), by first | rfl | exact v_int (by omega) | exact v_int (by simp) | exact v_int (by simp; omega), rfl, rfl, rfl, by first | rfl | exact v_int (by omega) | exact v_int (by simp) | exact v_int (by simp; omega), hM45, hy4, by omega, by omega, by omega⟩ (by (try dsimp only); omega)
              ·
                refine gno rfl (by simp) ?_
                refine gno rfl (by simp) ?_
                refine gno rfl (by simp) ?_
                refine gno rfl (by simp) ?_
                refine gno rfl (by simp) ?_
                refine stg rfl (v := .bool false) (o_pickF rfl rfl) ?_
                refine stg rfl (v := .bool false) (o_pickF rfl rfl) ?_
                refine stg rfl (v := .bool false) (o_pickT rfl rfl) ?_
                refine stp (v := .bool false) (o_pickF rfl rfl) ?_
                refine h63 _ _ ?_
                clear h63
                refine cndF rfl ?_
                refine h62 _ _ ?_
                clear h62
                refine seq fun K92 h92 => ?_
                refine stp (v := v5) (o_mv rfl) ?_
                refine stp (v := .int .i64 (j : Nat)) (o_mv rfl) ?_
                refine m_idxS ti0 (j := j) (hs5.rd hM45 (i := 1) rfl) rfl rfl (by omega) fun b93 o93 hp93 => ?_
                refine stp (v := .pointer (some ⟨b93, o93, none⟩)) (o_fa rfl rfl) ?_
                refine ld (v := .int .i64 ((TT.getD j ti0).kd)) rfl (hp93.get 0 rfl) ?_
                refine stp (v := .int .i64 ((TT.getD j ti0).kd)) (o_mv rfl) ?_
                refine h92 _ _ ?_
                clear h92
                refine stp (v := v5) (o_mv rfl) ?_
                refine stp (v := .int .i64 (j : Nat)) (o_mv rfl) ?_
                refine m_idxS ti0 (j := j) (hs5.rd hM45 (i := 1) rfl) rfl rfl (by omega) fun b94 o94 hp94 => ?_
                refine stp (v := .pointer (some ⟨b94, o94 + 2, none⟩)) (o_fa rfl rfl) ?_
                refine ld (v := .int .i64 ((TT.getD j ti0).to)) rfl (hp94.get 2 rfl) ?_
                refine stp (v := .int .i64 ((TT.getD j ti0).to)) (o_mv rfl) ?_
                refine h50 _ _ ?_
                clear h50
                refine stp (v := .int .i64 (j : Nat)) (o_mv rfl) ?_
                refine stp (v := .int .i64 ((j : Nat) + 1)) (o_bin rfl rfl (v_add64 (by constructor <;> omega))) ?_
                refine stp (v := .int .i64 ((j : Nat) + 1)) (o_mv rfl) ?_
                refine h46 (j + 1, (TT.getD j ti0).to, (TT.getD j ti0).kd) _ _ ⟨by first | rfl | exact v_int (by omega) | exact v_int (by simp) | exact v_int (by simp; omega), by first | rfl | exact v_int (by omega) | exact v_int (by simp) | exact v_int (by simp; omega), by first | rfl | exact v_int (by omega) | exact v_int (by simp) | exact v_int (by simp; omega), rfl, rfl, rfl, by first | rfl | exact v_int (by omega) | exact v_int (by simp) | exact v_int (by simp; omega), hM45, hy4, by omega, by omega, by omega⟩ (by (try dsimp only); omega)
            ·
              refine gno rfl (by simp) ?_
              refine gno rfl (by simp) ?_
              refine gno rfl (by simp) ?_
              refine gno rfl (by simp) ?_
              refine gnol rfl (by simp) ?_
              refine gno rfl (by simp) ?_
              refine gno rfl (by simp) ?_
              refine splitU rfl ?_
              refine gnou rfl ?_
              refine gnou rfl ?_
              refine gno rfl (by simp) ?_
              refine gno rfl (by simp) ?_
              refine splitU rfl ?_
              refine gnou rfl ?_
              refine gnou rfl ?_
              refine gnou rfl ?_
              refine splitU rfl ?_
              refine gnou rfl ?_
              refine gnou rfl ?_
              refine gnou rfl ?_
              refine gnou rfl ?_
              refine gnou rfl ?_
              refine gnou rfl ?_
              refine gno rfl (by simp) ?_
              refine stg rfl (v := .bool false) (o_pickF rfl rfl) ?_
              refine stp (v := .bool false) (o_pickF rfl rfl) ?_
              refine h63 _ _ ?_
              clear h63
              refine cndF rfl ?_
              refine h62 _ _ ?_
              clear h62
              refine seq fun K95 h95 => ?_
              refine stp (v := v5) (o_mv rfl) ?_
              refine stp (v := .int .i64 (j : Nat)) (o_mv rfl) ?_
              refine m_idxS ti0 (j := j) (hs5.rd hM45 (i := 1) rfl) rfl rfl (by omega) fun b96 o96 hp96 => ?_
              refine stp (v := .pointer (some ⟨b96, o96, none⟩)) (o_fa rfl rfl) ?_
              refine ld (v := .int .i64 ((TT.getD j ti0).kd)) rfl (hp96.get 0 rfl) ?_
              refine stp (v := .int .i64 ((TT.getD j ti0).kd)) (o_mv rfl) ?_
              refine h95 _ _ ?_
              clear h95
              refine stp (v := v5) (o_mv rfl) ?_
              refine stp (v := .int .i64 (j : Nat)) (o_mv rfl) ?_
              refine m_idxS ti0 (j := j) (hs5.rd hM45 (i := 1) rfl) rfl rfl (by omega) fun b97 o97 hp97 => ?_
              refine stp (v := .pointer (some ⟨b97, o97 + 2, none⟩)) (o_fa rfl rfl) ?_
              refine ld (v := .int .i64 ((TT.getD j ti0).to)) rfl (hp97.get 2 rfl) ?_
              refine stp (v := .int .i64 ((TT.getD j ti0).to)) (o_mv rfl) ?_
              refine h50 _ _ ?_
              clear h50
              refine stp (v := .int .i64 (j : Nat)) (o_mv rfl) ?_
              refine stp (v := .int .i64 ((j : Nat) + 1)) (o_bin rfl rfl (v_add64 (by constructor <;> omega))) ?_
              refine stp (v := .int .i64 ((j : Nat) + 1)) (o_mv rfl) ?_
              refine h46 (j + 1, (TT.getD j ti0).to, (TT.getD j ti0).kd) _ _ ⟨by first | rfl | exact v_int (by omega) | exact v_int (by simp) | exact v_int (by simp; omega), by first | rfl | exact v_int (by omega) | exact v_int (by simp) | exact v_int (by simp; omega), by first | rfl | exact v_int (by omega) | exact v_int (by simp) | exact v_int (by simp; omega), rfl, rfl, rfl, by first | rfl | exact v_int (by omega) | exact v_int (by simp) | exact v_int (by simp; omega), hM45, hy4, by omega, by omega, by omega⟩ (by (try dsimp only); omega)
        ·
          refine h43 _ _ ?_
          clear h43
          refine seq fun K98 h98 => ?_
          have hVd := hV.done (by omega)
          refine stp (v := v5) (o_mv rfl) ?_
          refine stp (v := .int .i64 (TT.length : Nat)) (o_lenR (hs5.rd hM45 (i := 1) rfl) rfl rfl) ?_
          refine stp (v := .int .i64 (n : Nat)) (o_mv rfl) ?_
          refine stp (v := .int .i64 ((n : Nat) + 2)) (o_bin rfl rfl (v_add64 (by constructor <;> omega))) ?_
          refine stp (v := .bool (decide ((((n : Nat) + 2 : Int) : Int) ≤ ((TT.length : Nat) : Int)))) (o_bin rfl rfl rfl) ?_
          refine stp (v := .bool (decide ((((n : Nat) + 2 : Int) : Int) ≤ ((TT.length : Nat) : Int)))) (o_mv rfl) ?_
          refine splitP rfl (fun c99 => ?_) (fun c99 => ?_)
          ·
            refine stg rfl (v := .int .i64 a3) (o_mv rfl) ?_
            refine gyesl rfl ?_
            refine m_ldA (l := [.int .i64 parts, x]) hM45 (i := 0) (j := 0) rfl rfl rfl rfl rfl ?_
            refine gyesl rfl ?_
            refine m_call (spaceL_ok parts _ ps w45 (hx.upd hM45.upd) (fun p hp => (hok p hp).upd hM45.upd) (by omega) (by simp only [inK]; omega) hft) rfl fun v100 w100 ⟨hr100, hu100⟩ => ?_
            have hM100 : Mem w [] w100 [[⟨b2, 24, [.int .i64 parts, x]⟩], rs5, rs7] := hM45.pure hu100
            subst hr100
            refine stg rfl (v := y7) (o_mv rfl) ?_
            refine stg rfl (v := .int .i64 (((pagesF (bodyF parts (List.map Pr.p ps))) ++ (trF (spaceF (List.map Pr.p ps)) (pagesF (bodyF parts (List.map Pr.p ps))).length)).length : Nat)) (o_lenR (hs7.rd hM100 (i := 2) rfl) rfl rfl) ?_
            refine stg rfl (v := .int .i64 ((spaceF (List.map Pr.p ps)) + (((pagesF (bodyF parts (List.map Pr.p ps))) ++ (trF (spaceF (List.map Pr.p ps)) (pagesF (bodyF parts (List.map Pr.p ps))).length)).length : Nat))) (o_bin rfl rfl (v_add64 (by constructor <;> omega))) ?_
            refine stg rfl (v := .bool (decide (a3 = ((spaceF (List.map Pr.p ps)) + (((pagesF (bodyF parts (List.map Pr.p ps))) ++ (trF (spaceF (List.map Pr.p ps)) (pagesF (bodyF parts (List.map Pr.p ps))).length)).length : Nat))))) (o_bin rfl rfl rfl) ?_
            refine stp (v := .bool (decide (a3 = ((spaceF (List.map Pr.p ps)) + (((pagesF (bodyF parts (List.map Pr.p ps))) ++ (trF (spaceF (List.map Pr.p ps)) (pagesF (bodyF parts (List.map Pr.p ps))).length)).length : Nat))))) (o_pickT rfl rfl) ?_
            refine stp (v := .bool (decide (a3 = ((spaceF (List.map Pr.p ps)) + (((pagesF (bodyF parts (List.map Pr.p ps))) ++ (trF (spaceF (List.map Pr.p ps)) (pagesF (bodyF parts (List.map Pr.p ps))).length)).length : Nat))))) (o_mv rfl) ?_
            refine splitP rfl (fun c101 => ?_) (fun c101 => ?_)
            ·
              refine gyesl rfl ?_
              refine m_call (head_ok w100) rfl fun v102 w102 ⟨hr102, hu102⟩ => ?_
              have hM102 : Mem w [] w102 [[⟨b2, 24, [.int .i64 parts, x]⟩], rs5, rs7] := hM100.pure hu102
              subst hr102
              refine stp (v := .bool true) (o_pickT rfl rfl) ?_
              refine stp (v := .bool true) (o_mv rfl) ?_
              refine h98 _ _ ?_
              clear h98
              refine ⟨(.bool true), rfl, ?_⟩
              first | exact ⟨rfl, hM102.upd⟩ | (exfalso; omega)
            ·
              refine gnol rfl (by simp) ?_
              refine stp (v := .bool false) (o_pickF rfl rfl) ?_
              refine stp (v := .bool false) (o_mv rfl) ?_
              refine h98 _ _ ?_
              clear h98
              refine ⟨(.bool false), rfl, ?_⟩
              first | exact ⟨rfl, hM100.upd⟩ | (exfalso; omega)
          ·
            refine gno rfl (by simp) ?_
            refine gnol rfl (by simp) ?_
            refine gnol rfl (by simp) ?_
            refine gno rfl (by simp) ?_
            refine gno rfl (by simp) ?_
            refine gno rfl (by simp) ?_
            refine gno rfl (by simp) ?_
            refine stp (v := .bool false) (o_pickF rfl rfl) ?_
            refine stp (v := .bool false) (o_mv rfl) ?_
            refine splitF rfl ?_
            refine gnol rfl (by simp) ?_
            refine stp (v := .bool false) (o_pickF rfl rfl) ?_
            refine stp (v := .bool false) (o_mv rfl) ?_
            refine h98 _ _ ?_
            clear h98
            refine ⟨(.bool false), rfl, ?_⟩
            first | exact ⟨rfl, hM45.upd⟩ | (exfalso; omega)

theorem FootTiles_ok (f : Ft) (w : World) (hf : f.ok w) : Calls Try.prog 11 [.agg (ftC f).toArray].toArray w (Rt fun r w' => r = .bool true ∧ Upd [] w w') := by
  by_cases h : (encT f.parts (f.ps.map Pr.p)).2 = 0
  · exact FootTiles_yes f w hf h
  · exact FootTiles_no f w hf h
