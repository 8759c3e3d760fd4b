/- Footers: the reference's tiles. -/
import Derived.Test.YthhmhmnhbababaaD19
namespace Go.Proofs.Ythhmhmnhbababaa.E
open Go

/-- winnowref8.Tiles -/
theorem refTiles_no (parts : Int) (x : Value) (ps : List Pr) (w : World) (hx : RdS prC w x ps) (hok : ∀ p ∈ ps, p.ok w) (hl : ps.length ≤ 1954687338211) (hp : inK .i64 parts) (he : ¬ (encT parts (ps.map Pr.p)).2 = 0) : Calls Try.prog 27 [.agg [.int .i64 parts, x].toArray].toArray w (Rt fun r w' => ∃ v rs, r = v ∧ SlS tiC 3 47 v (tilesF parts (ps.map Pr.p)) rs ∧ Mem w [] w' [rs]) := by
  have hM0 : Mem w [] w [] := Mem.nil w []
  simp only [inK] at hp
  refine calls_vc mixed Try.func27 rfl C27 (by simp [Try.ntmps27]) ?_
  refine seq fun K1 h1 => ?_
  refine m_bx (v := .agg ([.int .i64 parts, x] : List Value).toArray) hM0 rfl rfl fun b2 w3 (hM3 : Mem w [] w3 [[⟨b2, 24, [.int .i64 parts, x]⟩]]) => ?_
  refine stp (v := .slice none 0 0) (o_mv rfl) ?_
  refine h1 _ _ ?_
  clear h1
  refine seq fun K4 h4 => ?_
  refine stp (v := .slice none 0 0) (o_mv rfl) ?_
  refine h4 _ _ ?_
  clear h4
  refine seq fun K5 h5 => ?_
  refine m_ldA (l := [.int .i64 parts, x]) hM3 (i := 0) (j := 0) rfl rfl rfl rfl rfl ?_
  refine m_call (refEnc_ok parts _ ps w3 (hx.upd hM3.upd) (fun p hp => (hok p hp).upd hM3.upd) (by omega) (by simp only [inK]; omega)) rfl fun v6 w6 ⟨y6, rs6, hr6, hs6, hm6⟩ => ?_
  have hM6 : Mem w [] w6 [[⟨b2, 24, [.int .i64 parts, x]⟩], rs6] := hM3.add hm6
  subst hr6
  refine stp (v := .tuple [y6, .int .i64 ((encT parts (List.map Pr.p ps)).2)].toArray) (o_mv rfl) ?_
  refine stp (v := y6) (o_ext rfl rfl) ?_
  refine stp (v := .int .i64 ((encT parts (List.map Pr.p ps)).2)) (o_ext rfl rfl) ?_
  refine stp (v := y6) (o_mv rfl) ?_
  refine stp (v := .int .i64 ((encT parts (List.map Pr.p ps)).2)) (o_mv rfl) ?_
  refine h5 _ _ ?_
  clear h5
  refine seq fun K7 h7 => ?_
  refine seq fun K8 h8 => ?_
  refine stp (v := .int .i64 ((encT parts (List.map Pr.p ps)).2)) (o_mv rfl) ?_
  refine stp (v := .bool (decide (¬ ((encT parts (List.map Pr.p ps)).2) = 0))) (o_bin rfl rfl v_neq) ?_
  refine h8 _ _ ?_
  clear h8
  refine cndP rfl (fun c9 => ?_) (fun c9 => (c9 (he)).elim)
  refine seq fun K10 h10 => ?_
  refine stp (v := .slice none 0 0) (o_mv rfl) ?_
  refine stp (v := .slice none 0 0) (o_mv rfl) ?_
  refine h10 _ _ ?_
  clear h10
  refine ⟨(.slice none 0 0), rfl, ?_⟩
  exact ⟨_, [], rfl, by unfold tilesF; rw [if_neg he]; exact Sl.nil 3 47, hM6.keep (by simp)⟩

/-- winnowref8.Tiles -/
theorem refTiles_yes (parts : Int) (x : Value) (ps : List Pr) (w : World) (hx : RdS prC w x ps) (hok : ∀ p ∈ ps, p.ok w) (hl : ps.length ≤ 1954687338211) (hp : inK .i64 parts) (he : (encT parts (ps.map Pr.p)).2 = 0) : Calls Try.prog 27 [.agg [.int .i64 parts, x].toArray].toArray w (Rt fun r w' => ∃ v rs, r = v ∧ SlS tiC 3 47 v (tilesF parts (ps.map Pr.p)) rs ∧ Mem w [] w' [rs]) := by
  have hM0 : Mem w [] w [] := Mem.nil w []
  simp only [inK] at hp
  obtain ⟨hft, hm, henc⟩ := enc_0 he
  have hm2 := hm
  unfold mayT at hm2
  refine calls_vc mixed Try.func27 rfl C27 (by simp [Try.ntmps27]) ?_
  refine seq fun K1 h1 => ?_
  refine m_bx (v := .agg ([.int .i64 parts, x] : List Value).toArray) hM0 rfl rfl fun b2 w3 (hM3 : Mem w [] w3 [[⟨b2, 24, [.int .i64 parts, x]⟩]]) => ?_
  refine stp (v := .slice none 0 0) (o_mv rfl) ?_
  refine h1 _ _ ?_
  clear h1
  refine seq fun K4 h4 => ?_
  refine stp (v := .slice none 0 0) (o_mv rfl) ?_
  refine h4 _ _ ?_
  clear h4
  refine seq fun K5 h5 => ?_
  refine m_ldA (l := [.int .i64 parts, x]) hM3 (i := 0) (j := 0) rfl rfl rfl rfl rfl ?_
  refine m_call (refEnc_ok parts _ ps w3 (hx.upd hM3.upd) (fun p hp => (hok p hp).upd hM3.upd) (by omega) (by simp only [inK]; omega)) rfl fun v6 w6 ⟨y6, rs6, hr6, hs6, hm6⟩ => ?_
  have hM6 : Mem w [] w6 [[⟨b2, 24, [.int .i64 parts, x]⟩], rs6] := hM3.add hm6
  rw [henc] at hr6 hs6
  dsimp only at hr6 hs6
  subst hr6
  have hel6 : ((pagesF (bodyF parts (List.map Pr.p ps))) ++ (trF (spaceF (List.map Pr.p ps)) (pagesF (bodyF parts (List.map Pr.p ps))).length)).length = (pagesF (bodyF parts (List.map Pr.p ps))).length + 24 := by rw [List.length_append, trF_len]
  refine stp (v := .tuple [y6, .int .i64 0].toArray) (o_mv rfl) ?_
  refine stp (v := y6) (o_ext rfl rfl) ?_
  refine stp (v := .int .i64 0) (o_ext rfl rfl) ?_
  refine stp (v := y6) (o_mv rfl) ?_
  refine stp (v := .int .i64 0) (o_mv rfl) ?_
  refine h5 _ _ ?_
  clear h5
  refine seq fun K7 h7 => ?_
  refine seq fun K8 h8 => ?_
  refine stp (v := .int .i64 0) (o_mv rfl) ?_
  refine stp (v := .bool false) (o_bin rfl rfl v_neF) ?_
  refine h8 _ _ ?_
  clear h8
  refine cndF rfl ?_
  refine h7 _ _ ?_
  clear h7
  refine seq fun K9 h9 => ?_
  refine stp (v := .int .i64 0) (o_mv rfl) ?_
  refine h9 _ _ ?_
  clear h9
  refine seq fun K10 h10 => ?_
  refine seq fun K11 h11 => ?_
  refine stp (v := .int .i64 0) (o_mv rfl) ?_
  refine h11 _ _ ?_
  clear h11
  refine lp (n := fun _ _ => False) (ι := (Nat) × (Int) × (Nat) × (Int) × (List Ti) × (Value) × (List Ent)) (fun ⟨i, last, n, a, L, v, rb⟩ f w' => f 3 = v ∧ f 6 = .int .i64 a ∧ f 7 = .int .i64 (i : Nat) ∧ f 1 = .pointer (some ⟨b2, 0, none⟩) ∧ f 4 = y6 ∧ Mem w [] w' [[⟨b2, 24, [.int .i64 parts, x]⟩], rs6, rb] ∧ (SlS tiC 3 47 v L rb) ∧ (i ≤ ps.length) ∧ (infOk parts last n ((ps.drop i).map Pr.p)) ∧ (n ≤ 262144) ∧ (0 ≤ a ∧ a ≤ n * 65541) ∧ (spaceF (ps.map Pr.p) = a + spaceF ((ps.drop i).map Pr.p)) ∧ (L.length = n) ∧ (tlsP 0 (ps.map Pr.p) = L ++ tlsP a ((ps.drop i).map Pr.p))) (fun ⟨i, last, n, a, L, v, rb⟩ => ps.length - i) (0, (-1), 0, 0, [], .slice none 0 0, []) ?_ ?_
  · exact ⟨rfl, by first | rfl | exact v_int (by omega) | exact v_int (by simp) | exact v_int (by simp; omega), by first | rfl | exact v_int (by omega) | exact v_int (by simp) | exact v_int (by simp; omega), rfl, rfl, hM6.addNil, Sl.nil 3 47, by omega, hft.2, by omega, by omega, by rw [List.drop_zero]; omega, rfl, by rw [List.drop_zero]; rfl⟩
  · rintro ⟨i, last, n, a, L, v, rb⟩ f w12 ⟨e12_3, e12_6, e12_7, e12_1, e12_4, hM12, hs, hi, hI, hn, ha, hE, hLn, hL⟩ K13 h13
    obtain ⟨frm, rfl⟩ : ∃ frm, f = (upd (upd (upd (upd (upd frm 3 (v)) 6 (.int .i64 a)) 7 (.int .i64 (i : Nat))) 1 (.pointer (some ⟨b2, 0, none⟩))) 4 (y6)) := ⟨f, by rw [upd_self e12_3, upd_self e12_6, upd_self e12_7, upd_self e12_1, upd_self e12_4]⟩
    clear e12_3 e12_6 e12_7 e12_1 e12_4
    refine seq fun K14 h14 => ?_
    refine seq fun K15 h15 => ?_
    refine stp (v := .int .i64 (i : Nat)) (o_mv rfl) ?_
    refine stp (v := .pointer (some ⟨b2, 1, none⟩)) (o_fa rfl rfl) ?_
    refine m_ld (v := x) hM12 (i := 0) (j := 0) rfl rfl rfl rfl ?_
    refine stp (v := .int .i64 (ps.length : Nat)) (o_lenR (hx.upd hM12.upd) rfl rfl) ?_
    refine stp (v := .bool (decide (((i : Nat) : Int) < (ps.length : Nat)))) (o_bin rfl rfl rfl) ?_
    refine h15 _ _ ?_
    clear h15
    refine cndP rfl (fun c16 => ?_) (fun c16 => ?_)
    ·
      refine h14 _ _ ?_
      clear h14
      refine seq fun K17 h17 => ?_
      refine seq fun K18 h18 => ?_
      have hpi := hok _ (getD_memG pz (l := ps) (i := i) (by omega))
      have hic := (inf_cons (ps := ps) (i := i) (parts := parts) (last := last) (n := n) (by omega)).1 hI
      have hsc := sp_cons (ps := ps) (i := i) (by omega)
      have htc := tlsP_cons (ps := ps) (i := i) (a := a) (by omega)
      refine stp (v := .int .i64 0) (o_mv rfl) ?_
      refine h18 _ _ ?_
      clear h18
      refine lp (n := fun _ _ => False) (ι := (Nat) × (List UInt8) × (Int) × (List Ti) × (Value) × (List Ent)) (fun ⟨k, key, a2, L2, v, rb⟩ f w' => f 3 = v ∧ f 6 = .int .i64 a2 ∧ f 8 = .int .i64 (k : Nat) ∧ f 1 = .pointer (some ⟨b2, 0, none⟩) ∧ f 4 = y6 ∧ f 7 = .int .i64 (i : Nat) ∧ Mem w [] w' [[⟨b2, 24, [.int .i64 parts, x]⟩], rs6, rb] ∧ (SlS tiC 3 47 v L2 rb) ∧ (k ≤ (ps.getD i pz).bl.length) ∧ (blsOk key ((ps.getD i pz).bl.drop k)) ∧ (0 ≤ a2 ∧ a2 ≤ (n + k : Nat) * 65541) ∧ (a + spB (ps.getD i pz).bl = a2 + spB ((ps.getD i pz).bl.drop k)) ∧ (L2.length = n + k) ∧ (L ++ tlsB a (ps.getD i pz).bl = L2 ++ tlsB a2 ((ps.getD i pz).bl.drop k))) (fun ⟨k, key, a2, L2, v, rb⟩ => (ps.getD i pz).bl.length - k) (0, [], a, L, v, rb) ?_ ?_
      · exact ⟨rfl, by first | rfl | exact v_int (by omega) | exact v_int (by simp) | exact v_int (by simp; omega), by first | rfl | exact v_int (by omega) | exact v_int (by simp) | exact v_int (by simp; omega), rfl, rfl, by first | rfl | exact v_int (by omega) | exact v_int (by simp) | exact v_int (by simp; omega), hM12, hs, by omega, hic.1.1.2.2.2.2, by omega, by rw [List.drop_zero], by omega, by rw [List.drop_zero]⟩
      · rintro ⟨k, key, a2, L2, v, rb⟩ f w19 ⟨e19_3, e19_6, e19_8, e19_1, e19_4, e19_7, hM19, hs, hk, hB, ht, hT, hLk, hL2⟩ K20 h20
        obtain ⟨frm, rfl⟩ : ∃ frm, f = (upd (upd (upd (upd (upd (upd frm 3 (v)) 6 (.int .i64 a2)) 8 (.int .i64 (k : Nat))) 1 (.pointer (some ⟨b2, 0, none⟩))) 4 (y6)) 7 (.int .i64 (i : Nat))) := ⟨f, by rw [upd_self e19_3, upd_self e19_6, upd_self e19_8, upd_self e19_1, upd_self e19_4, upd_self e19_7]⟩
        clear e19_3 e19_6 e19_8 e19_1 e19_4 e19_7
        refine seq fun K21 h21 => ?_
        refine seq fun K22 h22 => ?_
        refine stp (v := .int .i64 (k : Nat)) (o_mv rfl) ?_
        refine stp (v := .pointer (some ⟨b2, 1, none⟩)) (o_fa rfl rfl) ?_
        refine m_ld (v := x) hM19 (i := 0) (j := 0) rfl rfl rfl rfl ?_
        refine stp (v := .int .i64 (i : Nat)) (o_mv rfl) ?_
        refine m_idxS pz (j := i) (hx.upd hM19.upd) rfl rfl (by omega) fun b23 o23 hp23 => ?_
        refine stp (v := .pointer (some ⟨b23, o23 + 1, none⟩)) (o_fa rfl rfl) ?_
        refine ld (v := (ps.getD i pz).bv) rfl (hp23.get 1 rfl) ?_
        refine stp (v := .int .i64 (((ps.getD i pz).bl).length : Nat)) (o_lenR (((fun p hp => (hok p hp).upd hM19.upd) _ (getD_memG pz (by omega))).rb) rfl rfl) ?_
        refine stp (v := .bool (decide (((k : Nat) : Int) < (((ps.getD i pz).bl).length : Nat)))) (o_bin rfl rfl rfl) ?_
        refine h22 _ _ ?_
        clear h22
        refine cndP rfl (fun c24 => ?_) (fun c24 => ?_)
        ·
          refine h21 _ _ ?_
          clear h21
          refine seq fun K25 h25 => ?_
          refine seq fun K26 h26 => ?_
          have hbc := (bls_cons (last := key) (bl := (ps.getD i pz).bl) (k := k) (by omega)).1 hB
          have hbk := hbc.1.1.1
          have hsk := spB_cons (bl := (ps.getD i pz).bl) (k := k) (by omega)
          refine stp (v := .pointer (some ⟨b2, 1, none⟩)) (o_fa rfl rfl) ?_
          refine m_ld (v := x) hM19 (i := 0) (j := 0) rfl rfl rfl rfl ?_
          refine stp (v := .int .i64 (i : Nat)) (o_mv rfl) ?_
          refine m_idxS pz (j := i) (hx.upd hM19.upd) rfl rfl (by omega) fun b27 o27 hp27 => ?_
          refine stp (v := .pointer (some ⟨b27, o27 + 1, none⟩)) (o_fa rfl rfl) ?_
          refine ld (v := (ps.getD i pz).bv) rfl (hp27.get 1 rfl) ?_
          refine stp (v := .int .i64 (k : Nat)) (o_mv rfl) ?_
          refine m_idxS bz (j := k) (((fun p hp => (hok p hp).upd hM19.upd) _ (getD_memG pz (by omega))).rb) rfl rfl (by omega) fun b28 o28 hp28 => ?_
          refine stp (v := .pointer (some ⟨b28, o28, none⟩)) (o_fa rfl rfl) ?_
          refine ld (v := .int .i64 ((((ps.getD i pz).bl).getD k bz).st)) rfl (hp28.get 0 rfl) ?_
          refine stp (v := .int .i64 (((((ps.getD i pz).bl).getD k bz).st) + 5)) (o_bin rfl rfl (v_add64 (by constructor <;> omega))) ?_
          refine stp (v := .int .i64 (((((ps.getD i pz).bl).getD k bz).st) + 5)) (o_mv rfl) ?_
          refine h26 _ _ ?_
          clear h26
          refine seq fun K29 h29 => ?_
          refine stp (v := v) (o_mv rfl) ?_
          refine stp (v := .int .i64 a2) (o_mv rfl) ?_
          refine stp (v := .int .i64 a2) (o_mv rfl) ?_
          refine stp (v := .int .i64 (((((ps.getD i pz).bl).getD k bz).st) + 5)) (o_mv rfl) ?_
          refine stp (v := .int .i64 (a2 + (((((ps.getD i pz).bl).getD k bz).st) + 5))) (o_bin rfl rfl (v_add64 (by constructor <;> omega))) ?_
          refine stp (v := .agg ([.int .i64 0, .int .i64 a2, .int .i64 (a2 + (((((ps.getD i pz).bl).getD k bz).st) + 5))] : List Value).toArray) (o_bld rfl rfl) ?_
          refine m_app1S (enc := tiC) (q := (⟨0, a2, a2 + (((((ps.getD i pz).bl).getD k bz).st) + 5)⟩ : Ti)) hM19 (i := 2) rfl hs rfl (by simp) (rfl) (rfl) (by first | omega | (simp; omega)) (by omega) fun v30 w30 r30 u30 (hs30 : SlS tiC 3 47 v30 (L2 ++ [(⟨0, a2, a2 + (((((ps.getD i pz).bl).getD k bz).st) + 5)⟩ : Ti)]) r30) (hM30 : Mem w [] w30 [[⟨b2, 24, [.int .i64 parts, x]⟩], rs6, r30]) => ?_
          refine stp (v := v30) (o_mv rfl) ?_
          refine h29 _ _ ?_
          clear h29
          refine stp (v := .int .i64 a2) (o_mv rfl) ?_
          refine stp (v := .int .i64 (((((ps.getD i pz).bl).getD k bz).st) + 5)) (o_mv rfl) ?_
          refine stp (v := .int .i64 (a2 + (((((ps.getD i pz).bl).getD k bz).st) + 5))) (o_bin rfl rfl (v_add64 (by constructor <;> omega))) ?_
          refine stp (v := .int .i64 (a2 + (((((ps.getD i pz).bl).getD k bz).st) + 5))) (o_mv rfl) ?_
          refine h25 _ _ ?_
          clear h25
          refine stp (v := .int .i64 (k : Nat)) (o_mv rfl) ?_
          refine stp (v := .int .i64 ((k : Nat) + 1)) (o_bin rfl rfl (v_add64 (by constructor <;> omega))) ?_
          have hpi := hok _ (getD_memG pz (l := ps) (i := i) (by omega))
          have hic := (inf_cons (ps := ps) (i := i) (parts := parts) (last := last) (n := n) (by omega)).1 hI
          have hsc := sp_cons (ps := ps) (i := i) (by omega)
          have htc := tlsP_cons (ps := ps) (i := i) (a := a) (by omega)
          refine stp (v := .int .i64 ((k : Nat) + 1)) (o_mv rfl) ?_
          refine h20 (k + 1, ((ps.getD i pz).bl.getD k bz).cut, a2 + (((ps.getD i pz).bl.getD k bz).st + 5), (L2 ++ [(⟨0, a2, a2 + (((((ps.getD i pz).bl).getD k bz).st) + 5)⟩ : Ti)]), v30, r30) _ _ ⟨rfl, by first | rfl | exact v_int (by omega) | exact v_int (by simp) | exact v_int (by simp; omega), by first | rfl | exact v_int (by omega) | exact v_int (by simp) | exact v_int (by simp; omega), rfl, rfl, by first | rfl | exact v_int (by omega) | exact v_int (by simp) | exact v_int (by simp; omega), hM30.keep (by simp), hs30, by omega, hbc.2, by omega, by omega, by rw [List.length_append]; simp only [List.length_cons, List.length_nil]; omega, by rw [hL2, tlsB_cons (by omega), List.append_assoc]; rfl⟩ (by (try dsimp only); omega)
        ·
          refine h17 _ _ ?_
          clear h17
          refine stp (v := .int .i64 (i : Nat)) (o_mv rfl) ?_
          refine stp (v := .int .i64 ((i : Nat) + 1)) (o_bin rfl rfl (v_add64 (by constructor <;> omega))) ?_
          refine stp (v := .int .i64 ((i : Nat) + 1)) (o_mv rfl) ?_
          refine h13 (i + 1, (ps.getD i pz).part, n + (ps.getD i pz).bl.length, a2, L2, v, rb) _ _ ⟨rfl, by first | rfl | exact v_int (by omega) | exact v_int (by simp) | exact v_int (by simp; omega), by first | rfl | exact v_int (by omega) | exact v_int (by simp) | exact v_int (by simp; omega), rfl, rfl, hM19.keep (by simp), hs, by omega, hic.2, hic.1.2, by have := spB_end (bl := (ps.getD i pz).bl) (k := k) (by omega); omega, by have := spB_end (bl := (ps.getD i pz).bl) (k := k) (by omega); omega, by omega, by have h9 := spB_end (bl := (ps.getD i pz).bl) (k := k) (by omega); rw [hL, htc, ← List.append_assoc, hL2, tlsB_end (by omega), List.append_nil, show a + spB (ps.getD i pz).bl = a2 by omega]⟩ (by (try dsimp only); omega)
    ·
      refine h10 _ _ ?_
      clear h10
      refine seq fun K31 h31 => ?_
      refine stp (v := y6) (o_mv rfl) ?_
      refine stp (v := .int .i64 (((pagesF (bodyF parts (List.map Pr.p ps))) ++ (trF (spaceF (List.map Pr.p ps)) (pagesF (bodyF parts (List.map Pr.p ps))).length)).length : Nat)) (o_lenR (hs6.rd hM12 (i := 1) rfl) rfl rfl) ?_
      refine stp (v := .int .i64 ((pagesF (bodyF parts (List.map Pr.p ps))).length : Nat)) (o_bin rfl rfl ((v_sub64 (by omega)).trans (v_int (by omega)))) ?_
      refine stp (v := .int .i64 ((pagesF (bodyF parts (List.map Pr.p ps))).length : Nat)) (o_mv rfl) ?_
      refine h31 _ _ ?_
      clear h31
      refine seq fun K32 h32 => ?_
      refine lp (n := fun _ _ => False) (ι := (Int) × (Nat) × (Int) × (List Ti) × (Value) × (List Ent)) (fun ⟨left, q, a3, L3, v, rb⟩ f w' => f 3 = v ∧ f 6 = .int .i64 a3 ∧ f 10 = .int .i64 left ∧ Mem w [] w' [[⟨b2, 24, [.int .i64 parts, x]⟩], rs6, rb] ∧ (SlS tiC 3 47 v L3 rb) ∧ (0 ≤ left ∧ left ≤ q) ∧ (0 ≤ a3 ∧ a3 + left = (spaceF (List.map Pr.p ps)) + (pagesF (bodyF parts (List.map Pr.p ps))).length) ∧ ((L3.length : Int) + left ≤ 262144 + (pagesF (bodyF parts (List.map Pr.p ps))).length) ∧ (tlsP 0 (ps.map Pr.p) ++ tlsG (pagesF (bodyF parts (List.map Pr.p ps))).length (spaceF (List.map Pr.p ps)) (pagesF (bodyF parts (List.map Pr.p ps))).length = L3 ++ tlsG q a3 left)) (fun ⟨left, q, a3, L3, v, rb⟩ => left.toNat) (((pagesF (bodyF parts (List.map Pr.p ps))).length : Nat), (pagesF (bodyF parts (List.map Pr.p ps))).length, a, L, v, rb) ?_ ?_
      · exact ⟨rfl, by first | rfl | exact v_int (by omega) | exact v_int (by simp) | exact v_int (by simp; omega), by first | rfl | exact v_int (by omega) | exact v_int (by simp) | exact v_int (by simp; omega), hM12, hs, by omega, by have := sp_end (ps := ps) (i := i) (by omega); omega, by omega, by have h9 := sp_end (ps := ps) (i := i) (by omega); rw [hL, tlsP_end (by omega), List.append_nil, show (spaceF (List.map Pr.p ps)) = a by omega]⟩
      · rintro ⟨left, q, a3, L3, v, rb⟩ f w33 ⟨e33_3, e33_6, e33_10, hM33, hs, hl3, ha3, hL3n, hL3⟩ K34 h34
        obtain ⟨frm, rfl⟩ : ∃ frm, f = (upd (upd (upd frm 3 (v)) 6 (.int .i64 a3)) 10 (.int .i64 left)) := ⟨f, by rw [upd_self e33_3, upd_self e33_6, upd_self e33_10]⟩
        clear e33_3 e33_6 e33_10
        refine seq fun K35 h35 => ?_
        refine seq fun K36 h36 => ?_
        refine stp (v := .int .i64 left) (o_mv rfl) ?_
        refine stp (v := .bool (decide ((0 : Int) < left))) (o_bin rfl rfl rfl) ?_
        refine h36 _ _ ?_
        clear h36
        refine cndP rfl (fun c37 => ?_) (fun c37 => ?_)
        ·
          refine h35 _ _ ?_
          clear h35
          refine seq fun K38 h38 => ?_
          refine stp (v := .int .i64 left) (o_mv rfl) ?_
          refine stp (v := .int .i64 left) (o_mv rfl) ?_
          refine h38 _ _ ?_
          clear h38
          refine seq fun K39 h39 => ?_
          refine seq fun K40 h40 => ?_
          refine stp (v := .int .i64 left) (o_mv rfl) ?_
          refine stp (v := .bool (decide ((4100 : Int) < left))) (o_bin rfl rfl rfl) ?_
          refine h40 _ _ ?_
          clear h40
          refine cndP rfl (fun c41 => ?_) (fun c41 => ?_)
          ·
            refine stp (v := .int .i64 4100) (o_mv rfl) ?_
            refine h39 _ _ ?_
            clear h39
            refine seq fun K42 h42 => ?_
            refine stp (v := v) (o_mv rfl) ?_
            refine stp (v := .int .i64 a3) (o_mv rfl) ?_
            refine stp (v := .int .i64 a3) (o_mv rfl) ?_
            refine stp (v := .int .i64 4100) (o_mv rfl) ?_
            refine stp (v := .int .i64 (a3 + 4100)) (o_bin rfl rfl (v_add64 (by constructor <;> omega))) ?_
            refine stp (v := .agg ([.int .i64 1, .int .i64 a3, .int .i64 (a3 + 4100)] : List Value).toArray) (o_bld rfl rfl) ?_
            refine m_app1S (enc := tiC) (q := (⟨1, a3, a3 + 4100⟩ : Ti)) hM33 (i := 2) rfl hs rfl (by simp) (rfl) (rfl) (by first | omega | (simp; omega)) (by omega) fun v43 w43 r43 u43 (hs43 : SlS tiC 3 47 v43 (L3 ++ [(⟨1, a3, a3 + 4100⟩ : Ti)]) r43) (hM43 : Mem w [] w43 [[⟨b2, 24, [.int .i64 parts, x]⟩], rs6, r43]) => ?_
            refine stp (v := v43) (o_mv rfl) ?_
            refine h42 _ _ ?_
            clear h42
            refine seq fun K44 h44 => ?_
            refine stp (v := .int .i64 a3) (o_mv rfl) ?_
            refine stp (v := .int .i64 4100) (o_mv rfl) ?_
            refine stp (v := .int .i64 (a3 + 4100)) (o_bin rfl rfl (v_add64 (by constructor <;> omega))) ?_
            refine stp (v := .int .i64 (a3 + 4100)) (o_mv rfl) ?_
            refine h44 _ _ ?_
            clear h44
            refine stp (v := .int .i64 left) (o_mv rfl) ?_
            refine stp (v := .int .i64 4100) (o_mv rfl) ?_
            refine stp (v := .int .i64 (left - 4100)) (o_bin rfl rfl (v_sub64 (by constructor <;> omega))) ?_
            refine stp (v := .int .i64 (left - 4100)) (o_mv rfl) ?_
            refine h34 (left - min left 4100, q - 1, a3 + min left 4100, (L3 ++ [(⟨1, a3, a3 + 4100⟩ : Ti)]), v43, r43) _ _ ⟨rfl, v_int (by omega), v_int (by omega), hM43.keep (by simp), hs43, by omega, by omega, by rw [List.length_append]; simp only [List.length_cons, List.length_nil]; omega, by rw [hL3, tlsG_cons (by omega) (by omega), List.append_assoc, show min left 4100 = 4100 by omega]; rfl⟩ (by (try dsimp only); omega)
          ·
            refine h39 _ _ ?_
            clear h39
            refine seq fun K45 h45 => ?_
            refine stp (v := v) (o_mv rfl) ?_
            refine stp (v := .int .i64 a3) (o_mv rfl) ?_
            refine stp (v := .int .i64 a3) (o_mv rfl) ?_
            refine stp (v := .int .i64 left) (o_mv rfl) ?_
            refine stp (v := .int .i64 (a3 + left)) (o_bin rfl rfl (v_add64 (by constructor <;> omega))) ?_
            refine stp (v := .agg ([.int .i64 1, .int .i64 a3, .int .i64 (a3 + left)] : List Value).toArray) (o_bld rfl rfl) ?_
            refine m_app1S (enc := tiC) (q := (⟨1, a3, a3 + left⟩ : Ti)) hM33 (i := 2) rfl hs rfl (by simp) (rfl) (rfl) (by first | omega | (simp; omega)) (by omega) fun v46 w46 r46 u46 (hs46 : SlS tiC 3 47 v46 (L3 ++ [(⟨1, a3, a3 + left⟩ : Ti)]) r46) (hM46 : Mem w [] w46 [[⟨b2, 24, [.int .i64 parts, x]⟩], rs6, r46]) => ?_
            refine stp (v := v46) (o_mv rfl) ?_
            refine h45 _ _ ?_
            clear h45
            refine seq fun K47 h47 => ?_
            refine stp (v := .int .i64 a3) (o_mv rfl) ?_
            refine stp (v := .int .i64 left) (o_mv rfl) ?_
            refine stp (v := .int .i64 (a3 + left)) (o_bin rfl rfl (v_add64 (by constructor <;> omega))) ?_
            refine stp (v := .int .i64 (a3 + left)) (o_mv rfl) ?_
            refine h47 _ _ ?_
            clear h47
            refine stp (v := .int .i64 left) (o_mv rfl) ?_
            refine stp (v := .int .i64 left) (o_mv rfl) ?_
            refine stp (v := .int .i64 (left - left)) (o_bin rfl rfl (v_sub64 (by constructor <;> omega))) ?_
            refine stp (v := .int .i64 (left - left)) (o_mv rfl) ?_
            refine h34 (left - min left 4100, q - 1, a3 + min left 4100, (L3 ++ [(⟨1, a3, a3 + left⟩ : Ti)]), v46, r46) _ _ ⟨rfl, v_int (by omega), v_int (by omega), hM46.keep (by simp), hs46, by omega, by omega, by rw [List.length_append]; simp only [List.length_cons, List.length_nil]; omega, by rw [hL3, tlsG_cons (by omega) (by omega), List.append_assoc, show min left 4100 = left by omega]; rfl⟩ (by (try dsimp only); omega)
        ·
          refine h32 _ _ ?_
          clear h32
          refine seq fun K48 h48 => ?_
          refine stp (v := v) (o_mv rfl) ?_
          refine stp (v := .int .i64 a3) (o_mv rfl) ?_
          refine stp (v := .int .i64 a3) (o_mv rfl) ?_
          refine stp (v := .int .i64 (a3 + 24)) (o_bin rfl rfl (v_add64 (by constructor <;> omega))) ?_
          refine stp (v := .agg ([.int .i64 2, .int .i64 a3, .int .i64 (a3 + 24)] : List Value).toArray) (o_bld rfl rfl) ?_
          refine m_app1S (enc := tiC) (q := (⟨2, a3, a3 + 24⟩ : Ti)) hM33 (i := 2) rfl hs rfl (by simp) (rfl) (rfl) (by first | omega | (simp; omega)) (by omega) fun v49 w49 r49 u49 (hs49 : SlS tiC 3 47 v49 (L3 ++ [(⟨2, a3, a3 + 24⟩ : Ti)]) r49) (hM49 : Mem w [] w49 [[⟨b2, 24, [.int .i64 parts, x]⟩], rs6, r49]) => ?_
          refine stp (v := v49) (o_mv rfl) ?_
          refine h48 _ _ ?_
          clear h48
          refine seq fun K50 h50 => ?_
          refine stp (v := v49) (o_mv rfl) ?_
          refine stp (v := v49) (o_mv rfl) ?_
          refine h50 _ _ ?_
          clear h50
          refine ⟨v49, rfl, ?_⟩
          have hT9 : tilesF parts (ps.map Pr.p) = L3 ++ [⟨2, a3, a3 + 24⟩] := by
            unfold tilesF tailT
            rw [if_pos he, ← List.append_assoc, hL3, tlsG_end (by omega), List.append_nil, show (spaceF (List.map Pr.p ps)) + (((pagesF (bodyF parts (List.map Pr.p ps))).length : Nat) : Int) = a3 by omega]
          exact ⟨_, r49, rfl, by rw [hT9]; exact hs49, ((hM49.drop 0).drop 1).keep (by simp)⟩

theorem refTiles_ok (parts : Int) (x : Value) (ps : List Pr) (w : World) (hx : RdS prC w x ps) (hok : ∀ p ∈ ps, p.ok w) (hl : ps.length ≤ 1954687338211) (hp : inK .i64 parts) : Calls Try.prog 27 [.agg [.int .i64 parts, x].toArray].toArray w (Rt fun r w' => ∃ v rs, r = v ∧ SlS tiC 3 47 v (tilesF parts (ps.map Pr.p)) rs ∧ Mem w [] w' [rs]) := by
  by_cases h : (encT parts (ps.map Pr.p)).2 = 0
  · exact refTiles_yes parts x ps w hx hok hl hp h
  · exact refTiles_no parts x ps w hx hok hl hp h
