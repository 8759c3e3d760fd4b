/- Footers as bytes: the reference's body and Encode. -/
import Derived.Test.YthhmhmnhbababaaD32
namespace Go.Proofs.Ythhmhmnhbababaa.E
open Go

/-- winnowref2.Common -/
theorem refCommon_ok (a b : List UInt8) (w : World) (hla : a.length ≤ 1152921504606846976) (hlb : b.length ≤ 1152921504606846976) : Calls Try.prog 81 [.string (str a), .string (str b)].toArray w (Rt fun r w' => r = .int .i64 ((common a b : Nat) : Int) ∧ Upd [] w w') := by
  have hM0 : Mem w [] w [] := Mem.nil w []
  refine calls_vc mixed Try.func81 rfl C81 (by simp [Try.ntmps81]) ?_
  refine seq fun K1 h1 => ?_
  refine stp (v := .int .i64 0) (o_mv rfl) ?_
  refine h1 _ _ ?_
  clear h1
  refine seq fun K2 h2 => ?_
  refine stp (v := .int .i64 0) (o_mv rfl) ?_
  refine h2 _ _ ?_
  clear h2
  refine seq fun K3 h3 => ?_
  refine lp (n := fun _ _ => False) (ι := (Nat)) (fun i f w' => f 0 = .string (str a) ∧ f 1 = .string (str b) ∧ f 5 = .int .i64 (i : Nat) ∧ Mem w [] w' [] ∧ (i ≤ min a.length b.length) ∧ (a.take i = b.take i)) (fun i => min a.length b.length - i) (0) ?_ ?_
  · exact ⟨by first | rfl | simp [upd], by first | rfl | simp [upd], by first | rfl | exact v_int (by omega) | exact v_int (by simp) | exact v_int (by simp; omega), hM0, by omega, by simp⟩
  · rintro i f w4 ⟨e4_0, e4_1, e4_5, hM4, hi, hp⟩ K5 h5
    obtain ⟨frm, rfl⟩ : ∃ frm, f = (upd (upd (upd frm 0 (.string (str a))) 1 (.string (str b))) 5 (.int .i64 (i : Nat))) := ⟨f, by rw [upd_self e4_0, upd_self e4_1, upd_self e4_5]⟩
    clear e4_0 e4_1 e4_5
    refine seq fun K6 h6 => ?_
    refine seq fun K7 h7 => ?_
    intro wd e1 e2 e3 e4
    have hd := Upd.same e1 e2 e3 e4 []
    have hM8 := hM4.pure hd
    clear e1 e2 e3 e4
    refine ⟨none, ?_⟩
    show vd _ _ _ _ _ _ _
    refine dq (v := .int .i64 (i : Nat)) (o_mv rfl) ?_
    refine dq (v := .string (str a)) (o_mv rfl) ?_
    refine dq (v := .int .i64 (a.length : Nat)) (o_lens rfl rfl) ?_
    refine dq (v := .bool (decide (((i : Nat) : Int) < (a.length : Nat)))) (o_bin rfl rfl rfl) ?_
    refine dq (v := .bool (decide (((i : Nat) : Int) < (a.length : Nat)))) (o_mv rfl) ?_
    refine dsplitP rfl (fun c9 => ?_) (fun c9 => ?_)
    ·
      refine dqg rfl (v := .int .i64 (i : Nat)) (o_mv rfl) ?_
      refine dqg rfl (v := .string (str b)) (o_mv rfl) ?_
      refine dqg rfl (v := .int .i64 (b.length : Nat)) (o_lens rfl rfl) ?_
      refine dqg rfl (v := .bool (decide (((i : Nat) : Int) < (b.length : Nat)))) (o_bin rfl rfl rfl) ?_
      refine dq (v := .bool (decide (((i : Nat) : Int) < (b.length : Nat)))) (o_pickT rfl rfl) ?_
      refine dq (v := .bool (decide (((i : Nat) : Int) < (b.length : Nat)))) (o_mv rfl) ?_
      refine dsplitP rfl (fun c10 => ?_) (fun c10 => ?_)
      ·
        refine dqg rfl (v := .string (str a)) (o_mv rfl) ?_
        refine dqg rfl (v := .int .i64 (i : Nat)) (o_mv rfl) ?_
        refine dqg rfl (v := byteV (a.getD i 0)) (o_idxs rfl rfl (by omega) rfl) ?_
        refine dqg rfl (v := .string (str b)) (o_mv rfl) ?_
        refine dqg rfl (v := .int .i64 (i : Nat)) (o_mv rfl) ?_
        refine dqg rfl (v := byteV (b.getD i 0)) (o_idxs rfl rfl (by omega) rfl) ?_
        refine dqg rfl (v := .bool (decide (((a.getD i 0).toNat : Int) = ((b.getD i 0).toNat : Int)))) (o_bin rfl rfl rfl) ?_
        refine dq (v := .bool (decide (((a.getD i 0).toNat : Int) = ((b.getD i 0).toNat : Int)))) (o_pickT rfl rfl) ?_
        refine h7 _ _ ?_
        clear h7
        refine cndP rfl (fun c11 => ?_) (fun c11 => ?_)
        ·
          refine h6 _ _ ?_
          clear h6
          refine stp (v := .int .i64 (i : Nat)) (o_mv rfl) ?_
          refine stp (v := .int .i64 ((i : Nat) + 1)) (o_bin rfl rfl (v_add64 (by constructor <;> omega))) ?_
          refine stp (v := .int .i64 ((i : Nat) + 1)) (o_mv rfl) ?_
          refine h5 (i + 1) _ _ ⟨by first | rfl | simp [upd], by first | rfl | simp [upd], by first | rfl | exact v_int (by omega) | exact v_int (by simp) | exact v_int (by simp; omega), hM8, by omega, take_succ_eq hp (by omega) (by omega) (u8_eq (by omega))⟩ (by (try dsimp only); omega)
        ·
          refine h3 _ _ ?_
          clear h3
          refine seq fun K12 h12 => ?_
          refine stp (v := .int .i64 (i : Nat)) (o_mv rfl) ?_
          refine stp (v := .int .i64 (i : Nat)) (o_mv rfl) ?_
          refine h12 _ _ ?_
          clear h12
          refine ⟨(.int .i64 (i : Nat)), rfl, ?_⟩
          exact ⟨by rw [common_at hp (by omega) (by omega) (nat_ne (by omega))], hM8.upd⟩
      ·
        refine dgno rfl (by simp) ?_
        refine dgno rfl (by simp) ?_
        refine dgno rfl (by simp) ?_
        refine dgno rfl (by simp) ?_
        refine dgno rfl (by simp) ?_
        refine dgno rfl (by simp) ?_
        refine dgno rfl (by simp) ?_
        refine dq (v := .bool false) (o_pickF rfl rfl) ?_
        refine h7 _ _ ?_
        clear h7
        refine cndF rfl ?_
        refine h3 _ _ ?_
        clear h3
        refine seq fun K13 h13 => ?_
        refine stp (v := .int .i64 (i : Nat)) (o_mv rfl) ?_
        refine stp (v := .int .i64 (i : Nat)) (o_mv rfl) ?_
        refine h13 _ _ ?_
        clear h13
        refine ⟨(.int .i64 (i : Nat)), rfl, ?_⟩
        exact ⟨by rw [common_end hp (by omega)], hM8.upd⟩
    ·
      refine dgno rfl (by simp) ?_
      refine dgno rfl (by simp) ?_
      refine dgno rfl (by simp) ?_
      refine dgno rfl (by simp) ?_
      refine dq (v := .bool false) (o_pickF rfl rfl) ?_
      refine dq (v := .bool false) (o_mv rfl) ?_
      refine dsplitF rfl ?_
      refine dgno rfl (by simp) ?_
      refine dgno rfl (by simp) ?_
      refine dgno rfl (by simp) ?_
      refine dgno rfl (by simp) ?_
      refine dgno rfl (by simp) ?_
      refine dgno rfl (by simp) ?_
      refine dgno rfl (by simp) ?_
      refine dq (v := .bool false) (o_pickF rfl rfl) ?_
      refine h7 _ _ ?_
      clear h7
      refine cndF rfl ?_
      refine h3 _ _ ?_
      clear h3
      refine seq fun K14 h14 => ?_
      refine stp (v := .int .i64 (i : Nat)) (o_mv rfl) ?_
      refine stp (v := .int .i64 (i : Nat)) (o_mv rfl) ?_
      refine h14 _ _ ?_
      clear h14
      refine ⟨(.int .i64 (i : Nat)), rfl, ?_⟩
      exact ⟨by rw [common_end hp (by omega)], hM8.upd⟩

/-- winnowref8.Body -/
theorem refBody_ok (parts : Int) (x : Value) (ps : List Pr) (w : World) (hx : RdS prC w x ps) (hok : ∀ p ∈ ps, p.ok w) (hl : ps.length ≤ 1954687338211) (hp : inK .i64 parts) (hft : ftOk parts (ps.map Pr.p)) : Calls Try.prog 59 [.agg [.int .i64 parts, x].toArray].toArray w (Rt fun r w' => ∃ rs, SlE byteV 5 r (bodyF parts (ps.map Pr.p)) rs ∧ Mem w [] w' [rs]) := by
  have hM0 : Mem w [] w [] := Mem.nil w []
  have hpp := hft.1
  refine calls_vc mixed Try.func59 rfl C59 (by simp [Try.ntmps59]) ?_
  refine seq fun K1 h1 => ?_
  refine m_bx (v := .agg ([.int .i64 parts, x] : List Value).toArray) hM0 rfl rfl fun b2 w3 (hM3 : Mem w [] w3 [[⟨b2, 24, [.int .i64 parts, x]⟩]]) => ?_
  refine stp (v := .slice none 0 0) (o_mv rfl) ?_
  refine h1 _ _ ?_
  clear h1
  refine seq fun K4 h4 => ?_
  refine stp (v := .slice none 0 0) (o_mv rfl) ?_
  refine h4 _ _ ?_
  clear h4
  refine seq fun K5 h5 => ?_
  have hM6 : Mem w [] w3 [[⟨b2, 24, [.int .i64 parts, x]⟩], []] := hM3.addNil
  have hs6 : SlE byteV 5 (.slice none 0 0) [] [] := Sl.nil 1 5
  refine stp (v := (.slice none 0 0)) (o_mv rfl) ?_
  refine stp (v := .pointer (some ⟨b2, 0, none⟩)) (o_fa rfl rfl) ?_
  refine m_ld (v := .int .i64 parts) hM6 (i := 0) (j := 0) rfl rfl rfl rfl ?_
  refine m_call (refnum_ok _ ([]) ([]) parts w3 hs6 (hM6.res (i := 1) rfl) (by simp only [inK]; omega) (by first | omega | (simp only [List.length_append, List.length_cons, List.length_nil] at *; omega))) rfl fun v7 w7 ⟨rb7, hs7, hm7⟩ => ?_
  have hM7 : Mem w [] w7 [[⟨b2, 24, [.int .i64 parts, x]⟩], rb7] := hM6.step 1 rfl hm7
  have hpl7 := putI_len (v := parts) (by omega)
  have hla7 : (([]) ++ putI parts).length = ([]).length + (putI parts).length := List.length_append
  refine stp (v := v7) (o_mv rfl) ?_
  refine h5 _ _ ?_
  clear h5
  refine seq fun K8 h8 => ?_
  refine stp (v := v7) (o_mv rfl) ?_
  refine stp (v := .pointer (some ⟨b2, 1, none⟩)) (o_fa rfl rfl) ?_
  refine m_ld (v := x) hM7 (i := 0) (j := 0) rfl rfl rfl rfl ?_
  refine stp (v := .int .i64 (ps.length : Nat)) (o_lenR (hx.upd hM7.upd) rfl rfl) ?_
  refine m_call (refnum_ok _ (([]) ++ putI parts) rb7 (ps.length : Nat) w7 hs7 (hM7.res (i := 1) rfl) (by simp only [inK]; omega) (by first | omega | (simp only [List.length_append, List.length_cons, List.length_nil] at *; omega))) rfl fun v9 w9 ⟨rb9, hs9, hm9⟩ => ?_
  have hM9 : Mem w [] w9 [[⟨b2, 24, [.int .i64 parts, x]⟩], rb9] := hM7.step 1 rfl hm9
  have hpl9 := putI_len (v := (ps.length : Nat)) (by omega)
  have hla9 : ((([]) ++ putI parts) ++ putI (ps.length : Nat)).length = (([]) ++ putI parts).length + (putI (ps.length : Nat)).length := List.length_append
  refine stp (v := v9) (o_mv rfl) ?_
  refine h8 _ _ ?_
  clear h8
  refine seq fun K10 h10 => ?_
  refine stp (v := .int .i64 (-1)) (o_mv rfl) ?_
  refine h10 _ _ ?_
  clear h10
  refine seq fun K11 h11 => ?_
  refine seq fun K12 h12 => ?_
  refine stp (v := .int .i64 0) (o_mv rfl) ?_
  refine h12 _ _ ?_
  clear h12
  refine lp (n := fun _ _ => False) (ι := (Nat) × (Int) × (Nat) × (List UInt8) × (Value) × (List Ent)) (fun ⟨i, last, n, B, v, rb⟩ f w' => f 3 = v ∧ f 4 = .int .i64 last ∧ f 5 = .int .i64 (i : Nat) ∧ f 1 = .pointer (some ⟨b2, 0, none⟩) ∧ Mem w [] w' [[⟨b2, 24, [.int .i64 parts, x]⟩], rb] ∧ (SlE byteV 5 v B rb) ∧ (i ≤ ps.length) ∧ (infOk parts last n ((ps.drop i).map Pr.p)) ∧ (n ≤ 262144) ∧ (-1 ≤ last ∧ (i : Int) ≤ last + 1 ∧ last < parts) ∧ (bodyF parts (ps.map Pr.p) = B ++ infB last ((ps.drop i).map Pr.p)) ∧ (B.length ≤ 18 + i * 4126 + n * 109)) (fun ⟨i, last, n, B, v, rb⟩ => ps.length - i) (0, (-1), 0, ((([]) ++ putI parts) ++ putI (ps.length : Nat)), v9, rb9) ?_ ?_
  · exact ⟨rfl, by first | rfl | exact v_int (by omega) | exact v_int (by simp) | exact v_int (by simp; omega), by first | rfl | exact v_int (by omega) | exact v_int (by simp) | exact v_int (by simp; omega), rfl, hM9.keep (by simp), hs9, by omega, hft.2, by omega, by omega, by unfold bodyF; rw [putAll_2, List.drop_zero, List.length_map]; simp only [List.nil_append, List.append_assoc], by simp only [List.nil_append, List.length_append] at *; omega⟩
  · rintro ⟨i, last, n, B, v, rb⟩ f w13 ⟨e13_3, e13_4, e13_5, e13_1, hM13, hs, hi, hI, hn, hlast, hE, hBl⟩ K14 h14
    obtain ⟨frm, rfl⟩ : ∃ frm, f = (upd (upd (upd (upd frm 3 (v)) 4 (.int .i64 last)) 5 (.int .i64 (i : Nat))) 1 (.pointer (some ⟨b2, 0, none⟩))) := ⟨f, by rw [upd_self e13_3, upd_self e13_4, upd_self e13_5, upd_self e13_1]⟩
    clear e13_3 e13_4 e13_5 e13_1
    refine seq fun K15 h15 => ?_
    refine seq fun K16 h16 => ?_
    refine stp (v := .int .i64 (i : Nat)) (o_mv rfl) ?_
    refine stp (v := .pointer (some ⟨b2, 1, none⟩)) (o_fa rfl rfl) ?_
    refine m_ld (v := x) hM13 (i := 0) (j := 0) rfl rfl rfl rfl ?_
    refine stp (v := .int .i64 (ps.length : Nat)) (o_lenR (hx.upd hM13.upd) rfl rfl) ?_
    refine stp (v := .bool (decide (((i : Nat) : Int) < (ps.length : Nat)))) (o_bin rfl rfl rfl) ?_
    refine h16 _ _ ?_
    clear h16
    refine cndP rfl (fun c17 => ?_) (fun c17 => ?_)
    ·
      refine h15 _ _ ?_
      clear h15
      refine seq fun K18 h18 => ?_
      refine seq fun K19 h19 => ?_
      have hpi := hok _ (getD_memG pz (l := ps) (i := i) (by omega))
      have hlb := hpi.lb
      have hld := hpi.ld
      have hkp := hpi.kp
      simp only [inK] at hkp
      have hic := (inf_cons (ps := ps) (i := i) (parts := parts) (last := last) (n := n) (by omega)).1 hI
      have hpo := parOk_p.1 hic.1.1
      refine stp (v := .pointer (some ⟨b2, 1, none⟩)) (o_fa rfl rfl) ?_
      refine m_ld (v := x) hM13 (i := 0) (j := 0) rfl rfl rfl rfl ?_
      refine stp (v := .int .i64 (i : Nat)) (o_mv rfl) ?_
      refine m_idxS pz (j := i) (hx.upd hM13.upd) rfl rfl (by omega) fun b20 o20 hp20 => ?_
      refine ldA (cs := [.int .i64 ((ps.getD i pz).part), (ps.getD i pz).bv, .bool ((ps.getD i pz).a), .int .i64 ((ps.getD i pz).h), (ps.getD i pz).dv]) rfl rfl (hp20.row (k := 0) rfl rfl) ?_
      refine m_al hM13 fun b21 w22 (hM22 : Mem w [] w22 [[⟨b2, 24, [.int .i64 parts, x]⟩], rb, [⟨b21, 71, [.int .i64 0, .slice none 0 0, .bool false, .int .i64 0, .slice none 0 0]⟩]]) => ?_
      refine m_stA (l := [.int .i64 ((ps.getD i pz).part), (ps.getD i pz).bv, .bool ((ps.getD i pz).a), .int .i64 ((ps.getD i pz).h), (ps.getD i pz).dv]) hM22 (i := 2) rfl rfl rfl rfl (by simp [oneCells, Value.oneCell', byteV]) (by simp) fun w23 (hM23 : Mem w [] w23 [[⟨b2, 24, [.int .i64 parts, x]⟩], rb, [⟨b21, 71, [.int .i64 ((ps.getD i pz).part), (ps.getD i pz).bv, .bool ((ps.getD i pz).a), .int .i64 ((ps.getD i pz).h), (ps.getD i pz).dv]⟩]]) => ?_
      refine h19 _ _ ?_
      clear h19
      refine seq fun K24 h24 => ?_
      refine stp (v := v) (o_mv rfl) ?_
      refine stp (v := .pointer (some ⟨b21, 0, none⟩)) (o_fa rfl rfl) ?_
      refine m_ld (v := .int .i64 ((ps.getD i pz).part)) hM23 (i := 2) (j := 0) rfl rfl rfl rfl ?_
      refine stp (v := .int .i64 last) (o_mv rfl) ?_
      refine stp (v := .int .i64 (((ps.getD i pz).part) - last)) (o_bin rfl rfl (v_sub64 (by constructor <;> omega))) ?_
      refine stp (v := .int .i64 ((((ps.getD i pz).part) - last) - 1)) (o_bin rfl rfl (v_sub64 (by constructor <;> omega))) ?_
      refine m_call (refnum_ok _ B rb ((((ps.getD i pz).part) - last) - 1) w23 hs (hM23.res (i := 1) rfl) (by simp only [inK]; omega) (by first | omega | (simp only [List.length_append, List.length_cons, List.length_nil] at *; omega))) rfl fun v25 w25 ⟨rb25, hs25, hm25⟩ => ?_
      have hM25 : Mem w [] w25 [[⟨b2, 24, [.int .i64 parts, x]⟩], rb25, [⟨b21, 71, [.int .i64 ((ps.getD i pz).part), (ps.getD i pz).bv, .bool ((ps.getD i pz).a), .int .i64 ((ps.getD i pz).h), (ps.getD i pz).dv]⟩]] := hM23.step 1 rfl hm25
      have hpl25 := putI_len (v := ((((ps.getD i pz).part) - last) - 1)) (by omega)
      have hla25 : (B ++ putI ((((ps.getD i pz).part) - last) - 1)).length = (B).length + (putI ((((ps.getD i pz).part) - last) - 1)).length := List.length_append
      refine stp (v := v25) (o_mv rfl) ?_
      refine h24 _ _ ?_
      clear h24
      refine seq fun K26 h26 => ?_
      refine stp (v := .pointer (some ⟨b21, 0, none⟩)) (o_fa rfl rfl) ?_
      refine m_ld (v := .int .i64 ((ps.getD i pz).part)) hM25 (i := 2) (j := 0) rfl rfl rfl rfl ?_
      refine stp (v := .int .i64 ((ps.getD i pz).part)) (o_mv rfl) ?_
      refine h26 _ _ ?_
      clear h26
      refine seq fun K27 h27 => ?_
      refine stp (v := .pointer (some ⟨b21, 2, none⟩)) (o_fa rfl rfl) ?_
      refine m_ldA (l := [.bool ((ps.getD i pz).a), .int .i64 ((ps.getD i pz).h), (ps.getD i pz).dv]) hM25 (i := 2) (j := 0) rfl rfl rfl rfl rfl ?_
      refine m_call (refFEncode_ok (ps.getD i pz).a ((ps.getD i pz).h) _ ((ps.getD i pz).d) w25 (((fun p hp => (hok p hp).upd hM25.upd) _ (getD_memG pz (by omega))).rd) (by first | omega | (simp; done) | (simp; omega))) rfl fun v28 w28 ⟨y28, rs28, hr28, hs28, hm28⟩ => ?_
      have hM28 : Mem w [] w28 [[⟨b2, 24, [.int .i64 parts, x]⟩], rb25, [⟨b21, 71, [.int .i64 ((ps.getD i pz).part), (ps.getD i pz).bv, .bool ((ps.getD i pz).a), .int .i64 ((ps.getD i pz).h), (ps.getD i pz).dv]⟩], rs28] := hM25.add hm28
      subst hr28
      have hfl28 := encF_len (ps.getD i pz).a ((ps.getD i pz).h) ((ps.getD i pz).d)
      refine stp (v := .tuple [y28, .int .i64 ((encF (ps.getD i pz).a ((ps.getD i pz).h) ((ps.getD i pz).d)).2)].toArray) (o_mv rfl) ?_
      refine stp (v := y28) (o_ext rfl rfl) ?_
      refine stp (v := .int .i64 ((encF (ps.getD i pz).a ((ps.getD i pz).h) ((ps.getD i pz).d)).2)) (o_ext rfl rfl) ?_
      refine stp (v := y28) (o_mv rfl) ?_
      refine stp (v := .int .i64 ((encF (ps.getD i pz).a ((ps.getD i pz).h) ((ps.getD i pz).d)).2)) (o_mv rfl) ?_
      refine h27 _ _ ?_
      clear h27
      refine seq fun K29 h29 => ?_
      refine stp (v := v25) (o_mv rfl) ?_
      refine stp (v := y28) (o_mv rfl) ?_
      refine stp (v := .int .i64 (((encF (ps.getD i pz).a ((ps.getD i pz).h) ((ps.getD i pz).d)).1).length : Nat)) (o_lenR (hs28.rd hM28 (i := 3) rfl) rfl rfl) ?_
      refine m_call (refnum_ok _ (B ++ putI ((((ps.getD i pz).part) - last) - 1)) rb25 (((encF (ps.getD i pz).a ((ps.getD i pz).h) ((ps.getD i pz).d)).1).length : Nat) w28 hs25 (hM28.res (i := 1) rfl) (by simp only [inK]; omega) (by first | omega | (simp only [List.length_append, List.length_cons, List.length_nil] at *; omega))) rfl fun v30 w30 ⟨rb30, hs30, hm30⟩ => ?_
      have hM30 : Mem w [] w30 [[⟨b2, 24, [.int .i64 parts, x]⟩], rb30, [⟨b21, 71, [.int .i64 ((ps.getD i pz).part), (ps.getD i pz).bv, .bool ((ps.getD i pz).a), .int .i64 ((ps.getD i pz).h), (ps.getD i pz).dv]⟩], rs28] := hM28.step 1 rfl hm30
      have hpl30 := putI_len (v := (((encF (ps.getD i pz).a ((ps.getD i pz).h) ((ps.getD i pz).d)).1).length : Nat)) (by omega)
      have hla30 : ((B ++ putI ((((ps.getD i pz).part) - last) - 1)) ++ putI (((encF (ps.getD i pz).a ((ps.getD i pz).h) ((ps.getD i pz).d)).1).length : Nat)).length = (B ++ putI ((((ps.getD i pz).part) - last) - 1)).length + (putI (((encF (ps.getD i pz).a ((ps.getD i pz).h) ((ps.getD i pz).d)).1).length : Nat)).length := List.length_append
      refine stp (v := v30) (o_mv rfl) ?_
      refine h29 _ _ ?_
      clear h29
      refine seq fun K31 h31 => ?_
      refine stp (v := v30) (o_mv rfl) ?_
      refine stp (v := y28) (o_mv rfl) ?_
      refine m_appE hM30 (i := 1) rfl hs30 rfl rfl (hs28.rd hM30 (i := 3) rfl) (by first | omega | (simp; omega)) (by omega) fun v32 w32 r32 (hs32 : SlE byteV 5 v32 (((B ++ putI ((((ps.getD i pz).part) - last) - 1)) ++ putI (((encF (ps.getD i pz).a ((ps.getD i pz).h) ((ps.getD i pz).d)).1).length : Nat)) ++ ((encF (ps.getD i pz).a ((ps.getD i pz).h) ((ps.getD i pz).d)).1)) r32) (hM32 : Mem w [] w32 [[⟨b2, 24, [.int .i64 parts, x]⟩], r32, [⟨b21, 71, [.int .i64 ((ps.getD i pz).part), (ps.getD i pz).bv, .bool ((ps.getD i pz).a), .int .i64 ((ps.getD i pz).h), (ps.getD i pz).dv]⟩], rs28]) => ?_
      refine stp (v := v32) (o_mv rfl) ?_
      refine h31 _ _ ?_
      clear h31
      refine seq fun K33 h33 => ?_
      refine stp (v := v32) (o_mv rfl) ?_
      refine stp (v := .pointer (some ⟨b21, 1, none⟩)) (o_fa rfl rfl) ?_
      refine m_ld (v := (ps.getD i pz).bv) hM32 (i := 2) (j := 0) rfl rfl rfl rfl ?_
      refine stp (v := .int .i64 (((ps.getD i pz).bl).length : Nat)) (o_lenR (((fun p hp => (hok p hp).upd hM32.upd) _ (getD_memG pz (by omega))).rb) rfl rfl) ?_
      refine m_call (refnum_ok _ (((B ++ putI ((((ps.getD i pz).part) - last) - 1)) ++ putI (((encF (ps.getD i pz).a ((ps.getD i pz).h) ((ps.getD i pz).d)).1).length : Nat)) ++ ((encF (ps.getD i pz).a ((ps.getD i pz).h) ((ps.getD i pz).d)).1)) r32 (((ps.getD i pz).bl).length : Nat) w32 hs32 (hM32.res (i := 1) rfl) (by simp only [inK]; omega) (by first | omega | (simp only [List.length_append, List.length_cons, List.length_nil] at *; omega))) rfl fun v34 w34 ⟨rb34, hs34, hm34⟩ => ?_
      have hM34 : Mem w [] w34 [[⟨b2, 24, [.int .i64 parts, x]⟩], rb34, [⟨b21, 71, [.int .i64 ((ps.getD i pz).part), (ps.getD i pz).bv, .bool ((ps.getD i pz).a), .int .i64 ((ps.getD i pz).h), (ps.getD i pz).dv]⟩], rs28] := hM32.step 1 rfl hm34
      have hpl34 := putI_len (v := (((ps.getD i pz).bl).length : Nat)) (by omega)
      have hla34 : ((((B ++ putI ((((ps.getD i pz).part) - last) - 1)) ++ putI (((encF (ps.getD i pz).a ((ps.getD i pz).h) ((ps.getD i pz).d)).1).length : Nat)) ++ ((encF (ps.getD i pz).a ((ps.getD i pz).h) ((ps.getD i pz).d)).1)) ++ putI (((ps.getD i pz).bl).length : Nat)).length = (((B ++ putI ((((ps.getD i pz).part) - last) - 1)) ++ putI (((encF (ps.getD i pz).a ((ps.getD i pz).h) ((ps.getD i pz).d)).1).length : Nat)) ++ ((encF (ps.getD i pz).a ((ps.getD i pz).h) ((ps.getD i pz).d)).1)).length + (putI (((ps.getD i pz).bl).length : Nat)).length := List.length_append
      refine stp (v := v34) (o_mv rfl) ?_
      refine h33 _ _ ?_
      clear h33
      refine seq fun K35 h35 => ?_
      refine stp (v := .string (str ([]))) (o_mv rfl) ?_
      refine h35 _ _ ?_
      clear h35
      refine seq fun K36 h36 => ?_
      refine stp (v := .int .i64 0) (o_mv rfl) ?_
      refine h36 _ _ ?_
      clear h36
      refine lp (n := fun _ _ => False) (ι := (Nat) × (List UInt8) × (List UInt8) × (Value) × (List Ent)) (fun ⟨k, key, B2, v, rb⟩ f w' => f 3 = v ∧ f 9 = .string (str key) ∧ f 10 = .int .i64 (k : Nat) ∧ f 1 = .pointer (some ⟨b2, 0, none⟩) ∧ f 4 = .int .i64 ((ps.getD i pz).part) ∧ f 5 = .int .i64 (i : Nat) ∧ f 6 = .pointer (some ⟨b21, 0, none⟩) ∧ Mem w [] w' [[⟨b2, 24, [.int .i64 parts, x]⟩], rb, [⟨b21, 71, [.int .i64 ((ps.getD i pz).part), (ps.getD i pz).bv, .bool ((ps.getD i pz).a), .int .i64 ((ps.getD i pz).h), (ps.getD i pz).dv]⟩]] ∧ (SlE byteV 5 v B2 rb) ∧ (k ≤ (ps.getD i pz).bl.length) ∧ (blsOk key ((ps.getD i pz).bl.drop k)) ∧ (key.length ≤ 64) ∧ (bodyF parts (ps.map Pr.p) = B2 ++ (bksB key ((ps.getD i pz).bl.drop k) ++ infB (ps.getD i pz).part ((ps.drop (i + 1)).map Pr.p))) ∧ (B2.length ≤ 18 + (i + 1) * 4126 + (n + k) * 109)) (fun ⟨k, key, B2, v, rb⟩ => (ps.getD i pz).bl.length - k) (0, [], ((((B ++ putI ((((ps.getD i pz).part) - last) - 1)) ++ putI (((encF (ps.getD i pz).a ((ps.getD i pz).h) ((ps.getD i pz).d)).1).length : Nat)) ++ ((encF (ps.getD i pz).a ((ps.getD i pz).h) ((ps.getD i pz).d)).1)) ++ putI (((ps.getD i pz).bl).length : Nat)), v34, rb34) ?_ ?_
      · exact ⟨rfl, by first | rfl | simp [upd], by first | rfl | exact v_int (by omega) | exact v_int (by simp) | exact v_int (by simp; omega), rfl, by first | rfl | exact v_int (by omega) | exact v_int (by simp) | exact v_int (by simp; omega), by first | rfl | exact v_int (by omega) | exact v_int (by simp) | exact v_int (by simp; omega), rfl, (hM34.drop 3).keep (by simp), hs34, by omega, hpo.2.2.2.2, by simp, by rw [hE, infB_cons (by omega)]; unfold parB; rw [putAll_2, putAll_1]; simp only [List.append_assoc]; rfl, by simp only [List.length_append] at *; omega⟩
      · rintro ⟨k, key, B2, v, rb⟩ f w37 ⟨e37_3, e37_9, e37_10, e37_1, e37_4, e37_5, e37_6, hM37, hs, hk, hB, hkl, hE2, hB2⟩ K38 h38
        obtain ⟨frm, rfl⟩ : ∃ frm, f = (upd (upd (upd (upd (upd (upd (upd frm 3 (v)) 9 (.string (str key))) 10 (.int .i64 (k : Nat))) 1 (.pointer (some ⟨b2, 0, none⟩))) 4 (.int .i64 ((ps.getD i pz).part))) 5 (.int .i64 (i : Nat))) 6 (.pointer (some ⟨b21, 0, none⟩))) := ⟨f, by rw [upd_self e37_3, upd_self e37_9, upd_self e37_10, upd_self e37_1, upd_self e37_4, upd_self e37_5, upd_self e37_6]⟩
        clear e37_3 e37_9 e37_10 e37_1 e37_4 e37_5 e37_6
        refine seq fun K39 h39 => ?_
        refine seq fun K40 h40 => ?_
        refine stp (v := .int .i64 (k : Nat)) (o_mv rfl) ?_
        refine stp (v := .pointer (some ⟨b21, 1, none⟩)) (o_fa rfl rfl) ?_
        refine m_ld (v := (ps.getD i pz).bv) hM37 (i := 2) (j := 0) rfl rfl rfl rfl ?_
        refine stp (v := .int .i64 (((ps.getD i pz).bl).length : Nat)) (o_lenR (((fun p hp => (hok p hp).upd hM37.upd) _ (getD_memG pz (by omega))).rb) rfl rfl) ?_
        refine stp (v := .bool (decide (((k : Nat) : Int) < (((ps.getD i pz).bl).length : Nat)))) (o_bin rfl rfl rfl) ?_
        refine h40 _ _ ?_
        clear h40
        refine cndP rfl (fun c41 => ?_) (fun c41 => ?_)
        ·
          refine h39 _ _ ?_
          clear h39
          refine seq fun K42 h42 => ?_
          refine seq fun K43 h43 => ?_
          have hbc := (bls_cons (last := key) (bl := (ps.getD i pz).bl) (k := k) (by omega)).1 hB
          have hbk := hbc.1.1
          unfold blkOk at hbk
          have hcm := common_le key ((ps.getD i pz).bl.getD k bz).cut
          refine stp (v := .pointer (some ⟨b21, 1, none⟩)) (o_fa rfl rfl) ?_
          refine m_ld (v := (ps.getD i pz).bv) hM37 (i := 2) (j := 0) rfl rfl rfl rfl ?_
          refine stp (v := .int .i64 (k : Nat)) (o_mv rfl) ?_
          refine m_idxS bz (j := k) (((fun p hp => (hok p hp).upd hM37.upd) _ (getD_memG pz (by omega))).rb) rfl rfl (by omega) fun b44 o44 hp44 => ?_
          refine ldA (cs := [.int .i64 ((((ps.getD i pz).bl).getD k bz).st), .int .i64 ((((ps.getD i pz).bl).getD k bz).ra), .int .i64 ((((ps.getD i pz).bl).getD k bz).ct), .string (str ((((ps.getD i pz).bl).getD k bz).cut))]) rfl rfl (hp44.row (k := 0) rfl rfl) ?_
          refine m_al hM37 fun b45 w46 (hM46 : Mem w [] w46 [[⟨b2, 24, [.int .i64 parts, x]⟩], rb, [⟨b21, 71, [.int .i64 ((ps.getD i pz).part), (ps.getD i pz).bv, .bool ((ps.getD i pz).a), .int .i64 ((ps.getD i pz).h), (ps.getD i pz).dv]⟩], [⟨b45, 74, [.int .i64 0, .int .i64 0, .int .i64 0, .string (str ([]))]⟩]]) => ?_
          refine m_stA (l := [.int .i64 ((((ps.getD i pz).bl).getD k bz).st), .int .i64 ((((ps.getD i pz).bl).getD k bz).ra), .int .i64 ((((ps.getD i pz).bl).getD k bz).ct), .string (str ((((ps.getD i pz).bl).getD k bz).cut))]) hM46 (i := 3) rfl rfl rfl rfl (by simp [oneCells, Value.oneCell', byteV]) (by simp) fun w47 (hM47 : Mem w [] w47 [[⟨b2, 24, [.int .i64 parts, x]⟩], rb, [⟨b21, 71, [.int .i64 ((ps.getD i pz).part), (ps.getD i pz).bv, .bool ((ps.getD i pz).a), .int .i64 ((ps.getD i pz).h), (ps.getD i pz).dv]⟩], [⟨b45, 74, [.int .i64 ((((ps.getD i pz).bl).getD k bz).st), .int .i64 ((((ps.getD i pz).bl).getD k bz).ra), .int .i64 ((((ps.getD i pz).bl).getD k bz).ct), .string (str ((((ps.getD i pz).bl).getD k bz).cut))]⟩]]) => ?_
          refine h43 _ _ ?_
          clear h43
          refine seq fun K48 h48 => ?_
          refine stp (v := .string (str key)) (o_mv rfl) ?_
          refine stp (v := .pointer (some ⟨b45, 3, none⟩)) (o_fa rfl rfl) ?_
          refine m_ld (v := .string (str ((((ps.getD i pz).bl).getD k bz).cut))) hM47 (i := 3) (j := 0) rfl rfl rfl rfl ?_
          refine m_call (refCommon_ok key ((((ps.getD i pz).bl).getD k bz).cut) w47 (by first | omega | (simp; done) | (simp; omega)) (by first | omega | (simp; done) | (simp; omega))) rfl fun v49 w49 ⟨hr49, hu49⟩ => ?_
          have hM49 : Mem w [] w49 [[⟨b2, 24, [.int .i64 parts, x]⟩], rb, [⟨b21, 71, [.int .i64 ((ps.getD i pz).part), (ps.getD i pz).bv, .bool ((ps.getD i pz).a), .int .i64 ((ps.getD i pz).h), (ps.getD i pz).dv]⟩], [⟨b45, 74, [.int .i64 ((((ps.getD i pz).bl).getD k bz).st), .int .i64 ((((ps.getD i pz).bl).getD k bz).ra), .int .i64 ((((ps.getD i pz).bl).getD k bz).ct), .string (str ((((ps.getD i pz).bl).getD k bz).cut))]⟩]] := hM47.pure hu49
          subst hr49
          refine stp (v := .int .i64 (common key ((((ps.getD i pz).bl).getD k bz).cut) : Nat)) (o_mv rfl) ?_
          refine h48 _ _ ?_
          clear h48
          refine seq fun K50 h50 => ?_
          refine stp (v := v) (o_mv rfl) ?_
          refine stp (v := .pointer (some ⟨b45, 0, none⟩)) (o_fa rfl rfl) ?_
          refine m_ld (v := .int .i64 ((((ps.getD i pz).bl).getD k bz).st)) hM49 (i := 3) (j := 0) rfl rfl rfl rfl ?_
          refine m_call (refnum_ok _ B2 rb ((((ps.getD i pz).bl).getD k bz).st) w49 hs (hM49.res (i := 1) rfl) (by simp only [inK]; omega) (by first | omega | (simp only [List.length_append, List.length_cons, List.length_nil] at *; omega))) rfl fun v51 w51 ⟨rb51, hs51, hm51⟩ => ?_
          have hM51 : Mem w [] w51 [[⟨b2, 24, [.int .i64 parts, x]⟩], rb51, [⟨b21, 71, [.int .i64 ((ps.getD i pz).part), (ps.getD i pz).bv, .bool ((ps.getD i pz).a), .int .i64 ((ps.getD i pz).h), (ps.getD i pz).dv]⟩], [⟨b45, 74, [.int .i64 ((((ps.getD i pz).bl).getD k bz).st), .int .i64 ((((ps.getD i pz).bl).getD k bz).ra), .int .i64 ((((ps.getD i pz).bl).getD k bz).ct), .string (str ((((ps.getD i pz).bl).getD k bz).cut))]⟩]] := hM49.step 1 rfl hm51
          have hpl51 := putI_len (v := ((((ps.getD i pz).bl).getD k bz).st)) (by omega)
          have hla51 : (B2 ++ putI ((((ps.getD i pz).bl).getD k bz).st)).length = (B2).length + (putI ((((ps.getD i pz).bl).getD k bz).st)).length := List.length_append
          refine stp (v := v51) (o_mv rfl) ?_
          refine h50 _ _ ?_
          clear h50
          refine seq fun K52 h52 => ?_
          refine stp (v := v51) (o_mv rfl) ?_
          refine stp (v := .pointer (some ⟨b45, 1, none⟩)) (o_fa rfl rfl) ?_
          refine m_ld (v := .int .i64 ((((ps.getD i pz).bl).getD k bz).ra)) hM51 (i := 3) (j := 0) rfl rfl rfl rfl ?_
          refine m_call (refnum_ok _ (B2 ++ putI ((((ps.getD i pz).bl).getD k bz).st)) rb51 ((((ps.getD i pz).bl).getD k bz).ra) w51 hs51 (hM51.res (i := 1) rfl) (by simp only [inK]; omega) (by first | omega | (simp only [List.length_append, List.length_cons, List.length_nil] at *; omega))) rfl fun v53 w53 ⟨rb53, hs53, hm53⟩ => ?_
          have hM53 : Mem w [] w53 [[⟨b2, 24, [.int .i64 parts, x]⟩], rb53, [⟨b21, 71, [.int .i64 ((ps.getD i pz).part), (ps.getD i pz).bv, .bool ((ps.getD i pz).a), .int .i64 ((ps.getD i pz).h), (ps.getD i pz).dv]⟩], [⟨b45, 74, [.int .i64 ((((ps.getD i pz).bl).getD k bz).st), .int .i64 ((((ps.getD i pz).bl).getD k bz).ra), .int .i64 ((((ps.getD i pz).bl).getD k bz).ct), .string (str ((((ps.getD i pz).bl).getD k bz).cut))]⟩]] := hM51.step 1 rfl hm53
          have hpl53 := putI_len (v := ((((ps.getD i pz).bl).getD k bz).ra)) (by omega)
          have hla53 : ((B2 ++ putI ((((ps.getD i pz).bl).getD k bz).st)) ++ putI ((((ps.getD i pz).bl).getD k bz).ra)).length = (B2 ++ putI ((((ps.getD i pz).bl).getD k bz).st)).length + (putI ((((ps.getD i pz).bl).getD k bz).ra)).length := List.length_append
          refine stp (v := v53) (o_mv rfl) ?_
          refine h52 _ _ ?_
          clear h52
          refine seq fun K54 h54 => ?_
          refine stp (v := v53) (o_mv rfl) ?_
          refine stp (v := .pointer (some ⟨b45, 2, none⟩)) (o_fa rfl rfl) ?_
          refine m_ld (v := .int .i64 ((((ps.getD i pz).bl).getD k bz).ct)) hM53 (i := 3) (j := 0) rfl rfl rfl rfl ?_
          refine m_call (refnum_ok _ ((B2 ++ putI ((((ps.getD i pz).bl).getD k bz).st)) ++ putI ((((ps.getD i pz).bl).getD k bz).ra)) rb53 ((((ps.getD i pz).bl).getD k bz).ct) w53 hs53 (hM53.res (i := 1) rfl) (by simp only [inK]; omega) (by first | omega | (simp only [List.length_append, List.length_cons, List.length_nil] at *; omega))) rfl fun v55 w55 ⟨rb55, hs55, hm55⟩ => ?_
          have hM55 : Mem w [] w55 [[⟨b2, 24, [.int .i64 parts, x]⟩], rb55, [⟨b21, 71, [.int .i64 ((ps.getD i pz).part), (ps.getD i pz).bv, .bool ((ps.getD i pz).a), .int .i64 ((ps.getD i pz).h), (ps.getD i pz).dv]⟩], [⟨b45, 74, [.int .i64 ((((ps.getD i pz).bl).getD k bz).st), .int .i64 ((((ps.getD i pz).bl).getD k bz).ra), .int .i64 ((((ps.getD i pz).bl).getD k bz).ct), .string (str ((((ps.getD i pz).bl).getD k bz).cut))]⟩]] := hM53.step 1 rfl hm55
          have hpl55 := putI_len (v := ((((ps.getD i pz).bl).getD k bz).ct)) (by omega)
          have hla55 : (((B2 ++ putI ((((ps.getD i pz).bl).getD k bz).st)) ++ putI ((((ps.getD i pz).bl).getD k bz).ra)) ++ putI ((((ps.getD i pz).bl).getD k bz).ct)).length = ((B2 ++ putI ((((ps.getD i pz).bl).getD k bz).st)) ++ putI ((((ps.getD i pz).bl).getD k bz).ra)).length + (putI ((((ps.getD i pz).bl).getD k bz).ct)).length := List.length_append
          refine stp (v := v55) (o_mv rfl) ?_
          refine h54 _ _ ?_
          clear h54
          refine seq fun K56 h56 => ?_
          refine stp (v := v55) (o_mv rfl) ?_
          refine stp (v := .int .i64 (common key ((((ps.getD i pz).bl).getD k bz).cut) : Nat)) (o_mv rfl) ?_
          refine m_call (refnum_ok _ (((B2 ++ putI ((((ps.getD i pz).bl).getD k bz).st)) ++ putI ((((ps.getD i pz).bl).getD k bz).ra)) ++ putI ((((ps.getD i pz).bl).getD k bz).ct)) rb55 (common key ((((ps.getD i pz).bl).getD k bz).cut) : Nat) w55 hs55 (hM55.res (i := 1) rfl) (by simp only [inK]; omega) (by first | omega | (simp only [List.length_append, List.length_cons, List.length_nil] at *; omega))) rfl fun v57 w57 ⟨rb57, hs57, hm57⟩ => ?_
          have hM57 : Mem w [] w57 [[⟨b2, 24, [.int .i64 parts, x]⟩], rb57, [⟨b21, 71, [.int .i64 ((ps.getD i pz).part), (ps.getD i pz).bv, .bool ((ps.getD i pz).a), .int .i64 ((ps.getD i pz).h), (ps.getD i pz).dv]⟩], [⟨b45, 74, [.int .i64 ((((ps.getD i pz).bl).getD k bz).st), .int .i64 ((((ps.getD i pz).bl).getD k bz).ra), .int .i64 ((((ps.getD i pz).bl).getD k bz).ct), .string (str ((((ps.getD i pz).bl).getD k bz).cut))]⟩]] := hM55.step 1 rfl hm57
          have hpl57 := putI_len (v := (common key ((((ps.getD i pz).bl).getD k bz).cut) : Nat)) (by omega)
          have hla57 : ((((B2 ++ putI ((((ps.getD i pz).bl).getD k bz).st)) ++ putI ((((ps.getD i pz).bl).getD k bz).ra)) ++ putI ((((ps.getD i pz).bl).getD k bz).ct)) ++ putI (common key ((((ps.getD i pz).bl).getD k bz).cut) : Nat)).length = (((B2 ++ putI ((((ps.getD i pz).bl).getD k bz).st)) ++ putI ((((ps.getD i pz).bl).getD k bz).ra)) ++ putI ((((ps.getD i pz).bl).getD k bz).ct)).length + (putI (common key ((((ps.getD i pz).bl).getD k bz).cut) : Nat)).length := List.length_append
          refine stp (v := v57) (o_mv rfl) ?_
          refine h56 _ _ ?_
          clear h56
          refine seq fun K58 h58 => ?_
          refine stp (v := v57) (o_mv rfl) ?_
          refine stp (v := .pointer (some ⟨b45, 3, none⟩)) (o_fa rfl rfl) ?_
          refine m_ld (v := .string (str ((((ps.getD i pz).bl).getD k bz).cut))) hM57 (i := 3) (j := 0) rfl rfl rfl rfl ?_
          refine stp (v := .int .i64 (((((ps.getD i pz).bl).getD k bz).cut).length : Nat)) (o_lens rfl rfl) ?_
          refine stp (v := .int .i64 (common key ((((ps.getD i pz).bl).getD k bz).cut) : Nat)) (o_mv rfl) ?_
          refine stp (v := .int .i64 (((((ps.getD i pz).bl.getD k bz).cut.length : Nat) : Int) - ((common key ((ps.getD i pz).bl.getD k bz).cut : Nat) : Int))) (o_bin rfl rfl (v_sub64 (by omega))) ?_
          refine m_call (refnum_ok _ ((((B2 ++ putI ((((ps.getD i pz).bl).getD k bz).st)) ++ putI ((((ps.getD i pz).bl).getD k bz).ra)) ++ putI ((((ps.getD i pz).bl).getD k bz).ct)) ++ putI (common key ((((ps.getD i pz).bl).getD k bz).cut) : Nat)) rb57 (((((ps.getD i pz).bl.getD k bz).cut.length : Nat) : Int) - ((common key ((ps.getD i pz).bl.getD k bz).cut : Nat) : Int)) w57 hs57 (hM57.res (i := 1) rfl) (by simp only [inK]; omega) (by first | omega | (simp only [List.length_append, List.length_cons, List.length_nil] at *; omega))) rfl fun v59 w59 ⟨rb59, hs59, hm59⟩ => ?_
          have hM59 : Mem w [] w59 [[⟨b2, 24, [.int .i64 parts, x]⟩], rb59, [⟨b21, 71, [.int .i64 ((ps.getD i pz).part), (ps.getD i pz).bv, .bool ((ps.getD i pz).a), .int .i64 ((ps.getD i pz).h), (ps.getD i pz).dv]⟩], [⟨b45, 74, [.int .i64 ((((ps.getD i pz).bl).getD k bz).st), .int .i64 ((((ps.getD i pz).bl).getD k bz).ra), .int .i64 ((((ps.getD i pz).bl).getD k bz).ct), .string (str ((((ps.getD i pz).bl).getD k bz).cut))]⟩]] := hM57.step 1 rfl hm59
          have hpl59 := putI_len (v := (((((ps.getD i pz).bl.getD k bz).cut.length : Nat) : Int) - ((common key ((ps.getD i pz).bl.getD k bz).cut : Nat) : Int))) (by omega)
          have hla59 : (((((B2 ++ putI ((((ps.getD i pz).bl).getD k bz).st)) ++ putI ((((ps.getD i pz).bl).getD k bz).ra)) ++ putI ((((ps.getD i pz).bl).getD k bz).ct)) ++ putI (common key ((((ps.getD i pz).bl).getD k bz).cut) : Nat)) ++ putI (((((ps.getD i pz).bl.getD k bz).cut.length : Nat) : Int) - ((common key ((ps.getD i pz).bl.getD k bz).cut : Nat) : Int))).length = ((((B2 ++ putI ((((ps.getD i pz).bl).getD k bz).st)) ++ putI ((((ps.getD i pz).bl).getD k bz).ra)) ++ putI ((((ps.getD i pz).bl).getD k bz).ct)) ++ putI (common key ((((ps.getD i pz).bl).getD k bz).cut) : Nat)).length + (putI (((((ps.getD i pz).bl.getD k bz).cut.length : Nat) : Int) - ((common key ((ps.getD i pz).bl.getD k bz).cut : Nat) : Int))).length := List.length_append
          refine stp (v := v59) (o_mv rfl) ?_
          refine h58 _ _ ?_
          clear h58
          refine seq fun K60 h60 => ?_
          refine stp (v := v59) (o_mv rfl) ?_
          refine stp (v := .pointer (some ⟨b45, 3, none⟩)) (o_fa rfl rfl) ?_
          refine m_ld (v := .string (str ((((ps.getD i pz).bl).getD k bz).cut))) hM59 (i := 3) (j := 0) rfl rfl rfl rfl ?_
          refine stp (v := .int .i64 (common key ((((ps.getD i pz).bl).getD k bz).cut) : Nat)) (o_mv rfl) ?_
          refine stp (v := .string (str ((((((ps.getD i pz).bl).getD k bz).cut).take (((ps.getD i pz).bl.getD k bz).cut.length)).drop (common key ((ps.getD i pz).bl.getD k bz).cut)))) (o_slcs (a := common key ((ps.getD i pz).bl.getD k bz).cut) (b := ((ps.getD i pz).bl.getD k bz).cut.length) rfl (by omega) rfl ⟨_, v_int (by omega)⟩ rfl) ?_
          refine m_appS hM59 (i := 1) rfl hs59 rfl rfl (by simp only [List.length_append, List.length_drop, List.length_take] at *; omega) fun v61 w61 r61 (hs61 : SlE byteV 5 v61 ((((((B2 ++ putI ((((ps.getD i pz).bl).getD k bz).st)) ++ putI ((((ps.getD i pz).bl).getD k bz).ra)) ++ putI ((((ps.getD i pz).bl).getD k bz).ct)) ++ putI (common key ((((ps.getD i pz).bl).getD k bz).cut) : Nat)) ++ putI (((((ps.getD i pz).bl.getD k bz).cut.length : Nat) : Int) - ((common key ((ps.getD i pz).bl.getD k bz).cut : Nat) : Int))) ++ ((((((ps.getD i pz).bl).getD k bz).cut).take (((ps.getD i pz).bl.getD k bz).cut.length)).drop (common key ((ps.getD i pz).bl.getD k bz).cut))) r61) (hM61 : Mem w [] w61 [[⟨b2, 24, [.int .i64 parts, x]⟩], r61, [⟨b21, 71, [.int .i64 ((ps.getD i pz).part), (ps.getD i pz).bv, .bool ((ps.getD i pz).a), .int .i64 ((ps.getD i pz).h), (ps.getD i pz).dv]⟩], [⟨b45, 74, [.int .i64 ((((ps.getD i pz).bl).getD k bz).st), .int .i64 ((((ps.getD i pz).bl).getD k bz).ra), .int .i64 ((((ps.getD i pz).bl).getD k bz).ct), .string (str ((((ps.getD i pz).bl).getD k bz).cut))]⟩]]) => ?_
          refine stp (v := v61) (o_mv rfl) ?_
          refine h60 _ _ ?_
          clear h60
          refine stp (v := .pointer (some ⟨b45, 3, none⟩)) (o_fa rfl rfl) ?_
          refine m_ld (v := .string (str ((((ps.getD i pz).bl).getD k bz).cut))) hM61 (i := 3) (j := 0) rfl rfl rfl rfl ?_
          refine stp (v := .string (str ((((ps.getD i pz).bl).getD k bz).cut))) (o_mv rfl) ?_
          refine h42 _ _ ?_
          clear h42
          refine stp (v := .int .i64 (k : Nat)) (o_mv rfl) ?_
          refine stp (v := .int .i64 ((k : Nat) + 1)) (o_bin rfl rfl (v_add64 (by constructor <;> omega))) ?_
          refine stp (v := .int .i64 ((k : Nat) + 1)) (o_mv rfl) ?_
          refine h38 (k + 1, ((ps.getD i pz).bl.getD k bz).cut, ((((((B2 ++ putI ((((ps.getD i pz).bl).getD k bz).st)) ++ putI ((((ps.getD i pz).bl).getD k bz).ra)) ++ putI ((((ps.getD i pz).bl).getD k bz).ct)) ++ putI (common key ((((ps.getD i pz).bl).getD k bz).cut) : Nat)) ++ putI (((((ps.getD i pz).bl.getD k bz).cut.length : Nat) : Int) - ((common key ((ps.getD i pz).bl.getD k bz).cut : Nat) : Int))) ++ ((((((ps.getD i pz).bl).getD k bz).cut).take (((ps.getD i pz).bl.getD k bz).cut.length)).drop (common key ((ps.getD i pz).bl.getD k bz).cut))), v61, r61) _ _ ⟨rfl, by first | rfl | simp [upd], by first | rfl | exact v_int (by omega) | exact v_int (by simp) | exact v_int (by simp; omega), rfl, by first | rfl | exact v_int (by omega) | exact v_int (by simp) | exact v_int (by simp; omega), by first | rfl | exact v_int (by omega) | exact v_int (by simp) | exact v_int (by simp; omega), rfl, (hM61.drop 3).keep (by simp), hs61, by omega, hbc.2, hbk.2.2.2.2.2, by rw [hE2, bksB_cons (by omega)]; unfold bkB; rw [putAll_5]; simp only [List.append_assoc, List.take_length], by simp only [List.length_append, List.length_drop, List.take_length] at *; omega⟩ (by (try dsimp only); omega)
        ·
          refine h18 _ _ ?_
          clear h18
          refine stp (v := .int .i64 (i : Nat)) (o_mv rfl) ?_
          refine stp (v := .int .i64 ((i : Nat) + 1)) (o_bin rfl rfl (v_add64 (by constructor <;> omega))) ?_
          refine stp (v := .int .i64 ((i : Nat) + 1)) (o_mv rfl) ?_
          refine h14 (i + 1, (ps.getD i pz).part, n + (ps.getD i pz).bl.length, B2, v, rb) _ _ ⟨rfl, by first | rfl | exact v_int (by omega) | exact v_int (by simp) | exact v_int (by simp; omega), by first | rfl | exact v_int (by omega) | exact v_int (by simp) | exact v_int (by simp; omega), rfl, (hM37.drop 2).keep (by simp), hs, by omega, hic.2, hic.1.2, by omega, by rw [hE2, bksB_end (by omega), List.nil_append], by omega⟩ (by (try dsimp only); omega)
    ·
      refine h11 _ _ ?_
      clear h11
      refine seq fun K62 h62 => ?_
      refine stp (v := v) (o_mv rfl) ?_
      refine stp (v := v) (o_mv rfl) ?_
      refine h62 _ _ ?_
      clear h62
      refine ⟨v, rfl, ?_⟩
      exact ⟨_, by rw [hE, infB_end (by omega), List.append_nil]; exact hs, (hM13.drop 0).keep (by simp)⟩

/-- winnowref8.Encode -/
theorem refEnc_ok (parts : Int) (x : Value) (ps : List Pr) (w : World) (hx : RdS prC w x ps) (hok : ∀ p ∈ ps, p.ok w) (hl : ps.length ≤ 1954687338211) (hp : inK .i64 parts) : Calls Try.prog 25 [.agg [.int .i64 parts, x].toArray].toArray w (Rt fun r w' => ∃ v rs, r = .tuple [v, .int .i64 (encT parts (ps.map Pr.p)).2].toArray ∧ SlE byteV 5 v (encT parts (ps.map Pr.p)).1 rs ∧ Mem w [] w' [rs]) := by
  have hM0 : Mem w [] w [] := Mem.nil w []
  simp only [inK] at hp
  refine calls_vc mixed Try.func25 rfl C25 (by simp [Try.ntmps25]) ?_
  refine seq fun K1 h1 => ?_
  refine m_bx (v := .agg ([.int .i64 parts, x] : List Value).toArray) hM0 rfl rfl fun b2 w3 (hM3 : Mem w [] w3 [[⟨b2, 24, [.int .i64 parts, x]⟩]]) => ?_
  refine stp (v := .slice none 0 0) (o_mv rfl) ?_
  refine stp (v := .int .i64 0) (o_mv rfl) ?_
  refine h1 _ _ ?_
  clear h1
  refine seq fun K4 h4 => ?_
  refine m_ldA (l := [.int .i64 parts, x]) hM3 (i := 0) (j := 0) rfl rfl rfl rfl rfl ?_
  refine m_call (refChk_ok parts _ ps w3 (hx.upd hM3.upd) (fun p hp => (hok p hp).upd hM3.upd) (by omega) (by simp only [inK]; omega)) rfl fun v5 w5 ⟨hr5, hu5⟩ => ?_
  have hM5 : Mem w [] w5 [[⟨b2, 24, [.int .i64 parts, x]⟩]] := hM3.pure hu5
  subst hr5
  refine stp (v := .int .i64 (chkF parts (List.map Pr.p ps))) (o_mv rfl) ?_
  refine h4 _ _ ?_
  clear h4
  refine seq fun K6 h6 => ?_
  refine seq fun K7 h7 => ?_
  refine stp (v := .int .i64 (chkF parts (List.map Pr.p ps))) (o_mv rfl) ?_
  refine stp (v := .bool (decide (¬ (chkF parts (List.map Pr.p ps)) = 0))) (o_bin rfl rfl v_neq) ?_
  refine h7 _ _ ?_
  clear h7
  refine cndP rfl (fun c8 => ?_) (fun c8 => ?_)
  ·
    refine seq fun K9 h9 => ?_
    refine stp (v := .int .i64 (chkF parts (List.map Pr.p ps))) (o_mv rfl) ?_
    refine stp (v := .slice none 0 0) (o_mv rfl) ?_
    refine stp (v := .int .i64 (chkF parts (List.map Pr.p ps))) (o_mv rfl) ?_
    refine h9 _ _ ?_
    clear h9
    refine ⟨(.tuple [.slice none 0 0, .int .i64 (chkF parts (List.map Pr.p ps))].toArray), rfl, ?_⟩
    have he := encT_no (parts := parts) (ps := ps.map Pr.p) (fun h => by have := chkF_0 h; omega)
    have hc := chkF_80 (parts := parts) (ps := ps.map Pr.p) (fun h => by have := chkF_0 h; omega)
    exact ⟨.slice none 0 0, [], by rw [he, hc], by rw [he]; exact Sl.nil 1 5, hM5.keep (by simp)⟩
  ·
    refine h6 _ _ ?_
    clear h6
    refine seq fun K10 h10 => ?_
    have hft : ftOk parts (ps.map Pr.p) := chkF_iff.1 (by omega)
    refine m_ldA (l := [.int .i64 parts, x]) hM5 (i := 0) (j := 0) rfl rfl rfl rfl rfl ?_
    refine m_call (refBody_ok parts _ ps w5 (hx.upd hM5.upd) (fun p hp => (hok p hp).upd hM5.upd) (by omega) (by simp only [inK]; omega) (by assumption)) rfl fun v11 w11 ⟨rs11, hs11, hm11⟩ => ?_
    have hM11 : Mem w [] w11 [[⟨b2, 24, [.int .i64 parts, x]⟩], rs11] := hM5.add hm11
    refine stp (v := v11) (o_mv rfl) ?_
    refine h10 _ _ ?_
    clear h10
    refine seq fun K12 h12 => ?_
    refine m_ldA (l := [.int .i64 parts, x]) hM11 (i := 0) (j := 0) rfl rfl rfl rfl rfl ?_
    refine m_call (refSpace_ok parts _ ps w11 (hx.upd hM11.upd) (fun p hp => (hok p hp).upd hM11.upd) (by omega) (by simp only [inK]; omega) (by assumption)) rfl fun v13 w13 ⟨hr13, hu13⟩ => ?_
    have hM13 : Mem w [] w13 [[⟨b2, 24, [.int .i64 parts, x]⟩], rs11] := hM11.pure hu13
    subst hr13
    refine stp (v := .int .i64 (spaceF (List.map Pr.p ps))) (o_mv rfl) ?_
    refine h12 _ _ ?_
    clear h12
    refine seq fun K14 h14 => ?_
    refine seq fun K15 h15 => ?_
    refine stp (v := v11) (o_mv rfl) ?_
    refine stp (v := .int .i64 ((bodyF parts (List.map Pr.p ps)).length : Nat)) (o_lenR (hs11.rd hM13 (i := 1) rfl) rfl rfl) ?_
    refine stp (v := .bool (decide ((16777216 : Int) < (((bodyF parts (List.map Pr.p ps)).length : Nat) : Int)))) (o_bin rfl rfl rfl) ?_
    refine stp (v := .bool (decide ((16777216 : Int) < (((bodyF parts (List.map Pr.p ps)).length : Nat) : Int)))) (o_mv rfl) ?_
    refine splitP rfl (fun c16 => ?_) (fun c16 => ?_)
    ·
      refine gno rfl (by simp) ?_
      refine gno rfl (by simp) ?_
      refine stp (v := .bool true) (o_pickT rfl rfl) ?_
      refine h15 _ _ ?_
      clear h15
      refine cndT rfl ?_
      refine seq fun K17 h17 => ?_
      refine stp (v := .slice none 0 0) (o_mv rfl) ?_
      refine stp (v := .int .i64 62) (o_mv rfl) ?_
      refine h17 _ _ ?_
      clear h17
      refine ⟨(.tuple [.slice none 0 0, .int .i64 62].toArray), rfl, ?_⟩
      exact ⟨.slice none 0 0, [], by rw [encT_full hft (.inl (by omega))], by rw [encT_full hft (.inl (by omega))]; exact Sl.nil 1 5, hM13.keep (by simp)⟩
    ·
      refine stg rfl (v := .int .i64 (spaceF (List.map Pr.p ps))) (o_mv rfl) ?_
      refine stg rfl (v := .bool (decide ((268435456 : Int) < (spaceF (List.map Pr.p ps))))) (o_bin rfl rfl rfl) ?_
      refine stp (v := .bool (decide ((268435456 : Int) < (spaceF (List.map Pr.p ps))))) (o_pickF rfl rfl) ?_
      refine h15 _ _ ?_
      clear h15
      refine cndP rfl (fun c18 => ?_) (fun c18 => ?_)
      ·
        refine seq fun K19 h19 => ?_
        refine stp (v := .slice none 0 0) (o_mv rfl) ?_
        refine stp (v := .int .i64 62) (o_mv rfl) ?_
        refine h19 _ _ ?_
        clear h19
        refine ⟨(.tuple [.slice none 0 0, .int .i64 62].toArray), rfl, ?_⟩
        exact ⟨.slice none 0 0, [], by rw [encT_full hft (.inr (by omega))], by rw [encT_full hft (.inr (by omega))]; exact Sl.nil 1 5, hM13.keep (by simp)⟩
      ·
        refine h14 _ _ ?_
        clear h14
        refine seq fun K20 h20 => ?_
        refine stp (v := .slice none 0 0) (o_mv rfl) ?_
        refine h20 _ _ ?_
        clear h20
        refine seq fun K21 h21 => ?_
        refine seq fun K22 h22 => ?_
        refine stp (v := .int .i64 0) (o_mv rfl) ?_
        refine h22 _ _ ?_
        clear h22
        have hM23 : Mem w [] w13 [[⟨b2, 24, [.int .i64 parts, x]⟩], rs11, []] := hM13.addNil
        have hs23 : SlE byteV 5 (.slice none 0 0) [] [] := Sl.nil 1 5
        refine lp (n := fun _ _ => False) (ι := (Nat) × (List UInt8) × (Value) × (List Ent)) (fun ⟨a, out, y7_, r7_⟩ f w' => f 7 = y7_ ∧ f 8 = .int .i64 (a : Nat) ∧ f 5 = v11 ∧ f 6 = .int .i64 (spaceF (List.map Pr.p ps)) ∧ Mem w [] w' [[⟨b2, 24, [.int .i64 parts, x]⟩], rs11, r7_] ∧ (a ≤ (bodyF parts (List.map Pr.p ps)).length + 4095) ∧ (pagesF (bodyF parts (List.map Pr.p ps)) = out ++ pagesF ((bodyF parts (List.map Pr.p ps)).drop a)) ∧ (SlE byteV 5 y7_ (out) r7_)) (fun ⟨a, out, y7_, r7_⟩ => (bodyF parts (List.map Pr.p ps)).length - a) (0, [], ((.slice none 0 0)), ([])) ?_ ?_
        · exact ⟨rfl, by first | rfl | exact v_int (by omega) | exact v_int (by simp) | exact v_int (by simp; omega), rfl, by first | rfl | exact v_int (by omega) | exact v_int (by simp) | exact v_int (by simp; omega), hM23, by omega, by rw [List.drop_zero]; rfl, by first | exact hs23 | simpa using hs23⟩
        · rintro ⟨a, out, y7_, r7_⟩ f w24 ⟨e24_7, e24_8, e24_5, e24_6, hM24, ha, hE, hy7_⟩ K25 h25
          obtain ⟨frm, rfl⟩ : ∃ frm, f = (upd (upd (upd (upd frm 7 (y7_)) 8 (.int .i64 (a : Nat))) 5 (v11)) 6 (.int .i64 (spaceF (List.map Pr.p ps)))) := ⟨f, by rw [upd_self e24_7, upd_self e24_8, upd_self e24_5, upd_self e24_6]⟩
          clear e24_7 e24_8 e24_5 e24_6
          refine seq fun K26 h26 => ?_
          refine seq fun K27 h27 => ?_
          refine stp (v := .int .i64 (a : Nat)) (o_mv rfl) ?_
          refine stp (v := v11) (o_mv rfl) ?_
          refine stp (v := .int .i64 ((bodyF parts (List.map Pr.p ps)).length : Nat)) (o_lenR (hs11.rd hM24 (i := 1) rfl) rfl rfl) ?_
          refine stp (v := .bool (decide (((a : Nat) : Int) < ((bodyF parts (List.map Pr.p ps)).length : Nat)))) (o_bin rfl rfl rfl) ?_
          refine h27 _ _ ?_
          clear h27
          refine cndP rfl (fun c28 => ?_) (fun c28 => ?_)
          ·
            refine h26 _ _ ?_
            clear h26
            refine seq fun K29 h29 => ?_
            refine seq fun K30 h30 => ?_
            refine stp (v := .int .i64 (a : Nat)) (o_mv rfl) ?_
            have h9 := congrArg List.length hE
            have hdl : ((bodyF parts (List.map Pr.p ps)).drop a).length = (bodyF parts (List.map Pr.p ps)).length - a := List.length_drop
            rw [pages_cons (b := (bodyF parts (List.map Pr.p ps)).drop a) (by omega), List.length_append, List.length_append, pages_len _ _ (Nat.le_refl _), seal_len] at h9
            refine stp (v := .int .i64 ((a : Nat) + 4096)) (o_bin rfl rfl (v_add64 (by constructor <;> omega))) ?_
            refine stp (v := .int .i64 ((a : Nat) + 4096)) (o_mv rfl) ?_
            refine h30 _ _ ?_
            clear h30
            refine seq fun K31 h31 => ?_
            refine seq fun K32 h32 => ?_
            refine stp (v := .int .i64 ((a : Nat) + 4096)) (o_mv rfl) ?_
            refine stp (v := v11) (o_mv rfl) ?_
            refine stp (v := .int .i64 ((bodyF parts (List.map Pr.p ps)).length : Nat)) (o_lenR (hs11.rd hM24 (i := 1) rfl) rfl rfl) ?_
            refine stp (v := .bool (decide (((bodyF parts (List.map Pr.p ps)).length : Nat) < ((a : Nat) + 4096 : Int)))) (o_bin rfl rfl rfl) ?_
            refine h32 _ _ ?_
            clear h32
            refine cndP rfl (fun c33 => ?_) (fun c33 => ?_)
            ·
              refine stp (v := v11) (o_mv rfl) ?_
              refine stp (v := .int .i64 ((bodyF parts (List.map Pr.p ps)).length : Nat)) (o_lenR (hs11.rd hM24 (i := 1) rfl) rfl rfl) ?_
              refine stp (v := .int .i64 ((bodyF parts (List.map Pr.p ps)).length : Nat)) (o_mv rfl) ?_
              refine h31 _ _ ?_
              clear h31
              refine seq fun K34 h34 => ?_
              refine stp (v := v11) (o_mv rfl) ?_
              refine stp (v := .int .i64 (a : Nat)) (o_mv rfl) ?_
              refine stp (v := .int .i64 ((bodyF parts (List.map Pr.p ps)).length : Nat)) (o_mv rfl) ?_
              refine m_slcE a ((bodyF parts (List.map Pr.p ps)).length) (hs11.rd hM24 (i := 1) rfl) rfl (by omega) (by omega) ⟨_, v_int (by omega)⟩ ⟨_, v_int (by omega)⟩ fun u35 hu35 => ?_
              have hu35' : RdE byteV w24 u35 (((bodyF parts (List.map Pr.p ps)).drop a).take 4096) := by
                have e : ((bodyF parts (List.map Pr.p ps)).take ((bodyF parts (List.map Pr.p ps)).length)).drop a = (((bodyF parts (List.map Pr.p ps)).drop a).take 4096) := by rw [List.take_length, List.take_of_length_le (l := (bodyF parts (List.map Pr.p ps)).drop a) (by rw [List.length_drop]; omega)]
                rw [e] at hu35; exact hu35
              refine m_call (Seal_ok _ (((bodyF parts (List.map Pr.p ps)).drop a).take 4096) w24 (hu35') (by first | omega | (simp only [List.length_take, List.length_append] at *; omega))) rfl fun v36 w36 ⟨rs36, hs36, hm36⟩ => ?_
              have hM36 : Mem w [] w36 [[⟨b2, 24, [.int .i64 parts, x]⟩], rs11, r7_, rs36] := hM24.add hm36
              have hsl36 := seal_len (((bodyF parts (List.map Pr.p ps)).drop a).take 4096)
              refine stp (v := v36) (o_mv rfl) ?_
              refine h34 _ _ ?_
              clear h34
              refine stp (v := y7_) (o_mv rfl) ?_
              refine stp (v := v36) (o_mv rfl) ?_
              refine m_appE hM36 (i := 2) rfl hy7_ rfl rfl (hs36.rd hM36 (i := 3) rfl) (by first | omega | (simp; omega)) (by omega) fun v37 w37 r37 (hs37 : SlE byteV 5 v37 (out ++ (sealF (((bodyF parts (List.map Pr.p ps)).drop a).take 4096))) r37) (hM37 : Mem w [] w37 [[⟨b2, 24, [.int .i64 parts, x]⟩], rs11, r37, rs36]) => ?_
              refine stp (v := v37) (o_mv rfl) ?_
              refine h29 _ _ ?_
              clear h29
              refine stp (v := .int .i64 (a : Nat)) (o_mv rfl) ?_
              refine stp (v := .int .i64 ((a : Nat) + 4096)) (o_bin rfl rfl (v_add64 (by constructor <;> omega))) ?_
              refine stp (v := .int .i64 ((a : Nat) + 4096)) (o_mv rfl) ?_
              refine h25 (a + 4096, (out ++ (sealF (((bodyF parts (List.map Pr.p ps)).drop a).take 4096))), v37, r37) _ _ ⟨rfl, by first | rfl | exact v_int (by omega) | exact v_int (by simp) | exact v_int (by simp; omega), rfl, by first | rfl | exact v_int (by omega) | exact v_int (by simp) | exact v_int (by simp; omega), hM37.keep (by simp), by omega, by rw [hE, pages_cons (b := (bodyF parts (List.map Pr.p ps)).drop a) (by rw [List.length_drop]; omega), List.drop_drop, List.append_assoc], by first | exact hs37 | simpa using hs37⟩ (by (try dsimp only); omega)
            ·
              refine h31 _ _ ?_
              clear h31
              refine seq fun K38 h38 => ?_
              refine stp (v := v11) (o_mv rfl) ?_
              refine stp (v := .int .i64 (a : Nat)) (o_mv rfl) ?_
              refine stp (v := .int .i64 ((a : Nat) + 4096)) (o_mv rfl) ?_
              refine m_slcE a (a + 4096) (hs11.rd hM24 (i := 1) rfl) rfl (by omega) (by omega) ⟨_, v_int (by omega)⟩ ⟨_, v_int (by omega)⟩ fun u39 hu39 => ?_
              have hu39' : RdE byteV w24 u39 (((bodyF parts (List.map Pr.p ps)).drop a).take 4096) := by
                have e : ((bodyF parts (List.map Pr.p ps)).take (a + 4096)).drop a = (((bodyF parts (List.map Pr.p ps)).drop a).take 4096) := by rw [List.drop_take]; congr 1; omega
                rw [e] at hu39; exact hu39
              refine m_call (Seal_ok _ (((bodyF parts (List.map Pr.p ps)).drop a).take 4096) w24 (hu39') (by first | omega | (simp only [List.length_take, List.length_append] at *; omega))) rfl fun v40 w40 ⟨rs40, hs40, hm40⟩ => ?_
              have hM40 : Mem w [] w40 [[⟨b2, 24, [.int .i64 parts, x]⟩], rs11, r7_, rs40] := hM24.add hm40
              have hsl40 := seal_len (((bodyF parts (List.map Pr.p ps)).drop a).take 4096)
              refine stp (v := v40) (o_mv rfl) ?_
              refine h38 _ _ ?_
              clear h38
              refine stp (v := y7_) (o_mv rfl) ?_
              refine stp (v := v40) (o_mv rfl) ?_
              refine m_appE hM40 (i := 2) rfl hy7_ rfl rfl (hs40.rd hM40 (i := 3) rfl) (by first | omega | (simp; omega)) (by omega) fun v41 w41 r41 (hs41 : SlE byteV 5 v41 (out ++ (sealF (((bodyF parts (List.map Pr.p ps)).drop a).take 4096))) r41) (hM41 : Mem w [] w41 [[⟨b2, 24, [.int .i64 parts, x]⟩], rs11, r41, rs40]) => ?_
              refine stp (v := v41) (o_mv rfl) ?_
              refine h29 _ _ ?_
              clear h29
              refine stp (v := .int .i64 (a : Nat)) (o_mv rfl) ?_
              refine stp (v := .int .i64 ((a : Nat) + 4096)) (o_bin rfl rfl (v_add64 (by constructor <;> omega))) ?_
              refine stp (v := .int .i64 ((a : Nat) + 4096)) (o_mv rfl) ?_
              refine h25 (a + 4096, (out ++ (sealF (((bodyF parts (List.map Pr.p ps)).drop a).take 4096))), v41, r41) _ _ ⟨rfl, by first | rfl | exact v_int (by omega) | exact v_int (by simp) | exact v_int (by simp; omega), rfl, by first | rfl | exact v_int (by omega) | exact v_int (by simp) | exact v_int (by simp; omega), hM41.keep (by simp), by omega, by rw [hE, pages_cons (b := (bodyF parts (List.map Pr.p ps)).drop a) (by rw [List.length_drop]; omega), List.drop_drop, List.append_assoc], by first | exact hs41 | simpa using hs41⟩ (by (try dsimp only); omega)
          ·
            refine h21 _ _ ?_
            clear h21
            refine seq fun K42 h42 => ?_
            refine stp (v := .slice none 0 0) (o_mv rfl) ?_
            refine h42 _ _ ?_
            clear h42
            refine seq fun K43 h43 => ?_
            have hsn := sp_nn parts _ _ _ hft.2
            have he0 := pages_nil (b := (bodyF parts (List.map Pr.p ps)).drop a) (by rw [List.length_drop]; omega)
            rw [he0, List.append_nil] at hE
            have h9 := congrArg List.length hE
            rw [pages_len _ _ (Nat.le_refl _)] at h9
            refine stp (v := .slice none 0 0) (o_mv rfl) ?_
            have hM44 : Mem w [] w24 [[⟨b2, 24, [.int .i64 parts, x]⟩], rs11, r7_, []] := hM24.addNil
            have hs44 : SlE byteV 5 (.slice none 0 0) [] [] := Sl.nil 1 5
            refine m_appS hM44 (i := 3) rfl hs44 rfl rfl (by simp) fun v45 w45 r45 (hs45 : SlE byteV 5 v45 ([119, 110, 119, 49]) r45) (hM45 : Mem w [] w45 [[⟨b2, 24, [.int .i64 parts, x]⟩], rs11, r7_, r45]) => ?_
            refine stp (v := v45) (o_mv rfl) ?_
            refine h43 _ _ ?_
            clear h43
            refine seq fun K46 h46 => ?_
            refine stp (v := .int .i64 (spaceF (List.map Pr.p ps))) (o_mv rfl) ?_
            refine stp (v := .int .u64 (spaceF (List.map Pr.p ps))) (o_conv rfl (v_same (by simp only [inK]; omega))) ?_
            refine m_call (refFixed_ok (spaceF (List.map Pr.p ps)) 8 (by simp only [inK]; omega) (by simp only [inK]; omega) w45) rfl fun v47 w47 ⟨rs47, hs47, hm47⟩ => ?_
            have hM47 : Mem w [] w47 [[⟨b2, 24, [.int .i64 parts, x]⟩], rs11, r7_, r45, rs47] := hM45.add hm47
            have hn47 := fixedI_len (v := spaceF (List.map Pr.p ps)) (n := 8)
            refine stp (v := v47) (o_mv rfl) ?_
            refine h46 _ _ ?_
            clear h46
            refine seq fun K48 h48 => ?_
            have hf1 := fixI_len (spaceF (List.map Pr.p ps))
            refine stp (v := y7_) (o_mv rfl) ?_
            refine stp (v := .int .i64 (out.length : Nat)) (o_lenR (hy7_.rd hM47 (i := 2) rfl) rfl rfl) ?_
            refine stp (v := .int .u64 (out.length : Nat)) (o_conv rfl (v_same (by simp only [inK]; omega))) ?_
            refine m_call (refFixed_ok (out.length : Nat) 8 (by simp only [inK]; omega) (by simp only [inK]; omega) w47) rfl fun v49 w49 ⟨rs49, hs49, hm49⟩ => ?_
            have hM49 : Mem w [] w49 [[⟨b2, 24, [.int .i64 parts, x]⟩], rs11, r7_, r45, rs47, rs49] := hM47.add hm49
            have hn49 := fixedI_len (v := (out.length : Nat)) (n := 8)
            refine stp (v := v49) (o_mv rfl) ?_
            refine h48 _ _ ?_
            clear h48
            refine seq fun K50 h50 => ?_
            have hf2 := fixI_len (out.length : Nat)
            have hml : ([119, 110, 119, 49] : List UInt8).length = 4 := rfl
            refine stp (v := v45) (o_mv rfl) ?_
            refine stp (v := v47) (o_mv rfl) ?_
            refine m_appE hM49 (i := 3) rfl hs45 rfl rfl (hs47.rd hM49 (i := 4) rfl) (by first | omega | (simp; omega)) (by omega) fun v51 w51 r51 (hs51 : SlE byteV 5 v51 (([119, 110, 119, 49]) ++ (fixedI (spaceF (List.map Pr.p ps)) 8)) r51) (hM51 : Mem w [] w51 [[⟨b2, 24, [.int .i64 parts, x]⟩], rs11, r7_, r51, rs47, rs49]) => ?_
            refine stp (v := v51) (o_mv rfl) ?_
            refine h50 _ _ ?_
            clear h50
            refine seq fun K52 h52 => ?_
            refine stp (v := v51) (o_mv rfl) ?_
            refine stp (v := v49) (o_mv rfl) ?_
            refine m_appE hM51 (i := 3) rfl hs51 rfl rfl (hs49.rd hM51 (i := 5) rfl) (by first | omega | (simp; omega)) (by omega) fun v53 w53 r53 (hs53 : SlE byteV 5 v53 ((([119, 110, 119, 49]) ++ (fixedI (spaceF (List.map Pr.p ps)) 8)) ++ (fixedI (out.length : Nat) 8)) r53) (hM53 : Mem w [] w53 [[⟨b2, 24, [.int .i64 parts, x]⟩], rs11, r7_, r53, rs47, rs49]) => ?_
            refine stp (v := v53) (o_mv rfl) ?_
            refine h52 _ _ ?_
            clear h52
            refine seq fun K54 h54 => ?_
            refine stp (v := v53) (o_mv rfl) ?_
            refine m_call (Seal_ok _ ((([119, 110, 119, 49]) ++ (fixedI (spaceF (List.map Pr.p ps)) 8)) ++ (fixedI (out.length : Nat) 8)) w53 (hs53.rd hM53 (i := 3) rfl) (by first | omega | (simp only [List.length_take, List.length_append] at *; omega))) rfl fun v55 w55 ⟨rs55, hs55, hm55⟩ => ?_
            have hM55 : Mem w [] w55 [[⟨b2, 24, [.int .i64 parts, x]⟩], rs11, r7_, r53, rs47, rs49, rs55] := hM53.add hm55
            have hsl55 := seal_len ((([119, 110, 119, 49]) ++ (fixedI (spaceF (List.map Pr.p ps)) 8)) ++ (fixedI (out.length : Nat) 8))
            refine stp (v := v55) (o_mv rfl) ?_
            refine h54 _ _ ?_
            clear h54
            refine seq fun K56 h56 => ?_
            have hsl9 : (sealF (119 :: 110 :: 119 :: 49 :: (fixedI (spaceF (List.map Pr.p ps)) 8 ++ fixedI (out.length : Nat) 8))).length = 24 := trF_len (spaceF (List.map Pr.p ps)) out.length
            refine stp (v := y7_) (o_mv rfl) ?_
            refine stp (v := v55) (o_mv rfl) ?_
            refine m_appE hM55 (i := 2) rfl hy7_ rfl rfl (hs55.rd hM55 (i := 6) rfl) (by first | omega | (simp; omega)) (by omega) fun v57 w57 r57 (hs57 : SlE byteV 5 v57 (out ++ (sealF ((([119, 110, 119, 49]) ++ (fixedI (spaceF (List.map Pr.p ps)) 8)) ++ (fixedI (out.length : Nat) 8)))) r57) (hM57 : Mem w [] w57 [[⟨b2, 24, [.int .i64 parts, x]⟩], rs11, r57, r53, rs47, rs49, rs55]) => ?_
            refine stp (v := v57) (o_mv rfl) ?_
            refine h56 _ _ ?_
            clear h56
            refine seq fun K58 h58 => ?_
            refine stp (v := v57) (o_mv rfl) ?_
            refine stp (v := v57) (o_mv rfl) ?_
            refine stp (v := .int .i64 0) (o_mv rfl) ?_
            refine h58 _ _ ?_
            clear h58
            refine ⟨(.tuple [v57, .int .i64 0].toArray), rfl, ?_⟩
            have he := encT_ok (parts := parts) (ps := ps.map Pr.p) hft (by omega)
            exact ⟨_, _, by rw [he], by rw [he, hE]; exact hs57, hM57.keep (by first | (simp; done) | (simp; exact .cons _ (by repeat first | exact List.sublist_append_left _ _ | refine List.sublist_append_of_sublist_right ?_)))⟩
