/- NumsCursor: one step on both cursors. -/
import Derived.Test.YtdjdhplacfemfaaQ3
namespace Go.Proofs.Ytdjdhplacfemfaa.E
open Go
theorem keepS (bt : Nat) (ts : List Tn) (u : Value) (d : List UInt8) (r0 ru : List Ent) (w : World) (hT : TkS bt ts r0) (hu : SlE byteV 5 u d ru) (hdl : d.length ≤ 140737488355328) (hr : Res w (r0 ++ ru)) (htl : ts.length ≤ 4294967295) (hg : Tg odd ts) :
    Calls Try.prog 46 [.pointer (some ⟨bt, 0, none⟩), u].toArray w (Rt fun _ w' => ∃ ts' r', TkS bt ts' r' ∧ Tg odd ts' ∧ ts'.length = ts.length + 1 ∧ Mem w (ids (r0 ++ ru)) w' [r']) := by
  obtain ⟨vL, vW, vG, rL, rW, rG, NS, rfl, hL, hW, hG, hN⟩ := hT
  exact keep_ok bt vL vW vG ts rL rW rG NS ru u d w hL hW hG hN hu hdl hr htl hg
theorem standsS (bt : Nat) (ts : List Tn) (r0 : List Ent) (w : World) (hT : TkS bt ts r0) (hr : Res w r0) (htl : ts.length ≤ 4294967295) (hg : Tg odd ts) :
    Calls Try.prog 35 [.pointer (some ⟨bt, 0, none⟩)].toArray w (Rt fun r w' => r = .bool true ∧ Mem w (ids r0) w' [r0]) := by
  obtain ⟨vL, vW, vG, rL, rW, rG, NS, rfl, hL, hW, hG, hN⟩ := hT
  exact stands_ok bt vL vW vG ts rL rW rG NS w hL hW hG hN hr htl _ hg
theorem endsS (bt : Nat) (ts : List Tn) (r0 : List Ent) (w : World) (hT : TkS bt ts r0) (hr : Res w r0) (htl : ts.length ≤ 4294967295) (hg : Tg odd ts) :
    Calls Try.prog 36 [.pointer (some ⟨bt, 0, none⟩)].toArray w (Rt fun r w' => r = .bool true ∧ Mem w (ids r0) w' []) := by
  obtain ⟨vL, vW, vG, rL, rW, rG, NS, rfl, hL, hW, hG, hN⟩ := hT
  exact ends_ok bt vL vW vG ts rL rW rG NS w hL hW hG hN hr htl hg
theorem tkc_len (b : List UInt8) (a : Nat) (e m : Int) : (cTk b a e m).length ≤ b.length := by
  unfold cTk
  split
  · have h9 := tk_len (b.drop a) m; rw [List.length_drop] at h9; omega
  · simp

/-- (*winnowlaw2.Taken).told -/
theorem told_ok (bt bc br : Nat) (b : List UInt8) (a : Nat) (e op n : Int) (ts : List Tn) (rT rC rR : List Ent) (w : World) (hT : TkS bt ts rT) (hg : Tg odd ts) (htl : ts.length ≤ 4294967294) (hC : CurS bc b a e rC) (hR : RcS br b a e rR) (hl : b.length ≤ 140737488355328) (hop : inK .i64 op) (hn : inK .i64 n) (hr : Res w (rT ++ (rC ++ rR))) : Calls Try.prog 34 [.pointer (some ⟨bt, 0, none⟩), .pointer (some ⟨bc, 0, none⟩), .pointer (some ⟨br, 0, none⟩), .agg [.int .i64 op, .int .i64 n].toArray].toArray w (Rt fun r w' => r = .bool true ∧ ∃ ts' a' e' rT' rC' rR', TkS bt ts' rT' ∧ Tg odd ts' ∧ ts'.length ≤ ts.length + 1 ∧ CurS bc b a' e' rC' ∧ RcS br b a' e' rR' ∧ Mem w (ids (rT ++ (rC ++ rR))) w' [rT', rC', rR']) := by
  have hM0 : Mem w (ids (rT ++ (rC ++ rR))) w [rT, rC, rR] := (Mem.start hr).keep (by simp)
  simp only [inK] at hop hn
  have hgc := hg
  have hlc : ts.length ≤ ts.length + 1 := by omega
  refine calls_vc mixed Try.func34 rfl C34 (by simp [Try.ntmps34]) ?_
  refine seq fun K1 h1 => ?_
  refine m_bx (v := .agg ([.int .i64 op, .int .i64 n] : List Value).toArray) hM0 rfl rfl fun b2 w3 (hM3 : Mem w (ids (rT ++ (rC ++ rR))) w3 [rT, rC, rR, [⟨b2, 59, [.int .i64 op, .int .i64 n]⟩]]) => ?_
  refine stp (v := .bool false) (o_mv rfl) ?_
  refine h1 _ _ ?_
  clear h1
  refine seq fun K4 h4 => ?_
  refine seq fun K5 h5 => ?_
  refine stp (v := .pointer (some ⟨b2, 0, none⟩)) (o_fa rfl rfl) ?_
  refine m_ld (v := .int .i64 op) hM3 (i := 3) (j := 0) rfl rfl rfl rfl ?_
  refine h5 _ _ ?_
  clear h5
  refine seq fun K6 h6 => ?_
  refine stp (v := .bool (decide (op = 0))) (o_bin rfl rfl rfl) ?_
  refine stp (v := .bool (decide (op = 0))) (o_mv rfl) ?_
  refine h6 _ _ ?_
  clear h6
  refine cndP rfl (fun c7 => ?_) (fun c7 => ?_)
  ·
    refine seq fun K8 h8 => ?_
    intro wd e1 e2 e3 e4
    have hd := Upd.same e1 e2 e3 e4 []
    have hM9 := hM3.pure hd
    clear e1 e2 e3 e4
    refine ⟨(some [b2]), ?_⟩
    show vd _ _ _ _ _ _ _
    refine dq (v := .pointer (some ⟨bc, 0, none⟩)) (o_mv rfl) ?_
    refine dq (v := .pointer (some ⟨b2, 1, none⟩)) (o_fa rfl rfl) ?_
    refine dq (v := .pointer (some ⟨br, 0, none⟩)) (o_mv rfl) ?_
    refine dq (v := .pointer (some ⟨b2, 1, none⟩)) (o_fa rfl rfl) ?_
    refine dqld rfl (by simp [isHeld]) (v := .int .i64 n) ((hM9.at (i := 3) (j := 0) rfl rfl).cell 1) ?_
    refine dl (m_ld (v := .int .i64 n) hM9 (i := 3) (j := 0) rfl rfl rfl rfl ?_)
    refine ⟨(fun b hb => rfl), ?_⟩
    refine dl (m_call (Num_ok _ b a e n rC wd hC (hM9.res (i := 1) rfl) (by first | omega | (simp; done) | (simp; omega))) rfl fun v10 w10 ⟨hr10, r'10, hc10, hm10⟩ => ?_)
    have hM10 : Mem w (ids (rT ++ (rC ++ rR))) w10 [rT, r'10, rR, [⟨b2, 59, [.int .i64 op, .int .i64 n]⟩]] := hM9.step 1 rfl hm10
    subst hr10
    have hh10 := held_upd (wr := wd) (bs := [b2]) hm10.upd (fun b hb => by
      simp only [List.mem_cons, List.not_mem_nil, or_false] at hb
      rw [hb]; exact ⟨(hM9.at (i := 3) (j := 0) rfl rfl).lt, hM9.apart (i := 3) (j := 0) (k := 1) rfl rfl rfl (by decide)⟩) (fun b hb => rfl)
    refine ⟨hh10, ?_⟩
    refine dl (m_call (rNum_ok _ b a e n rR w10 hR (hM10.res (i := 2) rfl) (by first | omega | (simp; done) | (simp; omega))) rfl fun v11 w11 ⟨hr11, r'11, hc11, hm11⟩ => ?_)
    have hM11 : Mem w (ids (rT ++ (rC ++ rR))) w11 [rT, r'10, r'11, [⟨b2, 59, [.int .i64 op, .int .i64 n]⟩]] := hM10.step 2 rfl hm11
    subst hr11
    have hh11 := held_upd (wr := wd) (bs := [b2]) hm11.upd (fun b hb => by
      simp only [List.mem_cons, List.not_mem_nil, or_false] at hb
      rw [hb]; exact ⟨(hM10.at (i := 3) (j := 0) rfl rfl).lt, hM10.apart (i := 3) (j := 0) (k := 2) rfl rfl rfl (by decide)⟩) hh10
    refine ⟨hh11, ?_⟩
    refine dq (v := .bool false) (o_bin rfl rfl v_neF) ?_
    refine h8 _ _ ?_
    clear h8
    refine cndF rfl ?_
    refine h4 _ _ ?_
    clear h4
    refine seq fun K12 h12 => ?_
    refine stp (v := .pointer (some ⟨bc, 0, none⟩)) (o_mv rfl) ?_
    refine m_call (Rest_ok _ b (cNumA b a e n) (cNumE b a e n) r'10 w11 hc10 (hM11.res (i := 1) rfl) (by first | omega | (simp; done) | (simp; omega))) rfl fun v13 w13 ⟨hr13, hm13⟩ => ?_
    have hM13 : Mem w (ids (rT ++ (rC ++ rR))) w13 [rT, r'10, r'11, [⟨b2, 59, [.int .i64 op, .int .i64 n]⟩]] := hM11.step 1 rfl hm13
    subst hr13
    refine stp (v := .pointer (some ⟨br, 0, none⟩)) (o_mv rfl) ?_
    refine m_call (rRest_ok _ b (cNumA b a e n) (cNumE b a e n) r'11 w13 hc11 (hM13.res (i := 2) rfl) (by first | omega | (simp; done) | (simp; omega))) rfl fun v14 w14 ⟨hr14, hm14⟩ => ?_
    have hM14 : Mem w (ids (rT ++ (rC ++ rR))) w14 [rT, r'10, r'11, [⟨b2, 59, [.int .i64 op, .int .i64 n]⟩]] := hM13.step 2 rfl hm14
    subst hr14
    refine stp (v := .bool true) (o_bin rfl rfl v_eqT) ?_
    refine stp (v := .bool true) (o_mv rfl) ?_
    refine splitT rfl ?_
    refine stg rfl (v := .pointer (some ⟨bc, 0, none⟩)) (o_mv rfl) ?_
    refine gyesl rfl ?_
    refine m_call (End_ok _ b (cNumA b a e n) (cNumE b a e n) r'10 w14 hc10 (hM14.res (i := 1) rfl)) rfl fun v15 w15 ⟨hr15, hm15⟩ => ?_
    have hM15 : Mem w (ids (rT ++ (rC ++ rR))) w15 [rT, r'10, r'11, [⟨b2, 59, [.int .i64 op, .int .i64 n]⟩]] := hM14.step 1 rfl hm15
    subst hr15
    refine stg rfl (v := .pointer (some ⟨br, 0, none⟩)) (o_mv rfl) ?_
    refine gyesl rfl ?_
    refine m_call (rEnd_ok _ b (cNumA b a e n) (cNumE b a e n) r'11 w15 hc11 (hM15.res (i := 2) rfl) (by first | omega | (simp; done) | (simp; omega))) rfl fun v16 w16 ⟨hr16, hm16⟩ => ?_
    have hM16 : Mem w (ids (rT ++ (rC ++ rR))) w16 [rT, r'10, r'11, [⟨b2, 59, [.int .i64 op, .int .i64 n]⟩]] := hM15.step 2 rfl hm16
    subst hr16
    refine stg rfl (v := .bool (decide ((endE b (cNumA b a e n) (cNumE b a e n)) = (endE b (cNumA b a e n) (cNumE b a e n))) && (decide ((endA b (cNumA b a e n) (cNumE b a e n) : Nat) = (endA b (cNumA b a e n) (cNumE b a e n) : Nat)) && true))) (o_aeq (t := (decide ((endE b (cNumA b a e n) (cNumE b a e n)) = (endE b (cNumA b a e n) (cNumE b a e n))) && (decide ((endA b (cNumA b a e n) (cNumE b a e n) : Nat) = (endA b (cNumA b a e n) (cNumE b a e n) : Nat)) && true))) rfl rfl (by simp [eqCs, eqC, toList_str, Int.natCast_inj]) rfl) ?_
    refine stp (v := .bool (decide ((endE b (cNumA b a e n) (cNumE b a e n)) = (endE b (cNumA b a e n) (cNumE b a e n))) && (decide ((endA b (cNumA b a e n) (cNumE b a e n) : Nat) = (endA b (cNumA b a e n) (cNumE b a e n) : Nat)) && true))) (o_pickT rfl rfl) ?_
    refine stp (v := .bool (decide ((endE b (cNumA b a e n) (cNumE b a e n)) = (endE b (cNumA b a e n) (cNumE b a e n))) && (decide ((endA b (cNumA b a e n) (cNumE b a e n) : Nat) = (endA b (cNumA b a e n) (cNumE b a e n) : Nat)) && true))) (o_mv rfl) ?_
    refine h12 _ _ ?_
    clear h12
    refine ⟨(.bool (decide ((endE b (cNumA b a e n) (cNumE b a e n)) = (endE b (cNumA b a e n) (cNumE b a e n))) && (decide ((endA b (cNumA b a e n) (cNumE b a e n) : Nat) = (endA b (cNumA b a e n) (cNumE b a e n) : Nat)) && true))), rfl, ?_⟩
    exact ⟨by simp, _, _, _, _, _, _, hT, hgc, hlc, hc10, hc11, hM16.keep (by simp)⟩
  ·
    refine seq fun K17 h17 => ?_
    refine stp (v := .bool (decide (op = 1))) (o_bin rfl rfl rfl) ?_
    refine stp (v := .bool (decide (op = 1))) (o_mv rfl) ?_
    refine h17 _ _ ?_
    clear h17
    refine cndP rfl (fun c18 => ?_) (fun c18 => ?_)
    ·
      refine seq fun K19 h19 => ?_
      intro wd e1 e2 e3 e4
      have hd := Upd.same e1 e2 e3 e4 []
      have hM20 := hM3.pure hd
      clear e1 e2 e3 e4
      refine ⟨(some [b2]), ?_⟩
      show vd _ _ _ _ _ _ _
      refine dq (v := .pointer (some ⟨bc, 0, none⟩)) (o_mv rfl) ?_
      refine dq (v := .pointer (some ⟨b2, 1, none⟩)) (o_fa rfl rfl) ?_
      refine dq (v := .pointer (some ⟨br, 0, none⟩)) (o_mv rfl) ?_
      refine dq (v := .pointer (some ⟨b2, 1, none⟩)) (o_fa rfl rfl) ?_
      refine dqld rfl (by simp [isHeld]) (v := .int .i64 n) ((hM20.at (i := 3) (j := 0) rfl rfl).cell 1) ?_
      refine dl (m_ld (v := .int .i64 n) hM20 (i := 3) (j := 0) rfl rfl rfl rfl ?_)
      refine ⟨(fun b hb => rfl), ?_⟩
      refine dl (m_call (cFixed_ok _ b a e n rC wd hC (hM20.res (i := 1) rfl) (by first | omega | (simp; done) | (simp; omega))) rfl fun v21 w21 ⟨hr21, r'21, hc21, hm21⟩ => ?_)
      have hM21 : Mem w (ids (rT ++ (rC ++ rR))) w21 [rT, r'21, rR, [⟨b2, 59, [.int .i64 op, .int .i64 n]⟩]] := hM20.step 1 rfl hm21
      subst hr21
      have hh21 := held_upd (wr := wd) (bs := [b2]) hm21.upd (fun b hb => by
        simp only [List.mem_cons, List.not_mem_nil, or_false] at hb
        rw [hb]; exact ⟨(hM20.at (i := 3) (j := 0) rfl rfl).lt, hM20.apart (i := 3) (j := 0) (k := 1) rfl rfl rfl (by decide)⟩) (fun b hb => rfl)
      refine ⟨hh21, ?_⟩
      refine dl (m_call (rFixed_ok _ b a e n rR w21 hR (hM21.res (i := 2) rfl) (by first | omega | (simp; done) | (simp; omega))) rfl fun v22 w22 ⟨hr22, r'22, hc22, hm22⟩ => ?_)
      have hM22 : Mem w (ids (rT ++ (rC ++ rR))) w22 [rT, r'21, r'22, [⟨b2, 59, [.int .i64 op, .int .i64 n]⟩]] := hM21.step 2 rfl hm22
      subst hr22
      have hh22 := held_upd (wr := wd) (bs := [b2]) hm22.upd (fun b hb => by
        simp only [List.mem_cons, List.not_mem_nil, or_false] at hb
        rw [hb]; exact ⟨(hM21.at (i := 3) (j := 0) rfl rfl).lt, hM21.apart (i := 3) (j := 0) (k := 2) rfl rfl rfl (by decide)⟩) hh21
      refine ⟨hh22, ?_⟩
      refine dq (v := .bool false) (o_bin rfl rfl v_neF) ?_
      refine h19 _ _ ?_
      clear h19
      refine cndF rfl ?_
      refine h4 _ _ ?_
      clear h4
      refine seq fun K23 h23 => ?_
      refine stp (v := .pointer (some ⟨bc, 0, none⟩)) (o_mv rfl) ?_
      refine m_call (Rest_ok _ b (cFixA b a e n) (cFixE b a e n) r'21 w22 hc21 (hM22.res (i := 1) rfl) (by first | omega | (simp; done) | (simp; omega))) rfl fun v24 w24 ⟨hr24, hm24⟩ => ?_
      have hM24 : Mem w (ids (rT ++ (rC ++ rR))) w24 [rT, r'21, r'22, [⟨b2, 59, [.int .i64 op, .int .i64 n]⟩]] := hM22.step 1 rfl hm24
      subst hr24
      refine stp (v := .pointer (some ⟨br, 0, none⟩)) (o_mv rfl) ?_
      refine m_call (rRest_ok _ b (cFixA b a e n) (cFixE b a e n) r'22 w24 hc22 (hM24.res (i := 2) rfl) (by first | omega | (simp; done) | (simp; omega))) rfl fun v25 w25 ⟨hr25, hm25⟩ => ?_
      have hM25 : Mem w (ids (rT ++ (rC ++ rR))) w25 [rT, r'21, r'22, [⟨b2, 59, [.int .i64 op, .int .i64 n]⟩]] := hM24.step 2 rfl hm25
      subst hr25
      refine stp (v := .bool true) (o_bin rfl rfl v_eqT) ?_
      refine stp (v := .bool true) (o_mv rfl) ?_
      refine splitT rfl ?_
      refine stg rfl (v := .pointer (some ⟨bc, 0, none⟩)) (o_mv rfl) ?_
      refine gyesl rfl ?_
      refine m_call (End_ok _ b (cFixA b a e n) (cFixE b a e n) r'21 w25 hc21 (hM25.res (i := 1) rfl)) rfl fun v26 w26 ⟨hr26, hm26⟩ => ?_
      have hM26 : Mem w (ids (rT ++ (rC ++ rR))) w26 [rT, r'21, r'22, [⟨b2, 59, [.int .i64 op, .int .i64 n]⟩]] := hM25.step 1 rfl hm26
      subst hr26
      refine stg rfl (v := .pointer (some ⟨br, 0, none⟩)) (o_mv rfl) ?_
      refine gyesl rfl ?_
      refine m_call (rEnd_ok _ b (cFixA b a e n) (cFixE b a e n) r'22 w26 hc22 (hM26.res (i := 2) rfl) (by first | omega | (simp; done) | (simp; omega))) rfl fun v27 w27 ⟨hr27, hm27⟩ => ?_
      have hM27 : Mem w (ids (rT ++ (rC ++ rR))) w27 [rT, r'21, r'22, [⟨b2, 59, [.int .i64 op, .int .i64 n]⟩]] := hM26.step 2 rfl hm27
      subst hr27
      refine stg rfl (v := .bool (decide ((endE b (cFixA b a e n) (cFixE b a e n)) = (endE b (cFixA b a e n) (cFixE b a e n))) && (decide ((endA b (cFixA b a e n) (cFixE b a e n) : Nat) = (endA b (cFixA b a e n) (cFixE b a e n) : Nat)) && true))) (o_aeq (t := (decide ((endE b (cFixA b a e n) (cFixE b a e n)) = (endE b (cFixA b a e n) (cFixE b a e n))) && (decide ((endA b (cFixA b a e n) (cFixE b a e n) : Nat) = (endA b (cFixA b a e n) (cFixE b a e n) : Nat)) && true))) rfl rfl (by simp [eqCs, eqC, toList_str, Int.natCast_inj]) rfl) ?_
      refine stp (v := .bool (decide ((endE b (cFixA b a e n) (cFixE b a e n)) = (endE b (cFixA b a e n) (cFixE b a e n))) && (decide ((endA b (cFixA b a e n) (cFixE b a e n) : Nat) = (endA b (cFixA b a e n) (cFixE b a e n) : Nat)) && true))) (o_pickT rfl rfl) ?_
      refine stp (v := .bool (decide ((endE b (cFixA b a e n) (cFixE b a e n)) = (endE b (cFixA b a e n) (cFixE b a e n))) && (decide ((endA b (cFixA b a e n) (cFixE b a e n) : Nat) = (endA b (cFixA b a e n) (cFixE b a e n) : Nat)) && true))) (o_mv rfl) ?_
      refine h23 _ _ ?_
      clear h23
      refine ⟨(.bool (decide ((endE b (cFixA b a e n) (cFixE b a e n)) = (endE b (cFixA b a e n) (cFixE b a e n))) && (decide ((endA b (cFixA b a e n) (cFixE b a e n) : Nat) = (endA b (cFixA b a e n) (cFixE b a e n) : Nat)) && true))), rfl, ?_⟩
      exact ⟨by simp, _, _, _, _, _, _, hT, hgc, hlc, hc21, hc22, hM27.keep (by simp)⟩
    ·
      refine seq fun K28 h28 => ?_
      refine stp (v := .bool (decide (op = 2))) (o_bin rfl rfl rfl) ?_
      refine stp (v := .bool (decide (op = 2))) (o_mv rfl) ?_
      refine h28 _ _ ?_
      clear h28
      refine cndP rfl (fun c29 => ?_) (fun c29 => ?_)
      ·
        refine seq fun K30 h30 => ?_
        refine stp (v := .pointer (some ⟨bc, 0, none⟩)) (o_mv rfl) ?_
        refine stp (v := .pointer (some ⟨b2, 1, none⟩)) (o_fa rfl rfl) ?_
        refine m_ld (v := .int .i64 n) hM3 (i := 3) (j := 0) rfl rfl rfl rfl ?_
        refine m_call (Take_ok _ b a e n rC w3 hC (hM3.res (i := 1) rfl) (by first | omega | (simp; done) | (simp; omega))) rfl fun v31 w31 ⟨r'31, rs31, hc31, hs31, hm31⟩ => ?_
        have hM31 : Mem w (ids (rT ++ (rC ++ rR))) w31 [rT, r'31, rR, [⟨b2, 59, [.int .i64 op, .int .i64 n]⟩], rs31] := hM3.stepAdd 1 rfl hm31
        refine stp (v := v31) (o_mv rfl) ?_
        refine h30 _ _ ?_
        clear h30
        refine seq fun K32 h32 => ?_
        refine stp (v := v31) (o_mv rfl) ?_
        refine stp (v := .pointer (some ⟨br, 0, none⟩)) (o_mv rfl) ?_
        refine stp (v := .pointer (some ⟨b2, 1, none⟩)) (o_fa rfl rfl) ?_
        refine m_ld (v := .int .i64 n) hM31 (i := 3) (j := 0) rfl rfl rfl rfl ?_
        refine m_call (rTake_ok _ b a e n rR w31 hR (hM31.res (i := 2) rfl) (by first | omega | (simp; done) | (simp; omega))) rfl fun v33 w33 ⟨r'33, rs33, hc33, hs33, hm33⟩ => ?_
        have hM33 : Mem w (ids (rT ++ (rC ++ rR))) w33 [rT, r'31, r'33, [⟨b2, 59, [.int .i64 op, .int .i64 n]⟩], rs31, rs33] := hM31.stepAdd 2 rfl hm33
        refine m_call (same_ok _ _ (cTk b a e n) (cTk b a e n) w33 (hs31.rd hM33 (i := 4) rfl) (hs33.rd hM33 (i := 5) rfl) (by first | omega | (simp; done) | (have h9 := tkc_len b a e n; omega))) rfl fun v34 w34 ⟨hr34, hu34⟩ => ?_
        have hM34 : Mem w (ids (rT ++ (rC ++ rR))) w34 [rT, r'31, r'33, [⟨b2, 59, [.int .i64 op, .int .i64 n]⟩], rs31, rs33] := hM33.pure hu34
        obtain rfl : v34 = .bool true := hr34.trans (by simp)
        clear hr34
        refine stp (v := .bool true) (o_mv rfl) ?_
        refine h32 _ _ ?_
        clear h32
        refine seq fun K35 h35 => ?_
        refine stp (v := .pointer (some ⟨bt, 0, none⟩)) (o_mv rfl) ?_
        refine stp (v := v31) (o_mv rfl) ?_
        refine m_call (keepS _ ts v31 (cTk b a e n) rT rs31 w34 hT hs31 (by have h9 := tkc_len b a e n; omega) (Mem.res2 hM34 0 4 rfl rfl (by decide)) (by omega) hgc) rfl fun v36 w36 ⟨ts36_, r'36, hT36, hg36_, hl36_, hm36⟩ => ?_
        have hM36 : Mem w (ids (rT ++ (rC ++ rR))) w36 [r'36, r'31, r'33, [⟨b2, 59, [.int .i64 op, .int .i64 n]⟩], [], rs33] := Mem.step2 hM34 0 4 rfl rfl (by decide) (hm36.keep (by simp) : Mem _ _ _ [r'36, []])
        have hgc := hg36_
        have hlc : ts36_.length ≤ ts.length + 1 := by omega
        refine h35 _ _ ?_
        clear h35
        refine seq fun K37 h37 => ?_
        refine stp (v := .bool true) (o_mv rfl) ?_
        refine stp (v := .bool false) (o_not rfl rfl) ?_
        refine h37 _ _ ?_
        clear h37
        refine cndF rfl ?_
        refine h4 _ _ ?_
        clear h4
        refine seq fun K38 h38 => ?_
        refine stp (v := .pointer (some ⟨bc, 0, none⟩)) (o_mv rfl) ?_
        refine m_call (Rest_ok _ b (cTkA b a e n) (cTkE b a e n) r'31 w36 hc31 (hM36.res (i := 1) rfl) (by first | omega | (simp; done) | (simp; omega))) rfl fun v39 w39 ⟨hr39, hm39⟩ => ?_
        have hM39 : Mem w (ids (rT ++ (rC ++ rR))) w39 [r'36, r'31, r'33, [⟨b2, 59, [.int .i64 op, .int .i64 n]⟩], [], rs33] := hM36.step 1 rfl hm39
        subst hr39
        refine stp (v := .pointer (some ⟨br, 0, none⟩)) (o_mv rfl) ?_
        refine m_call (rRest_ok _ b (cTkA b a e n) (cTkE b a e n) r'33 w39 hc33 (hM39.res (i := 2) rfl) (by first | omega | (simp; done) | (simp; omega))) rfl fun v40 w40 ⟨hr40, hm40⟩ => ?_
        have hM40 : Mem w (ids (rT ++ (rC ++ rR))) w40 [r'36, r'31, r'33, [⟨b2, 59, [.int .i64 op, .int .i64 n]⟩], [], rs33] := hM39.step 2 rfl hm40
        subst hr40
        refine stp (v := .bool true) (o_bin rfl rfl v_eqT) ?_
        refine stp (v := .bool true) (o_mv rfl) ?_
        refine splitT rfl ?_
        refine stg rfl (v := .pointer (some ⟨bc, 0, none⟩)) (o_mv rfl) ?_
        refine gyesl rfl ?_
        refine m_call (End_ok _ b (cTkA b a e n) (cTkE b a e n) r'31 w40 hc31 (hM40.res (i := 1) rfl)) rfl fun v41 w41 ⟨hr41, hm41⟩ => ?_
        have hM41 : Mem w (ids (rT ++ (rC ++ rR))) w41 [r'36, r'31, r'33, [⟨b2, 59, [.int .i64 op, .int .i64 n]⟩], [], rs33] := hM40.step 1 rfl hm41
        subst hr41
        refine stg rfl (v := .pointer (some ⟨br, 0, none⟩)) (o_mv rfl) ?_
        refine gyesl rfl ?_
        refine m_call (rEnd_ok _ b (cTkA b a e n) (cTkE b a e n) r'33 w41 hc33 (hM41.res (i := 2) rfl) (by first | omega | (simp; done) | (simp; omega))) rfl fun v42 w42 ⟨hr42, hm42⟩ => ?_
        have hM42 : Mem w (ids (rT ++ (rC ++ rR))) w42 [r'36, r'31, r'33, [⟨b2, 59, [.int .i64 op, .int .i64 n]⟩], [], rs33] := hM41.step 2 rfl hm42
        subst hr42
        refine stg rfl (v := .bool (decide ((endE b (cTkA b a e n) (cTkE b a e n)) = (endE b (cTkA b a e n) (cTkE b a e n))) && (decide ((endA b (cTkA b a e n) (cTkE b a e n) : Nat) = (endA b (cTkA b a e n) (cTkE b a e n) : Nat)) && true))) (o_aeq (t := (decide ((endE b (cTkA b a e n) (cTkE b a e n)) = (endE b (cTkA b a e n) (cTkE b a e n))) && (decide ((endA b (cTkA b a e n) (cTkE b a e n) : Nat) = (endA b (cTkA b a e n) (cTkE b a e n) : Nat)) && true))) rfl rfl (by simp [eqCs, eqC, toList_str, Int.natCast_inj]) rfl) ?_
        refine stp (v := .bool (decide ((endE b (cTkA b a e n) (cTkE b a e n)) = (endE b (cTkA b a e n) (cTkE b a e n))) && (decide ((endA b (cTkA b a e n) (cTkE b a e n) : Nat) = (endA b (cTkA b a e n) (cTkE b a e n) : Nat)) && true))) (o_pickT rfl rfl) ?_
        refine stp (v := .bool (decide ((endE b (cTkA b a e n) (cTkE b a e n)) = (endE b (cTkA b a e n) (cTkE b a e n))) && (decide ((endA b (cTkA b a e n) (cTkE b a e n) : Nat) = (endA b (cTkA b a e n) (cTkE b a e n) : Nat)) && true))) (o_mv rfl) ?_
        refine h38 _ _ ?_
        clear h38
        refine ⟨(.bool (decide ((endE b (cTkA b a e n) (cTkE b a e n)) = (endE b (cTkA b a e n) (cTkE b a e n))) && (decide ((endA b (cTkA b a e n) (cTkE b a e n) : Nat) = (endA b (cTkA b a e n) (cTkE b a e n) : Nat)) && true))), rfl, ?_⟩
        exact ⟨by simp, _, _, _, _, _, _, hT36, hgc, hlc, hc31, hc33, hM42.keep (by simp)⟩
      ·
        refine seq fun K43 h43 => ?_
        refine stp (v := .bool (decide (op = 3))) (o_bin rfl rfl rfl) ?_
        refine stp (v := .bool (decide (op = 3))) (o_mv rfl) ?_
        refine h43 _ _ ?_
        clear h43
        refine cndP rfl (fun c44 => ?_) (fun c44 => ?_)
        ·
          refine seq fun K45 h45 => ?_
          intro wd e1 e2 e3 e4
          have hd := Upd.same e1 e2 e3 e4 []
          have hM46 := hM3.pure hd
          clear e1 e2 e3 e4
          refine ⟨(some [b2]), ?_⟩
          show vd _ _ _ _ _ _ _
          refine dq (v := .pointer (some ⟨bc, 0, none⟩)) (o_mv rfl) ?_
          refine dq (v := .pointer (some ⟨b2, 1, none⟩)) (o_fa rfl rfl) ?_
          refine dq (v := .pointer (some ⟨br, 0, none⟩)) (o_mv rfl) ?_
          refine dq (v := .pointer (some ⟨b2, 1, none⟩)) (o_fa rfl rfl) ?_
          refine dqld rfl (by simp [isHeld]) (v := .int .i64 n) ((hM46.at (i := 3) (j := 0) rfl rfl).cell 1) ?_
          refine dl (m_ld (v := .int .i64 n) hM46 (i := 3) (j := 0) rfl rfl rfl rfl ?_)
          refine ⟨(fun b hb => rfl), ?_⟩
          refine dl (m_call (Text_ok _ b a e n rC wd hC (hM46.res (i := 1) rfl) (by first | omega | (simp; done) | (simp; omega))) rfl fun v47 w47 ⟨hr47, r'47, hc47, hm47⟩ => ?_)
          have hM47 : Mem w (ids (rT ++ (rC ++ rR))) w47 [rT, r'47, rR, [⟨b2, 59, [.int .i64 op, .int .i64 n]⟩]] := hM46.step 1 rfl hm47
          subst hr47
          have hh47 := held_upd (wr := wd) (bs := [b2]) hm47.upd (fun b hb => by
            simp only [List.mem_cons, List.not_mem_nil, or_false] at hb
            rw [hb]; exact ⟨(hM46.at (i := 3) (j := 0) rfl rfl).lt, hM46.apart (i := 3) (j := 0) (k := 1) rfl rfl rfl (by decide)⟩) (fun b hb => rfl)
          refine ⟨hh47, ?_⟩
          refine dl (m_call (rText_ok _ b a e n rR w47 hR (hM47.res (i := 2) rfl) (by first | omega | (simp; done) | (simp; omega))) rfl fun v48 w48 ⟨hr48, r'48, hc48, hm48⟩ => ?_)
          have hM48 : Mem w (ids (rT ++ (rC ++ rR))) w48 [rT, r'47, r'48, [⟨b2, 59, [.int .i64 op, .int .i64 n]⟩]] := hM47.step 2 rfl hm48
          subst hr48
          have hh48 := held_upd (wr := wd) (bs := [b2]) hm48.upd (fun b hb => by
            simp only [List.mem_cons, List.not_mem_nil, or_false] at hb
            rw [hb]; exact ⟨(hM47.at (i := 3) (j := 0) rfl rfl).lt, hM47.apart (i := 3) (j := 0) (k := 2) rfl rfl rfl (by decide)⟩) hh47
          refine ⟨hh48, ?_⟩
          refine dq (v := .bool (decide (¬ (cTx b a e n) = (cTx b a e n)))) (o_sne rfl rfl rfl) ?_
          refine h45 _ _ ?_
          clear h45
          refine cndP rfl (fun c49 => absurd c49 (by simp)) (fun c49 => ?_)
          refine h4 _ _ ?_
          clear h4
          refine seq fun K50 h50 => ?_
          refine stp (v := .pointer (some ⟨bc, 0, none⟩)) (o_mv rfl) ?_
          refine m_call (Rest_ok _ b (cTxA b a e n) (cTxE b a e n) r'47 w48 hc47 (hM48.res (i := 1) rfl) (by first | omega | (simp; done) | (simp; omega))) rfl fun v51 w51 ⟨hr51, hm51⟩ => ?_
          have hM51 : Mem w (ids (rT ++ (rC ++ rR))) w51 [rT, r'47, r'48, [⟨b2, 59, [.int .i64 op, .int .i64 n]⟩]] := hM48.step 1 rfl hm51
          subst hr51
          refine stp (v := .pointer (some ⟨br, 0, none⟩)) (o_mv rfl) ?_
          refine m_call (rRest_ok _ b (cTxA b a e n) (cTxE b a e n) r'48 w51 hc48 (hM51.res (i := 2) rfl) (by first | omega | (simp; done) | (simp; omega))) rfl fun v52 w52 ⟨hr52, hm52⟩ => ?_
          have hM52 : Mem w (ids (rT ++ (rC ++ rR))) w52 [rT, r'47, r'48, [⟨b2, 59, [.int .i64 op, .int .i64 n]⟩]] := hM51.step 2 rfl hm52
          subst hr52
          refine stp (v := .bool true) (o_bin rfl rfl v_eqT) ?_
          refine stp (v := .bool true) (o_mv rfl) ?_
          refine splitT rfl ?_
          refine stg rfl (v := .pointer (some ⟨bc, 0, none⟩)) (o_mv rfl) ?_
          refine gyesl rfl ?_
          refine m_call (End_ok _ b (cTxA b a e n) (cTxE b a e n) r'47 w52 hc47 (hM52.res (i := 1) rfl)) rfl fun v53 w53 ⟨hr53, hm53⟩ => ?_
          have hM53 : Mem w (ids (rT ++ (rC ++ rR))) w53 [rT, r'47, r'48, [⟨b2, 59, [.int .i64 op, .int .i64 n]⟩]] := hM52.step 1 rfl hm53
          subst hr53
          refine stg rfl (v := .pointer (some ⟨br, 0, none⟩)) (o_mv rfl) ?_
          refine gyesl rfl ?_
          refine m_call (rEnd_ok _ b (cTxA b a e n) (cTxE b a e n) r'48 w53 hc48 (hM53.res (i := 2) rfl) (by first | omega | (simp; done) | (simp; omega))) rfl fun v54 w54 ⟨hr54, hm54⟩ => ?_
          have hM54 : Mem w (ids (rT ++ (rC ++ rR))) w54 [rT, r'47, r'48, [⟨b2, 59, [.int .i64 op, .int .i64 n]⟩]] := hM53.step 2 rfl hm54
          subst hr54
          refine stg rfl (v := .bool (decide ((endE b (cTxA b a e n) (cTxE b a e n)) = (endE b (cTxA b a e n) (cTxE b a e n))) && (decide ((endA b (cTxA b a e n) (cTxE b a e n) : Nat) = (endA b (cTxA b a e n) (cTxE b a e n) : Nat)) && true))) (o_aeq (t := (decide ((endE b (cTxA b a e n) (cTxE b a e n)) = (endE b (cTxA b a e n) (cTxE b a e n))) && (decide ((endA b (cTxA b a e n) (cTxE b a e n) : Nat) = (endA b (cTxA b a e n) (cTxE b a e n) : Nat)) && true))) rfl rfl (by simp [eqCs, eqC, toList_str, Int.natCast_inj]) rfl) ?_
          refine stp (v := .bool (decide ((endE b (cTxA b a e n) (cTxE b a e n)) = (endE b (cTxA b a e n) (cTxE b a e n))) && (decide ((endA b (cTxA b a e n) (cTxE b a e n) : Nat) = (endA b (cTxA b a e n) (cTxE b a e n) : Nat)) && true))) (o_pickT rfl rfl) ?_
          refine stp (v := .bool (decide ((endE b (cTxA b a e n) (cTxE b a e n)) = (endE b (cTxA b a e n) (cTxE b a e n))) && (decide ((endA b (cTxA b a e n) (cTxE b a e n) : Nat) = (endA b (cTxA b a e n) (cTxE b a e n) : Nat)) && true))) (o_mv rfl) ?_
          refine h50 _ _ ?_
          clear h50
          refine ⟨(.bool (decide ((endE b (cTxA b a e n) (cTxE b a e n)) = (endE b (cTxA b a e n) (cTxE b a e n))) && (decide ((endA b (cTxA b a e n) (cTxE b a e n) : Nat) = (endA b (cTxA b a e n) (cTxE b a e n) : Nat)) && true))), rfl, ?_⟩
          exact ⟨by simp, _, _, _, _, _, _, hT, hgc, hlc, hc47, hc48, hM54.keep (by simp)⟩
        ·
          refine seq fun K55 h55 => ?_
          refine stp (v := .bool (decide (op = 4))) (o_bin rfl rfl rfl) ?_
          refine stp (v := .bool (decide (op = 4))) (o_mv rfl) ?_
          refine h55 _ _ ?_
          clear h55
          refine cndP rfl (fun c56 => ?_) (fun c56 => ?_)
          ·
            refine seq fun K57 h57 => ?_
            refine stp (v := .pointer (some ⟨bc, 0, none⟩)) (o_mv rfl) ?_
            refine stp (v := .pointer (some ⟨b2, 1, none⟩)) (o_fa rfl rfl) ?_
            refine m_ld (v := .int .i64 n) hM3 (i := 3) (j := 0) rfl rfl rfl rfl ?_
            refine m_call (Fail_ok _ b a e n rC w3 hC (hM3.res (i := 1) rfl) (by first | omega | (simp; done) | (simp; omega))) rfl fun v58 w58 ⟨r'58, hc58, hm58⟩ => ?_
            have hM58 : Mem w (ids (rT ++ (rC ++ rR))) w58 [rT, r'58, rR, [⟨b2, 59, [.int .i64 op, .int .i64 n]⟩]] := hM3.step 1 rfl hm58
            refine h57 _ _ ?_
            clear h57
            refine stp (v := .pointer (some ⟨br, 0, none⟩)) (o_mv rfl) ?_
            refine stp (v := .pointer (some ⟨b2, 1, none⟩)) (o_fa rfl rfl) ?_
            refine m_ld (v := .int .i64 n) hM58 (i := 3) (j := 0) rfl rfl rfl rfl ?_
            refine m_call (rFail_ok _ b a e n rR w58 hR (hM58.res (i := 2) rfl)) rfl fun v59 w59 ⟨r'59, hc59, hm59⟩ => ?_
            have hM59 : Mem w (ids (rT ++ (rC ++ rR))) w59 [rT, r'58, r'59, [⟨b2, 59, [.int .i64 op, .int .i64 n]⟩]] := hM58.step 2 rfl hm59
            refine h4 _ _ ?_
            clear h4
            refine seq fun K60 h60 => ?_
            refine stp (v := .pointer (some ⟨bc, 0, none⟩)) (o_mv rfl) ?_
            refine m_call (Rest_ok _ b a (if e = 0 then n else e) r'58 w59 hc58 (hM59.res (i := 1) rfl) (by first | omega | (simp; done) | (simp; omega))) rfl fun v61 w61 ⟨hr61, hm61⟩ => ?_
            have hM61 : Mem w (ids (rT ++ (rC ++ rR))) w61 [rT, r'58, r'59, [⟨b2, 59, [.int .i64 op, .int .i64 n]⟩]] := hM59.step 1 rfl hm61
            subst hr61
            refine stp (v := .pointer (some ⟨br, 0, none⟩)) (o_mv rfl) ?_
            refine m_call (rRest_ok _ b a (if e = 0 then n else e) r'59 w61 hc59 (hM61.res (i := 2) rfl) (by first | omega | (simp; done) | (simp; omega))) rfl fun v62 w62 ⟨hr62, hm62⟩ => ?_
            have hM62 : Mem w (ids (rT ++ (rC ++ rR))) w62 [rT, r'58, r'59, [⟨b2, 59, [.int .i64 op, .int .i64 n]⟩]] := hM61.step 2 rfl hm62
            subst hr62
            refine stp (v := .bool true) (o_bin rfl rfl v_eqT) ?_
            refine stp (v := .bool true) (o_mv rfl) ?_
            refine splitT rfl ?_
            refine stg rfl (v := .pointer (some ⟨bc, 0, none⟩)) (o_mv rfl) ?_
            refine gyesl rfl ?_
            refine m_call (End_ok _ b a (if e = 0 then n else e) r'58 w62 hc58 (hM62.res (i := 1) rfl)) rfl fun v63 w63 ⟨hr63, hm63⟩ => ?_
            have hM63 : Mem w (ids (rT ++ (rC ++ rR))) w63 [rT, r'58, r'59, [⟨b2, 59, [.int .i64 op, .int .i64 n]⟩]] := hM62.step 1 rfl hm63
            subst hr63
            refine stg rfl (v := .pointer (some ⟨br, 0, none⟩)) (o_mv rfl) ?_
            refine gyesl rfl ?_
            refine m_call (rEnd_ok _ b a (if e = 0 then n else e) r'59 w63 hc59 (hM63.res (i := 2) rfl) (by first | omega | (simp; done) | (simp; omega))) rfl fun v64 w64 ⟨hr64, hm64⟩ => ?_
            have hM64 : Mem w (ids (rT ++ (rC ++ rR))) w64 [rT, r'58, r'59, [⟨b2, 59, [.int .i64 op, .int .i64 n]⟩]] := hM63.step 2 rfl hm64
            subst hr64
            refine stg rfl (v := .bool (decide ((endE b a (if e = 0 then n else e)) = (endE b a (if e = 0 then n else e))) && (decide ((endA b a (if e = 0 then n else e) : Nat) = (endA b a (if e = 0 then n else e) : Nat)) && true))) (o_aeq (t := (decide ((endE b a (if e = 0 then n else e)) = (endE b a (if e = 0 then n else e))) && (decide ((endA b a (if e = 0 then n else e) : Nat) = (endA b a (if e = 0 then n else e) : Nat)) && true))) rfl rfl (by simp [eqCs, eqC, toList_str, Int.natCast_inj]) rfl) ?_
            refine stp (v := .bool (decide ((endE b a (if e = 0 then n else e)) = (endE b a (if e = 0 then n else e))) && (decide ((endA b a (if e = 0 then n else e) : Nat) = (endA b a (if e = 0 then n else e) : Nat)) && true))) (o_pickT rfl rfl) ?_
            refine stp (v := .bool (decide ((endE b a (if e = 0 then n else e)) = (endE b a (if e = 0 then n else e))) && (decide ((endA b a (if e = 0 then n else e) : Nat) = (endA b a (if e = 0 then n else e) : Nat)) && true))) (o_mv rfl) ?_
            refine h60 _ _ ?_
            clear h60
            refine ⟨(.bool (decide ((endE b a (if e = 0 then n else e)) = (endE b a (if e = 0 then n else e))) && (decide ((endA b a (if e = 0 then n else e) : Nat) = (endA b a (if e = 0 then n else e) : Nat)) && true))), rfl, ?_⟩
            exact ⟨by simp, _, _, _, _, _, _, hT, hgc, hlc, hc58, hc59, hM64.keep (by simp)⟩
          ·
            refine h4 _ _ ?_
            clear h4
            refine seq fun K65 h65 => ?_
            refine stp (v := .pointer (some ⟨bc, 0, none⟩)) (o_mv rfl) ?_
            refine m_call (Rest_ok _ b a e rC w3 hC (hM3.res (i := 1) rfl) (by first | omega | (simp; done) | (simp; omega))) rfl fun v66 w66 ⟨hr66, hm66⟩ => ?_
            have hM66 : Mem w (ids (rT ++ (rC ++ rR))) w66 [rT, rC, rR, [⟨b2, 59, [.int .i64 op, .int .i64 n]⟩]] := hM3.step 1 rfl hm66
            subst hr66
            refine stp (v := .pointer (some ⟨br, 0, none⟩)) (o_mv rfl) ?_
            refine m_call (rRest_ok _ b a e rR w66 hR (hM66.res (i := 2) rfl) (by first | omega | (simp; done) | (simp; omega))) rfl fun v67 w67 ⟨hr67, hm67⟩ => ?_
            have hM67 : Mem w (ids (rT ++ (rC ++ rR))) w67 [rT, rC, rR, [⟨b2, 59, [.int .i64 op, .int .i64 n]⟩]] := hM66.step 2 rfl hm67
            subst hr67
            refine stp (v := .bool true) (o_bin rfl rfl v_eqT) ?_
            refine stp (v := .bool true) (o_mv rfl) ?_
            refine splitT rfl ?_
            refine stg rfl (v := .pointer (some ⟨bc, 0, none⟩)) (o_mv rfl) ?_
            refine gyesl rfl ?_
            refine m_call (End_ok _ b a e rC w67 hC (hM67.res (i := 1) rfl)) rfl fun v68 w68 ⟨hr68, hm68⟩ => ?_
            have hM68 : Mem w (ids (rT ++ (rC ++ rR))) w68 [rT, rC, rR, [⟨b2, 59, [.int .i64 op, .int .i64 n]⟩]] := hM67.step 1 rfl hm68
            subst hr68
            refine stg rfl (v := .pointer (some ⟨br, 0, none⟩)) (o_mv rfl) ?_
            refine gyesl rfl ?_
            refine m_call (rEnd_ok _ b a e rR w68 hR (hM68.res (i := 2) rfl) (by first | omega | (simp; done) | (simp; omega))) rfl fun v69 w69 ⟨hr69, hm69⟩ => ?_
            have hM69 : Mem w (ids (rT ++ (rC ++ rR))) w69 [rT, rC, rR, [⟨b2, 59, [.int .i64 op, .int .i64 n]⟩]] := hM68.step 2 rfl hm69
            subst hr69
            refine stg rfl (v := .bool (decide ((endE b a e) = (endE b a e)) && (decide ((endA b a e : Nat) = (endA b a e : Nat)) && true))) (o_aeq (t := (decide ((endE b a e) = (endE b a e)) && (decide ((endA b a e : Nat) = (endA b a e : Nat)) && true))) rfl rfl (by simp [eqCs, eqC, toList_str, Int.natCast_inj]) rfl) ?_
            refine stp (v := .bool (decide ((endE b a e) = (endE b a e)) && (decide ((endA b a e : Nat) = (endA b a e : Nat)) && true))) (o_pickT rfl rfl) ?_
            refine stp (v := .bool (decide ((endE b a e) = (endE b a e)) && (decide ((endA b a e : Nat) = (endA b a e : Nat)) && true))) (o_mv rfl) ?_
            refine h65 _ _ ?_
            clear h65
            refine ⟨(.bool (decide ((endE b a e) = (endE b a e)) && (decide ((endA b a e : Nat) = (endA b a e : Nat)) && true))), rfl, ?_⟩
            exact ⟨by simp, _, _, _, _, _, _, hT, hgc, hlc, hC, hR, hM69.keep (by simp)⟩

/-- (*winnowlaw2.Taken).told -/
theorem told_nil (bt : Nat) (op n : Int) (ts : List Tn) (rT : List Ent) (w : World) (hT : TkS bt ts rT) (hg : Tg odd ts) (htl : ts.length ≤ 4294967294) (hop : inK .i64 op) (hn : inK .i64 n) (hr : Res w rT) : Calls Try.prog 34 [.pointer (some ⟨bt, 0, none⟩), .pointer none, .pointer none, .agg [.int .i64 op, .int .i64 n].toArray].toArray w (Rt fun r w' => r = .bool true ∧ ∃ ts' rT', TkS bt ts' rT' ∧ Tg odd ts' ∧ ts'.length ≤ ts.length + 1 ∧ Mem w (ids rT) w' [rT']) := by
  have hM0 : Mem w (ids rT) w [rT] := Mem.start hr
  simp only [inK] at hop hn
  have hgc := hg
  have hlc : ts.length ≤ ts.length + 1 := by omega
  refine calls_vc mixed Try.func34 rfl C34 (by simp [Try.ntmps34]) ?_
  refine seq fun K1 h1 => ?_
  refine m_bx (v := .agg ([.int .i64 op, .int .i64 n] : List Value).toArray) hM0 rfl rfl fun b2 w3 (hM3 : Mem w (ids rT) w3 [rT, [⟨b2, 59, [.int .i64 op, .int .i64 n]⟩]]) => ?_
  refine stp (v := .bool false) (o_mv rfl) ?_
  refine h1 _ _ ?_
  clear h1
  refine seq fun K4 h4 => ?_
  refine seq fun K5 h5 => ?_
  refine stp (v := .pointer (some ⟨b2, 0, none⟩)) (o_fa rfl rfl) ?_
  refine m_ld (v := .int .i64 op) hM3 (i := 1) (j := 0) rfl rfl rfl rfl ?_
  refine h5 _ _ ?_
  clear h5
  refine seq fun K6 h6 => ?_
  refine stp (v := .bool (decide (op = 0))) (o_bin rfl rfl rfl) ?_
  refine stp (v := .bool (decide (op = 0))) (o_mv rfl) ?_
  refine h6 _ _ ?_
  clear h6
  refine cndP rfl (fun c7 => ?_) (fun c7 => ?_)
  ·
    refine seq fun K8 h8 => ?_
    intro wd e1 e2 e3 e4
    have hd := Upd.same e1 e2 e3 e4 []
    have hM9 := hM3.pure hd
    clear e1 e2 e3 e4
    refine ⟨(some [b2]), ?_⟩
    show vd _ _ _ _ _ _ _
    refine dq (v := .pointer none) (o_mv rfl) ?_
    refine dq (v := .pointer (some ⟨b2, 1, none⟩)) (o_fa rfl rfl) ?_
    refine dq (v := .pointer none) (o_mv rfl) ?_
    refine dq (v := .pointer (some ⟨b2, 1, none⟩)) (o_fa rfl rfl) ?_
    refine dqld rfl (by simp [isHeld]) (v := .int .i64 n) ((hM9.at (i := 1) (j := 0) rfl rfl).cell 1) ?_
    refine dl (m_ld (v := .int .i64 n) hM9 (i := 1) (j := 0) rfl rfl rfl rfl ?_)
    refine ⟨(fun b hb => rfl), ?_⟩
    refine dl (m_call (Num_nil n wd) rfl fun v10 w10 ⟨hr10, hu10⟩ => ?_)
    have hM10 : Mem w (ids rT) w10 [rT, [⟨b2, 59, [.int .i64 op, .int .i64 n]⟩]] := hM9.pure hu10
    subst hr10
    have hh10 := held_upd (wr := wd) (bs := [b2]) hu10 (fun b hb => by
      simp only [List.mem_cons, List.not_mem_nil, or_false] at hb
      rw [hb]; exact ⟨(hM9.at (i := 1) (j := 0) rfl rfl).lt, by simp⟩) (fun b hb => rfl)
    refine ⟨hh10, ?_⟩
    refine dl (m_call (rNum_nil n w10) rfl fun v11 w11 ⟨hr11, hu11⟩ => ?_)
    have hM11 : Mem w (ids rT) w11 [rT, [⟨b2, 59, [.int .i64 op, .int .i64 n]⟩]] := hM10.pure hu11
    subst hr11
    have hh11 := held_upd (wr := wd) (bs := [b2]) hu11 (fun b hb => by
      simp only [List.mem_cons, List.not_mem_nil, or_false] at hb
      rw [hb]; exact ⟨(hM10.at (i := 1) (j := 0) rfl rfl).lt, by simp⟩) hh10
    refine ⟨hh11, ?_⟩
    refine dq (v := .bool false) (o_bin rfl rfl v_neF) ?_
    refine h8 _ _ ?_
    clear h8
    refine cndF rfl ?_
    refine h4 _ _ ?_
    clear h4
    refine seq fun K12 h12 => ?_
    refine stp (v := .pointer none) (o_mv rfl) ?_
    refine m_call (Rest_nil w11) rfl fun v13 w13 ⟨hr13, hu13⟩ => ?_
    have hM13 : Mem w (ids rT) w13 [rT, [⟨b2, 59, [.int .i64 op, .int .i64 n]⟩]] := hM11.pure hu13
    subst hr13
    refine stp (v := .pointer none) (o_mv rfl) ?_
    refine m_call (rRest_nil w13) rfl fun v14 w14 ⟨hr14, hu14⟩ => ?_
    have hM14 : Mem w (ids rT) w14 [rT, [⟨b2, 59, [.int .i64 op, .int .i64 n]⟩]] := hM13.pure hu14
    subst hr14
    refine stp (v := .bool true) (o_bin rfl rfl v_eqT) ?_
    refine stp (v := .bool true) (o_mv rfl) ?_
    refine splitT rfl ?_
    refine stg rfl (v := .pointer none) (o_mv rfl) ?_
    refine gyesl rfl ?_
    refine m_call (End_nil w14) rfl fun v15 w15 ⟨hr15, hu15⟩ => ?_
    have hM15 : Mem w (ids rT) w15 [rT, [⟨b2, 59, [.int .i64 op, .int .i64 n]⟩]] := hM14.pure hu15
    subst hr15
    refine stg rfl (v := .pointer none) (o_mv rfl) ?_
    refine gyesl rfl ?_
    refine m_call (rEnd_nil w15) rfl fun v16 w16 ⟨hr16, hu16⟩ => ?_
    have hM16 : Mem w (ids rT) w16 [rT, [⟨b2, 59, [.int .i64 op, .int .i64 n]⟩]] := hM15.pure hu16
    subst hr16
    refine stg rfl (v := .bool (decide (1 = 1) && (decide (0 = 0) && true))) (o_aeq (t := (decide (1 = 1) && (decide (0 = 0) && true))) rfl rfl (by simp [eqCs, eqC, toList_str, Int.natCast_inj]) rfl) ?_
    refine stp (v := .bool (decide (1 = 1) && (decide (0 = 0) && true))) (o_pickT rfl rfl) ?_
    refine stp (v := .bool (decide (1 = 1) && (decide (0 = 0) && true))) (o_mv rfl) ?_
    refine h12 _ _ ?_
    clear h12
    refine ⟨(.bool (decide (1 = 1) && (decide (0 = 0) && true))), rfl, ?_⟩
    exact ⟨by simp, _, _, hT, hgc, hlc, hM16.keep (by simp)⟩
  ·
    refine seq fun K17 h17 => ?_
    refine stp (v := .bool (decide (op = 1))) (o_bin rfl rfl rfl) ?_
    refine stp (v := .bool (decide (op = 1))) (o_mv rfl) ?_
    refine h17 _ _ ?_
    clear h17
    refine cndP rfl (fun c18 => ?_) (fun c18 => ?_)
    ·
      refine seq fun K19 h19 => ?_
      intro wd e1 e2 e3 e4
      have hd := Upd.same e1 e2 e3 e4 []
      have hM20 := hM3.pure hd
      clear e1 e2 e3 e4
      refine ⟨(some [b2]), ?_⟩
      show vd _ _ _ _ _ _ _
      refine dq (v := .pointer none) (o_mv rfl) ?_
      refine dq (v := .pointer (some ⟨b2, 1, none⟩)) (o_fa rfl rfl) ?_
      refine dq (v := .pointer none) (o_mv rfl) ?_
      refine dq (v := .pointer (some ⟨b2, 1, none⟩)) (o_fa rfl rfl) ?_
      refine dqld rfl (by simp [isHeld]) (v := .int .i64 n) ((hM20.at (i := 1) (j := 0) rfl rfl).cell 1) ?_
      refine dl (m_ld (v := .int .i64 n) hM20 (i := 1) (j := 0) rfl rfl rfl rfl ?_)
      refine ⟨(fun b hb => rfl), ?_⟩
      refine dl (m_call (Fixed_nil n wd) rfl fun v21 w21 ⟨hr21, hu21⟩ => ?_)
      have hM21 : Mem w (ids rT) w21 [rT, [⟨b2, 59, [.int .i64 op, .int .i64 n]⟩]] := hM20.pure hu21
      subst hr21
      have hh21 := held_upd (wr := wd) (bs := [b2]) hu21 (fun b hb => by
        simp only [List.mem_cons, List.not_mem_nil, or_false] at hb
        rw [hb]; exact ⟨(hM20.at (i := 1) (j := 0) rfl rfl).lt, by simp⟩) (fun b hb => rfl)
      refine ⟨hh21, ?_⟩
      refine dl (m_call (rFixed_nil n w21) rfl fun v22 w22 ⟨hr22, hu22⟩ => ?_)
      have hM22 : Mem w (ids rT) w22 [rT, [⟨b2, 59, [.int .i64 op, .int .i64 n]⟩]] := hM21.pure hu22
      subst hr22
      have hh22 := held_upd (wr := wd) (bs := [b2]) hu22 (fun b hb => by
        simp only [List.mem_cons, List.not_mem_nil, or_false] at hb
        rw [hb]; exact ⟨(hM21.at (i := 1) (j := 0) rfl rfl).lt, by simp⟩) hh21
      refine ⟨hh22, ?_⟩
      refine dq (v := .bool false) (o_bin rfl rfl v_neF) ?_
      refine h19 _ _ ?_
      clear h19
      refine cndF rfl ?_
      refine h4 _ _ ?_
      clear h4
      refine seq fun K23 h23 => ?_
      refine stp (v := .pointer none) (o_mv rfl) ?_
      refine m_call (Rest_nil w22) rfl fun v24 w24 ⟨hr24, hu24⟩ => ?_
      have hM24 : Mem w (ids rT) w24 [rT, [⟨b2, 59, [.int .i64 op, .int .i64 n]⟩]] := hM22.pure hu24
      subst hr24
      refine stp (v := .pointer none) (o_mv rfl) ?_
      refine m_call (rRest_nil w24) rfl fun v25 w25 ⟨hr25, hu25⟩ => ?_
      have hM25 : Mem w (ids rT) w25 [rT, [⟨b2, 59, [.int .i64 op, .int .i64 n]⟩]] := hM24.pure hu25
      subst hr25
      refine stp (v := .bool true) (o_bin rfl rfl v_eqT) ?_
      refine stp (v := .bool true) (o_mv rfl) ?_
      refine splitT rfl ?_
      refine stg rfl (v := .pointer none) (o_mv rfl) ?_
      refine gyesl rfl ?_
      refine m_call (End_nil w25) rfl fun v26 w26 ⟨hr26, hu26⟩ => ?_
      have hM26 : Mem w (ids rT) w26 [rT, [⟨b2, 59, [.int .i64 op, .int .i64 n]⟩]] := hM25.pure hu26
      subst hr26
      refine stg rfl (v := .pointer none) (o_mv rfl) ?_
      refine gyesl rfl ?_
      refine m_call (rEnd_nil w26) rfl fun v27 w27 ⟨hr27, hu27⟩ => ?_
      have hM27 : Mem w (ids rT) w27 [rT, [⟨b2, 59, [.int .i64 op, .int .i64 n]⟩]] := hM26.pure hu27
      subst hr27
      refine stg rfl (v := .bool (decide (1 = 1) && (decide (0 = 0) && true))) (o_aeq (t := (decide (1 = 1) && (decide (0 = 0) && true))) rfl rfl (by simp [eqCs, eqC, toList_str, Int.natCast_inj]) rfl) ?_
      refine stp (v := .bool (decide (1 = 1) && (decide (0 = 0) && true))) (o_pickT rfl rfl) ?_
      refine stp (v := .bool (decide (1 = 1) && (decide (0 = 0) && true))) (o_mv rfl) ?_
      refine h23 _ _ ?_
      clear h23
      refine ⟨(.bool (decide (1 = 1) && (decide (0 = 0) && true))), rfl, ?_⟩
      exact ⟨by simp, _, _, hT, hgc, hlc, hM27.keep (by simp)⟩
    ·
      refine seq fun K28 h28 => ?_
      refine stp (v := .bool (decide (op = 2))) (o_bin rfl rfl rfl) ?_
      refine stp (v := .bool (decide (op = 2))) (o_mv rfl) ?_
      refine h28 _ _ ?_
      clear h28
      refine cndP rfl (fun c29 => ?_) (fun c29 => ?_)
      ·
        refine seq fun K30 h30 => ?_
        refine stp (v := .pointer none) (o_mv rfl) ?_
        refine stp (v := .pointer (some ⟨b2, 1, none⟩)) (o_fa rfl rfl) ?_
        refine m_ld (v := .int .i64 n) hM3 (i := 1) (j := 0) rfl rfl rfl rfl ?_
        refine m_call (Take_nil n w3) rfl fun v31 w31 ⟨hr31, hu31⟩ => ?_
        have hM31 : Mem w (ids rT) w31 [rT, [⟨b2, 59, [.int .i64 op, .int .i64 n]⟩]] := hM3.pure hu31
        subst hr31
        refine stp (v := .slice none 0 0) (o_mv rfl) ?_
        refine h30 _ _ ?_
        clear h30
        refine seq fun K32 h32 => ?_
        refine stp (v := .slice none 0 0) (o_mv rfl) ?_
        refine stp (v := .pointer none) (o_mv rfl) ?_
        refine stp (v := .pointer (some ⟨b2, 1, none⟩)) (o_fa rfl rfl) ?_
        refine m_ld (v := .int .i64 n) hM31 (i := 1) (j := 0) rfl rfl rfl rfl ?_
        refine m_call (rTake_nil n w31) rfl fun v33 w33 ⟨hr33, hu33⟩ => ?_
        have hM33 : Mem w (ids rT) w33 [rT, [⟨b2, 59, [.int .i64 op, .int .i64 n]⟩]] := hM31.pure hu33
        subst hr33
        refine m_call (same_ok _ _ ([]) ([]) w33 (Rd.nilE byteV _) (Rd.nilE byteV _) (by first | omega | (simp; done) | (have h9 := tkc_len b a e n; omega))) rfl fun v34 w34 ⟨hr34, hu34⟩ => ?_
        have hM34 : Mem w (ids rT) w34 [rT, [⟨b2, 59, [.int .i64 op, .int .i64 n]⟩]] := hM33.pure hu34
        obtain rfl : v34 = .bool true := hr34.trans (by simp)
        clear hr34
        refine stp (v := .bool true) (o_mv rfl) ?_
        refine h32 _ _ ?_
        clear h32
        refine seq fun K35 h35 => ?_
        refine stp (v := .pointer (some ⟨bt, 0, none⟩)) (o_mv rfl) ?_
        refine stp (v := .slice none 0 0) (o_mv rfl) ?_
        refine m_call (keepS _ ts (.slice none 0 0) [] rT [] w34 hT (Sl.nil 1 5) (by simp) ((by rw [List.append_nil]; exact hM34.res (i := 0) rfl)) (by omega) hgc) rfl fun v36 w36 ⟨ts36_, r'36, hT36, hg36_, hl36_, hm36⟩ => ?_
        have hM36 : Mem w (ids rT) w36 [r'36, [⟨b2, 59, [.int .i64 op, .int .i64 n]⟩]] := hM34.step 0 rfl (by have h9 := hm36; rwa [List.append_nil] at h9)
        have hgc := hg36_
        have hlc : ts36_.length ≤ ts.length + 1 := by omega
        refine h35 _ _ ?_
        clear h35
        refine seq fun K37 h37 => ?_
        refine stp (v := .bool true) (o_mv rfl) ?_
        refine stp (v := .bool false) (o_not rfl rfl) ?_
        refine h37 _ _ ?_
        clear h37
        refine cndF rfl ?_
        refine h4 _ _ ?_
        clear h4
        refine seq fun K38 h38 => ?_
        refine stp (v := .pointer none) (o_mv rfl) ?_
        refine m_call (Rest_nil w36) rfl fun v39 w39 ⟨hr39, hu39⟩ => ?_
        have hM39 : Mem w (ids rT) w39 [r'36, [⟨b2, 59, [.int .i64 op, .int .i64 n]⟩]] := hM36.pure hu39
        subst hr39
        refine stp (v := .pointer none) (o_mv rfl) ?_
        refine m_call (rRest_nil w39) rfl fun v40 w40 ⟨hr40, hu40⟩ => ?_
        have hM40 : Mem w (ids rT) w40 [r'36, [⟨b2, 59, [.int .i64 op, .int .i64 n]⟩]] := hM39.pure hu40
        subst hr40
        refine stp (v := .bool true) (o_bin rfl rfl v_eqT) ?_
        refine stp (v := .bool true) (o_mv rfl) ?_
        refine splitT rfl ?_
        refine stg rfl (v := .pointer none) (o_mv rfl) ?_
        refine gyesl rfl ?_
        refine m_call (End_nil w40) rfl fun v41 w41 ⟨hr41, hu41⟩ => ?_
        have hM41 : Mem w (ids rT) w41 [r'36, [⟨b2, 59, [.int .i64 op, .int .i64 n]⟩]] := hM40.pure hu41
        subst hr41
        refine stg rfl (v := .pointer none) (o_mv rfl) ?_
        refine gyesl rfl ?_
        refine m_call (rEnd_nil w41) rfl fun v42 w42 ⟨hr42, hu42⟩ => ?_
        have hM42 : Mem w (ids rT) w42 [r'36, [⟨b2, 59, [.int .i64 op, .int .i64 n]⟩]] := hM41.pure hu42
        subst hr42
        refine stg rfl (v := .bool (decide (1 = 1) && (decide (0 = 0) && true))) (o_aeq (t := (decide (1 = 1) && (decide (0 = 0) && true))) rfl rfl (by simp [eqCs, eqC, toList_str, Int.natCast_inj]) rfl) ?_
        refine stp (v := .bool (decide (1 = 1) && (decide (0 = 0) && true))) (o_pickT rfl rfl) ?_
        refine stp (v := .bool (decide (1 = 1) && (decide (0 = 0) && true))) (o_mv rfl) ?_
        refine h38 _ _ ?_
        clear h38
        refine ⟨(.bool (decide (1 = 1) && (decide (0 = 0) && true))), rfl, ?_⟩
        exact ⟨by simp, _, _, hT36, hgc, hlc, hM42.keep (by simp)⟩
      ·
        refine seq fun K43 h43 => ?_
        refine stp (v := .bool (decide (op = 3))) (o_bin rfl rfl rfl) ?_
        refine stp (v := .bool (decide (op = 3))) (o_mv rfl) ?_
        refine h43 _ _ ?_
        clear h43
        refine cndP rfl (fun c44 => ?_) (fun c44 => ?_)
        ·
          refine seq fun K45 h45 => ?_
          intro wd e1 e2 e3 e4
          have hd := Upd.same e1 e2 e3 e4 []
          have hM46 := hM3.pure hd
          clear e1 e2 e3 e4
          refine ⟨(some [b2]), ?_⟩
          show vd _ _ _ _ _ _ _
          refine dq (v := .pointer none) (o_mv rfl) ?_
          refine dq (v := .pointer (some ⟨b2, 1, none⟩)) (o_fa rfl rfl) ?_
          refine dq (v := .pointer none) (o_mv rfl) ?_
          refine dq (v := .pointer (some ⟨b2, 1, none⟩)) (o_fa rfl rfl) ?_
          refine dqld rfl (by simp [isHeld]) (v := .int .i64 n) ((hM46.at (i := 1) (j := 0) rfl rfl).cell 1) ?_
          refine dl (m_ld (v := .int .i64 n) hM46 (i := 1) (j := 0) rfl rfl rfl rfl ?_)
          refine ⟨(fun b hb => rfl), ?_⟩
          refine dl (m_call (Text_nil n wd) rfl fun v47 w47 ⟨hr47, hu47⟩ => ?_)
          have hM47 : Mem w (ids rT) w47 [rT, [⟨b2, 59, [.int .i64 op, .int .i64 n]⟩]] := hM46.pure hu47
          subst hr47
          have hh47 := held_upd (wr := wd) (bs := [b2]) hu47 (fun b hb => by
            simp only [List.mem_cons, List.not_mem_nil, or_false] at hb
            rw [hb]; exact ⟨(hM46.at (i := 1) (j := 0) rfl rfl).lt, by simp⟩) (fun b hb => rfl)
          refine ⟨hh47, ?_⟩
          refine dl (m_call (rText_nil n w47) rfl fun v48 w48 ⟨hr48, hu48⟩ => ?_)
          have hM48 : Mem w (ids rT) w48 [rT, [⟨b2, 59, [.int .i64 op, .int .i64 n]⟩]] := hM47.pure hu48
          subst hr48
          have hh48 := held_upd (wr := wd) (bs := [b2]) hu48 (fun b hb => by
            simp only [List.mem_cons, List.not_mem_nil, or_false] at hb
            rw [hb]; exact ⟨(hM47.at (i := 1) (j := 0) rfl rfl).lt, by simp⟩) hh47
          refine ⟨hh48, ?_⟩
          refine dq (v := .bool (decide (¬ ([]) = ([])))) (o_sne rfl rfl rfl) ?_
          refine h45 _ _ ?_
          clear h45
          refine cndP rfl (fun c49 => absurd c49 (by simp)) (fun c49 => ?_)
          refine h4 _ _ ?_
          clear h4
          refine seq fun K50 h50 => ?_
          refine stp (v := .pointer none) (o_mv rfl) ?_
          refine m_call (Rest_nil w48) rfl fun v51 w51 ⟨hr51, hu51⟩ => ?_
          have hM51 : Mem w (ids rT) w51 [rT, [⟨b2, 59, [.int .i64 op, .int .i64 n]⟩]] := hM48.pure hu51
          subst hr51
          refine stp (v := .pointer none) (o_mv rfl) ?_
          refine m_call (rRest_nil w51) rfl fun v52 w52 ⟨hr52, hu52⟩ => ?_
          have hM52 : Mem w (ids rT) w52 [rT, [⟨b2, 59, [.int .i64 op, .int .i64 n]⟩]] := hM51.pure hu52
          subst hr52
          refine stp (v := .bool true) (o_bin rfl rfl v_eqT) ?_
          refine stp (v := .bool true) (o_mv rfl) ?_
          refine splitT rfl ?_
          refine stg rfl (v := .pointer none) (o_mv rfl) ?_
          refine gyesl rfl ?_
          refine m_call (End_nil w52) rfl fun v53 w53 ⟨hr53, hu53⟩ => ?_
          have hM53 : Mem w (ids rT) w53 [rT, [⟨b2, 59, [.int .i64 op, .int .i64 n]⟩]] := hM52.pure hu53
          subst hr53
          refine stg rfl (v := .pointer none) (o_mv rfl) ?_
          refine gyesl rfl ?_
          refine m_call (rEnd_nil w53) rfl fun v54 w54 ⟨hr54, hu54⟩ => ?_
          have hM54 : Mem w (ids rT) w54 [rT, [⟨b2, 59, [.int .i64 op, .int .i64 n]⟩]] := hM53.pure hu54
          subst hr54
          refine stg rfl (v := .bool (decide (1 = 1) && (decide (0 = 0) && true))) (o_aeq (t := (decide (1 = 1) && (decide (0 = 0) && true))) rfl rfl (by simp [eqCs, eqC, toList_str, Int.natCast_inj]) rfl) ?_
          refine stp (v := .bool (decide (1 = 1) && (decide (0 = 0) && true))) (o_pickT rfl rfl) ?_
          refine stp (v := .bool (decide (1 = 1) && (decide (0 = 0) && true))) (o_mv rfl) ?_
          refine h50 _ _ ?_
          clear h50
          refine ⟨(.bool (decide (1 = 1) && (decide (0 = 0) && true))), rfl, ?_⟩
          exact ⟨by simp, _, _, hT, hgc, hlc, hM54.keep (by simp)⟩
        ·
          refine seq fun K55 h55 => ?_
          refine stp (v := .bool (decide (op = 4))) (o_bin rfl rfl rfl) ?_
          refine stp (v := .bool (decide (op = 4))) (o_mv rfl) ?_
          refine h55 _ _ ?_
          clear h55
          refine cndP rfl (fun c56 => ?_) (fun c56 => ?_)
          ·
            refine seq fun K57 h57 => ?_
            refine stp (v := .pointer none) (o_mv rfl) ?_
            refine stp (v := .pointer (some ⟨b2, 1, none⟩)) (o_fa rfl rfl) ?_
            refine m_ld (v := .int .i64 n) hM3 (i := 1) (j := 0) rfl rfl rfl rfl ?_
            refine m_call (Fail_nil n w3) rfl fun v58 w58 hu58 => ?_
            have hM58 : Mem w (ids rT) w58 [rT, [⟨b2, 59, [.int .i64 op, .int .i64 n]⟩]] := hM3.pure hu58
            refine h57 _ _ ?_
            clear h57
            refine stp (v := .pointer none) (o_mv rfl) ?_
            refine stp (v := .pointer (some ⟨b2, 1, none⟩)) (o_fa rfl rfl) ?_
            refine m_ld (v := .int .i64 n) hM58 (i := 1) (j := 0) rfl rfl rfl rfl ?_
            refine m_call (rFail_nil n w58) rfl fun v59 w59 hu59 => ?_
            have hM59 : Mem w (ids rT) w59 [rT, [⟨b2, 59, [.int .i64 op, .int .i64 n]⟩]] := hM58.pure hu59
            refine h4 _ _ ?_
            clear h4
            refine seq fun K60 h60 => ?_
            refine stp (v := .pointer none) (o_mv rfl) ?_
            refine m_call (Rest_nil w59) rfl fun v61 w61 ⟨hr61, hu61⟩ => ?_
            have hM61 : Mem w (ids rT) w61 [rT, [⟨b2, 59, [.int .i64 op, .int .i64 n]⟩]] := hM59.pure hu61
            subst hr61
            refine stp (v := .pointer none) (o_mv rfl) ?_
            refine m_call (rRest_nil w61) rfl fun v62 w62 ⟨hr62, hu62⟩ => ?_
            have hM62 : Mem w (ids rT) w62 [rT, [⟨b2, 59, [.int .i64 op, .int .i64 n]⟩]] := hM61.pure hu62
            subst hr62
            refine stp (v := .bool true) (o_bin rfl rfl v_eqT) ?_
            refine stp (v := .bool true) (o_mv rfl) ?_
            refine splitT rfl ?_
            refine stg rfl (v := .pointer none) (o_mv rfl) ?_
            refine gyesl rfl ?_
            refine m_call (End_nil w62) rfl fun v63 w63 ⟨hr63, hu63⟩ => ?_
            have hM63 : Mem w (ids rT) w63 [rT, [⟨b2, 59, [.int .i64 op, .int .i64 n]⟩]] := hM62.pure hu63
            subst hr63
            refine stg rfl (v := .pointer none) (o_mv rfl) ?_
            refine gyesl rfl ?_
            refine m_call (rEnd_nil w63) rfl fun v64 w64 ⟨hr64, hu64⟩ => ?_
            have hM64 : Mem w (ids rT) w64 [rT, [⟨b2, 59, [.int .i64 op, .int .i64 n]⟩]] := hM63.pure hu64
            subst hr64
            refine stg rfl (v := .bool (decide (1 = 1) && (decide (0 = 0) && true))) (o_aeq (t := (decide (1 = 1) && (decide (0 = 0) && true))) rfl rfl (by simp [eqCs, eqC, toList_str, Int.natCast_inj]) rfl) ?_
            refine stp (v := .bool (decide (1 = 1) && (decide (0 = 0) && true))) (o_pickT rfl rfl) ?_
            refine stp (v := .bool (decide (1 = 1) && (decide (0 = 0) && true))) (o_mv rfl) ?_
            refine h60 _ _ ?_
            clear h60
            refine ⟨(.bool (decide (1 = 1) && (decide (0 = 0) && true))), rfl, ?_⟩
            exact ⟨by simp, _, _, hT, hgc, hlc, hM64.keep (by simp)⟩
          ·
            refine h4 _ _ ?_
            clear h4
            refine seq fun K65 h65 => ?_
            refine stp (v := .pointer none) (o_mv rfl) ?_
            refine m_call (Rest_nil w3) rfl fun v66 w66 ⟨hr66, hu66⟩ => ?_
            have hM66 : Mem w (ids rT) w66 [rT, [⟨b2, 59, [.int .i64 op, .int .i64 n]⟩]] := hM3.pure hu66
            subst hr66
            refine stp (v := .pointer none) (o_mv rfl) ?_
            refine m_call (rRest_nil w66) rfl fun v67 w67 ⟨hr67, hu67⟩ => ?_
            have hM67 : Mem w (ids rT) w67 [rT, [⟨b2, 59, [.int .i64 op, .int .i64 n]⟩]] := hM66.pure hu67
            subst hr67
            refine stp (v := .bool true) (o_bin rfl rfl v_eqT) ?_
            refine stp (v := .bool true) (o_mv rfl) ?_
            refine splitT rfl ?_
            refine stg rfl (v := .pointer none) (o_mv rfl) ?_
            refine gyesl rfl ?_
            refine m_call (End_nil w67) rfl fun v68 w68 ⟨hr68, hu68⟩ => ?_
            have hM68 : Mem w (ids rT) w68 [rT, [⟨b2, 59, [.int .i64 op, .int .i64 n]⟩]] := hM67.pure hu68
            subst hr68
            refine stg rfl (v := .pointer none) (o_mv rfl) ?_
            refine gyesl rfl ?_
            refine m_call (rEnd_nil w68) rfl fun v69 w69 ⟨hr69, hu69⟩ => ?_
            have hM69 : Mem w (ids rT) w69 [rT, [⟨b2, 59, [.int .i64 op, .int .i64 n]⟩]] := hM68.pure hu69
            subst hr69
            refine stg rfl (v := .bool (decide (1 = 1) && (decide (0 = 0) && true))) (o_aeq (t := (decide (1 = 1) && (decide (0 = 0) && true))) rfl rfl (by simp [eqCs, eqC, toList_str, Int.natCast_inj]) rfl) ?_
            refine stp (v := .bool (decide (1 = 1) && (decide (0 = 0) && true))) (o_pickT rfl rfl) ?_
            refine stp (v := .bool (decide (1 = 1) && (decide (0 = 0) && true))) (o_mv rfl) ?_
            refine h65 _ _ ?_
            clear h65
            refine ⟨(.bool (decide (1 = 1) && (decide (0 = 0) && true))), rfl, ?_⟩
            exact ⟨by simp, _, _, hT, hgc, hlc, hM69.keep (by simp)⟩
