/- NumsCursor: bytes that were handed out are kept. -/
import Derived.Test.YtdjdhplacfemfaaQ2
namespace Go.Proofs.Ytdjdhplacfemfaa.E
open Go

/-- (*winnowlaw2.Taken).keep -/
theorem keep_ok (bt : Nat) (vL vW vG : Value) (ts : List Tn) (rL rW rG NS ru : List Ent) (u : Value) (d : List UInt8) (w : World) (hL : SlE bV 22 vL ts rL) (hW : SlE wV 22 vW ts rW) (hG : SlE gV 22 vG ts rG) (hN : Nst TQ ts NS) (hu0 : SlE byteV 5 u d ru) (hdl : d.length ≤ 140737488355328) (hr : Res w (tkR bt vL vW vG rL rW rG NS ++ ru)) (htl : ts.length ≤ 4294967295) (hg : Tg odd ts) : Calls Try.prog 46 [.pointer (some ⟨bt, 0, none⟩), u].toArray w (Rt fun _ w' => ∃ ts' r', TkS bt ts' r' ∧ Tg odd ts' ∧ ts'.length = ts.length + 1 ∧ Mem w (ids (tkR bt vL vW vG rL rW rG NS ++ ru)) w' [r']) := by
  obtain ⟨ua, un, uc, rfl⟩ := hu0.isSlice
  have hu := hu0
  have hM0 : Mem w (ids (tkR bt vL vW vG rL rW rG NS ++ ru)) w [[⟨bt, 56, [vL, vW, vG]⟩], rL, rW, rG, NS, ru] := (Mem.start hr).keep (by simp [tkR])
  refine calls_vc mixed Try.func46 rfl C46 (by simp [Try.ntmps46]) ?_
  refine seq fun K1 h1 => ?_
  refine stp (v := .slice none 0 0) (o_mv rfl) ?_
  refine h1 _ _ ?_
  clear h1
  refine seq fun K2 h2 => ?_
  refine stp (v := .slice none 0 0) (o_mv rfl) ?_
  refine stp (v := (.slice ua un uc)) (o_mv rfl) ?_
  have hM3 : Mem w (ids (tkR bt vL vW vG rL rW rG NS ++ ru)) w [[⟨bt, 56, [vL, vW, vG]⟩], rL, rW, rG, NS, ru, []] := hM0.addNil
  have hs3 : SlE byteV 5 (.slice none 0 0) [] [] := Sl.nil 1 5
  refine m_appE hM3 (i := 6) rfl hs3 rfl rfl (hu.rd hM3 (i := 5) rfl) (by first | omega | (simp; omega)) (by omega) fun v4 w4 r4 (hs4 : SlE byteV 5 v4 (d) r4) (hM4 : Mem w (ids (tkR bt vL vW vG rL rW rG NS ++ ru)) w4 [[⟨bt, 56, [vL, vW, vG]⟩], rL, rW, rG, NS, ru, r4]) => ?_
  refine stp (v := v4) (o_mv rfl) ?_
  refine h2 _ _ ?_
  clear h2
  refine seq fun K5 h5 => ?_
  refine stp (v := .pointer (some ⟨bt, 0, none⟩)) (o_mv rfl) ?_
  obtain ⟨a6_, n6_, c6_, rfl⟩ := Sl.isSlice hs4
  refine stp (v := .pointer (some ⟨bt, 0, none⟩)) (o_mv rfl) ?_
  refine stp (v := .pointer (some ⟨bt, 0, none⟩)) (o_nilchk rfl rfl) ?_
  refine stp (v := .pointer (some ⟨bt, 0, none⟩)) (o_fa rfl rfl) ?_
  refine m_ld (v := vL) hM4 (i := 0) (j := 0) rfl rfl rfl rfl ?_
  refine stp (v := (.slice ua un uc)) (o_mv rfl) ?_
  refine m_app1 (E := bV) (q := (⟨ua, un, uc, a6_, n6_, c6_, none, 0, 0, d, [], false⟩ : Tn)) hM4 (i := 1) rfl hL rfl (by simp) (rfl) (by omega) (by omega) fun v7 w7 r7 u7 (hs7 : SlE bV 22 v7 (ts ++ [(⟨ua, un, uc, a6_, n6_, c6_, none, 0, 0, d, [], false⟩ : Tn)]) r7) (hM7 : Mem w (ids (tkR bt vL vW vG rL rW rG NS ++ ru)) w7 [[⟨bt, 56, [vL, vW, vG]⟩], r7, rW, rG, NS, ru, r4]) => ?_
  refine stp (v := .pointer (some ⟨bt, 0, none⟩)) (o_nilchk rfl rfl) ?_
  refine stp (v := .pointer (some ⟨bt, 0, none⟩)) (o_fa rfl rfl) ?_
  refine m_st (v := v7) hM7 (i := 0) rfl rfl rfl (Sl.one hs7) (by simp) fun w8 (hM8 : Mem w (ids (tkR bt vL vW vG rL rW rG NS ++ ru)) w8 [[⟨bt, 56, [v7, vW, vG]⟩], r7, rW, rG, NS, ru, r4]) => ?_
  refine h5 _ _ ?_
  clear h5
  refine seq fun K9 h9 => ?_
  refine stp (v := .pointer (some ⟨bt, 0, none⟩)) (o_mv rfl) ?_
  refine stp (v := .pointer (some ⟨bt, 0, none⟩)) (o_mv rfl) ?_
  refine stp (v := .pointer (some ⟨bt, 0, none⟩)) (o_nilchk rfl rfl) ?_
  refine stp (v := .pointer (some ⟨bt, 1, none⟩)) (o_fa rfl rfl) ?_
  refine m_ld (v := vW) hM8 (i := 0) (j := 0) rfl rfl rfl rfl ?_
  refine stp (v := (.slice a6_ n6_ c6_)) (o_mv rfl) ?_
  refine m_app1 (E := wV) (q := (⟨ua, un, uc, a6_, n6_, c6_, none, 0, 0, d, [], false⟩ : Tn)) hM8 (i := 2) rfl hW rfl (by simp) (rfl) (by omega) (by omega) fun v10 w10 r10 u10 (hs10 : SlE wV 22 v10 (ts ++ [(⟨ua, un, uc, a6_, n6_, c6_, none, 0, 0, d, [], false⟩ : Tn)]) r10) (hM10 : Mem w (ids (tkR bt vL vW vG rL rW rG NS ++ ru)) w10 [[⟨bt, 56, [v7, vW, vG]⟩], r7, r10, rG, NS, ru, r4]) => ?_
  refine stp (v := .pointer (some ⟨bt, 0, none⟩)) (o_nilchk rfl rfl) ?_
  refine stp (v := .pointer (some ⟨bt, 1, none⟩)) (o_fa rfl rfl) ?_
  refine m_st (v := v10) hM10 (i := 0) rfl rfl rfl (Sl.one hs10) (by simp) fun w11 (hM11 : Mem w (ids (tkR bt vL vW vG rL rW rG NS ++ ru)) w11 [[⟨bt, 56, [v7, v10, vG]⟩], r7, r10, rG, NS, ru, r4]) => ?_
  refine h9 _ _ ?_
  clear h9
  refine seq fun K12 h12 => ?_
  refine stp (v := .pointer (some ⟨bt, 0, none⟩)) (o_mv rfl) ?_
  refine stp (v := .pointer (some ⟨bt, 0, none⟩)) (o_mv rfl) ?_
  refine stp (v := .pointer (some ⟨bt, 0, none⟩)) (o_nilchk rfl rfl) ?_
  refine stp (v := .pointer (some ⟨bt, 2, none⟩)) (o_fa rfl rfl) ?_
  refine m_ld (v := vG) hM11 (i := 0) (j := 0) rfl rfl rfl rfl ?_
  refine m_app1 (E := gV) (q := (⟨ua, un, uc, a6_, n6_, c6_, none, 0, 0, d, [], false⟩ : Tn)) hM11 (i := 3) rfl hG rfl (by simp) (rfl) (by omega) (by omega) fun v13 w13 r13 u13 (hs13 : SlE gV 22 v13 (ts ++ [(⟨ua, un, uc, a6_, n6_, c6_, none, 0, 0, d, [], false⟩ : Tn)]) r13) (hM13 : Mem w (ids (tkR bt vL vW vG rL rW rG NS ++ ru)) w13 [[⟨bt, 56, [v7, v10, vG]⟩], r7, r10, r13, NS, ru, r4]) => ?_
  refine stp (v := .pointer (some ⟨bt, 0, none⟩)) (o_nilchk rfl rfl) ?_
  refine stp (v := .pointer (some ⟨bt, 2, none⟩)) (o_fa rfl rfl) ?_
  refine m_st (v := v13) hM13 (i := 0) rfl rfl rfl (Sl.one hs13) (by simp) fun w14 (hM14 : Mem w (ids (tkR bt vL vW vG rL rW rG NS ++ ru)) w14 [[⟨bt, 56, [v7, v10, v13]⟩], r7, r10, r13, NS, ru, r4]) => ?_
  refine h12 _ _ ?_
  clear h12
  refine seq fun K15 h15 => ?_
  refine stp (v := .pointer (some ⟨bt, 0, none⟩)) (o_mv rfl) ?_
  refine stp (v := .pointer (some ⟨bt, 0, none⟩)) (o_nilchk rfl rfl) ?_
  refine stp (v := .pointer (some ⟨bt, 0, none⟩)) (o_fa rfl rfl) ?_
  refine m_ld (v := v7) hM14 (i := 0) (j := 0) rfl rfl rfl rfl ?_
  refine stp (v := .int .i64 ((ts ++ [(⟨ua, un, uc, a6_, n6_, c6_, none, 0, 0, d, [], false⟩ : Tn)]).length : Nat)) (o_lenR (hs7.rd hM14 (i := 1) rfl) rfl rfl) ?_
  have hll : ((ts ++ [(⟨ua, un, uc, a6_, n6_, c6_, none, 0, 0, d, [], false⟩ : Tn)])).length = ts.length + 1 := by simp
  refine stp (v := .int .i64 (((ts ++ [(⟨ua, un, uc, a6_, n6_, c6_, none, 0, 0, d, [], false⟩ : Tn)]).length : Nat) % 2)) (o_rem rfl rfl (by omega) (v_rem (by omega))) ?_
  refine stp (v := .bool (decide ((((ts ++ [(⟨ua, un, uc, a6_, n6_, c6_, none, 0, 0, d, [], false⟩ : Tn)]).length : Nat) % 2 : Int) = 0))) (o_bin rfl rfl rfl) ?_
  refine h15 _ _ ?_
  clear h15
  refine cndP rfl (fun c16 => ?_) (fun c16 => ?_)
  ·
    refine stp (v := .pointer (some ⟨bt, 0, none⟩)) (o_mv rfl) ?_
    refine stp (v := .pointer (some ⟨bt, 0, none⟩)) (o_mv rfl) ?_
    refine stp (v := .pointer (some ⟨bt, 0, none⟩)) (o_nilchk rfl rfl) ?_
    refine stp (v := .pointer (some ⟨bt, 0, none⟩)) (o_fa rfl rfl) ?_
    refine m_ld (v := v7) hM14 (i := 0) (j := 0) rfl rfl rfl rfl ?_
    refine stp (v := .int .i64 ((ts ++ [(⟨ua, un, uc, a6_, n6_, c6_, none, 0, 0, d, [], false⟩ : Tn)]).length : Nat)) (o_lenR (hs7.rd hM14 (i := 1) rfl) rfl rfl) ?_
    refine stp (v := .int .i64 (ts.length : Nat)) (o_bin rfl rfl ((v_sub64 (by simp; omega)).trans (v_int (by simp)))) ?_
    refine m_call (mark_ok bt v7 v10 v13 (ts ++ [(⟨ua, un, uc, a6_, n6_, c6_, none, 0, 0, d, [], false⟩ : Tn)]) r7 r10 r13 (NS ++ (r4 ++ ru)) w14 hs7 hs10 hs13 (Nst.app hN ⟨hdl, r4, ru, rfl, hs4, .inl ⟨rfl, rfl, rfl, hu⟩⟩) ((hM14.keepA.keep (by simp [tkR]) : Mem w (ids (tkR bt vL vW vG rL rW rG NS ++ ru)) w14 [tkR bt v7 v10 v13 r7 r10 r13 (NS ++ (r4 ++ ru))]).res (i := 0) rfl) (by simp; omega) ts.length (by simp) (by rw [getD_snocG, if_neg (by omega), if_pos rfl])) rfl fun v17 w17 ⟨t17, rG17, NS17, hm17_, hg17_, hL17, hW17, hG17, hN17, hm17⟩ => ?_
    have hM17 : Mem w (ids (tkR bt vL vW vG rL rW rG NS ++ ru)) w17 [tkR bt v7 v10 v13 r7 r10 rG17 NS17] := (hM14.keepA.keep (by simp [tkR]) : Mem w (ids (tkR bt vL vW vG rL rW rG NS ++ ru)) w14 [tkR bt v7 v10 v13 r7 r10 r13 (NS ++ (r4 ++ ru))]).step 0 rfl hm17
    have hLn := hL17
    have hWn := hW17
    have hGn := hG17
    have hNn := hN17
    have hmn := hm17_
    have hgn := hg17_
    refine ⟨(.tuple [].toArray), rfl, ?_⟩
    exact ⟨_, _, ⟨_, _, _, _, _, _, _, rfl, hLn, hWn, hGn, hNn⟩, by rw [set_last]; exact hg.snoc (hmn.trans (decide_eq_true (by omega)).symm) (fun _ => hgn) (fun k => by rw [hmn] at k; cases k), by simp, hM17.keep (by simp)⟩
  ·
    refine ⟨(.tuple [].toArray), rfl, ?_⟩
    exact ⟨_, _, ⟨_, _, _, _, _, _, _, rfl, hs7, hs10, hs13, Nst.app hN ⟨hdl, r4, ru, rfl, hs4, .inl ⟨rfl, rfl, rfl, hu⟩⟩⟩, hg.snoc (decide_eq_false (by omega)).symm (fun k => by cases k) (fun _ => rfl), by simp, hM14.keepA.keep (by simp [tkR])⟩
