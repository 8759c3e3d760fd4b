/- Footers read: Foot, Decode. -/
import Derived.Test.YthhmhmnhbababaaD11
import Derived.Test.YthhmhmnhbababaaE23
namespace Go.Proofs.Ythhmhmnhbababaa.E
open Go
def FtSpec (L : List UInt8) (bk P : Int) (PS : List Pp) (e : Int) : Prop := (e = 0 ∧ ftOk P PS ∧ bodyF P PS = L ∧ spaceF PS = bk ∧ ∀ Q QS, ftOk Q QS → bodyF Q QS = L → Q = P ∧ QS = PS) ∨ (e = 80 ∧ P = 0 ∧ PS = [] ∧ ∀ P QS, ftOk P QS → bodyF P QS = L → ¬ spaceF QS = bk)
theorem Ft_bad {L : List UInt8} {bk P : Int} {PS : List Pp} (h : PaSpec L P PS false) : FtSpec L bk 0 [] 80 := .inr ⟨rfl, rfl, rfl, fun P QS hf hb => by have := (h.2 P QS hf hb).1; cases this⟩
theorem Ft_sp {L : List UInt8} {bk P : Int} {PS : List Pp} (h : PaSpec L P PS true) (hs : ¬ spaceF PS = bk) : FtSpec L bk 0 [] 80 := .inr ⟨rfl, rfl, rfl, fun P QS hf hb => by obtain ⟨-, rfl, rfl⟩ := h.2 P QS hf hb; exact hs⟩
theorem Ft_ok {L : List UInt8} {bk P : Int} {PS : List Pp} (h : PaSpec L P PS true) (hs : spaceF PS = bk) : FtSpec L bk P PS 0 := .inl ⟨rfl, (h.1 rfl).1, (h.1 rfl).2, hs, fun Q QS hf hb => (h.2 Q QS hf hb).2⟩
set_option maxRecDepth 100000 in
theorem Foot_ok (bd : Nat) (bk pg : Int) (L : List UInt8) (r0 : List Ent) (w : World) (hd : DecS bd bk pg 0 L false r0) (hr : Res w r0) (hl : L.length ≤ 140737488351232) : Calls Try.prog 35 [.pointer (some ⟨bd, 0, none⟩)].toArray w (Rt fun r w' => ∃ P v ps rs NS e, r = .tuple #[.agg #[.int .i64 P, v], .int .i64 e] ∧ SlS prC 5 71 v ps rs ∧ Nest NS ps ∧ (0 ≤ P ∧ P ≤ 65535) ∧ ps.length ≤ 65535 ∧ FtSpec L bk P (ps.map Pr.p) e ∧ Mem w (ids r0) w' [r0, rs, NS]) := by
 obtain ⟨vb, rb, hr0, hb⟩ := hd
 obtain ⟨S0, hS0⟩ : ∃ S0, S0 = ids r0 := ⟨_, rfl⟩
 rw [← hS0]
 subst hr0
 have hM0 : Mem w S0 w [[⟨bd, 98, [.int .i64 bk, .int .i64 pg, .int .i64 0, vb, .bool false]⟩], rb] := (by rw [hS0]; exact Mem.start2 hr)
 refine calls_vc mixed Try.func35 rfl C35 (by simp [Try.ntmps35]) <| seq fun _ h1 => m_al hM0 fun b2 w3 (hM3 : Mem w S0 w3 [[⟨bd, 98, [.int .i64 bk, .int .i64 pg, .int .i64 0, vb, .bool false]⟩], rb, [⟨b2, 24, [.int .i64 0, .slice none 0 0]⟩]]) => mv <| h1 _ _ <| seq fun _ h4 => seq fun _ h5 => mv <| stp (v := .bool false) (o_isnil rfl rfl) <| mv <| h5 _ _ <| cndF rfl <| seq fun _ h6 => mv ?_
 refine nilchk rfl <| fa rfl <| m_ld (v := .bool false) hM3 (i := 0) (j := 0) rfl rfl rfl rfl <| mv <| splitF rfl <| gmv rfl <| stg rfl (v := .pointer (some ⟨bd, 0, none⟩)) (o_nilchk rfl rfl) <| gfa rfl rfl <| gyesl rfl <| m_ld (v := .int .i64 0) hM3 (i := 0) (j := 0) rfl rfl rfl rfl <| gbn rfl rfl rfl <| pkF rfl <| mv <| h6 _ _ ?_
 refine cndP rfl (fun c7 => ?_) (fun c7 => ?_)
 ·refine seq fun _ h8 => stp (v := .agg ([.int .i64 0, .slice none 0 0] : List Value).toArray) (o_bld rfl rfl) <| m_stA (l := [.int .i64 0, .slice none 0 0]) hM3 (i := 2) rfl rfl rfl rfl (by simp [oneCells, Value.oneCell', byteV]) (by simp) fun w9 (hM9 : Mem w S0 w9 [[⟨bd, 98, [.int .i64 bk, .int .i64 pg, .int .i64 0, vb, .bool false]⟩], rb, [⟨b2, 24, [.int .i64 0, .slice none 0 0]⟩]]) => mv <| h8 _ _ ?_
  show resV _ _ _ _ _
  refine res_cell (s := some 2) (by kernel_rfl) <| vl_ldA (cs := [.int .i64 0, .slice none 0 0]) rfl rfl ((hM9.at (i := 2) (j := 0) rfl rfl).agg rfl rfl) <| res_tmp <| ⟨(.tuple [.agg ([.int .i64 0, .slice none 0 0] : List Value).toArray, .int .i64 80].toArray), rfl, absurd (show (0 : Int) < 0 from by omega) (by omega)⟩
 refine h4 _ _ <| seq fun _ h10 => mv <| nilchk rfl <| fa rfl <| m_ld (v := vb) hM3 (i := 0) (j := 0) rfl rfl rfl rfl <| m_call (parse_ok _ L w3 (hb.rd hM3 (i := 1) rfl) (by omega)) rfl fun v11 w11 ⟨P11, v11_, ps11, rs11, NS11, ok11, hr11, hs11, hN11, hP11, hpl11, hsp11, hm11⟩ => ?_
 have hM11 : Mem w S0 w11 [[⟨bd, 98, [.int .i64 bk, .int .i64 pg, .int .i64 0, vb, .bool false]⟩], rb, [⟨b2, 24, [.int .i64 0, .slice none 0 0]⟩], rs11, NS11] := hM3.add2 hm11
 subst hr11
 obtain ⟨av11, lv11, cv11, rfl⟩ := hs11.isSlice
 refine mv <| ext rfl rfl ?_
 rcases ok11 with _ | _
 ·refine ext rfl rfl <| m_al hM11 fun b12 w13 (hM13 : Mem w S0 w13 [[⟨bd, 98, [.int .i64 bk, .int .i64 pg, .int .i64 0, vb, .bool false]⟩], rb, [⟨b2, 24, [.int .i64 0, .slice none 0 0]⟩], rs11, NS11, [⟨b12, 24, [.int .i64 0, .slice none 0 0]⟩]]) => m_stA (l := [.int .i64 P11, (.slice av11 lv11 cv11)]) hM13 (i := 5) rfl rfl rfl rfl (by simp [oneCells, Value.oneCell', byteV]) (by simp) fun w14 (hM14 : Mem w S0 w14 [[⟨bd, 98, [.int .i64 bk, .int .i64 pg, .int .i64 0, vb, .bool false]⟩], rb, [⟨b2, 24, [.int .i64 0, .slice none 0 0]⟩], rs11, NS11, [⟨b12, 24, [.int .i64 P11, (.slice av11 lv11 cv11)]⟩]]) => mv <| h10 _ _ <| seq fun _ h15 => seq fun _ h16 => ?_
  intro wd e1 e2 e3 e4
  have hd := Upd.same e1 e2 e3 e4 []
  have hM17 := hM14.pure hd
  clear e1 e2 e3 e4
  refine ⟨(some [bd]), ?_⟩
  show vd _ _ _ _ _ _ _
  refine dmv <| dq (v := .bool true) (o_not rfl rfl) <| dmv <| dsplitT rfl <| dx rfl <| dx rfl <| dx rfl <| dx rfl <| dxq rfl <| dxl rfl <| dxl rfl <| dx rfl <| dpkT rfl <| h16 _ _ ?_
  refine cndT rfl <| seq fun _ h18 => stp (v := .agg ([.int .i64 0, .slice none 0 0] : List Value).toArray) (o_bld rfl rfl) <| m_stA (l := [.int .i64 0, .slice none 0 0]) hM17 (i := 2) rfl rfl rfl rfl (by simp [oneCells, Value.oneCell', byteV]) (by simp) fun w19 (hM19 : Mem w S0 w19 [[⟨bd, 98, [.int .i64 bk, .int .i64 pg, .int .i64 0, vb, .bool false]⟩], rb, [⟨b2, 24, [.int .i64 0, .slice none 0 0]⟩], rs11, NS11, [⟨b12, 24, [.int .i64 P11, (.slice av11 lv11 cv11)]⟩]]) => mv <| h18 _ _ ?_
  show resV _ _ _ _ _
  refine res_cell (s := some 2) (by kernel_rfl) <| vl_ldA (cs := [.int .i64 0, .slice none 0 0]) rfl rfl ((hM19.at (i := 2) (j := 0) rfl rfl).agg rfl rfl) <| res_tmp <| ⟨(.tuple [.agg ([.int .i64 0, .slice none 0 0] : List Value).toArray, .int .i64 80].toArray), rfl, ⟨0, .slice none 0 0, [], [], [], 80, rfl, Sl.nil 5 71, Nest.nil, by omega, by simp, Ft_bad hsp11, hM19.keep (by simp)⟩⟩
 refine ext rfl rfl <| m_al hM11 fun b20 w21 (hM21 : Mem w S0 w21 [[⟨bd, 98, [.int .i64 bk, .int .i64 pg, .int .i64 0, vb, .bool false]⟩], rb, [⟨b2, 24, [.int .i64 0, .slice none 0 0]⟩], rs11, NS11, [⟨b20, 24, [.int .i64 0, .slice none 0 0]⟩]]) => m_stA (l := [.int .i64 P11, (.slice av11 lv11 cv11)]) hM21 (i := 5) rfl rfl rfl rfl (by simp [oneCells, Value.oneCell', byteV]) (by simp) fun w22 (hM22 : Mem w S0 w22 [[⟨bd, 98, [.int .i64 bk, .int .i64 pg, .int .i64 0, vb, .bool false]⟩], rb, [⟨b2, 24, [.int .i64 0, .slice none 0 0]⟩], rs11, NS11, [⟨b20, 24, [.int .i64 P11, (.slice av11 lv11 cv11)]⟩]]) => mv <| h10 _ _ <| seq fun _ h23 => seq fun _ h24 => ?_
 intro wd e1 e2 e3 e4
 have hd := Upd.same e1 e2 e3 e4 []
 have hM25 := hM22.pure hd
 clear e1 e2 e3 e4
 refine ⟨(some [bd]), ?_⟩
 show vd _ _ _ _ _ _ _
 refine dmv <| dq (v := .bool false) (o_not rfl rfl) <| dmv <| dsplitF rfl <| dgmv rfl <| dqg rfl (v := .pointer (some ⟨bd, 0, none⟩)) (o_nilchk rfl rfl) <| dgfa rfl rfl <| dgfa rfl rfl <| dqgyes rfl rfl <| dqld rfl (by simp [isHeld]) (v := .int .i64 bk) ((hM25.at (i := 0) (j := 0) rfl rfl).cell 0) ?_
 have hft := (hsp11.1 rfl).1
 refine dgyesl rfl <| dl (m_ldA (l := [.int .i64 P11, (.slice av11 lv11 cv11)]) hM25 (i := 5) (j := 0) rfl rfl rfl rfl rfl <| ⟨(fun b hb => rfl), dgyesl rfl <| dl (m_call (space_ok P11 _ ps11 wd (hs11.rd hM25 (i := 3) rfl) (hN11.rd _ (hM25.res (i := 4) rfl).1) (by omega) (by simp only [inK]; omega) (by assumption)) rfl fun v26 w26 ⟨hr26, hu26⟩ => ?_)⟩)
 have hM26 : Mem w S0 w26 [[⟨bd, 98, [.int .i64 bk, .int .i64 pg, .int .i64 0, vb, .bool false]⟩], rb, [⟨b2, 24, [.int .i64 0, .slice none 0 0]⟩], rs11, NS11, [⟨b20, 24, [.int .i64 P11, (.slice av11 lv11 cv11)]⟩]] := hM25.pure hu26
 subst hr26
 have hh26 := held_upd (wr := wd) (bs := [bd]) hu26 (fun b hb => by
  simp only [List.mem_cons, List.not_mem_nil, or_false] at hb
  rw [hb]; exact ⟨(hM25.at (i := 0) (j := 0) rfl rfl).lt, by simp⟩) (fun b hb => rfl)
 refine ⟨hh26, dqg rfl (v := .bool (decide (¬ (spaceF (List.map Pr.p ps11)) = bk))) (o_bin rfl rfl v_neq) <| dpkF rfl <| h24 _ _ <| cndP rfl (fun c27 => ?_) (fun c27 => ?_)⟩
 ·refine seq fun _ h28 => stp (v := .agg ([.int .i64 0, .slice none 0 0] : List Value).toArray) (o_bld rfl rfl) <| m_stA (l := [.int .i64 0, .slice none 0 0]) hM26 (i := 2) rfl rfl rfl rfl (by simp [oneCells, Value.oneCell', byteV]) (by simp) fun w29 (hM29 : Mem w S0 w29 [[⟨bd, 98, [.int .i64 bk, .int .i64 pg, .int .i64 0, vb, .bool false]⟩], rb, [⟨b2, 24, [.int .i64 0, .slice none 0 0]⟩], rs11, NS11, [⟨b20, 24, [.int .i64 P11, (.slice av11 lv11 cv11)]⟩]]) => mv <| h28 _ _ ?_
  show resV _ _ _ _ _
  refine res_cell (s := some 2) (by kernel_rfl) <| vl_ldA (cs := [.int .i64 0, .slice none 0 0]) rfl rfl ((hM29.at (i := 2) (j := 0) rfl rfl).agg rfl rfl) <| res_tmp <| ⟨(.tuple [.agg ([.int .i64 0, .slice none 0 0] : List Value).toArray, .int .i64 80].toArray), rfl, ⟨0, .slice none 0 0, [], [], [], 80, rfl, Sl.nil 5 71, Nest.nil, by omega, by simp, Ft_sp hsp11 (by omega), hM29.keep (by simp)⟩⟩
 refine h23 _ _ <| seq fun _ h30 => m_ldA (l := [.int .i64 P11, (.slice av11 lv11 cv11)]) hM26 (i := 5) (j := 0) rfl rfl rfl rfl rfl <| m_stA (l := [.int .i64 P11, (.slice av11 lv11 cv11)]) hM26 (i := 2) rfl rfl rfl rfl (by simp [oneCells, Value.oneCell', byteV]) (by simp) fun w31 (hM31 : Mem w S0 w31 [[⟨bd, 98, [.int .i64 bk, .int .i64 pg, .int .i64 0, vb, .bool false]⟩], rb, [⟨b2, 24, [.int .i64 P11, (.slice av11 lv11 cv11)]⟩], rs11, NS11, [⟨b20, 24, [.int .i64 P11, (.slice av11 lv11 cv11)]⟩]]) => mv <| h30 _ _ ?_
 show resV _ _ _ _ _
 refine res_cell (s := some 2) (by kernel_rfl) <| vl_ldA (cs := [.int .i64 P11, (.slice av11 lv11 cv11)]) rfl rfl ((hM31.at (i := 2) (j := 0) rfl rfl).agg rfl rfl) <| res_tmp <| ⟨(.tuple [.agg ([.int .i64 P11, (.slice av11 lv11 cv11)] : List Value).toArray, .int .i64 0].toArray), rfl, ⟨P11, _, ps11, rs11, NS11, 0, rfl, hs11, hN11, by omega, by omega, Ft_ok hsp11 (by omega), hM31.keep (by simp; repeat first | exact List.Sublist.refl _ | exact List.Sublist.append (List.Sublist.refl _) (List.sublist_append_left _ _) | exact .cons _ (by assumption) | refine .cons _ ?_ | refine List.sublist_append_of_sublist_right ?_)⟩⟩
