/- Footers read: the decoder's walks. -/
import Derived.Test.YthhmhmnhbababaaD10
import Derived.Test.YthhmhmnhbababaaE23
namespace Go.Proofs.Ythhmhmnhbababaa.E
open Go
theorem rightTrailG_ok (bk pg : Int) (hb : inK .i64 bk) (hp : inK .i64 pg) (w : World) : Calls Try.prog 51 [.agg [.int .i64 bk, .int .i64 pg].toArray].toArray w (Rt fun r w' => ∃ n, r = .tuple #[.int .i64 n, .bool (decide (mayT bk pg))] ∧ Upd [] w w') := by
 have hM0 : Mem w [] w [] := Mem.nil w []
 simp only [inK] at hb hp
 refine calls_vc mixed Try.func51 rfl C51 (by simp [Try.ntmps51]) <| seq fun _ h1 => m_bx (v := .agg ([.int .i64 bk, .int .i64 pg] : List Value).toArray) hM0 rfl rfl fun b2 w3 (hM3 : Mem w [] w3 [[⟨b2, 36, [.int .i64 bk, .int .i64 pg]⟩]]) => mv <| mv <| h1 _ _ <| seq fun _ h4 => seq fun _ h5 => ?_
 intro wd e1 e2 e3 e4
 have hd := Upd.same e1 e2 e3 e4 []
 have hM6 := hM3.pure hd
 clear e1 e2 e3 e4
 refine ⟨(some [b2]), ?_⟩
 show vd _ _ _ _ _ _ _
 refine dfa rfl <| dl (m_ld (v := .int .i64 bk) hM6 (i := 0) (j := 0) rfl rfl rfl rfl <| ⟨(fun b hb => rfl), dbn rfl rfl <| dmv <| dsplitP rfl (fun c7 => ?_) (fun c7 => ?_)⟩)
 ·refine dx rfl <| dxl rfl <| dx rfl <| dpkT rfl <| dmv <| dsplitT rfl <| dx rfl <| dxl rfl <| dx rfl <| dpkT rfl <| dmv <| dsplitT rfl <| dx rfl <| dxq rfl ?_
  refine dxl rfl <| dx rfl <| dpkT rfl <| h5 _ _ <| cndT rfl <| seq fun _ h8 => mv <| mv <| h8 _ _ <| ⟨(.tuple [.int .i64 0, .bool false].toArray), rfl, ?_⟩
  rw [may_no (by unfold mayT; omega)]; exact ⟨_, rfl, hM6.upd⟩
 refine dgfa rfl rfl <| dgyesl rfl <| dl (m_ld (v := .int .i64 bk) hM6 (i := 0) (j := 0) rfl rfl rfl rfl <| ⟨(fun b hb => rfl), dgbn rfl rfl rfl <| dpkF rfl <| dmv <| dsplitP rfl (fun c9 => ?_) (fun c9 => ?_)⟩)
 ·refine dx rfl <| dxl rfl <| dx rfl <| dpkT rfl <| dmv <| dsplitT rfl <| dx rfl <| dxq rfl <| dxl rfl <| dx rfl <| dpkT rfl <| h5 _ _ <| cndT rfl <| seq fun _ h10 => ?_
  refine mv <| mv <| h10 _ _ <| ⟨(.tuple [.int .i64 0, .bool false].toArray), rfl, ?_⟩
  rw [may_no (by unfold mayT; omega)]; exact ⟨_, rfl, hM6.upd⟩
 refine dgfa rfl rfl <| dgyesl rfl <| dl (m_ld (v := .int .i64 pg) hM6 (i := 0) (j := 0) rfl rfl rfl rfl <| ⟨(fun b hb => rfl), dgbn rfl rfl rfl <| dpkF rfl <| dmv <| dsplitP rfl (fun c11 => ?_) (fun c11 => ?_)⟩)
 ·refine dx rfl <| dxq rfl <| dxl rfl <| dx rfl <| dpkT rfl <| h5 _ _ <| cndT rfl <| seq fun _ h12 => mv <| mv <| h12 _ _ <| ⟨(.tuple [.int .i64 0, .bool false].toArray), rfl, ?_⟩
  rw [may_no (by unfold mayT; omega)]; exact ⟨_, rfl, hM6.upd⟩
 refine dgfa rfl rfl <| dqgyes rfl rfl <| dqld rfl (by simp [isHeld]) (v := .int .i64 pg) ((hM6.at (i := 0) (j := 0) rfl rfl).cell 1) <| dgyesl rfl <| dl (m_call (pagesOf_ok 16777216 (by omega) wd) rfl fun v13 w13 ⟨hr13, hu13⟩ => ?_)
 have hM13 : Mem w [] w13 [[⟨b2, 36, [.int .i64 bk, .int .i64 pg]⟩]] := hM6.pure hu13
 subst hr13
 have hh13 := held_upd (wr := wd) (bs := [b2]) hu13 (fun b hb => by
  simp only [List.mem_cons, List.not_mem_nil, or_false] at hb
  rw [hb]; exact ⟨(hM6.at (i := 0) (j := 0) rfl rfl).lt, by simp⟩) (fun b hb => rfl)
 refine ⟨hh13, dgbn rfl rfl rfl <| dpkF rfl <| h5 _ _ <| cndP rfl (fun c14 => ?_) (fun c14 => ?_)⟩
 ·refine seq fun _ h15 => mv <| mv <| h15 _ _ <| ⟨(.tuple [.int .i64 0, .bool false].toArray), rfl, ?_⟩
  rw [may_no (by unfold mayT; omega)]; exact ⟨_, rfl, hM13.upd⟩
 refine h4 _ _ <| seq fun _ h16 => fa rfl <| m_ld (v := .int .i64 pg) hM13 (i := 0) (j := 0) rfl rfl rfl rfl <| stp (v := .int .i64 (pg / 4100)) (o_quo rfl rfl (by omega) (v_quo (by omega) (by omega) (by simp only [inK]; omega))) <| mv <| h16 _ _ <| seq fun _ h17 => fa rfl <| m_ld (v := .int .i64 pg) hM13 (i := 0) (j := 0) rfl rfl rfl rfl <| stp (v := .int .i64 (pg % 4100)) (o_rem rfl rfl (by omega) (v_rem (by omega))) <| mv <| h17 _ _ <| seq fun _ h18 => seq fun _ h19 => mv <| bn rfl rfl <| h19 _ _ <| cndP rfl (fun c20 => ?_) (fun c20 => ?_)
 ·refine seq fun _ h21 => mv <| stp (v := .int .i64 ((pg % 4100) - 4)) (o_bin rfl rfl (v_sub64 (by omega))) <| mv <| h21 _ _ <| seq fun _ h22 => mv <| bn rfl rfl <| h22 _ _ <| cndP rfl (fun c23 => ?_) (fun c23 => ?_)
  ·refine seq fun _ h24 => mv <| mv <| h24 _ _ <| ⟨(.tuple [.int .i64 0, .bool false].toArray), rfl, ?_⟩
   rw [may_no (by unfold mayT; omega)]; exact ⟨_, rfl, hM13.upd⟩
  refine h18 _ _ <| seq fun _ h25 => mv <| stp (v := .int .i64 ((pg / 4100) * 4096)) (o_bin rfl rfl (v_mul64 (by omega))) <| mv <| stp (v := .int .i64 (((pg / 4100) * 4096) + ((pg % 4100) - 4))) (o_bin rfl rfl (v_add64 (by omega))) <| mv <| mv <| h25 _ _ <| ⟨(.tuple [.int .i64 (((pg / 4100) * 4096) + ((pg % 4100) - 4)), .bool true].toArray), rfl, ?_⟩
  rw [may_yes (by unfold mayT; omega)]; exact ⟨_, rfl, hM13.upd⟩
 refine h18 _ _ <| seq fun _ h26 => mv <| stp (v := .int .i64 ((pg / 4100) * 4096)) (o_bin rfl rfl (v_mul64 (by omega))) <| mv <| stp (v := .int .i64 (((pg / 4100) * 4096) + (pg % 4100))) (o_bin rfl rfl (v_add64 (by omega))) <| mv <| mv <| h26 _ _ <| ⟨(.tuple [.int .i64 (((pg / 4100) * 4096) + (pg % 4100)), .bool true].toArray), rfl, ?_⟩
 rw [may_yes (by unfold mayT; omega)]; exact ⟨_, rfl, hM13.upd⟩
theorem NewDecoder_yes (bk pg : Int) (hb : inK .i64 bk) (hp : inK .i64 pg) (hmay : mayT bk pg) (w : World) : Calls Try.prog 31 [.agg [.int .i64 bk, .int .i64 pg].toArray].toArray w (Rt fun r w' => ∃ bd rs, r = .tuple #[.pointer (some ⟨bd, 0, none⟩), .int .i64 0] ∧ DecS bd bk pg pg [] false rs ∧ Mem w [] w' [rs]) := by
 have hM0 : Mem w [] w [] := Mem.nil w []
 refine calls_vc mixed Try.func31 rfl C31 (by simp [Try.ntmps31]) <| seq fun _ h1 => m_bx (v := .agg ([.int .i64 bk, .int .i64 pg] : List Value).toArray) hM0 rfl rfl fun b2 w3 (hM3 : Mem w [] w3 [[⟨b2, 36, [.int .i64 bk, .int .i64 pg]⟩]]) => mv <| mv <| h1 _ _ <| seq fun _ h4 => seq fun _ h5 => m_ldA (l := [.int .i64 bk, .int .i64 pg]) hM3 (i := 0) (j := 0) rfl rfl rfl rfl rfl <| m_call (rightTrailG_ok bk pg hb hp w3) rfl fun v6 w6 ⟨n6, hr6, hu6⟩ => ?_
 have hM6 : Mem w [] w6 [[⟨b2, 36, [.int .i64 bk, .int .i64 pg]⟩]] := hM3.pure hu6
 rw [may_yes hmay] at hr6
 subst hr6
 refine mv <| ext rfl rfl <| ext rfl rfl <| mv <| mv <| h5 _ _ <| seq fun _ h7 => mv <| stp (v := .bool false) (o_not rfl rfl) <| h7 _ _ <| cndF rfl <| h4 _ _ <| seq fun _ h8 => m_ldA (l := [.int .i64 bk, .int .i64 pg]) hM6 (i := 0) (j := 0) rfl rfl rfl rfl rfl ?_
 refine fa rfl <| m_ld (v := .int .i64 pg) hM6 (i := 0) (j := 0) rfl rfl rfl rfl <| stp (v := .agg ([.int .i64 bk, .int .i64 pg, .int .i64 pg, .slice none 0 0, .bool false] : List Value).toArray) (o_bld rfl rfl) <| m_bx (v := .agg ([.int .i64 bk, .int .i64 pg, .int .i64 pg, .slice none 0 0, .bool false] : List Value).toArray) hM6 rfl rfl fun b9 w10 (hM10 : Mem w [] w10 [[⟨b2, 36, [.int .i64 bk, .int .i64 pg]⟩], [⟨b9, 98, [.int .i64 bk, .int .i64 pg, .int .i64 pg, .slice none 0 0, .bool false]⟩]]) => mv <| mv <| h8 _ _ <| ⟨(.tuple [.pointer (some ⟨b9, 0, none⟩), .int .i64 0].toArray), rfl, ⟨_, _, rfl, ⟨_, [], rfl, Sl.nil 1 5⟩, (hM10.drop 0).keep (by simp)⟩⟩
theorem NewDecoder_no (bk pg : Int) (hb : inK .i64 bk) (hp : inK .i64 pg) (hmay : ¬ mayT bk pg) (w : World) : Calls Try.prog 31 [.agg [.int .i64 bk, .int .i64 pg].toArray].toArray w (Rt fun r w' => r = .tuple #[.pointer none, .int .i64 81] ∧ Upd [] w w') := by
 have hM0 : Mem w [] w [] := Mem.nil w []
 refine calls_vc mixed Try.func31 rfl C31 (by simp [Try.ntmps31]) <| seq fun _ h1 => m_bx (v := .agg ([.int .i64 bk, .int .i64 pg] : List Value).toArray) hM0 rfl rfl fun b2 w3 (hM3 : Mem w [] w3 [[⟨b2, 36, [.int .i64 bk, .int .i64 pg]⟩]]) => mv <| mv <| h1 _ _ <| seq fun _ h4 => seq fun _ h5 => m_ldA (l := [.int .i64 bk, .int .i64 pg]) hM3 (i := 0) (j := 0) rfl rfl rfl rfl rfl <| m_call (rightTrailG_ok bk pg hb hp w3) rfl fun v6 w6 ⟨n6, hr6, hu6⟩ => ?_
 have hM6 : Mem w [] w6 [[⟨b2, 36, [.int .i64 bk, .int .i64 pg]⟩]] := hM3.pure hu6
 rw [may_no hmay] at hr6
 subst hr6
 refine mv <| ext rfl rfl <| ext rfl rfl <| mv <| mv <| h5 _ _ <| seq fun _ h7 => mv <| stp (v := .bool true) (o_not rfl rfl) <| h7 _ _ <| cndT rfl <| seq fun _ h8 => mv <| mv ?_
 refine h8 _ _ <| ⟨(.tuple [.pointer none, .int .i64 81].toArray), rfl, ⟨rfl, hM6.upd⟩⟩
theorem Page_ok (bd : Nat) (bk pg left : Int) (L : List UInt8) (br : Bool) (x : Value) (c : List UInt8) (r0 : List Ent) (w : World) (hd : DecS bd bk pg left L br r0) (hr : Res w r0) (hfar : ∀ w', Upd (ids r0) w w' → RdE byteV w' x c) (hl0 : 0 ≤ left ∧ left ≤ 9223372036854775807) (hl : L.length + min c.length 4100 ≤ 140737488351232 ∧ c.length ≤ 140737488351232) : Calls Try.prog 33 [.pointer (some ⟨bd, 0, none⟩), x].toArray w (Rt fun r w' => ∃ r', r = .int .i64 (pgE left br c) ∧ DecS bd bk pg (if pgE left br c = 0 then left - (c.length : Nat) else left) (if pgE left br c = 0 then L ++ (openF c).1 else L) (if pgE left br c = 0 then br else true) r' ∧ Mem w (ids r0) w' [r']) := by
 obtain ⟨vb, rb, hr0, hb⟩ := hd
 obtain ⟨S0, hS0⟩ : ∃ S0, S0 = ids r0 := ⟨_, rfl⟩
 rw [← hS0] at hfar ⊢
 subst hr0
 have hM0 : Mem w S0 w [[⟨bd, 98, [.int .i64 bk, .int .i64 pg, .int .i64 left, vb, .bool br]⟩], rb] := (by rw [hS0]; exact Mem.start2 hr)
 refine calls_vc mixed Try.func33 rfl C33 (by simp [Try.ntmps33]) <| seq fun _ h1 => mv <| h1 _ _ <| seq fun _ h2 => seq fun _ h3 => mv <| stp (v := .bool false) (o_isnil rfl rfl) <| h3 _ _ <| cndF rfl <| h2 _ _ <| seq fun _ h4 => mv <| nilchk rfl ?_
 refine fa rfl <| m_ld (v := .int .i64 left) hM0 (i := 0) (j := 0) rfl rfl rfl rfl <| stp (v := .int .i64 (min (left : Int) (4100 : Int))) (o_mm rfl rfl rfl) <| mv <| h4 _ _ <| seq fun _ h5 => seq fun _ h6 => mv <| nilchk rfl <| fa rfl <| m_ld (v := .bool br) hM0 (i := 0) (j := 0) rfl rfl rfl rfl ?_
 rcases br with _ | _
 ·refine mv <| splitF rfl <| gmv rfl <| gbn rfl rfl rfl <| pkF rfl <| mv <| splitP rfl (fun c7 => ?_) (fun c7 => ?_)
  ·refine gx rfl <| gx rfl <| gx rfl <| gx rfl <| pkT rfl <| h6 _ _ <| cndT rfl <| seq fun _ h8 => mv <| nilchk rfl <| fa rfl <| m_st (v := .bool true) hM0 (i := 0) rfl rfl rfl rfl (by simp) fun w9 (hM9 : Mem w S0 w9 [[⟨bd, 98, [.int .i64 bk, .int .i64 pg, .int .i64 left, vb, .bool true]⟩], rb]) => h8 _ _ <| seq fun _ h10 => ?_
   refine mv <| h10 _ _ <| ⟨(.int .i64 80), rfl, ?_⟩
   have je := pgE_no (c := c) (left := left) (br := false) (.inr (.inl (by omega)))
   exact ⟨⟨bd, 98, [.int .i64 bk, .int .i64 pg, .int .i64 left, vb, .bool true]⟩ :: rb, by rw [je], ⟨_, _, by rw [je]; rfl, by rw [je]; exact hb⟩, hM9.keep (by simp)⟩
  refine gmv rfl <| stg rfl (v := .int .i64 (c.length : Nat)) (o_lenR ((hfar _ hM0.upd)) rfl rfl) <| gmv rfl <| gbneq rfl rfl rfl <| pkF rfl <| h6 _ _ <| cndP rfl (fun c11 => ?_) (fun c11 => ?_)
  ·refine seq fun _ h12 => mv <| nilchk rfl <| fa rfl <| m_st (v := .bool true) hM0 (i := 0) rfl rfl rfl rfl (by simp) fun w13 (hM13 : Mem w S0 w13 [[⟨bd, 98, [.int .i64 bk, .int .i64 pg, .int .i64 left, vb, .bool true]⟩], rb]) => h12 _ _ <| seq fun _ h14 => mv <| h14 _ _ <| ⟨(.int .i64 80), rfl, ?_⟩
   have je := pgE_no (c := c) (left := left) (br := false) (.inr (.inr (.inl (by omega))))
   exact ⟨⟨bd, 98, [.int .i64 bk, .int .i64 pg, .int .i64 left, vb, .bool true]⟩ :: rb, by rw [je], ⟨_, _, by rw [je]; rfl, by rw [je]; exact hb⟩, hM13.keep (by simp)⟩
  refine h5 _ _ <| seq fun _ h15 => mv <| m_call (Open_ok _ c w ((hfar _ hM0.upd)) (by first | omega | (simp; done) | (simp; omega))) rfl fun v16 w16 ⟨v16_, rs16, hr16, hs16, hm16⟩ => ?_
  have hM16 : Mem w S0 w16 [[⟨bd, 98, [.int .i64 bk, .int .i64 pg, .int .i64 left, vb, .bool false]⟩], rb, rs16] := hM0.add hm16
  subst hr16
  have hol16 := openF_len c
  refine mv <| ext rfl rfl <| ext rfl rfl <| mv <| mv <| h15 _ _ <| seq fun _ h17 => seq fun _ h18 => mv <| bneq rfl rfl <| h18 _ _ <| cndP rfl (fun c19 => ?_) (fun c19 => ?_)
  ·refine seq fun _ h20 => mv <| nilchk rfl <| fa rfl <| m_st (v := .bool true) hM16 (i := 0) rfl rfl rfl rfl (by simp) fun w21 (hM21 : Mem w S0 w21 [[⟨bd, 98, [.int .i64 bk, .int .i64 pg, .int .i64 left, vb, .bool true]⟩], rb, rs16]) => h20 _ _ <| seq fun _ h22 => mv <| h22 _ _ <| ⟨(.int .i64 80), rfl, ?_⟩
   have je := pgE_no (c := c) (left := left) (br := false) (.inr (.inr (.inr (by omega))))
   exact ⟨⟨bd, 98, [.int .i64 bk, .int .i64 pg, .int .i64 left, vb, .bool true]⟩ :: rb, by rw [je], ⟨_, _, by rw [je]; rfl, by rw [je]; exact hb⟩, hM21.keep (by simp)⟩
  refine h17 _ _ <| seq fun _ h23 => mv <| mv <| nilchk rfl <| fa rfl <| m_ld (v := vb) hM16 (i := 0) (j := 0) rfl rfl rfl rfl <| mv <| m_appE hM16 (i := 1) rfl hb rfl rfl (hs16.rd hM16 (i := 2) rfl) (by first | omega | (simp; omega)) (by omega) fun v24 w24 r24 (hs24 : SlE byteV 5 v24 (L ++ ((openF c).1)) r24) (hM24 : Mem w S0 w24 [[⟨bd, 98, [.int .i64 bk, .int .i64 pg, .int .i64 left, vb, .bool false]⟩], r24, rs16]) => nilchk rfl <| fa rfl <| m_st (v := v24) hM24 (i := 0) rfl rfl rfl (Sl.one hs24) (by simp) fun w25 (hM25 : Mem w S0 w25 [[⟨bd, 98, [.int .i64 bk, .int .i64 pg, .int .i64 left, v24, .bool false]⟩], r24, rs16]) => h23 _ _ <| seq fun _ h26 => mv <| nilchk rfl <| fa rfl <| m_ld (v := .int .i64 left) hM25 (i := 0) (j := 0) rfl rfl rfl rfl <| mv <| stp (v := .int .i64 (left - (min (left : Int) (4100 : Int)))) (o_bin rfl rfl (v_sub64 (by omega))) <| nilchk rfl <| fa rfl <| m_st (v := .int .i64 (left - (min (left : Int) (4100 : Int)))) hM25 (i := 0) rfl rfl rfl rfl (by simp) fun w27 (hM27 : Mem w S0 w27 [[⟨bd, 98, [.int .i64 bk, .int .i64 pg, .int .i64 (left - (min (left : Int) (4100 : Int))), v24, .bool false]⟩], r24, rs16]) => h26 _ _ <| seq fun _ h28 => mv <| h28 _ _ <| ⟨(.int .i64 0), rfl, ?_⟩
  have je := pgE_yes (c := c) (left := left) (by omega)
  exact ⟨⟨bd, 98, [.int .i64 bk, .int .i64 pg, .int .i64 (left - min left 4100), v24, .bool false]⟩ :: r24, by rw [je], ⟨_, _, by rw [je, if_pos rfl, if_pos rfl, show left - min left 4100 = left - (c.length : Nat) by omega], by rw [je]; exact hs24⟩, hM27.keep (by simp)⟩
 refine mv <| splitT rfl <| gx rfl <| gx rfl <| pkT rfl <| mv <| splitT rfl <| gx rfl <| gx rfl <| gx rfl <| gx rfl <| pkT rfl <| h6 _ _ <| cndT rfl <| seq fun _ h29 => mv <| nilchk rfl <| fa rfl <| m_st (v := .bool true) hM0 (i := 0) rfl rfl rfl rfl (by simp) fun w30 (hM30 : Mem w S0 w30 [[⟨bd, 98, [.int .i64 bk, .int .i64 pg, .int .i64 left, vb, .bool true]⟩], rb]) => h29 _ _ <| seq fun _ h31 => mv <| h31 _ _ <| ⟨(.int .i64 80), rfl, ?_⟩
 have je := pgE_no (c := c) (left := left) (br := true) (.inl rfl)
 exact ⟨⟨bd, 98, [.int .i64 bk, .int .i64 pg, .int .i64 left, vb, .bool true]⟩ :: rb, by rw [je], ⟨_, _, by rw [je]; rfl, by rw [je]; exact hb⟩, hM30.keep (by simp)⟩
