/- Footers as bytes: Encode. -/
import Derived.Test.YthhmhmnhbababaaD6
namespace Go.Proofs.Ythhmhmnhbababaa.E
open Go
theorem fixI_len (v : Int) : (fixedI v 8).length = 8 := by rw [fixedI_some (by omega), fixed_length]; rfl
theorem trF_len (sp : Int) (n : Nat) : (trF sp n).length = 24 := by
  unfold trF
  rw [seal_len, List.length_append, List.length_append, fixI_len, fixI_len]; rfl
theorem spB_nn : ∀ (bs : List Bi) (k : List UInt8), blsOk k bs → 0 ≤ spB bs
  | [], _, _ => by simp [spB]
  | b :: bs, k, h => by
    have ih := spB_nn bs b.cut h.2
    have hb := h.1.1
    unfold blkOk at hb
    have e : spB (b :: bs) = b.st + 5 + spB bs := by unfold spB; rw [List.map_cons, List.sum_cons]
    rw [e]; omega
theorem sp_nn (parts : Int) : ∀ (ps : List Pp) (last : Int) (n : Nat), infOk parts last n ps → 0 ≤ spaceF ps
  | [], _, _, _ => by simp [spaceF]
  | p :: ps, last, n, h => by
    have ih := sp_nn parts ps _ _ h.2
    have hb := spB_nn p.bl [] h.1.1.2.2.2.2
    have e : spaceF (p :: ps) = spB p.bl + spaceF ps := by unfold spaceF; rw [List.map_cons, List.sum_cons]
    rw [e]; omega
theorem drop_min {α : Type} (l : List α) (n : Nat) : l.drop (min l.length n) = l.drop n := by
  rcases Nat.lt_or_ge n l.length with h | h
  · rw [Nat.min_eq_right (by omega)]
  · rw [Nat.min_eq_left h, List.drop_length, List.drop_eq_nil_of_le h]
theorem encT_len (parts : Int) (ps : List Pp) : (encT parts ps).1.length ≤ 16793624 := by
  by_cases h : ftOk parts ps
  · by_cases h2 : 16777216 < (bodyF parts ps).length ∨ 268435456 < spaceF ps
    · rw [encT_full h h2]; simp
    · rw [encT_ok h h2]
      show (_ ++ _ : List UInt8).length ≤ _
      rw [List.length_append, trF_len, pages_len _ _ (Nat.le_refl _)]; omega
  · rw [encT_no h]; simp

/-- foot.Encode -/
theorem Encode_ok (parts : Int) (x : Value) (ps : List Pr) (w : World) (hx : RdS prC w x ps) (hok : ∀ p ∈ ps, p.ok w) (hl : ps.length ≤ 1954687338211) (hp : inK .i64 parts) : Calls Try.prog 24 [.agg [.int .i64 parts, x].toArray].toArray w (Rt fun r w' => ∃ v rs, r = .tuple [v, .int .i64 (encT parts (ps.map Pr.p)).2].toArray ∧ SlE byteV 5 v (encT parts (ps.map Pr.p)).1 rs ∧ Mem w [] w' [rs]) := by
  have hM0 : Mem w [] w [] := Mem.nil w []
  simp only [inK] at hp
  refine calls_vc mixed Try.func24 rfl C24 (by simp [Try.ntmps24]) ?_
  refine seq fun K1 h1 => ?_
  refine m_bx (v := .agg ([.int .i64 parts, x] : List Value).toArray) hM0 rfl rfl fun b2 w3 (hM3 : Mem w [] w3 [[⟨b2, 24, [.int .i64 parts, x]⟩]]) => ?_
  refine stp (v := .slice none 0 0) (o_mv rfl) ?_
  refine stp (v := .int .i64 0) (o_mv rfl) ?_
  refine h1 _ _ ?_
  clear h1
  refine seq fun K4 h4 => ?_
  refine seq fun K5 h5 => ?_
  refine m_ldA (l := [.int .i64 parts, x]) hM3 (i := 0) (j := 0) rfl rfl rfl rfl rfl ?_
  refine m_call (Check_ok parts _ ps w3 (hx.upd hM3.upd) (fun p hp => (hok p hp).upd hM3.upd) (by omega) (by simp only [inK]; omega)) rfl fun v6 w6 ⟨hr6, hu6⟩ => ?_
  have hM6 : Mem w [] w6 [[⟨b2, 24, [.int .i64 parts, x]⟩]] := hM3.pure hu6
  subst hr6
  refine stp (v := .int .i64 (chkF parts (List.map Pr.p ps))) (o_mv rfl) ?_
  refine h5 _ _ ?_
  clear h5
  refine seq fun K7 h7 => ?_
  refine stp (v := .int .i64 (chkF parts (List.map Pr.p ps))) (o_mv rfl) ?_
  refine stp (v := .bool (decide (¬ (chkF parts (List.map Pr.p ps)) = 0))) (o_bin rfl rfl v_neq) ?_
  refine h7 _ _ ?_
  clear h7
  refine cndP rfl (fun c8 => ?_) (fun c8 => ?_)
  ·
    refine seq fun K9 h9 => ?_
    refine stp (v := .int .i64 (chkF parts (List.map Pr.p ps))) (o_mv rfl) ?_
    refine stp (v := .slice none 0 0) (o_mv rfl) ?_
    refine stp (v := .int .i64 (chkF parts (List.map Pr.p ps))) (o_mv rfl) ?_
    refine h9 _ _ ?_
    clear h9
    refine ⟨(.tuple [.slice none 0 0, .int .i64 (chkF parts (List.map Pr.p ps))].toArray), rfl, ?_⟩
    have he := encT_no (parts := parts) (ps := ps.map Pr.p) (fun h => by have := chkF_0 h; omega)
    have hc := chkF_80 (parts := parts) (ps := ps.map Pr.p) (fun h => by have := chkF_0 h; omega)
    exact ⟨.slice none 0 0, [], by rw [he, hc], by rw [he]; exact Sl.nil 1 5, hM6.keep (by simp)⟩
  ·
    refine h4 _ _ ?_
    clear h4
    refine seq fun K10 h10 => ?_
    intro wd e1 e2 e3 e4
    have hd := Upd.same e1 e2 e3 e4 []
    have hM11 := hM6.pure hd
    clear e1 e2 e3 e4
    refine ⟨(some [b2]), ?_⟩
    show vd _ _ _ _ _ _ _
    refine dqldA (cs := [.int .i64 parts, x]) rfl (by simp [isHeld]) rfl ((hM11.at (i := 0) (j := 0) rfl rfl).agg rfl rfl) ?_
    refine dl (m_ldA (l := [.int .i64 parts, x]) hM11 (i := 0) (j := 0) rfl rfl rfl rfl rfl ?_)
    refine ⟨(fun b hb => rfl), ?_⟩
    have hft : ftOk parts (ps.map Pr.p) := chkF_iff.1 (by omega)
    refine dl (m_call (body_ok parts _ ps wd (hx.upd hM11.upd) (fun p hp => (hok p hp).upd hM11.upd) (by omega) (by simp only [inK]; omega) (by assumption)) rfl fun v12 w12 ⟨rs12, hs12, hm12⟩ => ?_)
    have hM12 : Mem w [] w12 [[⟨b2, 24, [.int .i64 parts, x]⟩], rs12] := hM11.add hm12
    have hh12 := held_upd (wr := wd) (bs := [b2]) hm12.upd (fun b hb => by
      simp only [List.mem_cons, List.not_mem_nil, or_false] at hb
      rw [hb]; exact ⟨(hM11.at (i := 0) (j := 0) rfl rfl).lt, by simp⟩) (fun b hb => rfl)
    refine ⟨hh12, ?_⟩
    refine dl (m_call (space_ok parts _ ps w12 (hx.upd hM12.upd) (fun p hp => (hok p hp).upd hM12.upd) (by omega) (by simp only [inK]; omega) (by assumption)) rfl fun v13 w13 ⟨hr13, hu13⟩ => ?_)
    have hM13 : Mem w [] w13 [[⟨b2, 24, [.int .i64 parts, x]⟩], rs12] := hM12.pure hu13
    subst hr13
    have hh13 := held_upd (wr := wd) (bs := [b2]) hu13 (fun b hb => by
      simp only [List.mem_cons, List.not_mem_nil, or_false] at hb
      rw [hb]; exact ⟨(hM12.at (i := 0) (j := 0) rfl rfl).lt, by simp⟩) hh12
    refine ⟨hh13, ?_⟩
    refine dq (v := v12) (o_mv rfl) ?_
    refine dq (v := .int .i64 (spaceF (List.map Pr.p ps))) (o_mv rfl) ?_
    refine h10 _ _ ?_
    clear h10
    refine seq fun K14 h14 => ?_
    refine seq fun K15 h15 => ?_
    refine stp (v := v12) (o_mv rfl) ?_
    refine stp (v := .int .i64 ((bodyF parts (List.map Pr.p ps)).length : Nat)) (o_lenR (hs12.rd hM13 (i := 1) rfl) rfl rfl) ?_
    refine stp (v := .bool (decide ((16777216 : Int) < (((bodyF parts (List.map Pr.p ps)).length : Nat) : Int)))) (o_bin rfl rfl rfl) ?_
    refine stp (v := .bool (decide ((16777216 : Int) < (((bodyF parts (List.map Pr.p ps)).length : Nat) : Int)))) (o_mv rfl) ?_
    refine splitP rfl (fun c16 => ?_) (fun c16 => ?_)
    ·
      refine gno rfl (by simp) ?_
      refine gno rfl (by simp) ?_
      refine stp (v := .bool true) (o_pickT rfl rfl) ?_
      refine h15 _ _ ?_
      clear h15
      refine cndT rfl ?_
      refine seq fun K17 h17 => ?_
      refine stp (v := .slice none 0 0) (o_mv rfl) ?_
      refine stp (v := .int .i64 62) (o_mv rfl) ?_
      refine h17 _ _ ?_
      clear h17
      refine ⟨(.tuple [.slice none 0 0, .int .i64 62].toArray), rfl, ?_⟩
      exact ⟨.slice none 0 0, [], by rw [encT_full hft (.inl (by omega))], by rw [encT_full hft (.inl (by omega))]; exact Sl.nil 1 5, hM13.keep (by simp)⟩
    ·
      refine stg rfl (v := .int .i64 (spaceF (List.map Pr.p ps))) (o_mv rfl) ?_
      refine stg rfl (v := .bool (decide ((268435456 : Int) < (spaceF (List.map Pr.p ps))))) (o_bin rfl rfl rfl) ?_
      refine stp (v := .bool (decide ((268435456 : Int) < (spaceF (List.map Pr.p ps))))) (o_pickF rfl rfl) ?_
      refine h15 _ _ ?_
      clear h15
      refine cndP rfl (fun c18 => ?_) (fun c18 => ?_)
      ·
        refine seq fun K19 h19 => ?_
        refine stp (v := .slice none 0 0) (o_mv rfl) ?_
        refine stp (v := .int .i64 62) (o_mv rfl) ?_
        refine h19 _ _ ?_
        clear h19
        refine ⟨(.tuple [.slice none 0 0, .int .i64 62].toArray), rfl, ?_⟩
        exact ⟨.slice none 0 0, [], by rw [encT_full hft (.inr (by omega))], by rw [encT_full hft (.inr (by omega))]; exact Sl.nil 1 5, hM13.keep (by simp)⟩
      ·
        refine h14 _ _ ?_
        clear h14
        refine seq fun K20 h20 => ?_
        refine stp (v := .slice none 0 0) (o_mv rfl) ?_
        refine h20 _ _ ?_
        clear h20
        refine seq fun K21 h21 => ?_
        refine m_mksE (E := byteV) (z := 0) (n := 4096) (c := 4096) rfl hM13 (v_int (by omega)) (v_int (by omega)) (by omega) (by omega) (by omega) fun v22 w22 r22 hs22 (hM22 : Mem w [] w22 [[⟨b2, 24, [.int .i64 parts, x]⟩], rs12, r22]) => ?_
        refine stp (v := v22) (o_mv rfl) ?_
        refine h21 _ _ ?_
        clear h21
        refine seq fun K23 h23 => ?_
        refine seq fun K24 h24 => ?_
        refine stp (v := v12) (o_mv rfl) ?_
        refine stp (v := v12) (o_mv rfl) ?_
        refine h24 _ _ ?_
        clear h24
        have hM25 : Mem w [] w22 [[⟨b2, 24, [.int .i64 parts, x]⟩], rs12, r22, []] := hM22.addNil
        have hs25 : SlE byteV 5 (.slice none 0 0) [] [] := Sl.nil 1 5
        refine lp (n := fun _ _ => False) (ι := (Value) × (List UInt8) × (List UInt8) × (List UInt8) × (Value) × (List Ent) × (Value) × (List Ent)) (fun ⟨lv, rest, out, Pg, y7_, r7_, y8_, r8_⟩ f w' => f 7 = y7_ ∧ f 8 = y8_ ∧ f 9 = lv ∧ f 6 = .int .i64 (spaceF (List.map Pr.p ps)) ∧ Mem w [] w' [[⟨b2, 24, [.int .i64 parts, x]⟩], rs12, r8_, r7_] ∧ (∀ w2, RdE byteV w2 v12 (bodyF parts (List.map Pr.p ps)) → RdE byteV w2 lv rest) ∧ (pagesF (bodyF parts (List.map Pr.p ps)) = out ++ pagesF rest) ∧ (Pg.length = 4096) ∧ (rest.length ≤ 16777216) ∧ (SlE byteV 5 y7_ (out) r7_) ∧ (SlE byteV 5 y8_ (Pg) r8_)) (fun ⟨lv, rest, out, Pg, y7_, r7_, y8_, r8_⟩ => rest.length) (v12, (bodyF parts (List.map Pr.p ps)), [], (List.replicate 4096 0), ((.slice none 0 0)), ([]), v22, r22) ?_ ?_
        · exact ⟨rfl, rfl, rfl, by first | rfl | exact v_int (by omega) | exact v_int (by simp) | exact v_int (by simp; omega), hM25, fun w2 h => h, rfl, List.length_replicate, by omega, by first | exact hs25 | simpa using hs25, by first | exact hs22 | simpa using hs22⟩
        · rintro ⟨lv, rest, out, Pg, y7_, r7_, y8_, r8_⟩ f w26 ⟨e26_7, e26_8, e26_9, e26_6, hM26, hcut, hE, hPl, hrl, hy7_, hy8_⟩ K27 h27
          obtain ⟨frm, rfl⟩ : ∃ frm, f = (upd (upd (upd (upd frm 7 (y7_)) 8 (y8_)) 9 (lv)) 6 (.int .i64 (spaceF (List.map Pr.p ps)))) := ⟨f, by rw [upd_self e26_7, upd_self e26_8, upd_self e26_9, upd_self e26_6]⟩
          clear e26_7 e26_8 e26_9 e26_6
          refine seq fun K28 h28 => ?_
          refine seq fun K29 h29 => ?_
          refine stp (v := lv) (o_mv rfl) ?_
          refine stp (v := .int .i64 (rest.length : Nat)) (o_lenR ((hcut _ (hs12.rd hM26 (i := 1) rfl))) rfl rfl) ?_
          refine stp (v := .bool (decide ((0 : Int) < ((rest.length : Nat) : Int)))) (o_bin rfl rfl rfl) ?_
          refine h29 _ _ ?_
          clear h29
          refine cndP rfl (fun c30 => ?_) (fun c30 => ?_)
          ·
            refine h28 _ _ ?_
            clear h28
            refine seq fun K31 h31 => ?_
            refine stp (v := y8_) (o_mv rfl) ?_
            refine stp (v := lv) (o_mv rfl) ?_
            refine m_cpyE (E := byteV) hM26 (i := 2) rfl hy8_ rfl rfl ((hcut _ (hs12.rd hM26 (i := 1) rfl))) fun w32 r32 hs32 (hM32 : Mem w [] w32 [[⟨b2, 24, [.int .i64 parts, x]⟩], rs12, r32, r7_]) => ?_
            refine stp (v := .int .i64 (min rest.length Pg.length : Nat)) (o_mv rfl) ?_
            refine h31 _ _ ?_
            clear h31
            refine seq fun K33 h33 => ?_
            refine stp (v := y7_) (o_mv rfl) ?_
            refine stp (v := y8_) (o_mv rfl) ?_
            refine stp (v := .int .i64 (min rest.length Pg.length : Nat)) (o_mv rfl) ?_
            have hcq : (List.take Pg.length rest ++ List.drop rest.length Pg).take (min rest.length Pg.length) = rest.take 4096 := by
              rw [hPl, List.take_append_of_le_length (by rw [List.length_take]; omega), List.take_take]
              rcases Nat.lt_or_ge rest.length 4096 with h9 | h9
              · rw [show min (min rest.length 4096) 4096 = rest.length by omega, List.take_length, List.take_of_length_le (by omega)]
              · rw [show min (min rest.length 4096) 4096 = 4096 by omega]
            refine m_slcO (min rest.length Pg.length) (hs32) rfl (by simp only [List.length_append, List.length_take, List.length_drop]; omega) (⟨_, rfl⟩) trivial fun u34 hu34 => ?_
            have hu34' := SlE.eqL (m := rest.take 4096) hu34 (hcq)
            refine m_call (pSeal_ok _ (rest.take 4096) w32 (hu34'.rd hM32 (i := 2) rfl) (by first | omega | (simp only [List.length_take, List.length_append] at *; omega))) rfl fun v35 w35 ⟨rs35, hs35, hm35⟩ => ?_
            have hM35 : Mem w [] w35 [[⟨b2, 24, [.int .i64 parts, x]⟩], rs12, r32, r7_, rs35] := hM32.add hm35
            have hsl35 := seal_len (rest.take 4096)
            have h9 := congrArg List.length hE
            rw [pages_cons (b := rest) (by omega), List.length_append, List.length_append, pages_len _ _ (Nat.le_refl _)] at h9
            refine m_appE hM35 (i := 3) rfl hy7_ rfl rfl (hs35.rd hM35 (i := 4) rfl) (by first | omega | (simp; omega)) (by omega) fun v36 w36 r36 (hs36 : SlE byteV 5 v36 (out ++ (sealF (rest.take 4096))) r36) (hM36 : Mem w [] w36 [[⟨b2, 24, [.int .i64 parts, x]⟩], rs12, r32, r36, rs35]) => ?_
            refine stp (v := v36) (o_mv rfl) ?_
            refine h33 _ _ ?_
            clear h33
            refine stp (v := lv) (o_mv rfl) ?_
            refine stp (v := .int .i64 (min rest.length Pg.length : Nat)) (o_mv rfl) ?_
            refine m_slcA (min rest.length Pg.length) (hcut _ (hs12.rd hM36 (i := 1) rfl)) rfl (by omega) rfl fun u44 hu44 => ?_
            refine stp (v := u44) (o_mv rfl) ?_
            refine h27 (u44, rest.drop 4096, (out ++ (sealF (rest.take 4096))), (rest.take Pg.length ++ Pg.drop rest.length), v36, r36, y8_, r32) _ _ ⟨rfl, rfl, rfl, by first | rfl | exact v_int (by omega) | exact v_int (by simp) | exact v_int (by simp; omega), hM36.keep (by simp), fun w2 h => by have h9 := hu44 _ (hcut w2 h); rwa [hPl, drop_min] at h9, by rw [hE, pages_cons (b := rest) (by omega), List.append_assoc], by rw [List.length_append, List.length_take, List.length_drop]; omega, by rw [List.length_drop]; omega, by first | exact hs36 | simpa using hs36, by first | exact hs32 | simpa using hs32⟩ (by dsimp only; rw [List.length_drop]; omega)
          ·
            refine h23 _ _ ?_
            clear h23
            refine seq fun K37 h37 => ?_
            have hsn := sp_nn parts _ _ _ hft.2
            have he0 := pages_nil (b := rest) (by omega)
            rw [he0, List.append_nil] at hE
            have h9 := congrArg List.length hE
            rw [pages_len _ _ (Nat.le_refl _)] at h9
            refine m_bs hM26 rfl fun b38 w39 (hM39 : Mem w [] w39 [[⟨b2, 24, [.int .i64 parts, x]⟩], rs12, r8_, r7_, [⟨b38, 5, [.int .u8 119, .int .u8 110, .int .u8 119, .int .u8 49]⟩]]) => ?_
            refine m_mark hM39 (i := 4) rfl Try.underlying34 Try.underlying5 rfl fun w40 (hM40 : Mem w [] w40 [[⟨b2, 24, [.int .i64 parts, x]⟩], rs12, r8_, r7_, [⟨b38, 5, [.int .u8 119, .int .u8 110, .int .u8 119, .int .u8 49]⟩]]) => ?_
            refine stp (v := .slice (some ⟨b38, 0, none⟩) 4 4) (o_mv rfl) ?_
            refine h37 _ _ ?_
            clear h37
            refine seq fun K41 h41 => ?_
            refine stp (v := .slice (some ⟨b38, 0, none⟩) 4 4) (o_mv rfl) ?_
            refine stp (v := .int .i64 (spaceF (List.map Pr.p ps))) (o_mv rfl) ?_
            refine stp (v := .int .u64 (spaceF (List.map Pr.p ps))) (o_conv rfl (v_same (by simp only [inK]; omega))) ?_
            refine m_call (Fixed_ok (spaceF (List.map Pr.p ps)) 8 (by simp only [inK]; omega) (by simp only [inK]; omega) w40) rfl fun v42 w42 ⟨rs42, hs42, hm42⟩ => ?_
            have hM42 : Mem w [] w42 [[⟨b2, 24, [.int .i64 parts, x]⟩], rs12, r8_, r7_, [⟨b38, 5, [.int .u8 119, .int .u8 110, .int .u8 119, .int .u8 49]⟩], rs42] := hM40.add hm42
            have hn42 := fixedI_len (v := spaceF (List.map Pr.p ps)) (n := 8)
            have hf1 := fixI_len (spaceF (List.map Pr.p ps))
            have hs43 : SlE byteV 5 (.slice (some ⟨b38, 0, none⟩) 4 4) [119, 110, 119, 49] [⟨b38, 5, [.int .u8 119, .int .u8 110, .int .u8 119, .int .u8 49]⟩] := SlE.lit (l := [119, 110, 119, 49]) rfl
            refine m_appE hM42 (i := 4) rfl hs43 rfl rfl (hs42.rd hM42 (i := 5) rfl) (by first | omega | (simp; omega)) (by omega) fun v44 w44 r44 (hs44 : SlE byteV 5 v44 (([119, 110, 119, 49]) ++ (fixedI (spaceF (List.map Pr.p ps)) 8)) r44) (hM44 : Mem w [] w44 [[⟨b2, 24, [.int .i64 parts, x]⟩], rs12, r8_, r7_, r44, rs42]) => ?_
            refine stp (v := v44) (o_mv rfl) ?_
            refine h41 _ _ ?_
            clear h41
            refine seq fun K45 h45 => ?_
            refine stp (v := v44) (o_mv rfl) ?_
            refine stp (v := y7_) (o_mv rfl) ?_
            refine stp (v := .int .i64 (out.length : Nat)) (o_lenR (hy7_.rd hM44 (i := 3) rfl) rfl rfl) ?_
            refine stp (v := .int .u64 (out.length : Nat)) (o_conv rfl (v_same (by simp only [inK]; omega))) ?_
            refine m_call (Fixed_ok (out.length : Nat) 8 (by simp only [inK]; omega) (by simp only [inK]; omega) w44) rfl fun v46 w46 ⟨rs46, hs46, hm46⟩ => ?_
            have hM46 : Mem w [] w46 [[⟨b2, 24, [.int .i64 parts, x]⟩], rs12, r8_, r7_, r44, rs42, rs46] := hM44.add hm46
            have hn46 := fixedI_len (v := (out.length : Nat)) (n := 8)
            have hf2 := fixI_len (out.length : Nat)
            have hml : ([119, 110, 119, 49] : List UInt8).length = 4 := rfl
            refine m_appE hM46 (i := 4) rfl hs44 rfl rfl (hs46.rd hM46 (i := 6) rfl) (by first | omega | (simp; omega)) (by omega) fun v47 w47 r47 (hs47 : SlE byteV 5 v47 ((([119, 110, 119, 49]) ++ (fixedI (spaceF (List.map Pr.p ps)) 8)) ++ (fixedI (out.length : Nat) 8)) r47) (hM47 : Mem w [] w47 [[⟨b2, 24, [.int .i64 parts, x]⟩], rs12, r8_, r7_, r47, rs42, rs46]) => ?_
            refine stp (v := v47) (o_mv rfl) ?_
            refine h45 _ _ ?_
            clear h45
            refine seq fun K48 h48 => ?_
            refine stp (v := y7_) (o_mv rfl) ?_
            refine stp (v := v47) (o_mv rfl) ?_
            refine m_call (pSeal_ok _ ((([119, 110, 119, 49]) ++ (fixedI (spaceF (List.map Pr.p ps)) 8)) ++ (fixedI (out.length : Nat) 8)) w47 (hs47.rd hM47 (i := 4) rfl) (by first | omega | (simp only [List.length_take, List.length_append] at *; omega))) rfl fun v49 w49 ⟨rs49, hs49, hm49⟩ => ?_
            have hM49 : Mem w [] w49 [[⟨b2, 24, [.int .i64 parts, x]⟩], rs12, r8_, r7_, r47, rs42, rs46, rs49] := hM47.add hm49
            have hsl49 := seal_len ((([119, 110, 119, 49]) ++ (fixedI (spaceF (List.map Pr.p ps)) 8)) ++ (fixedI (out.length : Nat) 8))
            have hsl9 : (sealF (119 :: 110 :: 119 :: 49 :: (fixedI (spaceF (List.map Pr.p ps)) 8 ++ fixedI (out.length : Nat) 8))).length = 24 := trF_len (spaceF (List.map Pr.p ps)) out.length
            refine m_appE hM49 (i := 3) rfl hy7_ rfl rfl (hs49.rd hM49 (i := 7) rfl) (by first | omega | (simp; omega)) (by omega) fun v50 w50 r50 (hs50 : SlE byteV 5 v50 (out ++ (sealF ((([119, 110, 119, 49]) ++ (fixedI (spaceF (List.map Pr.p ps)) 8)) ++ (fixedI (out.length : Nat) 8)))) r50) (hM50 : Mem w [] w50 [[⟨b2, 24, [.int .i64 parts, x]⟩], rs12, r8_, r50, r47, rs42, rs46, rs49]) => ?_
            refine stp (v := v50) (o_mv rfl) ?_
            refine stp (v := .int .i64 0) (o_mv rfl) ?_
            refine h48 _ _ ?_
            clear h48
            refine ⟨(.tuple [v50, .int .i64 0].toArray), rfl, ?_⟩
            have he := encT_ok (parts := parts) (ps := ps.map Pr.p) hft (by omega)
            exact ⟨_, _, by rw [he], by rw [he, hE]; exact hs50, hM50.keep (by simp; exact .cons _ (by repeat first | exact List.sublist_append_left _ _ | refine List.sublist_append_of_sublist_right ?_))⟩
