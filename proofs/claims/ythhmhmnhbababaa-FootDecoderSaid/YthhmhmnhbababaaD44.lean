/- The reference's Decode. -/
import Derived.Test.YthhmhmnhbababaaD43
import Derived.Test.YthhmhmnhbababaaE23
namespace Go.Proofs.Ythhmhmnhbababaa.E
open Go
theorem nextS_ok (bd : Nat) (bk pg came : Int) (L : List UInt8) (br : Bool) (r0 : List Ent) (w : World) (hd : RDecS bd bk pg came L br r0) (hr : Res w r0) (hc : 0 ≤ came ∧ came ≤ pg ∧ pg ≤ 9223372036854775807) : Calls Try.prog 64 [.pointer (some ⟨bd, 0, none⟩)].toArray w (Rt fun r w' => r = .int .i64 (min (pg - came) 4100) ∧ Upd [] w w') := by
 obtain ⟨vb, rb, rfl, hb⟩ := hd
 exact next_ok bd bk pg came vb br w (hr.1 _ (by simp)) hc
set_option maxRecDepth 100000 in
theorem rDecode_run (bk pg : Int) (x : Value) (pages : List UInt8) (w : World) (hb : inK .i64 bk) (hp : inK .i64 pg) (hmay : mayT bk pg) (hx : RdE byteV w x pages) (hl : pages.length ≤ 140737488351232) : Calls Try.prog 40 [x, .agg [.int .i64 bk, .int .i64 pg].toArray].toArray w (Rt fun r w' => ∃ P v ps rs NS e, r = .tuple #[.agg #[.int .i64 P, v], .int .i64 e] ∧ SlS prC 5 71 v ps rs ∧ Nest NS ps ∧ (0 ≤ P ∧ P ≤ 65535) ∧ ps.length ≤ 65535 ∧ DcSpec pages bk pg P (ps.map Pr.p) e ∧ Mem w [] w' [rs, NS]) := by
 have hM0 : Mem w [] w [] := Mem.nil w []
 refine calls_vc mixed Try.func40 rfl C40 (by simp [Try.ntmps40]) <| seq fun _ h1 => m_bx (v := .agg ([.int .i64 bk, .int .i64 pg] : List Value).toArray) hM0 rfl rfl fun b2 w3 (hM3 : Mem w [] w3 [[⟨b2, 36, [.int .i64 bk, .int .i64 pg]⟩]]) => m_al hM3 fun b4 w5 (hM5 : Mem w [] w5 [[⟨b2, 36, [.int .i64 bk, .int .i64 pg]⟩], [⟨b4, 24, [.int .i64 0, .slice none 0 0]⟩]]) => mv <| h1 _ _ <| seq fun _ h6 => m_ldA (l := [.int .i64 bk, .int .i64 pg]) hM5 (i := 0) (j := 0) rfl rfl rfl rfl rfl <| m_call (rNewDecoder_yes bk pg hb hp hmay w5) rfl fun v7 w7 ⟨bd7, rs7, hr7, hd7, hm7⟩ => ?_
 have hM7 : Mem w [] w7 [[⟨b2, 36, [.int .i64 bk, .int .i64 pg]⟩], [⟨b4, 24, [.int .i64 0, .slice none 0 0]⟩], rs7] := hM5.add hm7
 subst hr7
 refine mv <| ext rfl rfl <| ext rfl rfl <| mv <| mv <| h6 _ _ <| seq fun _ h8 => seq fun _ h9 => mv <| stp (v := .bool false) (o_bin rfl rfl v_neF) <| h9 _ _ <| cndF rfl <| h8 _ _ <| seq fun _ h10 => ?_
 refine seq fun _ h11 => mv <| stp (v := .int .i64 (pages.length : Nat)) (o_lenR (hx.upd hM7.upd) rfl rfl) <| fa rfl <| m_ld (v := .int .i64 pg) hM7 (i := 0) (j := 0) rfl rfl rfl rfl <| bneq rfl rfl <| h11 _ _ <| cndP rfl (fun c12 => ?_) (fun c12 => ?_)
 ·refine seq fun _ h13 => stp (v := .agg ([.int .i64 0, .slice none 0 0] : List Value).toArray) (o_bld rfl rfl) <| m_stA (l := [.int .i64 0, .slice none 0 0]) hM7 (i := 1) rfl rfl rfl rfl (by simp [oneCells, Value.oneCell', byteV]) (by simp) fun w14 (hM14 : Mem w [] w14 [[⟨b2, 36, [.int .i64 bk, .int .i64 pg]⟩], [⟨b4, 24, [.int .i64 0, .slice none 0 0]⟩], rs7]) => mv <| h13 _ _ ?_
  show resV _ _ _ _ _
  refine res_cell (s := some 2) (by kernel_rfl) <| vl_ldA (cs := [.int .i64 0, .slice none 0 0]) rfl rfl ((hM14.at (i := 1) (j := 0) rfl rfl).agg rfl rfl) <| res_tmp <| ⟨(.tuple [.agg ([.int .i64 0, .slice none 0 0] : List Value).toArray, .int .i64 80].toArray), rfl, ⟨0, .slice none 0 0, [], [], [], 80, rfl, Sl.nil 5 71, Nest.nil, by omega, by simp, Dc_len hmay (by omega), hM14.keep (by simp)⟩⟩
 refine h10 _ _ <| seq fun _ h15 => mv <| h15 _ _ <| seq fun _ h16 => lp (n := fun _ _ => False) (ι := (Nat) × (List UInt8) × (List UInt8) × (List Ent)) (fun ⟨a, rest, B, rc⟩ f w' => f 8 = .int .i64 (a : Nat) ∧ f 6 = .pointer (some ⟨bd7, 0, none⟩) ∧ f 0 = x ∧ f 3 = .pointer (some ⟨b2, 0, none⟩) ∧ f 4 = .pointer (some ⟨b4, 0, none⟩) ∧ Mem w [] w' [[⟨b2, 36, [.int .i64 bk, .int .i64 pg]⟩], [⟨b4, 24, [.int .i64 0, .slice none 0 0]⟩], rc] ∧ (rest = pages.drop a) ∧ (rest.length + a = pages.length) ∧ (RDecS bd7 bk pg (a : Nat) B false rc) ∧ (unpF pages = (unpF rest).map (B ++ ·)) ∧ (B.length + rest.length ≤ pages.length)) (fun ⟨a, rest, B, rc⟩ => rest.length) (0, pages, [], rs7) ?_ ?_
 ·exact ⟨vi, rfl, rfl, rfl, rfl, hM7, rfl, rfl, hd7, by simp, by simp⟩
 rintro ⟨a, rest, B, rc⟩ f w17 ⟨e17_8, e17_6, e17_0, e17_3, e17_4, hM17, hre, hrl, hdl, hU, hBl⟩ K18 h18
 obtain ⟨frm, rfl⟩ := re5 e17_8 e17_6 e17_0 e17_3 e17_4
 refine seq fun _ h19 => seq fun _ h20 => mv <| fa rfl <| m_ld (v := .int .i64 pg) hM17 (i := 0) (j := 0) rfl rfl rfl rfl <| bn rfl rfl <| h20 _ _ <| cndP rfl (fun c21 => ?_) (fun c21 => ?_)
 ·refine h19 _ _ <| seq fun _ h22 => mv <| m_call (nextS_ok _ bk pg (a : Nat) B false rc w17 hdl (hM17.res (i := 2) rfl) (by omega)) rfl fun v23 w23 ⟨hr23, hu23⟩ => ?_
  have hM23 : Mem w [] w23 [[⟨b2, 36, [.int .i64 bk, .int .i64 pg]⟩], [⟨b4, 24, [.int .i64 0, .slice none 0 0]⟩], rc] := hM17.pure hu23
  rw [show min (pg - ((a : Nat) : Int)) 4100 = (((min rest.length 4100) : Nat) : Int) by omega] at hr23
  subst hr23
  refine mv <| h22 _ _ <| seq fun _ h24 => mv <| mv <| mv <| mv <| mv <| stp (v := .int .i64 (a + (min rest.length 4100) : Nat)) (o_bin rfl rfl ((v_add64 (by omega)).trans (v_int (by omega)))) <| m_slcW a (a + (min rest.length 4100)) (hx.upd hM23.upd) rfl (by omega) (by omega) rfl rfl fun u37 hu37 => ?_
  have hu37b : ∀ w2, RdE byteV w2 x pages → RdE byteV w2 u37 (rest.take (min rest.length 4100)) := fun w2 h => by
   have h9 := hu37 w2 h
   rwa [Nat.add_sub_cancel_left, ← hre] at h9
  refine m_call (rPage_ok _ bk pg (a : Nat) B false _ (rest.take (min rest.length 4100)) rc w23 hdl (hM23.res (i := 2) rfl) (fun w9 hu9 => hu37b _ (hx.upd (hM23.far (i := 2) rfl hu9))) (by omega) (by rw [List.length_take]; omega)) rfl fun v25 w25 ⟨r'25, hr25, hd25, hm25⟩ => ?_
  have hM25 : Mem w [] w25 [[⟨b2, 36, [.int .i64 bk, .int .i64 pg]⟩], [⟨b4, 24, [.int .i64 0, .slice none 0 0]⟩], r'25] := hM23.step 2 rfl hm25
  subst hr25
  refine mv <| h24 _ _ <| seq fun _ h26 => seq fun _ h27 => mv <| bneq rfl rfl <| h27 _ _ <| cndP rfl (fun c28 => ?_) (fun c28 => ?_)
  ·refine seq fun _ h29 => stp (v := .agg ([.int .i64 0, .slice none 0 0] : List Value).toArray) (o_bld rfl rfl) <| mv <| m_stA (l := [.int .i64 0, .slice none 0 0]) hM25 (i := 1) rfl rfl rfl rfl (by simp [oneCells, Value.oneCell', byteV]) (by simp) fun w30 (hM30 : Mem w [] w30 [[⟨b2, 36, [.int .i64 bk, .int .i64 pg]⟩], [⟨b4, 24, [.int .i64 0, .slice none 0 0]⟩], r'25]) => mv <| h29 _ _ ?_
   show resV _ _ _ _ _
   refine res_cell (s := some 2) (by kernel_rfl) <| vl_ldA (cs := [.int .i64 0, .slice none 0 0]) rfl rfl ((hM30.at (i := 1) (j := 0) rfl rfl).agg rfl rfl) <| res_tmp <| ⟨(.tuple [.agg ([.int .i64 0, .slice none 0 0] : List Value).toArray, .int .i64 (pgE (pg - (a : Nat)) false (rest.take (min rest.length 4100)))].toArray), rfl, ?_⟩
   have hz := pgE_n (c := rest.take (min rest.length 4100)) (left := pg - (a : Nat)) (by omega) (by omega) (by rw [List.length_take]; omega)
   exact ⟨0, .slice none 0 0, [], [], [], 80, by rw [hz.1], Sl.nil 5 71, Nest.nil, by omega, by simp, Dc_page hmay hU (unp_bad (by omega) (by have h9 := hz.2; rwa [take_min] at h9)), hM30.keep (by simp)⟩
  refine h26 _ _ ?_
  have hz0 : pgE (pg - (a : Nat)) false (rest.take (min rest.length 4100)) = 0 := by omega
  have hz4 := (pgE_0 hz0).2.2.2
  rw [take_min] at hz4
  refine mv <| mv <| stp (v := .int .i64 (a + (min rest.length 4100) : Nat)) (o_bin rfl rfl ((v_add64 (by omega)).trans (v_int (by omega)))) <| mv ?_
  refine h18 (a + (min rest.length 4100), rest.drop 4100, B ++ (openF (rest.take 4100)).1, r'25) _ _ ⟨vi, rfl, rfl, rfl, rfl, hM25, by rw [← List.drop_drop, ← hre]; exact (drop_min rest 4100).symm, by rw [List.length_drop]; omega, by
   have h9 := hd25
   rw [if_pos hz0, if_pos hz0, if_pos hz0, take_min] at h9
   have e9 : ((a : Nat) : Int) + ((rest.take 4100).length : Nat) = ((a + (min rest.length 4100) : Nat) : Int) := by rw [List.length_take]; omega
   rw [e9] at h9
   exact h9, by rw [hU, unp_cons (by omega) hz4, Option.map_map]; congr 1; funext y; simp, by rw [List.length_append, List.length_drop]; have h9 := openF_len (rest.take 4100); rw [List.length_take] at h9; omega⟩ (by dsimp only; rw [List.length_drop]; omega)
 refine h16 _ _ <| seq fun _ h31 => ?_
 have hdz := hdl
 rw [show ((a : Nat) : Int) = pg by omega] at hdz
 refine mv <| m_call (rFoot_ok _ bk pg B rc w17 hdz (hM17.res (i := 2) rfl) (by omega)) rfl fun v32 w32 ⟨P32, v32_, ps32, rs32, NS32, e32, hr32, hs32, hN32, hP32, hpl32, hsp32, hm32⟩ => ?_
 have hM32 : Mem w [] w32 [[⟨b2, 36, [.int .i64 bk, .int .i64 pg]⟩], [⟨b4, 24, [.int .i64 0, .slice none 0 0]⟩], rc, rs32, NS32] := ((hM17.stepAdd 2 rfl (hm32.keep (by simp) : Mem _ _ _ [rc, rs32 ++ NS32])).keep (by simp))
 subst hr32
 obtain ⟨av32, lv32, cv32, rfl⟩ := hs32.isSlice
 refine ext rfl rfl <| ext rfl rfl <| m_stA (l := [.int .i64 P32, (.slice av32 lv32 cv32)]) hM32 (i := 1) rfl rfl rfl rfl (by simp [oneCells, Value.oneCell', byteV]) (by simp) fun w33 (hM33 : Mem w [] w33 [[⟨b2, 36, [.int .i64 bk, .int .i64 pg]⟩], [⟨b4, 24, [.int .i64 P32, (.slice av32 lv32 cv32)]⟩], rc, rs32, NS32]) => mv <| h31 _ _ ?_
 show resV _ _ _ _ _
 refine res_cell (s := some 2) (by kernel_rfl) <| vl_ldA (cs := [.int .i64 P32, (.slice av32 lv32 cv32)]) rfl rfl ((hM33.at (i := 1) (j := 0) rfl rfl).agg rfl rfl) <| res_tmp <| ⟨(.tuple [.agg ([.int .i64 P32, (.slice av32 lv32 cv32)] : List Value).toArray, .int .i64 e32].toArray), rfl, ?_⟩
 have hU2 : unpF pages = some B := by rw [hU, unp_nil (by omega)]; simp
 exact ⟨P32, _, ps32, rs32, NS32, e32, rfl, hs32, hN32, hP32, hpl32, Dc_ft hmay (by omega) hU2 hsp32, hM33.keep (by simp; repeat first | exact List.Sublist.refl _ | exact List.Sublist.append (List.Sublist.refl _) (List.sublist_append_left _ _) | exact .cons _ (by assumption) | refine .cons _ ?_ | refine List.sublist_append_of_sublist_right ?_)⟩
set_option maxRecDepth 100000 in
theorem rDecode_no (bk pg : Int) (x : Value) (pages : List UInt8) (w : World) (hb : inK .i64 bk) (hp : inK .i64 pg) (hmay : ¬ mayT bk pg) (hx : RdE byteV w x pages) (hl : pages.length ≤ 140737488351232) : Calls Try.prog 40 [x, .agg [.int .i64 bk, .int .i64 pg].toArray].toArray w (Rt fun r w' => ∃ P v ps rs NS e, r = .tuple #[.agg #[.int .i64 P, v], .int .i64 e] ∧ SlS prC 5 71 v ps rs ∧ Nest NS ps ∧ (0 ≤ P ∧ P ≤ 65535) ∧ ps.length ≤ 65535 ∧ DcSpec pages bk pg P (ps.map Pr.p) e ∧ Mem w [] w' [rs, NS]) := by
 have hM0 : Mem w [] w [] := Mem.nil w []
 refine calls_vc mixed Try.func40 rfl C40 (by simp [Try.ntmps40]) <| seq fun _ h1 => m_bx (v := .agg ([.int .i64 bk, .int .i64 pg] : List Value).toArray) hM0 rfl rfl fun b2 w3 (hM3 : Mem w [] w3 [[⟨b2, 36, [.int .i64 bk, .int .i64 pg]⟩]]) => m_al hM3 fun b4 w5 (hM5 : Mem w [] w5 [[⟨b2, 36, [.int .i64 bk, .int .i64 pg]⟩], [⟨b4, 24, [.int .i64 0, .slice none 0 0]⟩]]) => mv <| h1 _ _ <| seq fun _ h6 => m_ldA (l := [.int .i64 bk, .int .i64 pg]) hM5 (i := 0) (j := 0) rfl rfl rfl rfl rfl <| m_call (rNewDecoder_no bk pg hb hp hmay w5) rfl fun v7 w7 ⟨hr7, hu7⟩ => ?_
 have hM7 : Mem w [] w7 [[⟨b2, 36, [.int .i64 bk, .int .i64 pg]⟩], [⟨b4, 24, [.int .i64 0, .slice none 0 0]⟩]] := hM5.pure hu7
 subst hr7
 refine mv <| ext rfl rfl <| ext rfl rfl <| mv <| mv <| h6 _ _ <| seq fun _ h8 => seq fun _ h9 => mv <| bneq rfl rfl <| h9 _ _ <| cndP rfl (fun c10 => ?_) (fun c10 => (c10 (by omega)).elim)
 refine seq fun _ h11 => stp (v := .agg ([.int .i64 0, .slice none 0 0] : List Value).toArray) (o_bld rfl rfl) <| mv <| m_stA (l := [.int .i64 0, .slice none 0 0]) hM7 (i := 1) rfl rfl rfl rfl (by simp [oneCells, Value.oneCell', byteV]) (by simp) fun w12 (hM12 : Mem w [] w12 [[⟨b2, 36, [.int .i64 bk, .int .i64 pg]⟩], [⟨b4, 24, [.int .i64 0, .slice none 0 0]⟩]]) => mv <| h11 _ _ ?_
 show resV _ _ _ _ _
 refine res_cell (s := some 2) (by kernel_rfl) <| vl_ldA (cs := [.int .i64 0, .slice none 0 0]) rfl rfl ((hM12.at (i := 1) (j := 0) rfl rfl).agg rfl rfl) <| res_tmp <| ⟨(.tuple [.agg ([.int .i64 0, .slice none 0 0] : List Value).toArray, .int .i64 81].toArray), rfl, ⟨0, .slice none 0 0, [], [], [], 81, rfl, Sl.nil 5 71, Nest.nil, by omega, by simp, Dc_may hmay, hM12.keep (by simp)⟩⟩
theorem rDecode_ok (bk pg : Int) (x : Value) (pages : List UInt8) (w : World) (hb : inK .i64 bk) (hp : inK .i64 pg) (hx : RdE byteV w x pages) (hl : pages.length ≤ 140737488351232) : Calls Try.prog 40 [x, .agg [.int .i64 bk, .int .i64 pg].toArray].toArray w (Rt fun r w' => ∃ P v ps rs NS e, r = .tuple #[.agg #[.int .i64 P, v], .int .i64 e] ∧ SlS prC 5 71 v ps rs ∧ Nest NS ps ∧ (0 ≤ P ∧ P ≤ 65535) ∧ ps.length ≤ 65535 ∧ DcSpec pages bk pg P (ps.map Pr.p) e ∧ Mem w [] w' [rs, NS]) := by
 by_cases h : mayT bk pg
 ·exact rDecode_run bk pg x pages w hb hp h hx hl
 exact rDecode_no bk pg x pages w hb hp h hx hl
