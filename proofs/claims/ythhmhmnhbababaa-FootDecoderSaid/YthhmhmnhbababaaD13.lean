/- Footers read: Decode. -/
import Derived.Test.YthhmhmnhbababaaD12
import Derived.Test.YthhmhmnhbababaaE23
namespace Go.Proofs.Ythhmhmnhbababaa.E
open Go
def DcSpec (pages : List UInt8) (bk pg P : Int) (PS : List Pp) (e : Int) : Prop := (e = 0 ∧ mayT bk pg ∧ ftOk P PS ∧ pages = pagesF (bodyF P PS) ∧ spaceF PS = bk ∧ pg = (pages.length : Nat) ∧ ∀ Q QS, ftOk Q QS → pages = pagesF (bodyF Q QS) → Q = P ∧ QS = PS) ∨ ((e = 80 ∧ mayT bk pg ∨ e = 81 ∧ ¬ mayT bk pg) ∧ P = 0 ∧ PS = [] ∧ ∀ P QS, mayT bk pg → pg = (pages.length : Nat) → ftOk P QS → pages = pagesF (bodyF P QS) → ¬ spaceF QS = bk)
theorem pgE_0 {left : Int} {br : Bool} {c : List UInt8} (h : pgE left br c = 0) : br = false ∧ ¬ left = 0 ∧ (c.length : Int) = min left 4100 ∧ (openF c).2 = 0 := by
 unfold pgE at h
 split at h
 ·omega
 rename_i k
 refine ⟨?_, ?_, ?_, ?_⟩
 ·cases br
  ·rfl
  exact absurd (.inl rfl) k
 ·exact fun q => k (.inr (.inl q))
 ·exact Decidable.byContradiction fun q => k (.inr (.inr (.inl q)))
 exact Decidable.byContradiction fun q => k (.inr (.inr (.inr q)))
theorem pgE_n {left : Int} {c : List UInt8} (h : ¬ pgE left false c = 0) (h0 : ¬ left = 0) (h1 : (c.length : Int) = min left 4100) : pgE left false c = 80 ∧ ¬ (openF c).2 = 0 := by
 by_cases k : (openF c).2 = 0
 ·exact absurd (pgE_yes (c := c) (by rintro (q | q | q) <;> contradiction)) h
 exact ⟨pgE_no (.inr (.inr (.inr k))), k⟩
theorem take_min {α : Type} (l : List α) (n : Nat) : l.take (min l.length n) = l.take n := by
 rcases Nat.lt_or_ge n l.length with h | h
 ·rw [Nat.min_eq_right (by omega)]
 rw [Nat.min_eq_left h, List.take_length, List.take_of_length_le h]
theorem Dc_may {pages : List UInt8} {bk pg : Int} (h : ¬ mayT bk pg) : DcSpec pages bk pg 0 [] 81 := .inr ⟨.inr ⟨rfl, h⟩, rfl, rfl, fun _ _ k => absurd k h⟩
theorem Dc_len {pages : List UInt8} {bk pg : Int} (hm : mayT bk pg) (h : ¬ pg = (pages.length : Nat)) : DcSpec pages bk pg 0 [] 80 := .inr ⟨.inl ⟨rfl, hm⟩, rfl, rfl, fun _ _ _ k => absurd k h⟩
theorem Dc_page {pages rest B : List UInt8} {bk pg : Int} (hm : mayT bk pg) (hU : unpF pages = (unpF rest).map (B ++ ·)) (h : unpF rest = none) : DcSpec pages bk pg 0 [] 80 := .inr ⟨.inl ⟨rfl, hm⟩, rfl, rfl, fun P QS _ _ _ k => by
 rw [h, k, unp_pages _ _ (Nat.le_refl _)] at hU
 cases hU⟩
theorem Dc_ft {pages B : List UInt8} {bk pg P e : Int} {PS : List Pp} (hm : mayT bk pg) (hl : pg = (pages.length : Nat)) (hU : unpF pages = some B) (h : FtSpec B bk P PS e) : DcSpec pages bk pg P PS e := by
 rcases h with ⟨rfl, h1, h2, h3, h4⟩ | ⟨rfl, rfl, rfl, h2⟩
 ·refine .inl ⟨rfl, hm, h1, ?_, h3, hl, fun Q QS hf k => h4 Q QS hf ?_⟩
  ·rw [h2]
   exact (pages_unp _ _ _ (Nat.le_refl _) hU (by have := hm.2.2; omega)).symm
  rw [k, unp_pages _ _ (Nat.le_refl _)] at hU
  exact Option.some.inj hU
 refine .inr ⟨.inl ⟨rfl, hm⟩, rfl, rfl, fun P QS _ _ hf k => h2 P QS hf ?_⟩
 rw [k, unp_pages _ _ (Nat.le_refl _)] at hU
 exact Option.some.inj hU
set_option maxRecDepth 100000 in
theorem Decode_run (bk pg : Int) (x : Value) (pages : List UInt8) (w : World) (hb : inK .i64 bk) (hp : inK .i64 pg) (hmay : mayT bk pg) (hx : RdE byteV w x pages) (hl : pages.length ≤ 140737488351232) : Calls Try.prog 39 [x, .agg [.int .i64 bk, .int .i64 pg].toArray].toArray w (Rt fun r w' => ∃ P v ps rs NS e, r = .tuple #[.agg #[.int .i64 P, v], .int .i64 e] ∧ SlS prC 5 71 v ps rs ∧ Nest NS ps ∧ (0 ≤ P ∧ P ≤ 65535) ∧ ps.length ≤ 65535 ∧ DcSpec pages bk pg P (ps.map Pr.p) e ∧ Mem w [] w' [rs, NS]) := by
 have hM0 : Mem w [] w [] := Mem.nil w []
 refine calls_vc mixed Try.func39 rfl C39 (by simp [Try.ntmps39]) <| seq fun _ h1 => m_bx (v := .agg ([.int .i64 bk, .int .i64 pg] : List Value).toArray) hM0 rfl rfl fun b2 w3 (hM3 : Mem w [] w3 [[⟨b2, 36, [.int .i64 bk, .int .i64 pg]⟩]]) => m_al hM3 fun b4 w5 (hM5 : Mem w [] w5 [[⟨b2, 36, [.int .i64 bk, .int .i64 pg]⟩], [⟨b4, 24, [.int .i64 0, .slice none 0 0]⟩]]) => mv <| h1 _ _ <| seq fun _ h6 => m_ldA (l := [.int .i64 bk, .int .i64 pg]) hM5 (i := 0) (j := 0) rfl rfl rfl rfl rfl <| m_call (NewDecoder_yes bk pg hb hp hmay w5) rfl fun v7 w7 ⟨bd7, rs7, hr7, hd7, hm7⟩ => ?_
 have hM7 : Mem w [] w7 [[⟨b2, 36, [.int .i64 bk, .int .i64 pg]⟩], [⟨b4, 24, [.int .i64 0, .slice none 0 0]⟩], rs7] := hM5.add hm7
 subst hr7
 refine mv <| ext rfl rfl <| ext rfl rfl <| mv <| mv <| h6 _ _ <| seq fun _ h8 => seq fun _ h9 => mv <| stp (v := .bool false) (o_bin rfl rfl v_neF) <| h9 _ _ <| cndF rfl <| h8 _ _ <| seq fun _ h10 => ?_
 refine seq fun _ h11 => mv <| stp (v := .int .i64 (pages.length : Nat)) (o_lenR (hx.upd hM7.upd) rfl rfl) <| fa rfl <| m_ld (v := .int .i64 pg) hM7 (i := 0) (j := 0) rfl rfl rfl rfl <| bneq rfl rfl <| h11 _ _ <| cndP rfl (fun c12 => ?_) (fun c12 => ?_)
 ·refine seq fun _ h13 => stp (v := .agg ([.int .i64 0, .slice none 0 0] : List Value).toArray) (o_bld rfl rfl) <| m_stA (l := [.int .i64 0, .slice none 0 0]) hM7 (i := 1) rfl rfl rfl rfl (by simp [oneCells, Value.oneCell', byteV]) (by simp) fun w14 (hM14 : Mem w [] w14 [[⟨b2, 36, [.int .i64 bk, .int .i64 pg]⟩], [⟨b4, 24, [.int .i64 0, .slice none 0 0]⟩], rs7]) => mv <| h13 _ _ ?_
  show resV _ _ _ _ _
  refine res_cell (s := some 2) (by kernel_rfl) <| vl_ldA (cs := [.int .i64 0, .slice none 0 0]) rfl rfl ((hM14.at (i := 1) (j := 0) rfl rfl).agg rfl rfl) <| res_tmp <| ⟨(.tuple [.agg ([.int .i64 0, .slice none 0 0] : List Value).toArray, .int .i64 80].toArray), rfl, ⟨0, .slice none 0 0, [], [], [], 80, rfl, Sl.nil 5 71, Nest.nil, by omega, by simp, Dc_len hmay (by omega), hM14.keep (by simp)⟩⟩
 refine h10 _ _ <| seq fun _ h15 => lp (n := fun _ _ => False) (ι := (Value) × (List UInt8) × (List UInt8) × (List Ent)) (fun ⟨lv, rest, B, rc⟩ f w' => f 0 = lv ∧ f 6 = .pointer (some ⟨bd7, 0, none⟩) ∧ f 4 = .pointer (some ⟨b4, 0, none⟩) ∧ Mem w [] w' [[⟨b2, 36, [.int .i64 bk, .int .i64 pg]⟩], [⟨b4, 24, [.int .i64 0, .slice none 0 0]⟩], rc] ∧ (∀ w2, Upd [] w w2 → RdE byteV w2 lv rest) ∧ (DecS bd7 bk pg (rest.length : Nat) B false rc) ∧ (unpF pages = (unpF rest).map (B ++ ·)) ∧ (B.length + rest.length ≤ pages.length)) (fun ⟨lv, rest, B, rc⟩ => rest.length) (x, pages, [], rs7) ?_ ?_
 ·exact ⟨rfl, rfl, rfl, hM7, fun w2 h => hx.upd h, by rw [← show pg = (pages.length : Nat) by omega]; exact hd7, by simp, by simp⟩
 rintro ⟨lv, rest, B, rc⟩ f w16 ⟨e16_0, e16_6, e16_4, hM16, hfr, hdl, hU, hBl⟩ K17 h17
 obtain ⟨frm, rfl⟩ := re3 e16_0 e16_6 e16_4
 refine seq fun _ h18 => seq fun _ h19 => mv <| stp (v := .int .i64 (rest.length : Nat)) (o_lenR ((hfr _ hM16.upd)) rfl rfl) <| bn rfl rfl <| h19 _ _ <| cndP rfl (fun c20 => ?_) (fun c20 => ?_)
 ·refine h18 _ _ <| seq fun _ h21 => mv <| stp (v := .int .i64 (rest.length : Nat)) (o_lenR ((hfr _ hM16.upd)) rfl rfl) <| stp (v := .int .i64 (min ((rest.length : Nat) : Int) (4100 : Int))) (o_mm rfl rfl rfl) <| mv <| h21 _ _ <| seq fun _ h22 => seq fun _ h23 => mv <| mv <| mv <| m_slcB (min rest.length 4100) (hfr _ hM16.upd) rfl (by omega) (v_int (by omega)) fun u34 hu34 => m_call (Page_ok _ bk pg rest.length B false _ (rest.take (min rest.length 4100)) rc w16 hdl (hM16.res (i := 2) rfl) (fun w9 hu9 => hu34 _ (hfr _ (hM16.far (i := 2) rfl hu9))) (by omega) (by rw [List.length_take]; omega)) rfl fun v24 w24 ⟨r'24, hr24, hd24, hm24⟩ => ?_
  have hM24 : Mem w [] w24 [[⟨b2, 36, [.int .i64 bk, .int .i64 pg]⟩], [⟨b4, 24, [.int .i64 0, .slice none 0 0]⟩], r'24] := hM16.step 2 rfl hm24
  subst hr24
  refine mv <| h23 _ _ <| seq fun _ h25 => mv <| bneq rfl rfl <| h25 _ _ <| cndP rfl (fun c26 => ?_) (fun c26 => ?_)
  ·refine seq fun _ h27 => stp (v := .agg ([.int .i64 0, .slice none 0 0] : List Value).toArray) (o_bld rfl rfl) <| mv <| m_stA (l := [.int .i64 0, .slice none 0 0]) hM24 (i := 1) rfl rfl rfl rfl (by simp [oneCells, Value.oneCell', byteV]) (by simp) fun w28 (hM28 : Mem w [] w28 [[⟨b2, 36, [.int .i64 bk, .int .i64 pg]⟩], [⟨b4, 24, [.int .i64 0, .slice none 0 0]⟩], r'24]) => mv <| h27 _ _ ?_
   show resV _ _ _ _ _
   refine res_cell (s := some 2) (by kernel_rfl) <| vl_ldA (cs := [.int .i64 0, .slice none 0 0]) rfl rfl ((hM28.at (i := 1) (j := 0) rfl rfl).agg rfl rfl) <| res_tmp <| ⟨(.tuple [.agg ([.int .i64 0, .slice none 0 0] : List Value).toArray, .int .i64 (pgE rest.length false (rest.take (min rest.length 4100)))].toArray), rfl, ?_⟩
   have hz := pgE_n (c := rest.take (min rest.length 4100)) (left := rest.length) (by omega) (by omega) (by rw [List.length_take]; omega)
   exact ⟨0, .slice none 0 0, [], [], [], 80, by rw [hz.1], Sl.nil 5 71, Nest.nil, by omega, by simp, Dc_page hmay hU (unp_bad (by omega) (by have h9 := hz.2; rwa [take_min] at h9)), hM28.keep (by simp)⟩
  refine h22 _ _ ?_
  have hz0 : pgE rest.length false (rest.take (min rest.length 4100)) = 0 := by omega
  have hz4 := (pgE_0 hz0).2.2.2
  rw [take_min] at hz4
  refine mv <| mv <| m_slcA (min rest.length 4100) (hfr _ hM24.upd) rfl (by omega) (v_int (by omega)) fun u42 hu42 => mv ?_
  refine h17 (u42, rest.drop 4100, B ++ (openF (rest.take 4100)).1, r'24) _ _ ⟨rfl, rfl, rfl, hM24, fun w2 h => by have h9 := hu42 _ (hfr _ h); rwa [drop_min] at h9, by
   have h9 := hd24
   rw [if_pos hz0, if_pos hz0, if_pos hz0, take_min] at h9
   have e9 : ((rest.length : Nat) : Int) - ((rest.take 4100).length : Nat) = ((rest.drop 4100).length : Nat) := by rw [List.length_take, List.length_drop]; omega
   rw [e9] at h9
   exact h9, by rw [hU, unp_cons (by omega) hz4, Option.map_map]; congr 1; funext y; simp, by rw [List.length_append, List.length_drop]; have h9 := openF_len (rest.take 4100); rw [List.length_take] at h9; omega⟩ (by dsimp only; rw [List.length_drop]; omega)
 refine h15 _ _ <| seq fun _ h29 => ?_
 have hdz := hdl
 rw [show ((rest.length : Nat) : Int) = 0 by omega] at hdz
 refine mv <| m_call (Foot_ok _ bk pg B rc w16 hdz (hM16.res (i := 2) rfl) (by omega)) rfl fun v30 w30 ⟨P30, v30_, ps30, rs30, NS30, e30, hr30, hs30, hN30, hP30, hpl30, hsp30, hm30⟩ => ?_
 have hM30 : Mem w [] w30 [[⟨b2, 36, [.int .i64 bk, .int .i64 pg]⟩], [⟨b4, 24, [.int .i64 0, .slice none 0 0]⟩], rc, rs30, NS30] := ((hM16.stepAdd 2 rfl (hm30.keep (by simp) : Mem _ _ _ [rc, rs30 ++ NS30])).keep (by simp))
 subst hr30
 obtain ⟨av30, lv30, cv30, rfl⟩ := hs30.isSlice
 refine ext rfl rfl <| ext rfl rfl <| m_stA (l := [.int .i64 P30, (.slice av30 lv30 cv30)]) hM30 (i := 1) rfl rfl rfl rfl (by simp [oneCells, Value.oneCell', byteV]) (by simp) fun w31 (hM31 : Mem w [] w31 [[⟨b2, 36, [.int .i64 bk, .int .i64 pg]⟩], [⟨b4, 24, [.int .i64 P30, (.slice av30 lv30 cv30)]⟩], rc, rs30, NS30]) => mv <| h29 _ _ ?_
 show resV _ _ _ _ _
 refine res_cell (s := some 2) (by kernel_rfl) <| vl_ldA (cs := [.int .i64 P30, (.slice av30 lv30 cv30)]) rfl rfl ((hM31.at (i := 1) (j := 0) rfl rfl).agg rfl rfl) <| res_tmp <| ⟨(.tuple [.agg ([.int .i64 P30, (.slice av30 lv30 cv30)] : List Value).toArray, .int .i64 e30].toArray), rfl, ?_⟩
 have hU2 : unpF pages = some B := by rw [hU, unp_nil (by omega)]; simp
 exact ⟨P30, _, ps30, rs30, NS30, e30, rfl, hs30, hN30, hP30, hpl30, Dc_ft hmay (by omega) hU2 hsp30, hM31.keep (by simp; repeat first | exact List.Sublist.refl _ | exact List.Sublist.append (List.Sublist.refl _) (List.sublist_append_left _ _) | exact .cons _ (by assumption) | refine .cons _ ?_ | refine List.sublist_append_of_sublist_right ?_)⟩
set_option maxRecDepth 100000 in
theorem Decode_no (bk pg : Int) (x : Value) (pages : List UInt8) (w : World) (hb : inK .i64 bk) (hp : inK .i64 pg) (hmay : ¬ mayT bk pg) (hx : RdE byteV w x pages) (hl : pages.length ≤ 140737488351232) : Calls Try.prog 39 [x, .agg [.int .i64 bk, .int .i64 pg].toArray].toArray w (Rt fun r w' => ∃ P v ps rs NS e, r = .tuple #[.agg #[.int .i64 P, v], .int .i64 e] ∧ SlS prC 5 71 v ps rs ∧ Nest NS ps ∧ (0 ≤ P ∧ P ≤ 65535) ∧ ps.length ≤ 65535 ∧ DcSpec pages bk pg P (ps.map Pr.p) e ∧ Mem w [] w' [rs, NS]) := by
 have hM0 : Mem w [] w [] := Mem.nil w []
 refine calls_vc mixed Try.func39 rfl C39 (by simp [Try.ntmps39]) <| seq fun _ h1 => m_bx (v := .agg ([.int .i64 bk, .int .i64 pg] : List Value).toArray) hM0 rfl rfl fun b2 w3 (hM3 : Mem w [] w3 [[⟨b2, 36, [.int .i64 bk, .int .i64 pg]⟩]]) => m_al hM3 fun b4 w5 (hM5 : Mem w [] w5 [[⟨b2, 36, [.int .i64 bk, .int .i64 pg]⟩], [⟨b4, 24, [.int .i64 0, .slice none 0 0]⟩]]) => mv <| h1 _ _ <| seq fun _ h6 => m_ldA (l := [.int .i64 bk, .int .i64 pg]) hM5 (i := 0) (j := 0) rfl rfl rfl rfl rfl <| m_call (NewDecoder_no bk pg hb hp hmay w5) rfl fun v7 w7 ⟨hr7, hu7⟩ => ?_
 have hM7 : Mem w [] w7 [[⟨b2, 36, [.int .i64 bk, .int .i64 pg]⟩], [⟨b4, 24, [.int .i64 0, .slice none 0 0]⟩]] := hM5.pure hu7
 subst hr7
 refine mv <| ext rfl rfl <| ext rfl rfl <| mv <| mv <| h6 _ _ <| seq fun _ h8 => seq fun _ h9 => mv <| bneq rfl rfl <| h9 _ _ <| cndP rfl (fun c10 => ?_) (fun c10 => (c10 (by omega)).elim)
 refine seq fun _ h11 => stp (v := .agg ([.int .i64 0, .slice none 0 0] : List Value).toArray) (o_bld rfl rfl) <| mv <| m_stA (l := [.int .i64 0, .slice none 0 0]) hM7 (i := 1) rfl rfl rfl rfl (by simp [oneCells, Value.oneCell', byteV]) (by simp) fun w12 (hM12 : Mem w [] w12 [[⟨b2, 36, [.int .i64 bk, .int .i64 pg]⟩], [⟨b4, 24, [.int .i64 0, .slice none 0 0]⟩]]) => mv <| h11 _ _ ?_
 show resV _ _ _ _ _
 refine res_cell (s := some 2) (by kernel_rfl) <| vl_ldA (cs := [.int .i64 0, .slice none 0 0]) rfl rfl ((hM12.at (i := 1) (j := 0) rfl rfl).agg rfl rfl) <| res_tmp <| ⟨(.tuple [.agg ([.int .i64 0, .slice none 0 0] : List Value).toArray, .int .i64 81].toArray), rfl, ⟨0, .slice none 0 0, [], [], [], 81, rfl, Sl.nil 5 71, Nest.nil, by omega, by simp, Dc_may hmay, hM12.keep (by simp)⟩⟩
theorem Decode_ok (bk pg : Int) (x : Value) (pages : List UInt8) (w : World) (hb : inK .i64 bk) (hp : inK .i64 pg) (hx : RdE byteV w x pages) (hl : pages.length ≤ 140737488351232) : Calls Try.prog 39 [x, .agg [.int .i64 bk, .int .i64 pg].toArray].toArray w (Rt fun r w' => ∃ P v ps rs NS e, r = .tuple #[.agg #[.int .i64 P, v], .int .i64 e] ∧ SlS prC 5 71 v ps rs ∧ Nest NS ps ∧ (0 ≤ P ∧ P ≤ 65535) ∧ ps.length ≤ 65535 ∧ DcSpec pages bk pg P (ps.map Pr.p) e ∧ Mem w [] w' [rs, NS]) := by
 by_cases h : mayT bk pg
 ·exact Decode_run bk pg x pages w hb hp h hx hl
 exact Decode_no bk pg x pages w hb hp h hx hl
