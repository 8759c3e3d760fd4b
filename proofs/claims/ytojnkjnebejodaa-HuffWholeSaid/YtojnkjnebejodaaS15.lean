/- Encode: the walks of the program and of the reference. -/
import Derived.Test.YtojnkjnebejodaaS14
import Derived.Test.YtojnkjnebejodaaS9
namespace Go.Proofs.Ytojnkjnebejodaa.E
open Go
def cntP (t : List UInt8) : List Int := mapR 256 fun s => (((t.filter fun c => decide (c.toNat = s)).length : Nat) : Int)
@[simp] theorem cntP_len (t : List UInt8) : (cntP t).length = 256 := mapR_len _ _
theorem cntP_zero : List.replicate 256 (0 : Int) = cntP [] := by rw [mapR_rep]; rfl
theorem cntP_step {t : List UInt8} {q : Nat} (h : q < t.length) : (cntP (t.take q)).set (t.getD q 0).toNat ((cntP (t.take q)).getD (t.getD q 0).toNat 0 + 1) = cntP (t.take (q + 1)) := by
  have e : t.take (q + 1) = t.take q ++ [t.getD q 0] := by
    rw [List.take_add_one, List.getElem?_eq_getElem h, List.getD_eq_getElem?_getD, List.getElem?_eq_getElem h]; rfl
  rw [e]
  unfold cntP
  rw [mapR_set, mapR_get (t.getD q 0).toNat_lt]
  refine mapR_ext fun s hs => ?_
  rw [List.filter_append, List.length_append]
  by_cases c : s = (t.getD q 0).toNat
  · rw [if_pos c, c, List.filter_cons, if_pos (by simp)]; rfl
  · rw [if_neg c, List.filter_cons, if_neg (by simpa using fun e => c e.symm)]; rfl
theorem cntP_bd (t : List UInt8) (i : Nat) : 0 ≤ (cntP t).getD i 0 ∧ (cntP t).getD i 0 ≤ t.length := by
  rcases Nat.lt_or_ge i 256 with h | h
  · unfold cntP
    rw [mapR_get h]
    have := List.length_filter_le (fun c : UInt8 => decide (c.toNat = i)) t
    omega
  · rw [List.getD_eq_getElem?_getD, List.getElem?_eq_none (by rw [cntP_len]; omega)]
    show (0 : Int) ≤ 0 ∧ (0 : Int) ≤ _
    omega
/-- the lengths of a text -/
def lnF (t : List UInt8) : List Int := lensF (cntP t) 15
theorem lnF_len (t : List UInt8) : (lnF t).length = 256 := by unfold lnF; rw [lens_len, cntP_len]
theorem cntP_room (t : List UInt8) : (thF (cntP t)).length ≤ 2 ^ 15 := by
  have := thF_len (cntP t)
  rw [cntP_len] at this
  exact Nat.le_trans this (by decide)
theorem lenF_cnt {t : List UInt8} (h : t.length ≤ 65536) : lenF (cntP t) 15 = (lnF t, 0) := by
  have hr := cntP_room t
  refine lenF_ok (by rw [cntP_len]; omega) ⟨inB_iff.2 fun i _ => ?_, by omega, by omega⟩ (by simpa using hr)
  have := cntP_bd t i
  omega
theorem lnF_codes (t : List UInt8) : usedB (lnF t) 15 ≤ 32768 ∧ codes (lnF t) = (codesL (lnF t), 0) := lens_codes (by rw [cntP_len]; omega) (fun i => (cntP_bd t i).1) (by omega) (by omega) (cntP_room t)
theorem lnF_inB (t : List UInt8) : inB 0 15 (lnF t) = true := lens_inB (by omega) (by omega)
theorem code_bdE {L : List Int} (hB : inB 0 15 L = true) (hu : usedB L 15 ≤ 32768) {s : Nat} (hs : s < L.length) : ∃ dg W : Nat, codeAt L s = ((dg : Int), (W : Int)) ∧ dg ≤ 15 ∧ W ≤ 32768 := by
  have hb := inB_iff.1 hB s hs
  unfold codeAt
  by_cases c : L.getD s 0 ≤ 0
  · rw [if_pos c]; exact ⟨0, 0, rfl, by omega, by omega⟩
  · rw [if_neg c]
    refine ⟨(L.getD s 0).toNat, firstW L (L.getD s 0).toNat + (symN L (L.getD s 0).toNat s).length, by rw [Int.toNat_of_nonneg hb.1], by omega, ?_⟩
    have h1 := word_le hu (n := (L.getD s 0).toNat) (by omega)
    have h2 : (symN L (L.getD s 0).toNat s).length ≤ cntW L (L.getD s 0).toNat := by
      unfold cntW
      rw [if_neg (by omega)]
      have : (symN L (L.getD s 0).toNat s).Sublist (symN L (L.getD s 0).toNat L.length) := by
        unfold symN
        exact List.Sublist.filter _ (List.range_sublist.2 (by omega))
      exact this.length_le
    omega
theorem codesL_get' {l : List Int} {i : Nat} (h : i < l.length) : (codesL l).getD i ((0, 0) : Int × Int) = codeAt l i := by
  unfold codesL; rw [List.getD_eq_getElem?_getD, List.getElem?_map, List.getElem?_range h]; rfl
theorem codesL_len (l : List Int) : (codesL l).length = l.length := by simp [codesL]
theorem hdrE_len (l : List Int) (hl : l.length ≤ 1000000) : ∀ n i, l.length - i ≤ n → (hdrE l i).length ≤ 10 * (l.length - i)
  | 0, i, h => by rw [hdrE_end (by omega)]; exact Nat.zero_le _
  | n + 1, i, h => by
    by_cases c : i < l.length
    · obtain ⟨h1, h2, -, -⟩ := runK_spec c
      have ih := hdrE_len l hl n (runK l i) (by omega)
      rw [hdrE, dif_pos c]
      split
      · exact Nat.zero_le _
      · have hp := putI_len (v := ((runK l i : Nat) : Int) - (i : Nat)) (by omega)
        rw [List.length_append, List.length_append, List.length_singleton]; omega
    · rw [hdrE_end c]; exact Nat.zero_le _
/-- what Encode tells -/
def encF (t : List UInt8) : List UInt8 := hdrE (lnF t) 0 ++ [0] ++ pkA (bitsF (lnF t) t) (bitsF (lnF t) t).length
def encR (t : List UInt8) : List UInt8 × Int := if 65536 < t.length then ([], 2) else (encF t, 0)
theorem encR_long {t : List UInt8} (h : 65536 < t.length) : encR t = ([], 2) := by unfold encR; rw [if_pos h]
theorem encR_ok {t : List UInt8} (h : ¬ 65536 < t.length) : encR t = (encF t, 0) := by unfold encR; rw [if_neg h]
theorem bitsF_zero (L : List Int) (t : List UInt8) : bitsF L (t.take 0) = [] := by rw [List.take_zero]; rfl
theorem bits_all {t : List UInt8} {q : Nat} (h : t.length ≤ q) (L : List Int) : (bitsF L (t.take q)).length = (bitsF L t).length := by rw [List.take_of_length_le h]
theorem lnF_bits (t : List UInt8) (q : Nat) (h : q ≤ t.length) : (bitsF (lnF t) (t.take q)).length ≤ 15 * q := bits_len_le (lnF_inB t) t (fun c => by rw [lnF_len]; exact c.toNat_lt) q h
theorem shr_at {W i : Nat} {x y : Int} (hx : x = (W : Nat)) (hy : y = (i : Nat)) (hi : i ≤ 31) : Value.int .u32 (x.fdiv (2 ^ min y.toNat IntKind.u32.bits)) = .int .u32 ((W / 2 ^ i : Nat) : Int) := by
  subst hx hy
  exact v_int (shrI_nat (k := .u32) (by simp only [IntKind.bits]; omega))
theorem and1' {a : Nat} (ha : a < 4294967296) : binI .and .u32 (a : Int) 1 = .int .u32 ((a % 2 : Nat) : Int) := by
  have := andI_nat (k := .u32) (a := a) (b := 1) ha (by decide) (by rw [show a &&& 1 = a % 2 from Nat.and_two_pow_sub_one_eq_mod a 1]; simp only [inK]; omega)
  rw [show a &&& 1 = a % 2 from Nat.and_two_pow_sub_one_eq_mod a 1] at this
  exact v_int this

set_option maxHeartbeats 1000000 in
set_option maxRecDepth 100000 in
/-- huff.Encode -/
theorem Encode_ok (x : Value) (t : List UInt8) (w : World) (hx : RdE byteV w x t) (hl : t.length ≤ 1152921504606846976) : Calls Try.prog 35 [x].toArray w (Rt fun r w' => ∃ v rs, r = .tuple [v, .int .i64 (encR t).2].toArray ∧ SlE byteV 5 v (encR t).1 rs ∧ Mem w [] w' [rs]) := by
  have hM0 : Mem w [] w [] := Mem.nil w []
  refine calls_vc mixed Try.func35 rfl C35 (by simp [Try.ntmps35]) ?_
  refine seq fun K1 h1 => ?_
  refine stp (v := .slice none 0 0) (o_mv rfl) ?_
  refine stp (v := .int .i64 0) (o_mv rfl) ?_
  refine h1 _ _ ?_
  clear h1
  refine seq fun K2 h2 => ?_
  refine seq fun K3 h3 => ?_
  refine stp (v := x) (o_mv rfl) ?_
  refine stp (v := .int .i64 (t.length : Nat)) (o_lenR (hx.upd hM0.upd) rfl rfl) ?_
  refine stp (v := .bool (decide ((65536 : Int) < ((t.length : Nat) : Int)))) (o_bin rfl rfl rfl) ?_
  refine h3 _ _ ?_
  clear h3
  refine cndP rfl (fun c4 => ?_) (fun c4 => ?_)
  ·
    refine seq fun K5 h5 => ?_
    refine stp (v := .slice none 0 0) (o_mv rfl) ?_
    refine stp (v := .int .i64 2) (o_mv rfl) ?_
    refine h5 _ _ ?_
    clear h5
    refine ⟨(.tuple [.slice none 0 0, .int .i64 2].toArray), rfl, ?_⟩
    rw [encR_long (by omega)]
    exact ⟨_, [], rfl, Sl.nil 1 5, hM0.keep (by simp)⟩
  ·
    refine h2 _ _ ?_
    clear h2
    refine seq fun K6 h6 => ?_
    refine m_mksE (E := i64V) (z := 0) (n := 256) (c := 256) rfl hM0 (v_int (by omega)) (v_int (by omega)) (by omega) (by omega) (by omega) fun v7 w7 r7 hs7 (hM7 : Mem w [] w7 [r7]) => ?_
    refine stp (v := v7) (o_mv rfl) ?_
    refine h6 _ _ ?_
    clear h6
    refine seq fun K8 h8 => ?_
    refine seq fun K9 h9 => ?_
    refine stp (v := x) (o_mv rfl) ?_
    refine stp (v := .int .i64 (t.length : Nat)) (o_lenR (hx.upd hM7.upd) rfl rfl) ?_
    refine stp (v := .int .i64 0) (o_mv rfl) ?_
    refine h9 _ _ ?_
    clear h9
    refine lp (n := fun _ _ => False) (ι := (Nat) × (Value) × (List Ent)) (fun ⟨q, y4_, r4_⟩ f w' => f 24 = .int .i64 (q : Nat) ∧ f 4 = y4_ ∧ f 0 = x ∧ f 22 = x ∧ f 23 = .int .i64 (t.length : Nat) ∧ Mem w [] w' [r4_] ∧ (q ≤ t.length) ∧ (SlE i64V 2 y4_ (cntP (t.take q)) r4_)) (fun ⟨q, y4_, r4_⟩ => t.length - q) (0, v7, r7) ?_ ?_
    · exact ⟨by first | rfl | exact v_int (by omega) | exact v_int (by simp) | exact v_int (by simp; omega), rfl, rfl, rfl, by first | rfl | exact v_int (by omega) | exact v_int (by simp) | exact v_int (by simp; omega), hM7, by omega, by rw [List.take_zero, ← cntP_zero]; exact hs7⟩
    · rintro ⟨q, y4_, r4_⟩ f w10 ⟨e10_24, e10_4, e10_0, e10_22, e10_23, hM10, hq, hy4_⟩ K11 h11
      obtain ⟨frm, rfl⟩ : ∃ frm, f = (upd (upd (upd (upd (upd frm 24 (.int .i64 (q : Nat))) 4 (y4_)) 0 (x)) 22 (x)) 23 (.int .i64 (t.length : Nat))) := ⟨f, by rw [upd_self e10_24, upd_self e10_4, upd_self e10_0, upd_self e10_22, upd_self e10_23]⟩
      clear e10_24 e10_4 e10_0 e10_22 e10_23
      refine seq fun K12 h12 => ?_
      refine stp (v := .bool (decide (((q : Nat) : Int) < (t.length : Nat)))) (o_bin rfl rfl rfl) ?_
      refine h12 _ _ ?_
      clear h12
      refine seq fun K13 h13 => ?_
      refine cndP rfl (fun c14 => ?_) (fun c14 => ?_)
      ·
        refine h13 _ _ ?_
        clear h13
        refine seq fun K15 h15 => ?_
        refine seq fun K16 h16 => ?_
        refine m_idxE 0 (j := q) (hx.upd hM10.upd) rfl rfl (by omega) fun b17 o17 hp17 => ?_
        refine ld (v := byteV (t.getD q 0)) rfl (hp17) ?_
        refine stp (v := byteV (t.getD q 0)) (o_mv rfl) ?_
        refine h16 _ _ ?_
        clear h16
        refine stp (v := y4_) (o_mv rfl) ?_
        refine stp (v := byteV (t.getD q 0)) (o_mv rfl) ?_
        refine m_idxE 0 (j := (t.getD q 0).toNat) (hy4_.rd hM10 (i := 0) rfl) rfl rfl (by rw [cntP_len]; exact (t.getD q 0).toNat_lt) fun b18 o18 hp18 => ?_
        have hcb := cntP_bd (t.take q) (t.getD q 0).toNat
        have htl : (t.take q).length ≤ 65536 := by rw [List.length_take]; omega
        refine ld (v := .int .i64 ((cntP (t.take q)).getD ((t.getD q 0).toNat) 0)) rfl (hp18) ?_
        refine stp (v := .int .i64 (((cntP (t.take q)).getD ((t.getD q 0).toNat) 0) + 1)) (o_bin rfl rfl (v_add64 (by constructor <;> omega))) ?_
        refine m_set (E := i64V) (q := ((cntP (t.take q)).getD ((t.getD q 0).toNat) 0) + 1) (j := (t.getD q 0).toNat) hM10 (i := 0) rfl hy4_ rfl rfl (by rw [cntP_len]; exact (t.getD q 0).toNat_lt) (by simp) (rfl) fun w19 r19 u19 he19 hs19 (hM19 : Mem w [] w19 [r19]) => ?_
        refine h15 _ _ ?_
        clear h15
        refine stp (v := .int .i64 ((q : Nat) + 1)) (o_bin rfl rfl (v_add64 (by constructor <;> omega))) ?_
        refine stp (v := .int .i64 ((q : Nat) + 1)) (o_mv rfl) ?_
        refine h11 (q + 1, y4_, r19) _ _ ⟨by first | rfl | exact v_int (by omega) | exact v_int (by simp) | exact v_int (by simp; omega), rfl, rfl, rfl, by first | rfl | exact v_int (by omega) | exact v_int (by simp) | exact v_int (by simp; omega), hM19, by omega, by rw [← cntP_step (by omega)]; exact hs19⟩ (by (try dsimp only); omega)
      ·
        refine h8 _ _ ?_
        clear h8
        refine seq fun K20 h20 => ?_
        refine stp (v := y4_) (o_mv rfl) ?_
        refine m_call (Lengths_ok _ (cntP (t.take q)) 15 w10 (hy4_.rd hM10 (i := 0) rfl) (by rw [cntP_len]; omega) (by simp only [inK]; omega)) rfl fun v21 w21 ⟨y21, rs21, hr21, hs21, hm21⟩ => ?_
        have hM21 : Mem w [] w21 [r4_, rs21] := hM10.add hm21
        rw [List.take_of_length_le (by omega), lenF_cnt (by omega)] at hr21 hs21
        dsimp only at hr21 hs21
        subst hr21
        refine stp (v := .tuple [y21, .int .i64 0].toArray) (o_mv rfl) ?_
        refine stp (v := y21) (o_ext rfl rfl) ?_
        refine stp (v := .int .i64 0) (o_ext rfl rfl) ?_
        refine stp (v := y21) (o_mv rfl) ?_
        refine stp (v := .int .i64 0) (o_mv rfl) ?_
        refine h20 _ _ ?_
        clear h20
        refine seq fun K22 h22 => ?_
        refine stp (v := y21) (o_mv rfl) ?_
        refine m_call (Codes_ok _ (lnF t) w21 (hs21.rd hM21 (i := 1) rfl) (by rw [lnF_len]; omega)) rfl fun v23 w23 ⟨y23, rs23, hr23, hs23, hm23⟩ => ?_
        have hM23 : Mem w [] w23 [r4_, rs21, rs23] := hM21.add hm23
        rw [(lnF_codes t).2] at hr23 hs23
        dsimp only at hr23 hs23
        subst hr23
        refine stp (v := .tuple [y23, .int .i64 0].toArray) (o_mv rfl) ?_
        refine stp (v := y23) (o_ext rfl rfl) ?_
        refine stp (v := .int .i64 0) (o_ext rfl rfl) ?_
        refine stp (v := y23) (o_mv rfl) ?_
        refine stp (v := .int .i64 0) (o_mv rfl) ?_
        refine h22 _ _ ?_
        clear h22
        refine seq fun K24 h24 => ?_
        refine stp (v := y21) (o_mv rfl) ?_
        refine m_call (header_ok _ (lnF t) w23 (hs21.rd hM23 (i := 1) rfl) (by rw [lnF_len]; omega) (lnF_inB t)) rfl fun v25 w25 ⟨rs25, hs25, hm25⟩ => ?_
        have hM25 : Mem w [] w25 [r4_, rs21, rs23, rs25] := hM23.add hm25
        have hHD : (hdrE (lnF t) 0 ++ [0]).length ≤ 1000000 := by
          have h9 := hdrE_len (lnF t) (by rw [lnF_len]; omega) 256 0 (by rw [lnF_len]; omega)
          rw [lnF_len] at h9
          rw [List.length_append, List.length_singleton]; omega
        refine m_al hM25 fun b26 w27 (hM27 : Mem w [] w27 [r4_, rs21, rs23, rs25, [⟨b26, 40, [.slice none 0 0]⟩]]) => ?_
        refine m_st (v := v25) hM27 (i := 4) rfl rfl rfl (Sl.one hs25) (by simp) fun w28 (hM28 : Mem w [] w28 [r4_, rs21, rs23, rs25, [⟨b26, 40, [v25]⟩]]) => ?_
        refine h24 _ _ ?_
        clear h24
        refine seq fun K29 h29 => ?_
        refine m_al hM28 fun b30 w31 (hM31 : Mem w [] w31 [r4_, rs21, rs23, rs25, [⟨b26, 40, [v25]⟩], [⟨b30, 3, [.int .i64 0]⟩]]) => ?_
        refine m_st (v := .int .i64 0) hM31 (i := 5) rfl rfl rfl rfl (by simp) fun w32 (hM32 : Mem w [] w32 [r4_, rs21, rs23, rs25, [⟨b26, 40, [v25]⟩], [⟨b30, 3, [.int .i64 0]⟩]]) => ?_
        refine h29 _ _ ?_
        clear h29
        refine seq fun K33 h33 => ?_
        refine stp (v := .func (.func 58) [].toArray [.pointer (some ⟨b30, 0, none⟩), .pointer (some ⟨b26, 0, none⟩)].toArray) (o_mkf rfl) ?_
        refine stp (v := .func (.func 58) [].toArray [.pointer (some ⟨b30, 0, none⟩), .pointer (some ⟨b26, 0, none⟩)].toArray) (o_mv rfl) ?_
        refine h33 _ _ ?_
        clear h33
        refine seq fun K34 h34 => ?_
        refine seq fun K35 h35 => ?_
        refine stp (v := x) (o_mv rfl) ?_
        refine stp (v := .int .i64 (t.length : Nat)) (o_lenR (hx.upd hM32.upd) rfl rfl) ?_
        refine stp (v := .int .i64 0) (o_mv rfl) ?_
        refine h35 _ _ ?_
        clear h35
        refine lp (n := fun _ _ => False) (ι := (Nat) × (Value) × (List Ent)) (fun ⟨q, vo, ro⟩ f w' => f 50 = .int .i64 (q : Nat) ∧ f 9 = y23 ∧ f 11 = .pointer (some ⟨b26, 0, none⟩) ∧ f 13 = .func (.func 58) [].toArray [.pointer (some ⟨b30, 0, none⟩), .pointer (some ⟨b26, 0, none⟩)].toArray ∧ f 48 = x ∧ f 49 = .int .i64 (t.length : Nat) ∧ Mem w [] w' [r4_, rs21, rs23, ro, [⟨b26, 40, [vo]⟩, ⟨b30, 3, [.int .i64 ((bitsF (lnF t) (t.take q)).length : Nat)]⟩]] ∧ (SlE byteV 5 vo ((hdrE (lnF t) 0 ++ [0]) ++ pkA (bitsF (lnF t) t) (bitsF (lnF t) (t.take q)).length) ro) ∧ (q ≤ t.length)) (fun ⟨q, vo, ro⟩ => t.length - q) (0, v25, rs25) ?_ ?_
        · exact ⟨by first | rfl | exact v_int (by omega) | exact v_int (by simp) | exact v_int (by simp; omega), rfl, rfl, rfl, rfl, by first | rfl | exact v_int (by omega) | exact v_int (by simp) | exact v_int (by simp; omega), (by rw [bitsF_zero]; exact hM32.keep (by simp)), SlE.eqL hs25 (by rw [bitsF_zero]; simp [pkA]), by omega⟩
        · rintro ⟨q, vo, ro⟩ f w36 ⟨e36_50, e36_9, e36_11, e36_13, e36_48, e36_49, hM36, hso, hq⟩ K37 h37
          obtain ⟨frm, rfl⟩ : ∃ frm, f = (upd (upd (upd (upd (upd (upd frm 50 (.int .i64 (q : Nat))) 9 (y23)) 11 (.pointer (some ⟨b26, 0, none⟩))) 13 (.func (.func 58) [].toArray [.pointer (some ⟨b30, 0, none⟩), .pointer (some ⟨b26, 0, none⟩)].toArray)) 48 (x)) 49 (.int .i64 (t.length : Nat))) := ⟨f, by rw [upd_self e36_50, upd_self e36_9, upd_self e36_11, upd_self e36_13, upd_self e36_48, upd_self e36_49]⟩
          clear e36_50 e36_9 e36_11 e36_13 e36_48 e36_49
          refine seq fun K38 h38 => ?_
          refine stp (v := .bool (decide (((q : Nat) : Int) < (t.length : Nat)))) (o_bin rfl rfl rfl) ?_
          refine h38 _ _ ?_
          clear h38
          refine seq fun K39 h39 => ?_
          refine cndP rfl (fun c40 => ?_) (fun c40 => ?_)
          ·
            refine h39 _ _ ?_
            clear h39
            refine seq fun K41 h41 => ?_
            refine seq fun K42 h42 => ?_
            refine m_idxE 0 (j := q) (hx.upd hM36.upd) rfl rfl (by omega) fun b43 o43 hp43 => ?_
            refine ld (v := byteV (t.getD q 0)) rfl (hp43) ?_
            refine stp (v := byteV (t.getD q 0)) (o_mv rfl) ?_
            refine h42 _ _ ?_
            clear h42
            refine seq fun K44 h44 => ?_
            have hcl : (codesL (lnF t)).length = 256 := by rw [codesL_len, lnF_len]
            have hcx := (t.getD q 0).toNat_lt
            refine stp (v := y23) (o_mv rfl) ?_
            refine stp (v := byteV (t.getD q 0)) (o_mv rfl) ?_
            refine m_idxS ((0, 0) : Int × Int) (j := (t.getD q 0).toNat) (hs23.rd hM36 (i := 2) rfl) rfl rfl (by omega) fun b45 o45 hp45 => ?_
            refine ldA (cs := [.int .i64 (((codesL (lnF t)).getD ((t.getD q 0).toNat) ((0, 0) : Int × Int)).1), .int .u32 (((codesL (lnF t)).getD ((t.getD q 0).toNat) ((0, 0) : Int × Int)).2)]) rfl rfl (hp45.row (k := 0) rfl rfl) ?_
            refine m_al hM36 fun b46 w47 (hM47 : Mem w [] w47 [r4_, rs21, rs23, ro, [⟨b26, 40, [vo]⟩, ⟨b30, 3, [.int .i64 ((bitsF (lnF t) (t.take q)).length : Nat)]⟩], [⟨b46, 37, [.int .i64 0, .int .u32 0]⟩]]) => ?_
            refine m_stA (l := [.int .i64 (((codesL (lnF t)).getD ((t.getD q 0).toNat) ((0, 0) : Int × Int)).1), .int .u32 (((codesL (lnF t)).getD ((t.getD q 0).toNat) ((0, 0) : Int × Int)).2)]) hM47 (i := 5) rfl rfl rfl rfl (by simp [oneCells, Value.oneCell', byteV]) (by simp) fun w48 (hM48 : Mem w [] w48 [r4_, rs21, rs23, ro, [⟨b26, 40, [vo]⟩, ⟨b30, 3, [.int .i64 ((bitsF (lnF t) (t.take q)).length : Nat)]⟩], [⟨b46, 37, [.int .i64 (((codesL (lnF t)).getD ((t.getD q 0).toNat) ((0, 0) : Int × Int)).1), .int .u32 (((codesL (lnF t)).getD ((t.getD q 0).toNat) ((0, 0) : Int × Int)).2)]⟩]]) => ?_
            refine h44 _ _ ?_
            clear h44
            refine seq fun K49 h49 => ?_
            obtain ⟨dg, W, hcd, hdl, hW⟩ := code_bdE (lnF_inB t) (lnF_codes t).1 (s := (t.getD q 0).toNat) (by rw [lnF_len]; exact (t.getD q 0).toNat_lt)
            have hg1 : ((codesL (lnF t)).getD (t.getD q 0).toNat ((0, 0) : Int × Int)).1 = (dg : Nat) := by rw [codesL_get' (by rw [lnF_len]; exact (t.getD q 0).toNat_lt), hcd]
            have hg2 : ((codesL (lnF t)).getD (t.getD q 0).toNat ((0, 0) : Int × Int)).2 = (W : Nat) := by rw [codesL_get' (by rw [lnF_len]; exact (t.getD q 0).toNat_lt), hcd]
            have hnq := lnF_bits t q (by omega)
            have hnx := bits_next (L := (lnF t)) (t := t) (q := q) (by omega)
            rw [hcd, Int.toNat_natCast] at hnx
            refine stp (v := .pointer (some ⟨b46, 0, none⟩)) (o_fa rfl rfl) ?_
            refine m_ld (v := .int .i64 (((codesL (lnF t)).getD ((t.getD q 0).toNat) ((0, 0) : Int × Int)).1)) hM48 (i := 5) (j := 0) rfl rfl rfl rfl ?_
            refine stp (v := .int .i64 ((((codesL (lnF t)).getD ((t.getD q 0).toNat) ((0, 0) : Int × Int)).1) - 1)) (o_bin rfl rfl (v_sub64 (by constructor <;> omega))) ?_
            refine stp (v := .int .i64 ((((codesL (lnF t)).getD ((t.getD q 0).toNat) ((0, 0) : Int × Int)).1) - 1)) (o_mv rfl) ?_
            refine h49 _ _ ?_
            clear h49
            refine lp (n := fun _ _ => False) (ι := (Nat) × (Value) × (List Ent)) (fun ⟨k, v2, r2⟩ f w' => f 17 = .int .i64 ((dg : Nat) - 1 - (k : Nat)) ∧ f 9 = y23 ∧ f 11 = .pointer (some ⟨b26, 0, none⟩) ∧ f 13 = .func (.func 58) [].toArray [.pointer (some ⟨b30, 0, none⟩), .pointer (some ⟨b26, 0, none⟩)].toArray ∧ f 16 = .pointer (some ⟨b46, 0, none⟩) ∧ f 48 = x ∧ f 49 = .int .i64 (t.length : Nat) ∧ f 50 = .int .i64 (q : Nat) ∧ Mem w [] w' [r4_, rs21, rs23, r2, [⟨b26, 40, [v2]⟩, ⟨b30, 3, [.int .i64 ((bitsF (lnF t) (t.take q)).length + k : Nat)]⟩], [⟨b46, 37, [.int .i64 (((codesL (lnF t)).getD ((t.getD q 0).toNat) ((0, 0) : Int × Int)).1), .int .u32 (((codesL (lnF t)).getD ((t.getD q 0).toNat) ((0, 0) : Int × Int)).2)]⟩]] ∧ (SlE byteV 5 v2 ((hdrE (lnF t) 0 ++ [0]) ++ pkA (bitsF (lnF t) t) ((bitsF (lnF t) (t.take q)).length + k)) r2) ∧ (k ≤ dg)) (fun ⟨k, v2, r2⟩ => dg - k) (0, vo, ro) ?_ ?_
            · exact ⟨by first | rfl | exact v_int (by omega) | exact v_int (by simp) | exact v_int (by simp; omega), rfl, rfl, rfl, rfl, rfl, by first | rfl | exact v_int (by omega) | exact v_int (by simp) | exact v_int (by simp; omega), by first | rfl | exact v_int (by omega) | exact v_int (by simp) | exact v_int (by simp; omega), hM48, hso, by omega⟩
            · rintro ⟨k, v2, r2⟩ f w50 ⟨e50_17, e50_9, e50_11, e50_13, e50_16, e50_48, e50_49, e50_50, hM50, hs2, hk⟩ K51 h51
              obtain ⟨frm, rfl⟩ : ∃ frm, f = (upd (upd (upd (upd (upd (upd (upd (upd frm 17 (.int .i64 ((dg : Nat) - 1 - (k : Nat)))) 9 (y23)) 11 (.pointer (some ⟨b26, 0, none⟩))) 13 (.func (.func 58) [].toArray [.pointer (some ⟨b30, 0, none⟩), .pointer (some ⟨b26, 0, none⟩)].toArray)) 16 (.pointer (some ⟨b46, 0, none⟩))) 48 (x)) 49 (.int .i64 (t.length : Nat))) 50 (.int .i64 (q : Nat))) := ⟨f, by rw [upd_self e50_17, upd_self e50_9, upd_self e50_11, upd_self e50_13, upd_self e50_16, upd_self e50_48, upd_self e50_49, upd_self e50_50]⟩
              clear e50_17 e50_9 e50_11 e50_13 e50_16 e50_48 e50_49 e50_50
              refine seq fun K52 h52 => ?_
              refine seq fun K53 h53 => ?_
              refine stp (v := .int .i64 ((dg : Nat) - 1 - (k : Nat))) (o_mv rfl) ?_
              refine stp (v := .bool (decide ((0 : Int) ≤ ((dg : Nat) - 1 - (k : Nat) : Int)))) (o_bin rfl rfl rfl) ?_
              refine h53 _ _ ?_
              clear h53
              refine cndP rfl (fun c54 => ?_) (fun c54 => ?_)
              ·
                refine h52 _ _ ?_
                clear h52
                refine seq fun K55 h55 => ?_
                refine stp (v := .func (.func 58) [].toArray [.pointer (some ⟨b30, 0, none⟩), .pointer (some ⟨b26, 0, none⟩)].toArray) (o_mv rfl) ?_
                refine stp (v := .pointer (some ⟨b46, 1, none⟩)) (o_fa rfl rfl) ?_
                refine m_ld (v := .int .u32 (((codesL (lnF t)).getD ((t.getD q 0).toNat) ((0, 0) : Int × Int)).2)) hM50 (i := 5) (j := 0) rfl rfl rfl rfl ?_
                refine stp (v := .int .i64 ((dg : Nat) - 1 - (k : Nat))) (o_mv rfl) ?_
                have hwk : W / 2 ^ (dg - 1 - k) ≤ W := Nat.div_le_self _ _
                have hbit : (bitsF (lnF t) t).getD ((bitsF (lnF t) (t.take q)).length + k) 0 = W / 2 ^ (dg - 1 - k) % 2 := by
                  have e := bits_at (L := (lnF t)) (t := t) (q := q) (k := k) (by omega) (by rw [hcd, Int.toNat_natCast]; omega)
                  rw [hcd, Int.toNat_natCast, Int.toNat_natCast] at e
                  exact e
                refine stp (v := .int .u32 (W / 2 ^ (dg - 1 - k) : Nat)) (o_shr rfl rfl (by omega) (shr_at hg2 (by omega) (by omega))) ?_
                refine stp (v := .int .u32 (W / 2 ^ (dg - 1 - k) % 2 : Nat)) (o_bin rfl rfl (and1' (by omega))) ?_
                refine m_callv rfl (by kernel_rfl) (put_ok (W / 2 ^ (dg - 1 - k) % 2) ((bitsF (lnF t) (t.take q)).length + k) b30 b26 _ r2 (hdrE (lnF t) 0 ++ [0]) (pkA (bitsF (lnF t) t) ((bitsF (lnF t) (t.take q)).length + k)) w50 hs2 (hM50.res2 4 3 rfl rfl (by decide)) (by omega) (pkA_ok bits_le _) (by omega) hHD) rfl fun v56 w56 ⟨v56, rb56, hs56, hm56⟩ => ?_
                have hM56 : Mem w [] w56 [r4_, rs21, rs23, rb56, [⟨b26, 40, [v56]⟩, ⟨b30, 3, [.int .i64 ((bitsF (lnF t) (t.take q)).length + k + 1 : Nat)]⟩], [⟨b46, 37, [.int .i64 (((codesL (lnF t)).getD ((t.getD q 0).toNat) ((0, 0) : Int × Int)).1), .int .u32 (((codesL (lnF t)).getD ((t.getD q 0).toNat) ((0, 0) : Int × Int)).2)]⟩]] := hM50.step2 4 3 rfl rfl (by decide) hm56
                refine h55 _ _ ?_
                clear h55
                refine stp (v := .int .i64 ((dg : Nat) - 1 - (k : Nat))) (o_mv rfl) ?_
                refine stp (v := .int .i64 (((dg : Nat) - 1 - (k : Nat)) - 1)) (o_bin rfl rfl (v_sub64 (by constructor <;> omega))) ?_
                refine stp (v := .int .i64 (((dg : Nat) - 1 - (k : Nat)) - 1)) (o_mv rfl) ?_
                refine h51 (k + 1, v56, rb56) _ _ ⟨by first | rfl | exact v_int (by omega) | exact v_int (by simp) | exact v_int (by simp; omega), rfl, rfl, rfl, rfl, rfl, by first | rfl | exact v_int (by omega) | exact v_int (by simp) | exact v_int (by simp; omega), by first | rfl | exact v_int (by omega) | exact v_int (by simp) | exact v_int (by simp; omega), hM56, (by show SlE byteV 5 _ ((hdrE (lnF t) 0 ++ [0]) ++ pk1 (pkA (bitsF (lnF t) t) ((bitsF (lnF t) (t.take q)).length + k)) ((bitsF (lnF t) (t.take q)).length + k) ((bitsF (lnF t) t).getD ((bitsF (lnF t) (t.take q)).length + k) 0)) _; rw [hbit]; exact hs56), by omega⟩ (by (try dsimp only); omega)
              ·
                refine h41 _ _ ?_
                clear h41
                refine stp (v := .int .i64 ((q : Nat) + 1)) (o_bin rfl rfl (v_add64 (by constructor <;> omega))) ?_
                refine stp (v := .int .i64 ((q : Nat) + 1)) (o_mv rfl) ?_
                refine h37 (q + 1, v2, r2) _ _ ⟨by first | rfl | exact v_int (by omega) | exact v_int (by simp) | exact v_int (by simp; omega), rfl, rfl, rfl, rfl, by first | rfl | exact v_int (by omega) | exact v_int (by simp) | exact v_int (by simp; omega), (by have e : (bitsF (lnF t) (t.take q)).length + k = (bitsF (lnF t) (t.take (q + 1))).length := (by omega); rw [← e]; exact hM50.keep (by simp)), (by rw [hnx, show dg = k by omega]; exact hs2), by omega⟩ (by (try dsimp only); omega)
          ·
            refine h34 _ _ ?_
            clear h34
            refine seq fun K57 h57 => ?_
            refine m_ld (v := vo) hM36 (i := 4) (j := 0) rfl rfl rfl rfl ?_
            refine stp (v := vo) (o_mv rfl) ?_
            refine stp (v := .int .i64 0) (o_mv rfl) ?_
            refine h57 _ _ ?_
            clear h57
            refine ⟨(.tuple [vo, .int .i64 0].toArray), rfl, ?_⟩
            rw [encR_ok (by omega)]
            exact ⟨_, _, rfl, SlE.eqL hso (by unfold encF; rw [bits_all (by omega)]), hM36.keep (by simp; repeat first | exact List.Sublist.refl _ | exact List.sublist_append_left _ _ | refine List.sublist_append_of_sublist_right ?_)⟩
