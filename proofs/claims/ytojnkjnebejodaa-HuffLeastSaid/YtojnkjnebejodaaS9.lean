/- Lengths: the walks of the program and of the reference. -/
import Derived.Test.YtojnkjnebejodaaS8
namespace Go.Proofs.Ytojnkjnebejodaa.E
open Go
theorem shl_one {n : Nat} (h : n ≤ 15) : Value.int .i64 (IntKind.i64.wrap ((1 : Int) * 2 ^ min ((n : Int)).toNat IntKind.i64.bits)) = .int .i64 ((2 ^ n : Nat) : Int) := by
  have hp : 2 ^ n ≤ 32768 := Nat.le_trans (Nat.pow_le_pow_right (n := 2) (by omega) h) (by decide)
  have := shlI_nat (k := .i64) (a := 1) (n := n) (by simp only [IntKind.bits]; omega) (by rw [Nat.one_mul]; generalize 2 ^ n = p at hp ⊢; simp only [inK]; omega)
  rw [Nat.one_mul] at this
  exact v_int this
theorem inB_all {cs : List Int} (h : inB 0 1099511627776 cs = true) (i : Nat) : 0 ≤ cs.getD i 0 := by
  rcases Nat.lt_or_ge i cs.length with k | k
  · exact (inB_iff.1 h i k).1
  · rw [List.getD_eq_getElem?_getD, List.getElem?_eq_none k]; exact Int.le_refl _
theorem oneR_set {n i : Nat} {cs : List Int} (hc : 0 < cs.getD i 0) : (mapR n fun s => if s < i then (if 0 < cs.getD s 0 then 1 else 0) else 0).set i 1 = mapR n fun s => if s < i + 1 then (if 0 < cs.getD s 0 then 1 else 0) else 0 := by
  rw [mapR_set]
  refine mapR_ext fun s _ => ?_
  by_cases c : s = i
  · subst c; rw [if_pos rfl, if_pos (by omega), if_pos hc]
  · rw [if_neg c]
    by_cases d : s < i
    · rw [if_pos d, if_pos (c := s < i + 1) (by omega)]
    · rw [if_neg d, if_neg (c := s < i + 1) (by omega)]
theorem oneR_no {n i : Nat} {cs : List Int} (hc : ¬ 0 < cs.getD i 0) : (mapR n fun s => if s < i then (if 0 < cs.getD s 0 then (1 : Int) else 0) else 0) = mapR n fun s => if s < i + 1 then (if 0 < cs.getD s 0 then 1 else 0) else 0 := by
  refine mapR_ext fun s _ => ?_
  by_cases d : s < i
  · rw [if_pos d, if_pos (c := s < i + 1) (by omega)]
  · rw [if_neg d]
    by_cases c : s = i
    · subst c; rw [if_pos (c := s < s + 1) (by omega), if_neg hc]
    · rw [if_neg (c := s < i + 1) (by omega)]
theorem oneR_end {cs : List Int} {lim i : Nat} (h : (thF cs).length = 1) (hi : cs.length ≤ i) : (mapR cs.length fun s => if s < i then (if 0 < cs.getD s 0 then (1 : Int) else 0) else 0) = lensF cs lim := by
  rw [lens_one h]
  exact mapR_ext fun s hs => by rw [if_pos (by omega)]
theorem rowT_len {cs : List Int} {lim : Nat} (h1 : 1 ≤ lim) (h : ¬ 2 ^ lim < (thF cs).length) (hk : ¬ (thF cs).length = 0) : max (2 * (thF cs).length - 2) 1 ≤ (rowF (thF cs) (lim - 1)).length := by
  have := row_big (thF cs) h1 (by omega)
  have h2 : 1 ≤ (rowF (thF cs) (lim - 1)).length := by
    rcases Nat.lt_or_ge 1 lim with c | c
    · rw [show lim - 1 = lim - 2 + 1 by omega, row_len]; omega
    · rw [show lim - 1 = 0 by omega]; show 1 ≤ (thF cs).length; omega
  omega

set_option maxHeartbeats 1000000 in
set_option maxRecDepth 100000 in
/-- huff.Lengths -/
theorem Lengths_ok (x : Value) (cs : List Int) (lim : Int) (w : World) (hx : RdE i64V w x cs) (hl0 : cs.length ≤ 1152921504606846976) (hk0 : inK .i64 lim) : Calls Try.prog 28 [x, .int .i64 lim].toArray w (Rt fun r w' => ∃ v rs, r = .tuple [v, .int .i64 (lenF cs lim).2].toArray ∧ SlE i64V 3 v (lenF cs lim).1 rs ∧ Mem w [] w' [rs]) := by
  have hM0 : Mem w [] w [] := Mem.nil w []
  simp only [inK] at hk0
  refine calls_vc mixed Try.func28 rfl C28 (by simp [Try.ntmps28]) ?_
  refine seq fun K1 h1 => ?_
  refine stp (v := .slice none 0 0) (o_mv rfl) ?_
  refine stp (v := .int .i64 0) (o_mv rfl) ?_
  refine h1 _ _ ?_
  clear h1
  refine seq fun K2 h2 => ?_
  refine seq fun K3 h3 => ?_
  refine stp (v := x) (o_mv rfl) ?_
  refine stp (v := .int .i64 (cs.length : Nat)) (o_lenR (hx.upd hM0.upd) rfl rfl) ?_
  refine stp (v := .bool (decide ((256 : Int) < ((cs.length : Nat) : Int)))) (o_bin rfl rfl rfl) ?_
  refine h3 _ _ ?_
  clear h3
  refine cndP rfl (fun c4 => ?_) (fun c4 => ?_)
  ·
    refine seq fun K5 h5 => ?_
    refine stp (v := .slice none 0 0) (o_mv rfl) ?_
    refine stp (v := .int .i64 2) (o_mv rfl) ?_
    refine h5 _ _ ?_
    clear h5
    refine ⟨(.tuple [.slice none 0 0, .int .i64 2].toArray), rfl, ?_⟩
    first | (rw [lenF_long (by omega)]; exact ⟨_, [], rfl, Sl.nil 1 3, hM0.keep (by simp)⟩) | (rw [lenF_lim (by omega) hpre (by omega)]; exact ⟨_, [], rfl, Sl.nil 1 3, hM0.keep (by simp)⟩) | (rw [lenF_arg (by omega) (by intro k; rcases hE with ⟨h1, h2⟩ | ⟨h1, h2⟩ <;> first | omega | (rw [h1] at k; exact absurd k.1 (by decide)))]; exact ⟨_, [], rfl, Sl.nil 1 3, hM0.keep (by simp)⟩)
  ·
    refine h2 _ _ ?_
    clear h2
    refine seq fun K6 h6 => ?_
    refine seq fun K7 h7 => ?_
    refine stp (v := x) (o_mv rfl) ?_
    refine m_call (wrong_ok _ cs w (hx.upd hM0.upd) (by first | omega | (simp; done) | (simp; omega))) rfl fun v8 w8 ⟨hr8, hu8⟩ => ?_
    have hM8 : Mem w [] w8 [] := hM0.pure hu8
    subst hr8
    refine stp (v := .int .i64 (errIf (inB 0 1099511627776 cs) 3)) (o_mv rfl) ?_
    refine h7 _ _ ?_
    clear h7
    refine seq fun K9 h9 => ?_
    have hE : (inB 0 1099511627776 cs = true ∧ errIf (inB 0 1099511627776 cs) 3 = 0) ∨ (inB 0 1099511627776 cs = false ∧ errIf (inB 0 1099511627776 cs) 3 = 3) := by
      cases inB 0 1099511627776 cs with
      | true => exact .inl ⟨rfl, rfl⟩
      | false => exact .inr ⟨rfl, rfl⟩
    refine stp (v := .int .i64 (errIf (inB 0 1099511627776 cs) 3)) (o_mv rfl) ?_
    refine stp (v := .bool (decide (¬ (errIf (inB 0 1099511627776 cs) 3) = 0))) (o_bin rfl rfl v_neq) ?_
    refine stp (v := .bool (decide (¬ (errIf (inB 0 1099511627776 cs) 3) = 0))) (o_mv rfl) ?_
    refine splitP rfl (fun c10 => ?_) (fun c10 => ?_)
    ·
      refine gno rfl (by simp) ?_
      refine gno rfl (by simp) ?_
      refine stp (v := .bool true) (o_pickT rfl rfl) ?_
      refine stp (v := .bool true) (o_mv rfl) ?_
      refine splitT rfl ?_
      refine gno rfl (by simp) ?_
      refine gno rfl (by simp) ?_
      refine stp (v := .bool true) (o_pickT rfl rfl) ?_
      refine h9 _ _ ?_
      clear h9
      refine cndT rfl ?_
      refine seq fun K11 h11 => ?_
      refine stp (v := .slice none 0 0) (o_mv rfl) ?_
      refine stp (v := .int .i64 3) (o_mv rfl) ?_
      refine h11 _ _ ?_
      clear h11
      refine ⟨(.tuple [.slice none 0 0, .int .i64 3].toArray), rfl, ?_⟩
      first | (rw [lenF_long (by omega)]; exact ⟨_, [], rfl, Sl.nil 1 3, hM8.keep (by simp)⟩) | (rw [lenF_lim (by omega) hpre (by omega)]; exact ⟨_, [], rfl, Sl.nil 1 3, hM8.keep (by simp)⟩) | (rw [lenF_arg (by omega) (by intro k; rcases hE with ⟨h1, h2⟩ | ⟨h1, h2⟩ <;> first | omega | (rw [h1] at k; exact absurd k.1 (by decide)))]; exact ⟨_, [], rfl, Sl.nil 1 3, hM8.keep (by simp)⟩)
    ·
      refine stg rfl (v := .int .i64 lim) (o_mv rfl) ?_
      refine stg rfl (v := .bool (decide (lim < 1))) (o_bin rfl rfl rfl) ?_
      refine stp (v := .bool (decide (lim < 1))) (o_pickF rfl rfl) ?_
      refine stp (v := .bool (decide (lim < 1))) (o_mv rfl) ?_
      refine splitP rfl (fun c12 => ?_) (fun c12 => ?_)
      ·
        refine gno rfl (by simp) ?_
        refine gno rfl (by simp) ?_
        refine stp (v := .bool true) (o_pickT rfl rfl) ?_
        refine h9 _ _ ?_
        clear h9
        refine cndT rfl ?_
        refine seq fun K13 h13 => ?_
        refine stp (v := .slice none 0 0) (o_mv rfl) ?_
        refine stp (v := .int .i64 3) (o_mv rfl) ?_
        refine h13 _ _ ?_
        clear h13
        refine ⟨(.tuple [.slice none 0 0, .int .i64 3].toArray), rfl, ?_⟩
        first | (rw [lenF_long (by omega)]; exact ⟨_, [], rfl, Sl.nil 1 3, hM8.keep (by simp)⟩) | (rw [lenF_lim (by omega) hpre (by omega)]; exact ⟨_, [], rfl, Sl.nil 1 3, hM8.keep (by simp)⟩) | (rw [lenF_arg (by omega) (by intro k; rcases hE with ⟨h1, h2⟩ | ⟨h1, h2⟩ <;> first | omega | (rw [h1] at k; exact absurd k.1 (by decide)))]; exact ⟨_, [], rfl, Sl.nil 1 3, hM8.keep (by simp)⟩)
      ·
        refine stg rfl (v := .int .i64 lim) (o_mv rfl) ?_
        refine stg rfl (v := .bool (decide ((15 : Int) < lim))) (o_bin rfl rfl rfl) ?_
        refine stp (v := .bool (decide ((15 : Int) < lim))) (o_pickF rfl rfl) ?_
        refine h9 _ _ ?_
        clear h9
        refine cndP rfl (fun c14 => ?_) (fun c14 => ?_)
        ·
          refine seq fun K15 h15 => ?_
          refine stp (v := .slice none 0 0) (o_mv rfl) ?_
          refine stp (v := .int .i64 3) (o_mv rfl) ?_
          refine h15 _ _ ?_
          clear h15
          refine ⟨(.tuple [.slice none 0 0, .int .i64 3].toArray), rfl, ?_⟩
          first | (rw [lenF_long (by omega)]; exact ⟨_, [], rfl, Sl.nil 1 3, hM8.keep (by simp)⟩) | (rw [lenF_lim (by omega) hpre (by omega)]; exact ⟨_, [], rfl, Sl.nil 1 3, hM8.keep (by simp)⟩) | (rw [lenF_arg (by omega) (by intro k; rcases hE with ⟨h1, h2⟩ | ⟨h1, h2⟩ <;> first | omega | (rw [h1] at k; exact absurd k.1 (by decide)))]; exact ⟨_, [], rfl, Sl.nil 1 3, hM8.keep (by simp)⟩)
        ·
          refine h6 _ _ ?_
          clear h6
          refine seq fun K16 h16 => ?_
          have hpre : inB 0 1099511627776 cs = true ∧ 1 ≤ lim ∧ lim ≤ 15 := by
            rcases hE with ⟨h1, h2⟩ | ⟨h1, h2⟩
            · exact ⟨h1, by omega, by omega⟩
            · omega
          refine stp (v := x) (o_mv rfl) ?_
          refine m_call (things_ok _ cs w8 (hx.upd hM8.upd) (by omega)) rfl fun v17 w17 ⟨rf, hs17, hm17⟩ => ?_
          have hM17 : Mem w [] w17 [rf] := hM8.add hm17
          have htl := thF_len cs
          refine stp (v := v17) (o_mv rfl) ?_
          refine h16 _ _ ?_
          clear h16
          refine seq fun K18 h18 => ?_
          refine stp (v := v17) (o_mv rfl) ?_
          refine stp (v := .int .i64 ((thF cs).length : Nat)) (o_lenR (hs17.rd hM17 (i := 0) rfl) rfl rfl) ?_
          refine stp (v := .int .i64 ((thF cs).length : Nat)) (o_mv rfl) ?_
          refine h18 _ _ ?_
          clear h18
          refine seq fun K19 h19 => ?_
          refine seq fun K20 h20 => ?_
          refine stp (v := .int .i64 ((thF cs).length : Nat)) (o_mv rfl) ?_
          refine stp (v := .int .i64 lim) (o_mv rfl) ?_
          refine stp (v := .int .i64 (2 ^ lim.toNat : Nat)) (o_shl rfl rfl (by omega) ((by
            have e : lim = ((lim.toNat : Nat) : Int) := by omega
            rw [e]; exact shl_one (by omega)))) ?_
          refine stp (v := .bool (decide (((2 ^ lim.toNat : Nat) : Int) < (((thF cs).length : Nat) : Int)))) (o_bin rfl rfl rfl) ?_
          refine h20 _ _ ?_
          clear h20
          refine cndP rfl (fun c21 => ?_) (fun c21 => ?_)
          ·
            refine seq fun K22 h22 => ?_
            refine stp (v := .slice none 0 0) (o_mv rfl) ?_
            refine stp (v := .int .i64 41) (o_mv rfl) ?_
            refine h22 _ _ ?_
            clear h22
            refine ⟨(.tuple [.slice none 0 0, .int .i64 41].toArray), rfl, ?_⟩
            first | (rw [lenF_long (by omega)]; exact ⟨_, [], rfl, Sl.nil 1 3, hM17.keep (by simp)⟩) | (rw [lenF_lim (by omega) hpre (by omega)]; exact ⟨_, [], rfl, Sl.nil 1 3, hM17.keep (by simp)⟩) | (rw [lenF_arg (by omega) (by intro k; rcases hE with ⟨h1, h2⟩ | ⟨h1, h2⟩ <;> first | omega | (rw [h1] at k; exact absurd k.1 (by decide)))]; exact ⟨_, [], rfl, Sl.nil 1 3, hM17.keep (by simp)⟩)
          ·
            refine h19 _ _ ?_
            clear h19
            refine seq fun K23 h23 => ?_
            refine stp (v := x) (o_mv rfl) ?_
            refine stp (v := .int .i64 (cs.length : Nat)) (o_lenR (hx.upd hM17.upd) rfl rfl) ?_
            refine m_mksE (E := i64V) (z := 0) (n := cs.length) (c := cs.length) rfl hM17 (v_int (by omega)) (v_int (by omega)) (by omega) (by omega) (by omega) fun v24 w24 r24 hs24 (hM24 : Mem w [] w24 [rf, r24]) => ?_
            refine stp (v := v24) (o_mv rfl) ?_
            refine h23 _ _ ?_
            clear h23
            refine seq fun K25 h25 => ?_
            refine seq fun K26 h26 => ?_
            refine stp (v := .int .i64 ((thF cs).length : Nat)) (o_mv rfl) ?_
            refine stp (v := .bool (decide ((((thF cs).length : Nat) : Int) = 1))) (o_bin rfl rfl rfl) ?_
            refine h26 _ _ ?_
            clear h26
            refine cndP rfl (fun c27 => ?_) (fun c27 => ?_)
            ·
              refine seq fun K28 h28 => ?_
              refine seq fun K29 h29 => ?_
              refine stp (v := x) (o_mv rfl) ?_
              refine stp (v := .int .i64 (cs.length : Nat)) (o_lenR (hx.upd hM24.upd) rfl rfl) ?_
              refine stp (v := .int .i64 0) (o_mv rfl) ?_
              refine h29 _ _ ?_
              clear h29
              refine lp (n := fun _ _ => False) (ι := (Nat) × (Value) × (List Ent)) (fun ⟨i, y9_, r9_⟩ f w' => f 46 = .int .i64 (i : Nat) ∧ f 9 = y9_ ∧ f 44 = x ∧ f 45 = .int .i64 (cs.length : Nat) ∧ Mem w [] w' [rf, r9_] ∧ (i ≤ cs.length) ∧ ((mapR cs.length fun s => if s < i then (if 0 < cs.getD s 0 then 1 else 0) else 0).length = cs.length) ∧ (SlE i64V 3 y9_ ((mapR cs.length fun s => if s < i then (if 0 < cs.getD s 0 then 1 else 0) else 0)) r9_)) (fun ⟨i, y9_, r9_⟩ => cs.length - i) (0, v24, r24) ?_ ?_
              · exact ⟨by first | rfl | exact v_int (by omega) | exact v_int (by simp) | exact v_int (by simp; omega), rfl, rfl, by first | rfl | exact v_int (by omega) | exact v_int (by simp) | exact v_int (by simp; omega), hM24, by omega, mapR_len _ _, by
                have h9 := hs24
                rw [mapR_rep] at h9
                exact h9.eqL (mapR_ext fun s _ => by rw [if_neg (by omega)])⟩
              · rintro ⟨i, y9_, r9_⟩ f w30 ⟨e30_46, e30_9, e30_44, e30_45, hM30, hi, hml, hy9_⟩ K31 h31
                obtain ⟨frm, rfl⟩ : ∃ frm, f = (upd (upd (upd (upd frm 46 (.int .i64 (i : Nat))) 9 (y9_)) 44 (x)) 45 (.int .i64 (cs.length : Nat))) := ⟨f, by rw [upd_self e30_46, upd_self e30_9, upd_self e30_44, upd_self e30_45]⟩
                clear e30_46 e30_9 e30_44 e30_45
                refine seq fun K32 h32 => ?_
                refine stp (v := .bool (decide (((i : Nat) : Int) < (cs.length : Nat)))) (o_bin rfl rfl rfl) ?_
                refine h32 _ _ ?_
                clear h32
                refine seq fun K33 h33 => ?_
                refine cndP rfl (fun c34 => ?_) (fun c34 => ?_)
                ·
                  refine h33 _ _ ?_
                  clear h33
                  refine seq fun K35 h35 => ?_
                  refine seq fun K36 h36 => ?_
                  refine stp (v := .int .i64 (i : Nat)) (o_mv rfl) ?_
                  refine m_idxE 0 (j := i) (hx.upd hM30.upd) rfl rfl (by omega) fun b37 o37 hp37 => ?_
                  refine ld (v := .int .i64 (cs.getD i 0)) rfl (hp37) ?_
                  refine stp (v := .int .i64 (i : Nat)) (o_mv rfl) ?_
                  refine stp (v := .int .i64 (cs.getD i 0)) (o_mv rfl) ?_
                  refine h36 _ _ ?_
                  clear h36
                  refine seq fun K38 h38 => ?_
                  refine stp (v := .int .i64 (cs.getD i 0)) (o_mv rfl) ?_
                  refine stp (v := .bool (decide ((0 : Int) < (cs.getD i 0)))) (o_bin rfl rfl rfl) ?_
                  refine h38 _ _ ?_
                  clear h38
                  refine cndP rfl (fun c39 => ?_) (fun c39 => ?_)
                  ·
                    refine stp (v := y9_) (o_mv rfl) ?_
                    refine stp (v := .int .i64 (i : Nat)) (o_mv rfl) ?_
                    refine m_set (E := i64V) (q := 1) (j := i) hM30 (i := 1) rfl hy9_ rfl rfl (by omega) (by simp) (rfl) fun w40 r40 u40 he40 hs40 (hM40 : Mem w [] w40 [rf, r40]) => ?_
                    refine h35 _ _ ?_
                    clear h35
                    refine stp (v := .int .i64 ((i : Nat) + 1)) (o_bin rfl rfl (v_add64 (by constructor <;> omega))) ?_
                    refine stp (v := .int .i64 ((i : Nat) + 1)) (o_mv rfl) ?_
                    refine h31 (i + 1, y9_, r40) _ _ ⟨by first | rfl | exact v_int (by omega) | exact v_int (by simp) | exact v_int (by simp; omega), rfl, rfl, by first | rfl | exact v_int (by omega) | exact v_int (by simp) | exact v_int (by simp; omega), hM40, by omega, mapR_len _ _, by rw [← oneR_set (by assumption)]; exact hs40⟩ (by (try dsimp only); omega)
                  ·
                    refine h35 _ _ ?_
                    clear h35
                    refine stp (v := .int .i64 ((i : Nat) + 1)) (o_bin rfl rfl (v_add64 (by constructor <;> omega))) ?_
                    refine stp (v := .int .i64 ((i : Nat) + 1)) (o_mv rfl) ?_
                    refine h31 (i + 1, y9_, r9_) _ _ ⟨by first | rfl | exact v_int (by omega) | exact v_int (by simp) | exact v_int (by simp; omega), rfl, rfl, by first | rfl | exact v_int (by omega) | exact v_int (by simp) | exact v_int (by simp; omega), hM30, by omega, mapR_len _ _, by rw [← oneR_no (by assumption)]; exact hy9_⟩ (by (try dsimp only); omega)
                ·
                  refine h28 _ _ ?_
                  clear h28
                  refine seq fun K41 h41 => ?_
                  refine stp (v := y9_) (o_mv rfl) ?_
                  refine stp (v := y9_) (o_mv rfl) ?_
                  refine stp (v := .int .i64 0) (o_mv rfl) ?_
                  refine h41 _ _ ?_
                  clear h41
                  refine ⟨(.tuple [y9_, .int .i64 0].toArray), rfl, ?_⟩
                  rw [lenF_ok (by omega) hpre (by omega)]
                  exact ⟨_, _, rfl, SlE.eqL (hy9_) (oneR_end (by omega) (by omega)), hM30.keep (by simp)⟩
            ·
              refine h25 _ _ ?_
              clear h25
              refine seq fun K42 h42 => ?_
              refine stp (v := v17) (o_mv rfl) ?_
              refine stp (v := v17) (o_mv rfl) ?_
              refine h42 _ _ ?_
              clear h42
              refine seq fun K43 h43 => ?_
              refine seq fun K44 h44 => ?_
              refine stp (v := .int .i64 lim) (o_mv rfl) ?_
              refine stp (v := .int .i64 (lim - 1)) (o_bin rfl rfl (v_sub64 (by constructor <;> omega))) ?_
              refine stp (v := .int .i64 0) (o_mv rfl) ?_
              refine h44 _ _ ?_
              clear h44
              refine lp (n := fun _ _ => False) (ι := (Nat) × (Value) × (List Ent)) (fun ⟨j, xr, rr⟩ f w' => f 61 = .int .i64 (j : Nat) ∧ f 12 = xr ∧ f 7 = v17 ∧ f 8 = .int .i64 ((thF cs).length : Nat) ∧ f 9 = v24 ∧ f 60 = .int .i64 (lim - 1) ∧ Mem w [] w' [rf, r24, rr] ∧ (SubS thC xr (rowF (thF cs) j) (rf ++ rr)) ∧ (j + 1 ≤ lim.toNat)) (fun ⟨j, xr, rr⟩ => lim.toNat - j) (0, v17, []) ?_ ?_
              · exact ⟨by first | rfl | exact v_int (by omega) | exact v_int (by simp) | exact v_int (by simp; omega), rfl, rfl, by first | rfl | exact v_int (by omega) | exact v_int (by simp) | exact v_int (by simp; omega), rfl, by first | rfl | exact v_int (by omega) | exact v_int (by simp) | exact v_int (by simp; omega), hM24.addNil, (SlS.sub (hs17)).mono (by simp), by omega⟩
              · rintro ⟨j, xr, rr⟩ f w45 ⟨e45_61, e45_12, e45_7, e45_8, e45_9, e45_60, hM45, hrw, hj⟩ K46 h46
                obtain ⟨frm, rfl⟩ : ∃ frm, f = (upd (upd (upd (upd (upd (upd frm 61 (.int .i64 (j : Nat))) 12 (xr)) 7 (v17)) 8 (.int .i64 ((thF cs).length : Nat))) 9 (v24)) 60 (.int .i64 (lim - 1))) := ⟨f, by rw [upd_self e45_61, upd_self e45_12, upd_self e45_7, upd_self e45_8, upd_self e45_9, upd_self e45_60]⟩
                clear e45_61 e45_12 e45_7 e45_8 e45_9 e45_60
                refine seq fun K47 h47 => ?_
                refine stp (v := .bool (decide (((j : Nat) : Int) < (lim - 1)))) (o_bin rfl rfl rfl) ?_
                refine h47 _ _ ?_
                clear h47
                refine seq fun K48 h48 => ?_
                refine cndP rfl (fun c49 => ?_) (fun c49 => ?_)
                ·
                  refine h48 _ _ ?_
                  clear h48
                  refine seq fun K50 h50 => ?_
                  have hrk := row_ok (cs := cs) (j := j) (by omega) hpre.1 (by omega)
                  refine stp (v := v17) (o_mv rfl) ?_
                  refine stp (v := xr) (o_mv rfl) ?_
                  refine m_call (next_ok _ _ (thF cs) (rowF (thF cs) j) _ w45 (hs17.rd hM45 (i := 0) rfl) (hrw.rd _ (own2 (hM45.owned (i := 0) rfl) (hM45.owned (i := 2) rfl))) (by omega) hrk.1 (by omega) hrk.2.1 (fun k _ => Nat.le_trans (hrk.2.2 k) (by omega))) rfl fun v51 w51 ⟨rn51, hs51, hm51⟩ => ?_
                  have hM51 : Mem w [] w51 [rf, r24, rr, rn51] := hM45.add hm51
                  refine stp (v := v51) (o_mv rfl) ?_
                  refine h50 _ _ ?_
                  clear h50
                  refine stp (v := .int .i64 ((j : Nat) + 1)) (o_bin rfl rfl (v_add64 (by constructor <;> omega))) ?_
                  refine stp (v := .int .i64 ((j : Nat) + 1)) (o_mv rfl) ?_
                  refine h46 (j + 1, v51, rn51) _ _ ⟨by first | rfl | exact v_int (by omega) | exact v_int (by simp) | exact v_int (by simp; omega), rfl, rfl, by first | rfl | exact v_int (by omega) | exact v_int (by simp) | exact v_int (by simp; omega), rfl, by first | rfl | exact v_int (by omega) | exact v_int (by simp) | exact v_int (by simp; omega), hM51.keep (by simp), (SlS.sub (hs51)).mono (fun e he => List.mem_append_right _ he), by omega⟩ (by (try dsimp only); omega)
                ·
                  refine h43 _ _ ?_
                  clear h43
                  refine seq fun K52 h52 => ?_
                  refine seq fun K53 h53 => ?_
                  refine stp (v := xr) (o_mv rfl) ?_
                  refine stp (v := .int .i64 ((thF cs).length : Nat)) (o_mv rfl) ?_
                  refine stp (v := .int .i64 (2 * ((thF cs).length : Nat))) (o_bin rfl rfl (v_mul64 (by constructor <;> omega))) ?_
                  refine stp (v := .int .i64 ((2 * ((thF cs).length : Nat)) - 2)) (o_bin rfl rfl (v_sub64 (by constructor <;> omega))) ?_
                  refine stp (v := .int .i64 ((2 * (thF cs).length - 2) : Nat)) (o_mm rfl rfl (v_int (by simp only [if_true]; omega))) ?_
                  have hje : j = lim.toNat - 1 := by omega
                  have hbig := row_big (thF cs) (lim := lim.toNat) (by omega) (by omega)
                  rw [← hje] at hbig
                  refine m_slcSubH (2 * (thF cs).length - 2) hrw ((own2 (hM45.owned (i := 0) rfl) (hM45.owned (i := 2) rfl))) rfl (by omega) rfl fun u54 hu54 => ?_
                  have hu54' := hu54.eqL (m := (takeF cs lim.toNat)) (by
                    unfold takeF
                    rw [← hje]
                    by_cases k0 : (thF cs).length = 0
                    · rw [row_none k0]; simp
                    · rw [show max (2 * (thF cs).length - 2) 1 = 2 * (thF cs).length - 2 by omega])
                  have htfl : (takeF cs lim.toNat).length ≤ 512 := by
                    unfold takeF
                    rw [List.length_take]
                    have := (row_ok (cs := cs) (j := lim.toNat - 1) (by omega) hpre.1 (by omega)).1
                    omega
                  refine stp (v := .int .i64 ((takeF cs lim.toNat).length : Nat)) (o_lenR (hu54'.rd _ (own2 (hM45.owned (i := 0) rfl) (hM45.owned (i := 2) rfl))) rfl rfl) ?_
                  refine stp (v := .int .i64 0) (o_mv rfl) ?_
                  refine h53 _ _ ?_
                  clear h53
                  refine lp (n := fun _ _ => False) (ι := (Nat) × (Value) × (List Ent)) (fun ⟨q, y9_, r9_⟩ f w' => f 74 = .int .i64 (q : Nat) ∧ f 9 = y9_ ∧ f 72 = u54 ∧ f 73 = .int .i64 ((takeF cs lim.toNat).length : Nat) ∧ Mem w [] w' [rf, r9_, rr] ∧ (q ≤ (takeF cs lim.toNat).length) ∧ ((gatR cs.length (takeF cs lim.toNat) q 0).length = cs.length) ∧ (SlE i64V 3 y9_ (gatR cs.length (takeF cs lim.toNat) q 0) r9_)) (fun ⟨q, y9_, r9_⟩ => (takeF cs lim.toNat).length - q) (0, v24, r24) ?_ ?_
                  · exact ⟨by first | rfl | exact v_int (by omega) | exact v_int (by simp) | exact v_int (by simp; omega), rfl, rfl, by first | rfl | exact v_int (by omega) | exact v_int (by simp) | exact v_int (by simp; omega), hM45, by omega, gat_len _ _ _ _, by rw [← gat_zero]; exact hs24⟩
                  · rintro ⟨q, y9_, r9_⟩ f w55 ⟨e55_74, e55_9, e55_72, e55_73, hM55, hq, hgl, hy9_⟩ K56 h56
                    obtain ⟨frm, rfl⟩ : ∃ frm, f = (upd (upd (upd (upd frm 74 (.int .i64 (q : Nat))) 9 (y9_)) 72 (u54)) 73 (.int .i64 ((takeF cs lim.toNat).length : Nat))) := ⟨f, by rw [upd_self e55_74, upd_self e55_9, upd_self e55_72, upd_self e55_73]⟩
                    clear e55_74 e55_9 e55_72 e55_73
                    refine seq fun K57 h57 => ?_
                    refine stp (v := .bool (decide (((q : Nat) : Int) < ((takeF cs lim.toNat).length : Nat)))) (o_bin rfl rfl rfl) ?_
                    refine h57 _ _ ?_
                    clear h57
                    refine seq fun K58 h58 => ?_
                    refine cndP rfl (fun c59 => ?_) (fun c59 => ?_)
                    ·
                      refine h58 _ _ ?_
                      clear h58
                      refine seq fun K60 h60 => ?_
                      refine seq fun K61 h61 => ?_
                      refine m_idxS th0 (j := q) (hu54'.rd _ (own2 (hM55.owned (i := 0) rfl) (hM55.owned (i := 2) rfl))) rfl rfl (by omega) fun b62 o62 hp62 => ?_
                      refine ldA (cs := thC ((takeF cs lim.toNat).getD q th0)) rfl (thC_len _) (hp62.all) ?_
                      refine m_al hM55 fun b63 w64 (hM64 : Mem w [] w64 [rf, r9_, rr, [⟨b63, 81, (zcOf Try.t81)⟩]]) => ?_
                      refine m_stA (l := (thC ((takeF cs lim.toNat).getD q th0))) hM64 (i := 3) rfl rfl rfl (by simp) (thC_one _) (by simp) fun w65 hm65 => ?_
                      have hM65 : Mem w [] w65 [rf, r9_, rr, [⟨b63, 81, (thC ((takeF cs lim.toNat).getD q th0))⟩]] := by
                        have e : splice (zcOf Try.t81) 0 (thC ((takeF cs lim.toNat).getD q th0)) = (thC ((takeF cs lim.toNat).getD q th0)) := splice_full (by simp; first | done | (simp) | omega)
                        first | (rw [e] at hm65; exact hm65) | (rw [← e]; exact hm65)
                      refine h61 _ _ ?_
                      clear h61
                      refine seq fun K66 h66 => ?_
                      refine stp (v := y9_) (o_mv rfl) ?_
                      refine stp (v := .int .i64 ((gatR cs.length (takeF cs lim.toNat) q 0).length : Nat)) (o_lenR (hy9_.rd hM65 (i := 1) rfl) rfl rfl) ?_
                      refine stp (v := .int .i64 0) (o_mv rfl) ?_
                      refine h66 _ _ ?_
                      clear h66
                      refine lp (n := fun _ _ => False) (ι := (Nat) × (Value) × (List Ent)) (fun ⟨i, y9_, r9_⟩ f w' => f 80 = .int .i64 (i : Nat) ∧ f 9 = y9_ ∧ f 14 = .pointer (some ⟨b63, 0, none⟩) ∧ f 72 = u54 ∧ f 73 = .int .i64 ((takeF cs lim.toNat).length : Nat) ∧ f 74 = .int .i64 (q : Nat) ∧ f 79 = .int .i64 ((gatR cs.length (takeF cs lim.toNat) q 0).length : Nat) ∧ Mem w [] w' [rf, r9_, rr, [⟨b63, 81, (thC ((takeF cs lim.toNat).getD q th0))⟩]] ∧ (i ≤ cs.length) ∧ ((gatR cs.length (takeF cs lim.toNat) q i).length = cs.length) ∧ (SlE i64V 3 y9_ (gatR cs.length (takeF cs lim.toNat) q i) r9_)) (fun ⟨i, y9_, r9_⟩ => cs.length - i) (0, y9_, r9_) ?_ ?_
                      · exact ⟨by first | rfl | exact v_int (by omega) | exact v_int (by simp) | exact v_int (by simp; omega), rfl, rfl, rfl, by first | rfl | exact v_int (by omega) | exact v_int (by simp) | exact v_int (by simp; omega), by first | rfl | exact v_int (by omega) | exact v_int (by simp) | exact v_int (by simp; omega), by first | rfl | exact v_int (by omega) | exact v_int (by simp) | exact v_int (by simp; omega), hM65, by omega, gat_len _ _ _ _, by first | exact hy9_ | simpa using hy9_⟩
                      · rintro ⟨i, y9_, r9_⟩ f w67 ⟨e67_80, e67_9, e67_14, e67_72, e67_73, e67_74, e67_79, hM67, hi, hgi, hy9_⟩ K68 h68
                        obtain ⟨frm, rfl⟩ : ∃ frm, f = (upd (upd (upd (upd (upd (upd (upd frm 80 (.int .i64 (i : Nat))) 9 (y9_)) 14 (.pointer (some ⟨b63, 0, none⟩))) 72 (u54)) 73 (.int .i64 ((takeF cs lim.toNat).length : Nat))) 74 (.int .i64 (q : Nat))) 79 (.int .i64 ((gatR cs.length (takeF cs lim.toNat) q 0).length : Nat))) := ⟨f, by rw [upd_self e67_80, upd_self e67_9, upd_self e67_14, upd_self e67_72, upd_self e67_73, upd_self e67_74, upd_self e67_79]⟩
                        clear e67_80 e67_9 e67_14 e67_72 e67_73 e67_74 e67_79
                        refine seq fun K69 h69 => ?_
                        refine stp (v := .bool (decide (((i : Nat) : Int) < ((gatR cs.length (takeF cs lim.toNat) q 0).length : Nat)))) (o_bin rfl rfl rfl) ?_
                        refine h69 _ _ ?_
                        clear h69
                        refine seq fun K70 h70 => ?_
                        refine cndP rfl (fun c71 => ?_) (fun c71 => ?_)
                        ·
                          refine h70 _ _ ?_
                          clear h70
                          refine seq fun K72 h72 => ?_
                          refine seq fun K73 h73 => ?_
                          refine stp (v := .int .i64 (i : Nat)) (o_mv rfl) ?_
                          refine stp (v := .int .i64 (i : Nat)) (o_mv rfl) ?_
                          refine h73 _ _ ?_
                          clear h73
                          intro wd e1 e2 e3 e4
                          have hd := Upd.same e1 e2 e3 e4 []
                          have hM74 := hM67.pure hd
                          clear e1 e2 e3 e4
                          refine ⟨(some [b63]), ?_⟩
                          show vd _ _ _ _ _ _ _
                          refine dq (v := y9_) (o_mv rfl) ?_
                          refine dq (v := .int .i64 (i : Nat)) (o_mv rfl) ?_
                          refine dqp (m_idxE 0 (j := i) (hy9_.rd hM74 (i := 1) rfl) rfl rfl (by omega) fun b75 o75 hp75 => ?_)
                          show vd _ _ _ _ _ _ _
                          refine dq (v := .int .i64 (i : Nat)) (o_mv rfl) ?_
                          refine dq (v := .pointer (some ⟨b63, 1, none⟩)) (o_fa rfl rfl) ?_
                          refine dq (v := .pointer (some ⟨b63, 1 + i, none⟩)) (o_idxa rfl rfl (by omega) (v_ptr (by first | (rw [Int.toNat_natCast, Nat.mul_one]; done) | (simp; done) | omega))) ?_
                          refine dqld rfl (by simp [isHeld]) (v := .int .u8 (((takeF cs lim.toNat).getD q th0).f i : Nat)) (((hM74.at (i := 3) (j := 0) rfl rfl).cell _).trans (thC_cell (by omega))) ?_
                          have hroom := gat_room (cs := cs) (lim := lim.toNat) (by omega) hpre.1 (by omega) (q := q) (i := i) (by omega)
                          refine dq (v := .int .i64 (((takeF cs lim.toNat).getD q th0).f i : Nat)) (o_conv rfl (v_same (by simp only [inK]; omega))) ?_
                          refine dl (ld (v := .int .i64 ((gatR cs.length (takeF cs lim.toNat) q i).getD i 0)) rfl (hp75) ?_)
                          refine ⟨(fun b hb => rfl), ?_⟩
                          refine dq (v := .int .i64 (tot i ((takeF cs lim.toNat).take q) + ((takeF cs lim.toNat).getD q th0).f i : Nat)) (o_bin rfl rfl ((v_add64 (by rw [gat_get (by omega)]; omega)).trans (v_int (by rw [gat_get (by omega)]; omega)))) ?_
                          refine dset (m_setU (E := i64V) (q := (tot i ((takeF cs lim.toNat).take q) + ((takeF cs lim.toNat).getD q th0).f i : Nat)) (j := i) hM74 (i := 1) rfl hy9_ rfl rfl (by omega) (by simp) (rfl) fun w76 r76 u76 he76 hs76 (hM76 : Mem w [] w76 [rf, r76, rr, [⟨b63, 81, (thC ((takeF cs lim.toNat).getD q th0))⟩]]) hup76 => ?_)
                          have hh76 := held_upd (wr := wd) (bs := [b63]) hup76 (fun b hb => by
                            simp only [List.mem_cons, List.not_mem_nil, or_false] at hb
                            rw [hb]; exact ⟨(hM74.at (i := 3) (j := 0) rfl rfl).lt, hM74.apart (i := 3) (j := 0) (k := 1) rfl rfl rfl (by decide)⟩) (fun b hb => rfl)
                          refine ⟨hh76, ?_⟩
                          show vd _ _ _ _ _ _ _
                          refine h72 _ _ ?_
                          clear h72
                          refine stp (v := .int .i64 ((i : Nat) + 1)) (o_bin rfl rfl (v_add64 (by constructor <;> omega))) ?_
                          refine stp (v := .int .i64 ((i : Nat) + 1)) (o_mv rfl) ?_
                          refine h68 (i + 1, y9_, r76) _ _ ⟨by first | rfl | exact v_int (by omega) | exact v_int (by simp) | exact v_int (by simp; omega), rfl, rfl, rfl, by first | rfl | exact v_int (by omega) | exact v_int (by simp) | exact v_int (by simp; omega), by first | rfl | exact v_int (by omega) | exact v_int (by simp) | exact v_int (by simp; omega), by first | rfl | exact v_int (by omega) | exact v_int (by simp) | exact v_int (by simp; omega), hM76, by omega, gat_len _ _ _ _, by rw [← gat_set]; exact hs76⟩ (by (try dsimp only); omega)
                        ·
                          refine h60 _ _ ?_
                          clear h60
                          refine stp (v := .int .i64 ((q : Nat) + 1)) (o_bin rfl rfl (v_add64 (by constructor <;> omega))) ?_
                          refine stp (v := .int .i64 ((q : Nat) + 1)) (o_mv rfl) ?_
                          refine h56 (q + 1, y9_, r9_) _ _ ⟨by first | rfl | exact v_int (by omega) | exact v_int (by simp) | exact v_int (by simp; omega), rfl, rfl, by first | rfl | exact v_int (by omega) | exact v_int (by simp) | exact v_int (by simp; omega), hM67.keep (by simp), by omega, gat_len _ _ _ _, (SlE.eqL (hy9_) (by rw [show i = cs.length by omega]; exact gat_next (by omega)))⟩ (by (try dsimp only); omega)
                    ·
                      refine h52 _ _ ?_
                      clear h52
                      refine seq fun K77 h77 => ?_
                      refine stp (v := y9_) (o_mv rfl) ?_
                      refine stp (v := y9_) (o_mv rfl) ?_
                      refine stp (v := .int .i64 0) (o_mv rfl) ?_
                      refine h77 _ _ ?_
                      clear h77
                      refine ⟨(.tuple [y9_, .int .i64 0].toArray), rfl, ?_⟩
                      rw [lenF_ok (by omega) hpre (by omega)]
                      exact ⟨_, _, rfl, SlE.eqL (hy9_) (gat_end rfl (by omega)), hM55.keep (by simp)⟩

theorem tot_room {R : List Th} {q i : Nat} (h : q < R.length) : tot i (R.take q) + (R.getD q th0).f i ≤ tot i R := by
  have h3 := tot_append i (R.take q) (R.drop q)
  rw [List.take_append_drop] at h3
  have h4 := tot_mem (k := i) (l := R.drop q) (t := R.getD q th0) (by rw [dropG th0 h]; exact List.mem_cons_self)
  omega
theorem gat_end2 {cs : List Int} {lim : Nat} {R : List Th} {q : Nat} (hR : R.take q = takeF cs lim) : gatR cs.length R q 0 = lensF cs lim := mapR_ext fun s _ => by rw [hR]; simp
