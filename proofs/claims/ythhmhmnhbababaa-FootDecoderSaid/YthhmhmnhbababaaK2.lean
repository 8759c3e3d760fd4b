/- Numbers as bytes; cursors. -/
import Derived.Test.YthhmhmnhbababaaC1
import Derived.Test.YthhmhmnhbababaaE23
namespace Go.Proofs.Ythhmhmnhbababaa.E
open Go
theorem Put_ok (v : Int) (hv : inK .i64 v) (w : World) : Calls Try.prog 76 [.int .i64 v].toArray w (Rt fun r w' => ∃ rs, SlB 5 r (putI v) rs ∧ Mem w [] w' [rs]) := by
 have hM0 : Mem w [] w [] := Mem.nil w []
 simp only [inK] at hv
 refine calls_vc mixed Try.func76 rfl C76 (by simp [Try.ntmps76]) <| seq fun _ h1 => mv <| h1 _ _ <| seq fun _ h2 => seq fun _ h3 => mv <| bn rfl rfl <| h3 _ _ <| cndP rfl (fun c4 => ?_) (fun c4 => ?_)
 ·refine seq fun _ h5 => mv <| h5 _ _ <| ⟨(.slice none 0 0), rfl, ⟨[], by unfold putI; rw [if_pos c4]; exact Sl.nil 1 5, hM0.addNil⟩⟩
 refine h2 _ _ <| seq fun _ h6 => mv <| h6 _ _ <| seq fun _ h7 => lp (n := fun _ _ => False) (ι := (Int) × (List UInt8) × (Value) × (List Ent)) (fun ⟨v', p, r, rs⟩ f w' => f 0 = .int .i64 v' ∧ f 3 = r ∧ Mem w [] w' [rs] ∧ (SlB 5 r p rs) ∧ (0 ≤ v' ∧ v' ≤ 9223372036854775807) ∧ (p ++ putI v' = putI v) ∧ (p.length ≤ 9)) (fun ⟨v', p, r, rs⟩ => v'.toNat) (v, [], .slice none 0 0, []) ?_ ?_
 ·exact ⟨vi, rfl, hM0.addNil, Sl.nil 1 5, by omega, by simp, by simp⟩
 rintro ⟨v', p, r, rs⟩ f w8 ⟨e8_0, e8_3, hM8, hs, hv1, hp, hl⟩ K9 h9
 obtain ⟨frm, rfl⟩ := re2 e8_0 e8_3
 refine seq fun _ h10 => seq fun _ h11 => mv <| bn rfl rfl <| h11 _ _ <| cndP rfl (fun c12 => ?_) (fun c12 => ?_)
 ·refine h10 _ _ <| seq fun _ h13 => mv <| mv <| stp (v := .int .u8 (v' % 256)) (o_conv rfl (v_u8 _)) <| stp (v := .int .u8 (v' % 128 + 128)) (o_bin rfl rfl (v_int (low_or v'))) <| m_app1 (E := byteV) (q := (v' % 128 + 128).toNat.toUInt8) hM8 (i := 0) rfl hs rfl (by simp) (byteV_of (by omega) (by omega)) (by omega) (by omega) fun v14 w14 r14 u14 (hs14 : SlE byteV 5 v14 (p ++ [(v' % 128 + 128).toNat.toUInt8]) r14) (hM14 : Mem w [] w14 [r14]) => mv <| h13 _ _ <| mv <| stp (v := .int .i64 (v' / 128)) (o_shr rfl rfl (by omega) (v_shr 7 (by decide))) <| mv <| h9 (v' / 128, p ++ [(v' % 128 + 128).toNat.toUInt8], v14, r14) _ _ ⟨vi, rfl, hM14, hs14, by omega, by rw [← hp, putI_ge (v := v') (by omega), List.append_assoc]; rfl, by have h1 := putI_len hv.2; have h2 := putI_pos (v := v' / 128) (by omega); rw [← hp, putI_ge (v := v') (by omega)] at h1; simp at h1 ⊢; omega⟩ (by (try dsimp only); omega)
 refine h7 _ _ <| seq fun _ h15 => mv <| mv <| stp (v := .int .u8 (v' % 256)) (o_conv rfl (v_u8 _)) <| m_app1 (E := byteV) (q := v'.toNat.toUInt8) hM8 (i := 0) rfl hs rfl (by simp) (by rw [Int.emod_eq_of_lt (by omega) (by omega)]; exact byteV_of (by omega) (by omega)) (by omega) (by omega) fun v16 w16 r16 u16 (hs16 : SlE byteV 5 v16 (p ++ [v'.toNat.toUInt8]) r16) (hM16 : Mem w [] w16 [r16]) => mv <| h15 _ _ <| ⟨v16, rfl, ⟨_, by rw [← hp, putI_lt (by omega) (by omega)]; exact hs16, hM16⟩⟩
theorem refPut_ok (v : Int) (hv : inK .i64 v) (w : World) : Calls Try.prog 99 [.int .i64 v].toArray w (Rt fun r w' => ∃ rs, SlB 5 r (putI v) rs ∧ Mem w [] w' [rs]) := by
 have hM0 : Mem w [] w [] := Mem.nil w []
 simp only [inK] at hv
 refine calls_vc mixed Try.func99 rfl C99 (by simp [Try.ntmps99]) <| seq fun _ h1 => mv <| h1 _ _ <| seq fun _ h2 => mv <| h2 _ _ <| seq fun _ h3 => seq fun _ h4 => mv <| bn rfl rfl <| h4 _ _ <| cndP rfl (fun c5 => ?_) (fun c5 => ?_)
 ·refine seq fun _ h6 => mv <| mv <| h6 _ _ <| ⟨(.slice none 0 0), rfl, ⟨[], by unfold putI; rw [if_pos (by omega)]; exact Sl.nil 1 5, hM0.addNil⟩⟩
 refine h3 _ _ <| seq fun _ h7 => lp (n := fun _ _ => False) (ι := (Int) × (List UInt8) × (Value) × (List Ent)) (fun ⟨v', p, r, rs⟩ f w' => f 0 = .int .i64 v' ∧ f 3 = r ∧ Mem w [] w' [rs] ∧ (SlB 5 r p rs) ∧ (0 ≤ v' ∧ v' ≤ 9223372036854775807) ∧ (p ++ putI v' = putI v) ∧ (p.length ≤ 9)) (fun ⟨v', p, r, rs⟩ => v'.toNat) (v, [], .slice none 0 0, []) ?_ ?_
 ·exact ⟨vi, rfl, hM0.addNil, Sl.nil 1 5, by omega, by simp, by simp⟩
 rintro ⟨v', p, r, rs⟩ f w8 ⟨e8_0, e8_3, hM8, hs, hv1, hp, hl⟩ K9 h9
 obtain ⟨frm, rfl⟩ := re2 e8_0 e8_3
 refine seq fun _ h10 => seq fun _ h11 => mv <| bn rfl rfl <| h11 _ _ <| cndP rfl (fun c12 => ?_) (fun c12 => ?_)
 ·refine h10 _ _ <| seq fun _ h13 => mv <| mv <| stp (v := .int .i64 (v' % 128)) (o_rem rfl rfl (by omega) (v_rem (by omega))) <| stp (v := .int .i64 ((v' % 128) + 128)) (o_bin rfl rfl (v_add64 (by omega))) <| stp (v := .int .u8 (((v' % 128) + 128) % 256)) (o_conv rfl (v_u8 _)) <| m_app1 (E := byteV) (q := (v' % 128 + 128).toNat.toUInt8) hM8 (i := 0) rfl hs rfl (by simp) (by rw [show (v' % 128 + 128) % 256 = v' % 128 + 128 by omega]; exact byteV_of (by omega) (by omega)) (by omega) (by omega) fun v14 w14 r14 u14 (hs14 : SlE byteV 5 v14 (p ++ [(v' % 128 + 128).toNat.toUInt8]) r14) (hM14 : Mem w [] w14 [r14]) => mv <| h13 _ _ <| mv <| stp (v := .int .i64 (v' / 128)) (o_quo rfl rfl (by omega) (v_quo (by omega) (by omega) (by simp only [inK]; omega))) <| mv <| h9 (v' / 128, p ++ [(v' % 128 + 128).toNat.toUInt8], v14, r14) _ _ ⟨vi, rfl, hM14, hs14, by omega, by rw [← hp, putI_ge (v := v') (by omega), List.append_assoc]; rfl, by have h1 := putI_len hv.2; have h2 := putI_pos (v := v' / 128) (by omega); rw [← hp, putI_ge (v := v') (by omega)] at h1; simp at h1 ⊢; omega⟩ (by (try dsimp only); omega)
 refine h7 _ _ <| seq fun _ h15 => mv <| mv <| stp (v := .int .u8 (v' % 256)) (o_conv rfl (v_u8 _)) <| m_app1 (E := byteV) (q := v'.toNat.toUInt8) hM8 (i := 0) rfl hs rfl (by simp) (by rw [Int.emod_eq_of_lt (by omega) (by omega)]; exact byteV_of (by omega) (by omega)) (by omega) (by omega) fun v16 w16 r16 u16 (hs16 : SlE byteV 5 v16 (p ++ [v'.toNat.toUInt8]) r16) (hM16 : Mem w [] w16 [r16]) => mv <| h15 _ _ <| seq fun _ h17 => mv <| mv <| h17 _ _ <| ⟨v16, rfl, ⟨_, by rw [← hp, putI_lt (by omega) (by omega)]; exact hs16, hM16⟩⟩
theorem Get_ok (x : Value) (b : List UInt8) (w : World) (hx : RdB w x b) (hl : b.length ≤ 1152921504606846976) : Calls Try.prog 103 [x].toArray w (Rt fun r w' => r = tup3 (get b) ∧ Upd [] w w') := by
 have hM0 : Mem w [] w [] := Mem.nil w []
 refine calls_vc mixed Try.func103 rfl C103 (by simp [Try.ntmps103]) <| seq fun _ h1 => mv <| mv <| mv <| h1 _ _ <| seq fun _ h2 => mv <| h2 _ _ <| seq fun _ h3 => seq fun _ h4 => mv <| stp (v := .int .i64 (b.length : Nat)) (o_lenR (hx.upd hM0.upd) rfl rfl) <| mv ?_
 refine h4 _ _ <| lp (n := fun _ _ => False) (ι := (Nat) × (Nat)) (fun ⟨i, v⟩ f w' => f 5 = .int .i64 (v : Nat) ∧ f 8 = x ∧ f 9 = .int .i64 (b.length : Nat) ∧ f 10 = .int .i64 (i : Nat) ∧ Mem w [] w' [] ∧ (i ≤ b.length ∧ i ≤ 8) ∧ (v < 128 ^ i) ∧ (get b = getA i v (b.drop i))) (fun ⟨i, v⟩ => b.length - i) (0, 0) ?_ ?_
 ·exact ⟨vi, rfl, vi, vi, hM0, by omega, by simp, rfl⟩
 rintro ⟨i, v⟩ f w5 ⟨e5_5, e5_8, e5_9, e5_10, hM5, hi, hv, hg⟩ K6 h6
 obtain ⟨frm, rfl⟩ := re4 e5_5 e5_8 e5_9 e5_10
 refine seq fun _ h7 => bn rfl rfl <| h7 _ _ <| seq fun _ h8 => cndP rfl (fun c9 => ?_) (fun c9 => ?_)
 ·refine h8 _ _ <| seq fun _ h10 => seq fun _ h11 => mv <| m_idxE 0 (j := i) (hx.upd hM5.upd) rfl rfl (by omega) fun b12 o12 hp12 => ld (v := byteV (b.getD i 0)) rfl (hp12) <| mv <| mv <| h11 _ _ <| seq fun _ h13 => seq fun _ h14 => mv <| bn rfl rfl <| mv ?_
  refine splitP rfl (fun c15 => ?_) (fun c15 => ?_)
  ·refine gmv rfl <| gbn rfl rfl rfl <| pkT rfl <| h14 _ _ <| cndP rfl (fun c16 => ?_) (fun c16 => ?_)
   ·refine seq fun _ h17 => mv <| mv <| mv <| h17 _ _ <| ⟨(.tuple [.int .i64 0, .int .i64 0, .int .i64 21].toArray), rfl, ⟨ret3 (get_far hg (by omega) (by omega) (by omega)), hM5.upd⟩⟩
   refine h13 _ _ <| seq fun _ h18 => mv <| mv <| stp (v := .int .u8 ((b.getD i 0).toNat % 128 : Nat)) (o_bin rfl rfl (and127 _)) <| stp (v := .int .i64 ((b.getD i 0).toNat % 128 : Nat)) (o_conv rfl (v_same (by simp only [inK]; omega))) <| mv <| stp (v := .int .i64 (7 * (i : Nat))) (o_bin rfl rfl (v_mul64 (by omega))) <| stp (v := .int .i64 ((b.getD i 0).toNat % 128 * 128 ^ i : Nat)) (o_shl rfl rfl (by omega) (get_shl (m128 _) (by omega))) <| stp (v := .int .i64 (v + (b.getD i 0).toNat % 128 * 128 ^ i : Nat)) (o_bin rfl rfl (get_or (m128 _) (by omega) hv)) <| mv <| h18 _ _ <| seq fun _ h19 => mv <| bn rfl rfl <| h19 _ _ <| cndP rfl (fun c20 => ?_) (fun c20 => ?_)
   ·refine seq fun _ h21 => seq fun _ h22 => mv <| bn rfl rfl <| mv <| splitP rfl (fun c23 => ?_) (fun c23 => ?_)
    ·refine gmv rfl <| gbn rfl rfl rfl <| pkT rfl <| h22 _ _ <| cndP rfl (fun c24 => ?_) (fun c24 => ?_)
     ·refine seq fun _ h25 => mv <| mv <| mv <| h25 _ _ <| ⟨(.tuple [.int .i64 0, .int .i64 0, .int .i64 21].toArray), rfl, ⟨ret3 (get_zero hg (by omega) (by omega) (by omega)), hM5.upd⟩⟩
     refine h21 _ _ <| seq fun _ h26 => mv <| mv <| stp (v := .int .i64 ((i : Nat) + 1)) (o_bin rfl rfl (v_add64 (by omega))) <| mv <| mv <| mv <| h26 _ _ <| ⟨(.tuple [.int .i64 (v + (b.getD i 0).toNat % 128 * 128 ^ i : Nat), .int .i64 ((i : Nat) + 1), .int .i64 0].toArray), rfl, ⟨ret3 (get_stop hg (by omega) (by omega) (fun h => by have := h.1; have := h.2; omega)), hM5.upd⟩⟩
    refine gx rfl <| gx rfl <| pkF rfl <| h22 _ _ <| cndF rfl <| h21 _ _ <| seq fun _ h27 => mv <| mv <| stp (v := .int .i64 ((i : Nat) + 1)) (o_bin rfl rfl (v_add64 (by omega))) <| mv <| mv <| mv <| h27 _ _ <| ⟨(.tuple [.int .i64 (v + (b.getD i 0).toNat % 128 * 128 ^ i : Nat), .int .i64 ((i : Nat) + 1), .int .i64 0].toArray), rfl, ⟨ret3 (get_stop hg (by omega) (by omega) (fun h => by have := h.1; have := h.2; omega)), hM5.upd⟩⟩
   refine h10 _ _ <| stp (v := .int .i64 ((i : Nat) + 1)) (o_bin rfl rfl (v_add64 (by omega))) <| mv <| h6 (i + 1, v + (b.getD i 0).toNat % 128 * 128 ^ i) _ _ ⟨vi, rfl, vi, vi, hM5, by omega, (digit_bd (m128 _) (by omega) hv).1, get_more hg (by omega) (by omega) (by omega)⟩ (by (try dsimp only); omega)
  refine gx rfl <| gx rfl <| pkF rfl <| h14 _ _ <| cndF rfl <| h13 _ _ <| seq fun _ h28 => mv <| mv <| stp (v := .int .u8 ((b.getD i 0).toNat % 128 : Nat)) (o_bin rfl rfl (and127 _)) <| stp (v := .int .i64 ((b.getD i 0).toNat % 128 : Nat)) (o_conv rfl (v_same (by simp only [inK]; omega))) <| mv <| stp (v := .int .i64 (7 * (i : Nat))) (o_bin rfl rfl (v_mul64 (by omega))) <| stp (v := .int .i64 ((b.getD i 0).toNat % 128 * 128 ^ i : Nat)) (o_shl rfl rfl (by omega) (get_shl (m128 _) (by omega))) <| stp (v := .int .i64 (v + (b.getD i 0).toNat % 128 * 128 ^ i : Nat)) (o_bin rfl rfl (get_or (m128 _) (by omega) hv)) <| mv <| h28 _ _ <| seq fun _ h29 => mv <| bn rfl rfl <| h29 _ _ <| cndP rfl (fun c30 => ?_) (fun c30 => ?_)
  ·refine seq fun _ h31 => seq fun _ h32 => mv <| bn rfl rfl <| mv <| splitP rfl (fun c33 => ?_) (fun c33 => ?_)
   ·refine gmv rfl <| gbn rfl rfl rfl <| pkT rfl <| h32 _ _ <| cndP rfl (fun c34 => ?_) (fun c34 => ?_)
    ·refine seq fun _ h35 => mv <| mv <| mv <| h35 _ _ <| ⟨(.tuple [.int .i64 0, .int .i64 0, .int .i64 21].toArray), rfl, ⟨ret3 (get_zero hg (by omega) (by omega) (by omega)), hM5.upd⟩⟩
    refine h31 _ _ <| seq fun _ h36 => mv <| mv <| stp (v := .int .i64 ((i : Nat) + 1)) (o_bin rfl rfl (v_add64 (by omega))) <| mv <| mv <| mv <| h36 _ _ <| ⟨(.tuple [.int .i64 (v + (b.getD i 0).toNat % 128 * 128 ^ i : Nat), .int .i64 ((i : Nat) + 1), .int .i64 0].toArray), rfl, ⟨ret3 (get_stop hg (by omega) (by omega) (fun h => by have := h.1; have := h.2; omega)), hM5.upd⟩⟩
   refine gx rfl <| gx rfl <| pkF rfl <| h32 _ _ <| cndF rfl <| h31 _ _ <| seq fun _ h37 => mv <| mv <| stp (v := .int .i64 ((i : Nat) + 1)) (o_bin rfl rfl (v_add64 (by omega))) <| mv <| mv <| mv <| h37 _ _ <| ⟨(.tuple [.int .i64 (v + (b.getD i 0).toNat % 128 * 128 ^ i : Nat), .int .i64 ((i : Nat) + 1), .int .i64 0].toArray), rfl, ⟨ret3 (get_stop hg (by omega) (by omega) (fun h => by have := h.1; have := h.2; omega)), hM5.upd⟩⟩
  refine h10 _ _ <| stp (v := .int .i64 ((i : Nat) + 1)) (o_bin rfl rfl (v_add64 (by omega))) <| mv <| h6 (i + 1, v + (b.getD i 0).toNat % 128 * 128 ^ i) _ _ ⟨vi, rfl, vi, vi, hM5, by omega, (digit_bd (m128 _) (by omega) hv).1, get_more hg (by omega) (by omega) (by omega)⟩ (by (try dsimp only); omega)
 refine h3 _ _ <| seq fun _ h38 => mv <| mv <| mv <| h38 _ _ <| ⟨(.tuple [.int .i64 0, .int .i64 0, .int .i64 20].toArray), rfl, ⟨ret3 (get_end hg (by omega)), hM5.upd⟩⟩
theorem refGet_ok (x : Value) (b : List UInt8) (w : World) (hx : RdB w x b) (hl : b.length ≤ 1152921504606846976) : Calls Try.prog 108 [x].toArray w (Rt fun r w' => r = tup3 (get b) ∧ Upd [] w w') := by
 have hM0 : Mem w [] w [] := Mem.nil w []
 refine calls_vc mixed Try.func108 rfl C108 (by simp [Try.ntmps108]) <| seq fun _ h1 => mv <| mv <| mv <| h1 _ _ <| seq fun _ h2 => mv <| h2 _ _ <| seq fun _ h3 => mv <| h3 _ _ <| seq fun _ h4 => seq fun _ h5 => ?_
 refine mv <| h5 _ _ <| lp (n := fun _ _ => False) (ι := (Nat) × (Nat)) (fun ⟨i, v⟩ f w' => f 0 = x ∧ f 5 = .int .i64 (v : Nat) ∧ f 6 = .int .i64 (128 ^ i : Nat) ∧ f 7 = .int .i64 (i : Nat) ∧ Mem w [] w' [] ∧ (i ≤ b.length ∧ i ≤ 8) ∧ (v < 128 ^ i) ∧ (get b = getA i v (b.drop i))) (fun ⟨i, v⟩ => b.length - i) (0, 0) ?_ ?_
 ·exact ⟨rfl, vi, vi, vi, hM0, by omega, by simp, rfl⟩
 rintro ⟨i, v⟩ f w6 ⟨e6_0, e6_5, e6_6, e6_7, hM6, hi, hv, hg⟩ K7 h7
 obtain ⟨frm, rfl⟩ := re4 e6_0 e6_5 e6_6 e6_7
 refine seq fun _ h8 => seq fun _ h9 => mv <| mv <| stp (v := .int .i64 (b.length : Nat)) (o_lenR (hx.upd hM6.upd) rfl rfl) <| bn rfl rfl <| h9 _ _ <| cndP rfl (fun c10 => ?_) (fun c10 => ?_)
 ·refine h8 _ _ <| seq fun _ h11 => seq fun _ h12 => mv <| mv <| m_idxE 0 (j := i) (hx.upd hM6.upd) rfl rfl (by omega) fun b13 o13 hp13 => ld (v := byteV (b.getD i 0)) rfl (hp13) <| stp (v := .int .i64 ((b.getD i 0).toNat : Int)) (o_conv rfl (v_byteTo (by decide))) <| stp (v := .int .i64 (((b.getD i 0).toNat : Int) % 128)) (o_rem rfl rfl (by omega) (v_rem (by omega))) <| mv <| h12 _ _ <| seq fun _ h14 => mv <| mv ?_
  refine mv <| stp (v := .int .i64 ((b.getD i 0).toNat % 128 * 128 ^ i : Nat)) (o_bin rfl rfl (ref_mul (by omega))) <| stp (v := .int .i64 (v + (b.getD i 0).toNat % 128 * 128 ^ i : Nat)) (o_bin rfl rfl (v_add64 (by have := digit_bd (m128 (b.getD i 0)) (show i ≤ 8 by omega) hv; omega))) <| mv <| h14 _ _ <| seq fun _ h15 => seq fun _ h16 => mv <| mv <| m_idxE 0 (j := i) (hx.upd hM6.upd) rfl rfl (by omega) fun b17 o17 hp17 => ld (v := byteV (b.getD i 0)) rfl (hp17) <| bn rfl rfl <| h16 _ _ <| cndP rfl (fun c18 => ?_) (fun c18 => ?_)
  ·refine seq fun _ h19 => seq fun _ h20 => mv <| bn rfl rfl <| mv <| splitP rfl (fun c21 => ?_) (fun c21 => ?_)
   ·refine gmv rfl <| gmv rfl <| gyes rfl rfl (m_idxE 0 (j := i) (hx.upd hM6.upd) rfl rfl (by omega) fun b22 o22 hp22 => gyesl rfl <| ld (v := byteV (b.getD i 0)) rfl (hp22) <| gbn rfl rfl rfl <| pkT rfl <| h20 _ _ <| cndP rfl (fun c23 => ?_) (fun c23 => ?_))
    ·refine seq fun _ h24 => mv <| mv <| mv <| h24 _ _ <| ⟨(.tuple [.int .i64 0, .int .i64 0, .int .i64 21].toArray), rfl, ⟨ret3 (get_zero hg (by omega) (by omega) (by omega)), hM6.upd⟩⟩
    refine h19 _ _ <| seq fun _ h25 => mv <| mv <| stp (v := .int .i64 ((i : Nat) + 1)) (o_bin rfl rfl (v_add64 (by omega))) <| mv <| mv <| mv <| h25 _ _ <| ⟨(.tuple [.int .i64 (v + (b.getD i 0).toNat % 128 * 128 ^ i : Nat), .int .i64 ((i : Nat) + 1), .int .i64 0].toArray), rfl, ⟨ret3 (get_stop hg (by omega) (by omega) (fun h => by have := h.1; have := h.2; omega)), hM6.upd⟩⟩
   refine gx rfl <| gx rfl <| gx rfl <| gxl rfl <| gx rfl <| pkF rfl <| h20 _ _ <| cndF rfl <| h19 _ _ <| seq fun _ h26 => mv <| mv <| stp (v := .int .i64 ((i : Nat) + 1)) (o_bin rfl rfl (v_add64 (by omega))) <| mv <| mv <| mv <| h26 _ _ <| ⟨(.tuple [.int .i64 (v + (b.getD i 0).toNat % 128 * 128 ^ i : Nat), .int .i64 ((i : Nat) + 1), .int .i64 0].toArray), rfl, ⟨ret3 (get_stop hg (by omega) (by omega) (fun h => by have := h.1; have := h.2; omega)), hM6.upd⟩⟩
  refine h15 _ _ <| seq fun _ h27 => seq fun _ h28 => mv <| bn rfl rfl <| h28 _ _ <| cndP rfl (fun c29 => ?_) (fun c29 => ?_)
  ·refine seq fun _ h30 => mv <| mv <| mv <| h30 _ _ <| ⟨(.tuple [.int .i64 0, .int .i64 0, .int .i64 21].toArray), rfl, ⟨ret3 (get_far hg (by omega) (by omega) (by omega)), hM6.upd⟩⟩
  refine h27 _ _ <| mv <| stp (v := .int .i64 (128 ^ (i + 1) : Nat)) (o_bin rfl rfl (ref_unit (by omega))) <| mv <| h11 _ _ <| mv <| stp (v := .int .i64 ((i : Nat) + 1)) (o_bin rfl rfl (v_add64 (by omega))) <| mv <| h7 (i + 1, v + (b.getD i 0).toNat % 128 * 128 ^ i) _ _ ⟨rfl, vi, vi, vi, hM6, by omega, (digit_bd (m128 _) (by omega) hv).1, get_more hg (by omega) (by omega) (by omega)⟩ (by (try dsimp only); omega)
 refine h4 _ _ <| seq fun _ h31 => mv <| mv <| mv <| h31 _ _ <| ⟨(.tuple [.int .i64 0, .int .i64 0, .int .i64 20].toArray), rfl, ⟨ret3 (get_end hg (by omega)), hM6.upd⟩⟩
def CurS (bc : Nat) (b : List UInt8) (a : Nat) (e : Int) (r : List Ent) : Prop := ∃ vb rb, r = ⟨bc, 133, [vb, .int .i64 (a : Nat), .int .i64 e]⟩ :: rb ∧ SlE byteV 5 vb b rb ∧ a ≤ b.length
def numE (l : List UInt8) (m : Int) : Int := if (get l).2.2 = 0 then (if m < ((get l).1 : Int) then 23 else 0) else (get l).2.2
def numV (l : List UInt8) (m : Int) : Int := if numE l m = 0 then (get l).1 else 0
def fixE (l : List UInt8) (n : Int) : Int := if n < 1 ∨ 8 < n then 23 else if (l.length : Int) < n then 20 else 0
def fixV (l : List UInt8) (n : Int) : Nat := if fixE l n = 0 then word (l.take n.toNat) else 0
def tkE (l : List UInt8) (n : Int) : Int := if n < 0 then 23 else if (l.length : Int) < n then 20 else 0
def tkV (l : List UInt8) (n : Int) : List UInt8 := if tkE l n = 0 then l.take n.toNat else []
theorem numE_get {l : List UInt8} {m : Int} (h : numE l m = 0) : (get l).2.2 = 0 := by unfold numE at h; split at h <;> omega
theorem CurS.le {bc : Nat} {b : List UInt8} {a : Nat} {e : Int} {r : List Ent} (h : CurS bc b a e r) : a ≤ b.length := by obtain ⟨_, _, _, _, h⟩ := h; exact h
theorem NewCursor_ok (x : Value) (b : List UInt8) (w : World) (hx : RdE byteV w x b) (hl : b.length ≤ 140737488355328) : Calls Try.prog 83 [x].toArray w (Rt fun r w' => ∃ bc rs, r = .pointer (some ⟨bc, 0, none⟩) ∧ CurS bc b 0 0 rs ∧ Mem w [] w' [rs]) := by
 have hM0 : Mem w [] w [] := Mem.nil w []
 refine calls_vc mixed Try.func83 rfl C83 (by simp [Try.ntmps83]) <| seq fun _ h1 => mv <| h1 _ _ <| seq fun _ h2 => mv ?_
 have hM3 : Mem w [] w [[]] := hM0.addNil
 have hs3 : SlE byteV 5 (.slice none 0 0) [] [] := Sl.nil 1 5
 refine m_appE hM3 (i := 0) rfl hs3 rfl rfl (hx.upd hM3.upd) (by first | omega | (simp; omega)) (by omega) fun v4 w4 r4 (hs4 : SlE byteV 5 v4 (b) r4) (hM4 : Mem w [] w4 [r4]) => ?_
 obtain ⟨a5_, n5_, c5_, rfl⟩ := Sl.isSlice hs4
 refine stp (v := .agg ([(.slice a5_ n5_ c5_), .int .i64 0, .int .i64 0] : List Value).toArray) (o_bld rfl rfl) <| m_bx (v := .agg ([(.slice a5_ n5_ c5_), .int .i64 0, .int .i64 0] : List Value).toArray) hM4 rfl rfl fun b6 w7 (hM7 : Mem w [] w7 [r4, [⟨b6, 133, [(.slice a5_ n5_ c5_), .int .i64 0, .int .i64 0]⟩]]) => mv <| h2 _ _ <| ⟨(.pointer (some ⟨b6, 0, none⟩)), rfl, ⟨_, _, rfl, ⟨_, _, rfl, hs4, Nat.zero_le _⟩, hM7.perm (by simp; exact (List.perm_append_singleton _ _).symm)⟩⟩
theorem reads_run (bc : Nat) (b : List UInt8) (a : Nat) (r0 rv : List Ent) (g : FuncId) (caps : List Value) (n : Nat) (er : Int) (T : List Ent → Prop) (w : World) (hc : CurS bc b a 0 r0) (hr : Res w (r0 ++ rv)) (hl : b.length ≤ 140737488355328) (ho : okFn Try.prog g = true) (hn : er = 0 → a + n ≤ b.length) (hq : ∀ wc u, RdE byteV wc u (b.drop a) → Res wc rv → Calls Try.prog g (u :: caps).toArray wc (Rt fun r w' => r = .tuple #[.int .i64 (n : Nat), .int .i64 er] ∧ ∃ rv', T rv' ∧ Mem wc (ids rv) w' [rv'])) : Calls Try.prog 101 [.pointer (some ⟨bc, 0, none⟩), .func (.func g) #[] caps.toArray].toArray w (Rt fun _ w' => ∃ r' rv', CurS bc b (if er = 0 then a + n else a) er r' ∧ T rv' ∧ Mem w (ids (r0 ++ rv)) w' [r', rv']) := by
 obtain ⟨vb, rb, rfl, hb, ha⟩ := hc
 have hM0 : Mem w (ids (⟨bc, 133, [vb, .int .i64 (a : Nat), .int .i64 0]⟩ :: rb ++ rv)) w [[⟨bc, 133, [vb, .int .i64 (a : Nat), .int .i64 0]⟩], rb, rv] := (Mem.start hr).keep (by simp)
 refine calls_vc mixed Try.func101 rfl C101 (by simp [Try.ntmps101]) <| seq fun _ h1 => seq fun _ h2 => mv <| stp (v := .bool false) (o_isnil rfl rfl) <| mv <| splitF rfl <| gmv rfl <| stg rfl (v := .pointer (some ⟨bc, 0, none⟩)) (o_nilchk rfl rfl) <| gfa rfl rfl <| gyesl rfl <| m_ld (v := .int .i64 0) hM0 (i := 0) (j := 0) rfl rfl rfl rfl <| stg rfl (v := .bool false) (o_bin rfl rfl v_neF) <| pkF rfl ?_
 refine h2 _ _ <| cndF rfl <| h1 _ _ <| seq fun _ h3 => ?_
 intro wd e1 e2 e3 e4
 have hd := Upd.same e1 e2 e3 e4 []
 have hM4 := hM0.pure hd
 clear e1 e2 e3 e4
 refine ⟨(some [bc]), ?_⟩
 show vd _ _ _ _ _ _ _
 refine dmv <| dmv <| dq (v := .pointer (some ⟨bc, 0, none⟩)) (o_nilchk rfl rfl) <| dfa rfl <| dmv <| dq (v := .pointer (some ⟨bc, 0, none⟩)) (o_nilchk rfl rfl) <| dfa rfl <| dqld rfl (by simp [isHeld]) (v := .int .i64 (a : Nat)) ((hM4.at (i := 0) (j := 0) rfl rfl).cell 1) <| dl (m_ld (v := vb) hM4 (i := 0) (j := 0) rfl rfl rfl rfl <| ⟨(fun b hb => rfl), dqp (m_slcE a b.length (hb.rd hM4 (i := 1) rfl) rfl (by omega) (by omega) rfl ⟨_, rfl⟩ fun u5 hu5 => ?_)⟩)
 show vd _ _ _ _ _ _ _
 refine dl (m_callv rfl (by assumption) (hq wd u5 (List.take_length (l := b) ▸ hu5) (hM4.res (i := 2) rfl)) rfl fun v6 w6 ⟨hr6, rv6, ht6, hm6⟩ => ?_)
 have hM6 : Mem w (ids (⟨bc, 133, [vb, .int .i64 (a : Nat), .int .i64 0]⟩ :: rb ++ rv)) w6 [[⟨bc, 133, [vb, .int .i64 (a : Nat), .int .i64 0]⟩], rb, rv6] := hM4.step 2 rfl hm6
 subst hr6
 have hh6 := held_upd (wr := wd) (bs := [bc]) hm6.upd (fun b hb => by
  simp only [List.mem_cons, List.not_mem_nil, or_false] at hb
  rw [hb]; exact ⟨(hM4.at (i := 0) (j := 0) rfl rfl).lt, hM4.apart (i := 0) (j := 0) (k := 2) rfl rfl rfl (by decide)⟩) (fun b hb => rfl)
 refine ⟨hh6, dmv <| dq (v := .int .i64 (n : Nat)) (o_ext rfl rfl) <| dq (v := .int .i64 er) (o_ext rfl rfl) <| dmv <| dmv <| h3 _ _ <| seq fun _ h7 => seq fun _ h8 => mv <| bneq rfl rfl <| h8 _ _ <| cndP rfl (fun c9 => ?_) (fun c9 => ?_)⟩
 ·refine seq fun _ h10 => mv <| mv <| nilchk rfl <| fa rfl <| m_st (v := .int .i64 er) hM6 (i := 0) rfl rfl rfl rfl (by simp) fun w11 (hM11 : Mem w (ids (⟨bc, 133, [vb, .int .i64 (a : Nat), .int .i64 0]⟩ :: rb ++ rv)) w11 [[⟨bc, 133, [vb, .int .i64 (a : Nat), .int .i64 er]⟩], rb, rv6]) => h10 _ _ <| ⟨(.tuple [].toArray), rfl, ⟨⟨bc, 133, [vb, .int .i64 (a : Nat), .int .i64 er]⟩ :: rb, _, ⟨vb, rb, by rw [if_neg (by assumption)], hb, by rw [if_neg (by assumption)]; exact ha⟩, by assumption, hM11.keep (by simp)⟩⟩
 refine h7 _ _ <| mv <| nilchk rfl <| fa rfl <| m_ld (v := .int .i64 (a : Nat)) hM6 (i := 0) (j := 0) rfl rfl rfl rfl <| mv <| stp (v := .int .i64 (a + n : Nat)) (o_bin rfl rfl ((v_add64 (by have := hn (by omega); omega)).trans (v_int (by omega)))) <| nilchk rfl <| fa rfl <| m_st (v := .int .i64 (a + n : Nat)) hM6 (i := 0) rfl rfl rfl rfl (by simp) fun w12 (hM12 : Mem w (ids (⟨bc, 133, [vb, .int .i64 (a : Nat), .int .i64 0]⟩ :: rb ++ rv)) w12 [[⟨bc, 133, [vb, .int .i64 (a + n : Nat), .int .i64 0]⟩], rb, rv6]) => ⟨(.tuple [].toArray), rfl, ?_⟩
 obtain rfl : er = 0 := by omega
 exact ⟨⟨bc, 133, [vb, .int .i64 ((a + n : Nat) : Int), .int .i64 0]⟩ :: rb, _, ⟨vb, rb, by rw [if_pos rfl], hb, by rw [if_pos rfl]; exact hn rfl⟩, by assumption, hM12.keep (by simp)⟩
theorem reads_no (bc : Nat) (vb : Value) (a : Nat) (e : Int) (f : Value) (w : World) (hw : Own w ⟨bc, 133, [vb, .int .i64 (a : Nat), .int .i64 e]⟩) (he : ¬ e = 0) : Calls Try.prog 101 [.pointer (some ⟨bc, 0, none⟩), f].toArray w (Rt fun _ w' => Upd [] w w') := by
 have hM0 : Mem w [] w [] := Mem.nil w []
 refine calls_vc mixed Try.func101 rfl C101 (by simp [Try.ntmps101]) <| seq fun _ h1 => seq fun _ h2 => mv <| stp (v := .bool false) (o_isnil rfl rfl) <| mv <| splitF rfl <| gmv rfl <| stg rfl (v := .pointer (some ⟨bc, 0, none⟩)) (o_nilchk rfl rfl) <| gfa rfl rfl <| gyesl rfl <| ld (v := .int .i64 e) rfl ((hw.upd hM0.upd (by simp)).cell 2) <| gbneq rfl rfl rfl <| pkF rfl ?_
 refine h2 _ _ <| cndP rfl (fun c3 => ?_) (fun c3 => (c3 (by omega)).elim)
 refine ⟨(.tuple [].toArray), rfl, hM0.upd⟩
theorem reads_ok (bc : Nat) (b : List UInt8) (a : Nat) (e : Int) (r0 rv : List Ent) (g : FuncId) (caps : List Value) (n : Nat) (er : Int) (T : List Ent → Prop) (w : World) (hc : CurS bc b a e r0) (hr : Res w (r0 ++ rv)) (hl : b.length ≤ 140737488355328) (ho : okFn Try.prog g = true) (hn : er = 0 → a + n ≤ b.length) (hq : ∀ wc u, RdE byteV wc u (b.drop a) → Res wc rv → Calls Try.prog g (u :: caps).toArray wc (Rt fun r w' => r = .tuple #[.int .i64 (n : Nat), .int .i64 er] ∧ ∃ rv', T rv' ∧ Mem wc (ids rv) w' [rv'])) :
 Calls Try.prog 101 [.pointer (some ⟨bc, 0, none⟩), .func (.func g) #[] caps.toArray].toArray w (Rt fun _ w' => ∃ r' rv', CurS bc b (if e = 0 ∧ er = 0 then a + n else a) (if e = 0 then er else e) r' ∧ (if e = 0 then T rv' else rv' = rv) ∧ Mem w (ids (r0 ++ rv)) w' [r', rv']) := by
 by_cases c : e = 0
 ·subst c
  refine (reads_run bc b a r0 rv g caps n er T w hc hr hl ho hn hq).mono fun en w' h => h.elim fun v h => ⟨v, h.1, ?_⟩
  obtain ⟨r', rv', h1, h2, h3⟩ := h.2
  exact ⟨r', rv', by simpa using h1, by simpa using h2, h3⟩
 obtain ⟨vb, rb, rfl, hb, ha⟩ := hc
 refine (reads_no bc vb a e _ w (hr.1 _ (by simp)) c).mono fun en w' h => h.elim fun v h => ⟨v, h.1, ⟨_, _, ⟨vb, rb, by rw [if_neg (fun h => c h.1), if_neg c], hb, by rw [if_neg (fun h => c h.1)]; exact ha⟩, by rw [if_neg c], ((Mem.start hr).pure h.2).keep (by simp)⟩⟩
theorem num_much {l : List UInt8} {m : Int} (h : (get l).2.2 = 0) (h2 : m < ((get l).1 : Int)) : numE l m = 23 ∧ numV l m = 0 := by
 have : numE l m = 23 := by unfold numE; rw [if_pos h, if_pos h2]
 exact ⟨this, by unfold numV; rw [if_neg (by omega)]⟩
theorem num_fine {l : List UInt8} {m : Int} (h : (get l).2.2 = 0) (h2 : ¬ m < ((get l).1 : Int)) : numE l m = (get l).2.2 ∧ numV l m = (get l).1 := by
 have : numE l m = 0 := by unfold numE; rw [if_pos h, if_neg h2]
 exact ⟨by omega, by unfold numV; rw [if_pos this]⟩
theorem num_bad {l : List UInt8} {m : Int} (h : ¬ (get l).2.2 = 0) : numE l m = (get l).2.2 ∧ numV l m = 0 := by
 have : numE l m = (get l).2.2 := by unfold numE; rw [if_neg h]
 exact ⟨this, by unfold numV; rw [if_neg (by omega)]⟩
def cNum (b : List UInt8) (a : Nat) (e m : Int) : Int := if e = 0 then numV (b.drop a) m else 0
def cNumA (b : List UInt8) (a : Nat) (e m : Int) : Nat := if e = 0 ∧ numE (b.drop a) m = 0 then a + (get (b.drop a)).2.1 else a
def cNumE (b : List UInt8) (a : Nat) (e m : Int) : Int := if e = 0 then numE (b.drop a) m else e
theorem num1_ok (bm bv : Nat) (m : Int) (u : Value) (l : List UInt8) (w : World) (hu : RdE byteV w u l) (hr : Res w [⟨bm, 2, [.int .i64 m]⟩, ⟨bv, 2, [.int .i64 0]⟩]) (hl : l.length ≤ 140737488355328) : Calls Try.prog 102 [u, .pointer (some ⟨bm, 0, none⟩), .pointer (some ⟨bv, 0, none⟩)].toArray w (Rt fun r w' => r = .tuple #[.int .i64 (((get l).2.1 : Nat) : Int), .int .i64 (numE l m)] ∧ ∃ rv', rv' = [⟨bm, 2, [.int .i64 m]⟩, ⟨bv, 2, [.int .i64 (numV l m)]⟩] ∧ Mem w (ids [⟨bm, 2, [.int .i64 m]⟩, ⟨bv, 2, [.int .i64 0]⟩]) w' [rv']) := by
 have hM0 : Mem w (ids [⟨bm, 2, [.int .i64 m]⟩, ⟨bv, 2, [.int .i64 0]⟩]) w [[⟨bm, 2, [.int .i64 m]⟩], [⟨bv, 2, [.int .i64 0]⟩]] := (Mem.start hr).keep (by simp)
 refine calls_vc mixed Try.func102 rfl C102 (by simp [Try.ntmps102]) <| seq fun _ h1 => mv <| mv <| h1 _ _ <| seq fun _ h2 => mv <| m_call (Get_ok _ l w (hu) (by first | omega | (simp; done) | (simp; omega))) rfl fun v3 w3 ⟨hr3, hu3⟩ => ?_
 have hM3 : Mem w (ids [⟨bm, 2, [.int .i64 m]⟩, ⟨bv, 2, [.int .i64 0]⟩]) w3 [[⟨bm, 2, [.int .i64 m]⟩], [⟨bv, 2, [.int .i64 0]⟩]] := hM0.pure hu3
 subst hr3
 refine mv <| ext rfl rfl <| ext rfl rfl <| ext rfl rfl <| mv <| mv <| mv <| h2 _ _ <| seq fun _ h4 => seq fun _ h5 => mv <| bn rfl rfl <| mv <| splitP rfl (fun c6 => ?_) (fun c6 => ?_)
 ·refine gmv rfl <| gyesl rfl <| m_ld (v := .int .i64 m) hM3 (i := 0) (j := 0) rfl rfl rfl rfl <| gbn rfl rfl rfl <| pkT rfl <| h5 _ _ <| cndP rfl (fun c7 => ?_) (fun c7 => ?_)
  ·refine mv <| h4 _ _ <| seq fun _ h8 => seq fun _ h9 => mv <| bn rfl rfl <| h9 _ _ <| cndP rfl (fun c10 => ?_) (fun c10 => ?_)
   ·refine mv <| m_st (v := .int .i64 ((get l).1 : Nat)) hM3 (i := 1) rfl rfl rfl rfl (by simp) fun w11 (hM11 : Mem w (ids [⟨bm, 2, [.int .i64 m]⟩, ⟨bv, 2, [.int .i64 0]⟩]) w11 [[⟨bm, 2, [.int .i64 m]⟩], [⟨bv, 2, [.int .i64 ((get l).1 : Nat)]⟩]]) => h8 _ _ <| seq fun _ h12 => mv <| mv <| mv <| mv <| h12 _ _ <| ⟨(.tuple [.int .i64 ((get l).2.1 : Nat), .int .i64 23].toArray), rfl, ?_⟩
    omega
   refine h8 _ _ <| seq fun _ h13 => mv <| mv <| mv <| mv <| h13 _ _ <| ⟨(.tuple [.int .i64 ((get l).2.1 : Nat), .int .i64 23].toArray), rfl, ⟨by rw [(num_much (by omega) (by omega)).1], _, by rw [(num_much (by omega) (by omega)).2], hM3.keep (by simp)⟩⟩
  refine h4 _ _ <| seq fun _ h14 => seq fun _ h15 => mv <| bn rfl rfl <| h15 _ _ <| cndP rfl (fun c16 => ?_) (fun c16 => ?_)
  ·refine mv <| m_st (v := .int .i64 ((get l).1 : Nat)) hM3 (i := 1) rfl rfl rfl rfl (by simp) fun w17 (hM17 : Mem w (ids [⟨bm, 2, [.int .i64 m]⟩, ⟨bv, 2, [.int .i64 0]⟩]) w17 [[⟨bm, 2, [.int .i64 m]⟩], [⟨bv, 2, [.int .i64 ((get l).1 : Nat)]⟩]]) => h14 _ _ <| seq fun _ h18 => mv <| mv <| mv <| mv <| h18 _ _ <| ⟨(.tuple [.int .i64 ((get l).2.1 : Nat), .int .i64 ((get l).2.2)].toArray), rfl, ⟨by rw [(num_fine (by omega) (by omega)).1], _, by rw [(num_fine (by omega) (by omega)).2], hM17.keep (by simp)⟩⟩
  refine h14 _ _ <| seq fun _ h19 => mv <| mv <| mv <| mv <| h19 _ _ <| ⟨(.tuple [.int .i64 ((get l).2.1 : Nat), .int .i64 ((get l).2.2)].toArray), rfl, ?_⟩
  omega
 refine gx rfl <| gxl rfl <| gx rfl <| pkF rfl <| h5 _ _ <| cndF rfl <| h4 _ _ <| seq fun _ h20 => seq fun _ h21 => mv <| bn rfl rfl <| h21 _ _ <| cndP rfl (fun c22 => ?_) (fun c22 => ?_)
 ·refine mv <| m_st (v := .int .i64 ((get l).1 : Nat)) hM3 (i := 1) rfl rfl rfl rfl (by simp) fun w23 (hM23 : Mem w (ids [⟨bm, 2, [.int .i64 m]⟩, ⟨bv, 2, [.int .i64 0]⟩]) w23 [[⟨bm, 2, [.int .i64 m]⟩], [⟨bv, 2, [.int .i64 ((get l).1 : Nat)]⟩]]) => h20 _ _ <| seq fun _ h24 => mv <| mv <| mv <| mv <| h24 _ _ <| ⟨(.tuple [.int .i64 ((get l).2.1 : Nat), .int .i64 ((get l).2.2)].toArray), rfl, ?_⟩
  omega
 refine h20 _ _ <| seq fun _ h25 => mv <| mv <| mv <| mv <| h25 _ _ <| ⟨(.tuple [.int .i64 ((get l).2.1 : Nat), .int .i64 ((get l).2.2)].toArray), rfl, ⟨by rw [(num_bad (by omega)).1], _, by rw [(num_bad (by omega)).2], hM3.keep (by simp)⟩⟩
theorem Num_ok (bc : Nat) (b : List UInt8) (a : Nat) (e m : Int) (r0 : List Ent) (w : World) (hc : CurS bc b a e r0) (hr : Res w r0) (hl : b.length ≤ 140737488355328) : Calls Try.prog 84 [.pointer (some ⟨bc, 0, none⟩), .int .i64 m].toArray w (Rt fun r w' => r = .int .i64 (cNum b a e m) ∧ ∃ r', CurS bc b (cNumA b a e m) (cNumE b a e m) r' ∧ Mem w (ids r0) w' [r']) := by
 have hM0 : Mem w (ids r0) w [r0] := Mem.start hr
 refine calls_vc mixed Try.func84 rfl C84 (by simp [Try.ntmps84]) <| seq fun _ h1 => m_bx (v := .int .i64 m) hM0 rfl rfl fun b2 w3 (hM3 : Mem w (ids r0) w3 [r0, [⟨b2, 2, [.int .i64 m]⟩]]) => mv <| h1 _ _ <| seq fun _ h4 => m_al hM3 fun b5 w6 (hM6 : Mem w (ids r0) w6 [r0, [⟨b2, 2, [.int .i64 m]⟩], [⟨b5, 2, [.int .i64 0]⟩]]) => h4 _ _ <| seq fun _ h7 => mv <| stp (v := .func (.func 102) [].toArray [.pointer (some ⟨b2, 0, none⟩), .pointer (some ⟨b5, 0, none⟩)].toArray) (o_mkf rfl) <| m_call (reads_ok bc b a e r0 [⟨b2, 2, [.int .i64 m]⟩, ⟨b5, 2, [.int .i64 0]⟩] 102 _ ((get (b.drop a)).2.1) (numE (b.drop a) m) (fun rv => rv = [⟨b2, 2, [.int .i64 m]⟩, ⟨b5, 2, [.int .i64 (numV (b.drop a) m)]⟩]) w6 hc (Mem.res2 ((hM6.keep (by simp) : Mem w (ids r0) w6 [r0, [⟨b2, 2, [.int .i64 m]⟩, ⟨b5, 2, [.int .i64 0]⟩]])) 0 1 rfl rfl (by decide)) hl (by kernel_rfl) (by intro h; have := hc.le; have := (get_ok (numE_get h)).2.1; simp only [List.length_drop] at this; omega) (fun wc u hx hr => num1_ok b2 b5 m u _ wc hx hr (by simp; omega))) rfl fun v8 w8 ⟨r8, rv8, hc8, ht8, hm8⟩ => ?_
 obtain rfl : rv8 = [⟨b2, 2, [.int .i64 m]⟩, ⟨b5, 2, [.int .i64 (cNum b a e m)]⟩] := by
  by_cases c : e = 0
  ·rw [if_pos c] at ht8; rw [ht8, cNum, if_pos c]
  rw [if_neg c] at ht8; (rw [ht8, cNum, if_neg c] <;> rfl)
 have hM8 : Mem w (ids r0) w8 [r8, [⟨b2, 2, [.int .i64 m]⟩], [⟨b5, 2, [.int .i64 (cNum b a e m)]⟩]] := (Mem.step2 (hM6.keep (by simp) : Mem w (ids r0) w6 [r0, [⟨b2, 2, [.int .i64 m]⟩, ⟨b5, 2, [.int .i64 0]⟩]]) 0 1 rfl rfl (by decide) hm8).keep (by simp)
 have hcn := hc8
 refine h7 _ _ <| seq fun _ h9 => m_ld (v := .int .i64 (cNum b a e m)) hM8 (i := 2) (j := 0) rfl rfl rfl rfl <| mv <| h9 _ _ <| ⟨(.int .i64 (cNum b a e m)), rfl, ⟨rfl, _, hcn, hM8.keep (by simp)⟩⟩
theorem fix_arg {l : List UInt8} {n : Int} (h : n < 1 ∨ 8 < n) : fixE l n = 23 ∧ fixV l n = 0 := by
 have : fixE l n = 23 := by unfold fixE; rw [if_pos h]
 exact ⟨this, by unfold fixV; rw [if_neg (by omega)]⟩
theorem fix_short {l : List UInt8} {n : Int} (h : ¬ (n < 1 ∨ 8 < n)) (h2 : (l.length : Int) < n) : fixE l n = 20 ∧ fixV l n = 0 := by
 have : fixE l n = 20 := by unfold fixE; rw [if_neg h, if_pos h2]
 exact ⟨this, by unfold fixV; rw [if_neg (by omega)]⟩
theorem fix_fine {l : List UInt8} {n : Int} (h : ¬ (n < 1 ∨ 8 < n)) (h2 : ¬ (l.length : Int) < n) : fixE l n = 0 ∧ fixV l n = word (l.take n.toNat) := by
 have : fixE l n = 0 := by unfold fixE; rw [if_neg h, if_neg h2]
 exact ⟨this, by unfold fixV; rw [if_pos this]⟩
def fixN (l : List UInt8) (n : Int) : Nat := if fixE l n = 0 then n.toNat else 0
def cFix (b : List UInt8) (a : Nat) (e n : Int) : Nat := if e = 0 then fixV (b.drop a) n else 0
def cFixA (b : List UInt8) (a : Nat) (e n : Int) : Nat := if e = 0 ∧ fixE (b.drop a) n = 0 then a + fixN (b.drop a) n else a
def cFixE (b : List UInt8) (a : Nat) (e n : Int) : Int := if e = 0 then fixE (b.drop a) n else e
theorem fixN_le {l : List UInt8} {n : Int} (h : fixE l n = 0) : fixN l n ≤ l.length := by
 unfold fixN; rw [if_pos h]; unfold fixE at h; split at h
 ·omega
 split at h <;> omega
theorem fixN_0 {l : List UInt8} {n : Int} (h : ¬ fixE l n = 0) : fixN l n = 0 := by unfold fixN; rw [if_neg h]
theorem fixN_n {l : List UInt8} {n : Int} (h : fixE l n = 0) : ((fixN l n : Nat) : Int) = n := by
 unfold fixN; rw [if_pos h]; unfold fixE at h; split at h <;> omega
theorem fix1_ok (bm bv : Nat) (m : Int) (u : Value) (l : List UInt8) (w : World) (hu : RdE byteV w u l) (hr : Res w [⟨bm, 3, [.int .i64 m]⟩, ⟨bv, 88, [.int .u64 0]⟩]) (hl : l.length ≤ 140737488355328) : Calls Try.prog 113 [u, .pointer (some ⟨bm, 0, none⟩), .pointer (some ⟨bv, 0, none⟩)].toArray w (Rt fun r w' => r = .tuple #[.int .i64 ((fixN l m : Nat) : Int), .int .i64 (fixE l m)] ∧ ∃ rv', rv' = [⟨bm, 3, [.int .i64 m]⟩, ⟨bv, 88, [.int .u64 ((fixV l m : Nat) : Int)]⟩] ∧ Mem w (ids [⟨bm, 3, [.int .i64 m]⟩, ⟨bv, 88, [.int .u64 0]⟩]) w' [rv']) := by
 have hM0 : Mem w (ids [⟨bm, 3, [.int .i64 m]⟩, ⟨bv, 88, [.int .u64 0]⟩]) w [[⟨bm, 3, [.int .i64 m]⟩], [⟨bv, 88, [.int .u64 0]⟩]] := (Mem.start hr).keep (by simp)
 refine calls_vc mixed Try.func113 rfl C113 (by simp [Try.ntmps113]) <| seq fun _ h1 => mv <| mv <| h1 _ _ <| seq fun _ h2 => seq fun _ h3 => m_ld (v := .int .i64 m) hM0 (i := 0) (j := 0) rfl rfl rfl rfl <| bn rfl rfl <| mv <| splitP rfl (fun c4 => ?_) (fun c4 => ?_)
 ·refine gxl rfl <| gx rfl <| pkT rfl <| mv <| h3 _ _ <| cndT rfl <| seq fun _ h5 => mv <| mv <| h5 _ _ <| ⟨(.tuple [.int .i64 0, .int .i64 23].toArray), rfl, ?_⟩
  first | omega | exact ⟨by (rw [(fix_arg (l := l) (n := m) (by omega)).1, fixN_0 (by rw [(fix_arg (l := l) (n := m) (by omega)).1]; decide)] <;> rfl), _, by (rw [(fix_arg (l := l) (n := m) (by omega)).2] <;> rfl), hM0.keep (by simp)⟩ | exact ⟨by (rw [(fix_short (l := l) (n := m) (by omega) (by omega)).1, fixN_0 (by rw [(fix_short (l := l) (n := m) (by omega) (by omega)).1]; decide)] <;> rfl), _, by (rw [(fix_short (l := l) (n := m) (by omega) (by omega)).2] <;> rfl), hM0.keep (by simp)⟩ | exact ⟨by rw [fixN_n (fix_fine (l := l) (n := m) (by omega) (by omega)).1, (fix_fine (l := l) (n := m) (by omega) (by omega)).1], _, by rw [(fix_fine (l := l) (n := m) (by omega) (by omega)).2], hM0.keep (by simp)⟩
 refine gyesl rfl <| m_ld (v := .int .i64 m) hM0 (i := 0) (j := 0) rfl rfl rfl rfl <| gbn rfl rfl rfl <| pkF rfl <| mv <| h3 _ _ <| cndP rfl (fun c6 => ?_) (fun c6 => ?_)
 ·refine seq fun _ h7 => mv <| mv <| h7 _ _ <| ⟨(.tuple [.int .i64 0, .int .i64 23].toArray), rfl, ?_⟩
  first | omega | exact ⟨by (rw [(fix_arg (l := l) (n := m) (by omega)).1, fixN_0 (by rw [(fix_arg (l := l) (n := m) (by omega)).1]; decide)] <;> rfl), _, by (rw [(fix_arg (l := l) (n := m) (by omega)).2] <;> rfl), hM0.keep (by simp)⟩ | exact ⟨by (rw [(fix_short (l := l) (n := m) (by omega) (by omega)).1, fixN_0 (by rw [(fix_short (l := l) (n := m) (by omega) (by omega)).1]; decide)] <;> rfl), _, by (rw [(fix_short (l := l) (n := m) (by omega) (by omega)).2] <;> rfl), hM0.keep (by simp)⟩ | exact ⟨by rw [fixN_n (fix_fine (l := l) (n := m) (by omega) (by omega)).1, (fix_fine (l := l) (n := m) (by omega) (by omega)).1], _, by rw [(fix_fine (l := l) (n := m) (by omega) (by omega)).2], hM0.keep (by simp)⟩
 refine seq fun _ h8 => m_ld (v := .int .i64 m) hM0 (i := 0) (j := 0) rfl rfl rfl rfl <| mv <| stp (v := .int .i64 (l.length : Nat)) (o_lenR (hu) rfl rfl) <| bn rfl rfl <| mv <| h8 _ _ <| cndP rfl (fun c9 => ?_) (fun c9 => ?_)
 ·refine seq fun _ h10 => mv <| mv <| h10 _ _ <| ⟨(.tuple [.int .i64 0, .int .i64 20].toArray), rfl, ?_⟩
  first | omega | exact ⟨by (rw [(fix_arg (l := l) (n := m) (by omega)).1, fixN_0 (by rw [(fix_arg (l := l) (n := m) (by omega)).1]; decide)] <;> rfl), _, by (rw [(fix_arg (l := l) (n := m) (by omega)).2] <;> rfl), hM0.keep (by simp)⟩ | exact ⟨by (rw [(fix_short (l := l) (n := m) (by omega) (by omega)).1, fixN_0 (by rw [(fix_short (l := l) (n := m) (by omega) (by omega)).1]; decide)] <;> rfl), _, by (rw [(fix_short (l := l) (n := m) (by omega) (by omega)).2] <;> rfl), hM0.keep (by simp)⟩ | exact ⟨by rw [fixN_n (fix_fine (l := l) (n := m) (by omega) (by omega)).1, (fix_fine (l := l) (n := m) (by omega) (by omega)).1], _, by rw [(fix_fine (l := l) (n := m) (by omega) (by omega)).2], hM0.keep (by simp)⟩
 refine h2 _ _ <| seq fun _ h11 => mv <| m_ld (v := .int .i64 m) hM0 (i := 0) (j := 0) rfl rfl rfl rfl <| m_slcE 0 m.toNat (hu) rfl (by omega) (by omega) ⟨_, v_int (by omega)⟩ rfl fun u12 hu12 => m_call (Word_ok _ ((l.take m.toNat).drop 0) w (hu12) (by first | omega | (simp; done) | (simp; omega))) rfl fun v13 w13 ⟨hr13, hu13⟩ => ?_
 have hM13 : Mem w (ids [⟨bm, 3, [.int .i64 m]⟩, ⟨bv, 88, [.int .u64 0]⟩]) w13 [[⟨bm, 3, [.int .i64 m]⟩], [⟨bv, 88, [.int .u64 0]⟩]] := hM0.pure hu13
 subst hr13
 refine m_st (v := .int .u64 (word ((l.take m.toNat).drop 0) : Nat)) hM13 (i := 1) rfl rfl rfl rfl (by simp) fun w14 (hM14 : Mem w (ids [⟨bm, 3, [.int .i64 m]⟩, ⟨bv, 88, [.int .u64 0]⟩]) w14 [[⟨bm, 3, [.int .i64 m]⟩], [⟨bv, 88, [.int .u64 (word ((l.take m.toNat).drop 0) : Nat)]⟩]]) => h11 _ _ <| seq fun _ h15 => m_ld (v := .int .i64 m) hM14 (i := 0) (j := 0) rfl rfl rfl rfl <| mv <| mv <| h15 _ _ <| ⟨(.tuple [.int .i64 m, .int .i64 0].toArray), rfl, ?_⟩
 first | omega | exact ⟨by (rw [(fix_arg (l := l) (n := m) (by omega)).1, fixN_0 (by rw [(fix_arg (l := l) (n := m) (by omega)).1]; decide)] <;> rfl), _, by (rw [(fix_arg (l := l) (n := m) (by omega)).2] <;> rfl), hM14.keep (by simp)⟩ | exact ⟨by (rw [(fix_short (l := l) (n := m) (by omega) (by omega)).1, fixN_0 (by rw [(fix_short (l := l) (n := m) (by omega) (by omega)).1]; decide)] <;> rfl), _, by (rw [(fix_short (l := l) (n := m) (by omega) (by omega)).2] <;> rfl), hM14.keep (by simp)⟩ | exact ⟨by rw [fixN_n (fix_fine (l := l) (n := m) (by omega) (by omega)).1, (fix_fine (l := l) (n := m) (by omega) (by omega)).1], _, by rw [(fix_fine (l := l) (n := m) (by omega) (by omega)).2], hM14.keep (by simp)⟩
theorem cFixed_ok (bc : Nat) (b : List UInt8) (a : Nat) (e m : Int) (r0 : List Ent) (w : World) (hc : CurS bc b a e r0) (hr : Res w r0) (hl : b.length ≤ 140737488355328) : Calls Try.prog 104 [.pointer (some ⟨bc, 0, none⟩), .int .i64 m].toArray w (Rt fun r w' => r = .int .u64 ((cFix b a e m : Nat) : Int) ∧ ∃ r', CurS bc b (cFixA b a e m) (cFixE b a e m) r' ∧ Mem w (ids r0) w' [r']) := by
 have hM0 : Mem w (ids r0) w [r0] := Mem.start hr
 refine calls_vc mixed Try.func104 rfl C104 (by simp [Try.ntmps104]) <| seq fun _ h1 => m_bx (v := .int .i64 m) hM0 rfl rfl fun b2 w3 (hM3 : Mem w (ids r0) w3 [r0, [⟨b2, 3, [.int .i64 m]⟩]]) => mv <| h1 _ _ <| seq fun _ h4 => m_al hM3 fun b5 w6 (hM6 : Mem w (ids r0) w6 [r0, [⟨b2, 3, [.int .i64 m]⟩], [⟨b5, 88, [.int .u64 0]⟩]]) => h4 _ _ <| seq fun _ h7 => mv <| stp (v := .func (.func 113) [].toArray [.pointer (some ⟨b2, 0, none⟩), .pointer (some ⟨b5, 0, none⟩)].toArray) (o_mkf rfl) <| m_call (reads_ok bc b a e r0 [⟨b2, 3, [.int .i64 m]⟩, ⟨b5, 88, [.int .u64 0]⟩] 113 _ (fixN (b.drop a) m) (fixE (b.drop a) m) (fun rv => rv = [⟨b2, 3, [.int .i64 m]⟩, ⟨b5, 88, [.int .u64 ((fixV (b.drop a) m : Nat) : Int)]⟩]) w6 hc (Mem.res2 ((hM6.keep (by simp) : Mem w (ids r0) w6 [r0, [⟨b2, 3, [.int .i64 m]⟩, ⟨b5, 88, [.int .u64 0]⟩]])) 0 1 rfl rfl (by decide)) hl (by kernel_rfl) (by intro h; have := hc.le; have := fixN_le h; simp only [List.length_drop] at this; omega) (fun wc u hx hr => fix1_ok b2 b5 m u _ wc hx hr (by simp; omega))) rfl fun v8 w8 ⟨r8, rv8, hc8, ht8, hm8⟩ => ?_
 obtain rfl : rv8 = [⟨b2, 3, [.int .i64 m]⟩, ⟨b5, 88, [.int .u64 (cFix b a e m : Nat)]⟩] := by
  by_cases c : e = 0
  ·rw [if_pos c] at ht8; rw [ht8, cFix, if_pos c]
  rw [if_neg c] at ht8; (rw [ht8, cFix, if_neg c] <;> rfl)
 have hM8 : Mem w (ids r0) w8 [r8, [⟨b2, 3, [.int .i64 m]⟩], [⟨b5, 88, [.int .u64 (cFix b a e m : Nat)]⟩]] := (Mem.step2 (hM6.keep (by simp) : Mem w (ids r0) w6 [r0, [⟨b2, 3, [.int .i64 m]⟩, ⟨b5, 88, [.int .u64 0]⟩]]) 0 1 rfl rfl (by decide) hm8).keep (by simp)
 have hcn := hc8
 refine h7 _ _ <| seq fun _ h9 => m_ld (v := .int .u64 (cFix b a e m : Nat)) hM8 (i := 2) (j := 0) rfl rfl rfl rfl <| mv <| h9 _ _ <| ⟨(.int .u64 (cFix b a e m : Nat)), rfl, ⟨rfl, _, hcn, hM8.keep (by simp)⟩⟩
theorem tk_arg {l : List UInt8} {n : Int} (h : n < 0) : tkE l n = 23 ∧ tkV l n = [] := by
 have : tkE l n = 23 := by unfold tkE; rw [if_pos h]
 exact ⟨this, by unfold tkV; rw [if_neg (by omega)]⟩
theorem tk_short {l : List UInt8} {n : Int} (h : ¬ n < 0) (h2 : (l.length : Int) < n) : tkE l n = 20 ∧ tkV l n = [] := by
 have : tkE l n = 20 := by unfold tkE; rw [if_neg h, if_pos h2]
 exact ⟨this, by unfold tkV; rw [if_neg (by omega)]⟩
theorem tk_fine {l : List UInt8} {n : Int} (h : ¬ n < 0) (h2 : ¬ (l.length : Int) < n) : tkE l n = 0 ∧ tkV l n = l.take n.toNat := by
 have : tkE l n = 0 := by unfold tkE; rw [if_neg h, if_neg h2]
 exact ⟨this, by unfold tkV; rw [if_pos this]⟩
def tkN (l : List UInt8) (n : Int) : Nat := if tkE l n = 0 then n.toNat else 0
def cTk (b : List UInt8) (a : Nat) (e n : Int) : List UInt8 := if e = 0 then tkV (b.drop a) n else []
def cTkA (b : List UInt8) (a : Nat) (e n : Int) : Nat := if e = 0 ∧ tkE (b.drop a) n = 0 then a + tkN (b.drop a) n else a
def cTkE (b : List UInt8) (a : Nat) (e n : Int) : Int := if e = 0 then tkE (b.drop a) n else e
theorem tkN_le {l : List UInt8} {n : Int} (h : tkE l n = 0) : tkN l n ≤ l.length := by
 unfold tkN; rw [if_pos h]; unfold tkE at h; split at h
 ·omega
 split at h <;> omega
theorem tkN_0 {l : List UInt8} {n : Int} (h : ¬ tkE l n = 0) : tkN l n = 0 := by unfold tkN; rw [if_neg h]
theorem tkN_n {l : List UInt8} {n : Int} (h : tkE l n = 0) : ((tkN l n : Nat) : Int) = n := by
 unfold tkN; rw [if_pos h]; unfold tkE at h; split at h <;> omega
theorem tk1_ok (bm bv : Nat) (m : Int) (u : Value) (l : List UInt8) (w : World) (hu : RdE byteV w u l) (hr : Res w [⟨bm, 3, [.int .i64 m]⟩, ⟨bv, 34, [.slice none 0 0]⟩]) (hl : l.length ≤ 140737488355328) : Calls Try.prog 114 [u, .pointer (some ⟨bm, 0, none⟩), .pointer (some ⟨bv, 0, none⟩)].toArray w (Rt fun r w' => r = .tuple #[.int .i64 ((tkN l m : Nat) : Int), .int .i64 (tkE l m)] ∧ ∃ rv', (∃ vs rs, rv' = ⟨bm, 3, [.int .i64 m]⟩ :: ⟨bv, 34, [vs]⟩ :: rs ∧ SlE byteV 5 vs (tkV l m) rs) ∧ Mem w (ids [⟨bm, 3, [.int .i64 m]⟩, ⟨bv, 34, [.slice none 0 0]⟩]) w' [rv']) := by
 have hM0 : Mem w (ids [⟨bm, 3, [.int .i64 m]⟩, ⟨bv, 34, [.slice none 0 0]⟩]) w [[⟨bm, 3, [.int .i64 m]⟩], [⟨bv, 34, [.slice none 0 0]⟩]] := (Mem.start hr).keep (by simp)
 refine calls_vc mixed Try.func114 rfl C114 (by simp [Try.ntmps114]) <| seq fun _ h1 => mv <| mv <| h1 _ _ <| seq fun _ h2 => seq fun _ h3 => m_ld (v := .int .i64 m) hM0 (i := 0) (j := 0) rfl rfl rfl rfl <| bn rfl rfl <| mv <| h3 _ _ <| cndP rfl (fun c4 => ?_) (fun c4 => ?_)
 ·refine seq fun _ h5 => mv <| mv <| h5 _ _ <| ⟨(.tuple [.int .i64 0, .int .i64 23].toArray), rfl, ⟨by (rw [(tk_arg (l := l) (n := m) (by omega)).1, tkN_0 (by rw [(tk_arg (l := l) (n := m) (by omega)).1]; decide)] <;> rfl), _, ⟨_, [], rfl, by rw [(tk_arg (l := l) (n := m) (by omega)).2]; exact Sl.nil 1 5⟩, hM0.keep (by simp)⟩⟩
 refine seq fun _ h6 => m_ld (v := .int .i64 m) hM0 (i := 0) (j := 0) rfl rfl rfl rfl <| mv <| stp (v := .int .i64 (l.length : Nat)) (o_lenR (hu) rfl rfl) <| bn rfl rfl <| mv <| h6 _ _ <| cndP rfl (fun c7 => ?_) (fun c7 => ?_)
 ·refine seq fun _ h8 => mv <| mv <| h8 _ _ <| ⟨(.tuple [.int .i64 0, .int .i64 20].toArray), rfl, ⟨by (rw [(tk_short (l := l) (n := m) (by omega) (by omega)).1, tkN_0 (by rw [(tk_short (l := l) (n := m) (by omega) (by omega)).1]; decide)] <;> rfl), _, ⟨_, [], rfl, by rw [(tk_short (l := l) (n := m) (by omega) (by omega)).2]; exact Sl.nil 1 5⟩, hM0.keep (by simp)⟩⟩
 refine h2 _ _ <| seq fun _ h9 => ?_
 intro wd e1 e2 e3 e4
 have hd := Upd.same e1 e2 e3 e4 []
 have hM10 := hM0.pure hd
 clear e1 e2 e3 e4
 refine ⟨(some [bm]), ?_⟩
 show vd _ _ _ _ _ _ _
 refine dmv <| dqld rfl (by simp [isHeld]) (v := .int .i64 m) ((hM10.at (i := 0) (j := 0) rfl rfl).cell 0) <| dqp (m_slcE 0 m.toNat (hu.upd (hd)) rfl (by omega) (by omega) ⟨_, v_int (by omega)⟩ rfl fun u11 hu11 => ?_)
 show vd _ _ _ _ _ _ _
 refine dl (m_ld (v := .slice none 0 0) hM10 (i := 1) (j := 0) rfl rfl rfl rfl <| ⟨(fun b hb => rfl), ?_⟩)
 have hM12 : Mem w (ids [⟨bm, 3, [.int .i64 m]⟩, ⟨bv, 34, [.slice none 0 0]⟩]) wd [[⟨bm, 3, [.int .i64 m]⟩], [⟨bv, 34, [.slice none 0 0]⟩], []] := hM10.addNil
 have hs12 : SlE byteV 5 (.slice none 0 0) [] [] := Sl.nil 1 5
 refine dl (m_appEU hM12 (i := 2) rfl hs12 rfl rfl (hu11.upd ((Upd.refl [] _))) (by first | omega | (simp; omega)) (by omega) fun v13 w13 r13 (hs13 : SlE byteV 5 v13 ((l.take m.toNat).drop 0) r13) hup13 (hM13 : Mem w (ids [⟨bm, 3, [.int .i64 m]⟩, ⟨bv, 34, [.slice none 0 0]⟩]) w13 [[⟨bm, 3, [.int .i64 m]⟩], [⟨bv, 34, [.slice none 0 0]⟩], r13]) => ?_)
 have hh13 := held_upd (wr := wd) (bs := [bm]) hup13 (fun b hb => by
  simp only [List.mem_cons, List.not_mem_nil, or_false] at hb
  rw [hb]; exact ⟨(hM12.at (i := 0) (j := 0) rfl rfl).lt, hM12.apart (i := 0) (j := 0) (k := 2) rfl rfl rfl (by decide)⟩) (fun b hb => rfl)
 refine ⟨hh13, dl (m_stU (v := v13) hM13 (i := 1) rfl rfl rfl (Sl.one hs13) (by simp) fun w14 hup14 (hM14 : Mem w (ids [⟨bm, 3, [.int .i64 m]⟩, ⟨bv, 34, [.slice none 0 0]⟩]) w14 [[⟨bm, 3, [.int .i64 m]⟩], [⟨bv, 34, [v13]⟩], r13]) => ?_)⟩
 have hh14 := held_upd (wr := wd) (bs := [bm]) hup14 (fun b hb => by
  simp only [List.mem_cons, List.not_mem_nil, or_false] at hb
  rw [hb]; exact ⟨(hM13.at (i := 0) (j := 0) rfl rfl).lt, hM13.apart (i := 0) (j := 0) (k := 1) rfl rfl rfl (by decide)⟩) hh13
 refine ⟨hh14, h9 _ _ <| seq fun _ h15 => m_ld (v := .int .i64 m) hM14 (i := 0) (j := 0) rfl rfl rfl rfl <| mv <| mv <| h15 _ _ <| ⟨(.tuple [.int .i64 m, .int .i64 0].toArray), rfl, ⟨by rw [tkN_n (tk_fine (l := l) (n := m) (by omega) (by omega)).1, (tk_fine (l := l) (n := m) (by omega) (by omega)).1], _, ⟨_, _, rfl, by rw [(tk_fine (l := l) (n := m) (by omega) (by omega)).2]; exact hs13⟩, hM14.keep (by simp)⟩⟩⟩
theorem Take_ok (bc : Nat) (b : List UInt8) (a : Nat) (e m : Int) (r0 : List Ent) (w : World) (hc : CurS bc b a e r0) (hr : Res w r0) (hl : b.length ≤ 140737488355328) : Calls Try.prog 105 [.pointer (some ⟨bc, 0, none⟩), .int .i64 m].toArray w (Rt fun r w' => ∃ r' rs, CurS bc b (cTkA b a e m) (cTkE b a e m) r' ∧ SlE byteV 5 r (cTk b a e m) rs ∧ Mem w (ids r0) w' [r', rs]) := by
 have hM0 : Mem w (ids r0) w [r0] := Mem.start hr
 refine calls_vc mixed Try.func105 rfl C105 (by simp [Try.ntmps105]) <| seq fun _ h1 => m_bx (v := .int .i64 m) hM0 rfl rfl fun b2 w3 (hM3 : Mem w (ids r0) w3 [r0, [⟨b2, 3, [.int .i64 m]⟩]]) => mv <| h1 _ _ <| seq fun _ h4 => m_al hM3 fun b5 w6 (hM6 : Mem w (ids r0) w6 [r0, [⟨b2, 3, [.int .i64 m]⟩], [⟨b5, 34, [.slice none 0 0]⟩]]) => h4 _ _ <| seq fun _ h7 => mv <| stp (v := .func (.func 114) [].toArray [.pointer (some ⟨b2, 0, none⟩), .pointer (some ⟨b5, 0, none⟩)].toArray) (o_mkf rfl) <| m_call (reads_ok bc b a e r0 [⟨b2, 3, [.int .i64 m]⟩, ⟨b5, 34, [.slice none 0 0]⟩] 114 _ (tkN (b.drop a) m) (tkE (b.drop a) m) (fun rv => ∃ vs rs, rv = ⟨b2, 3, [.int .i64 m]⟩ :: ⟨b5, 34, [vs]⟩ :: rs ∧ SlE byteV 5 vs (tkV (b.drop a) m) rs) w6 hc (Mem.res2 ((hM6.keep (by simp) : Mem w (ids r0) w6 [r0, [⟨b2, 3, [.int .i64 m]⟩, ⟨b5, 34, [.slice none 0 0]⟩]])) 0 1 rfl rfl (by decide)) hl (by kernel_rfl) (by intro h; have := hc.le; have := tkN_le h; simp only [List.length_drop] at this; omega) (fun wc u hx hr => tk1_ok b2 b5 m u _ wc hx hr (by simp; omega))) rfl fun v8 w8 ⟨r8, rv8, hc8, ht8, hm8⟩ => ?_
 obtain ⟨vs8, rs8, rfl, hs8⟩ : ∃ vs rs, rv8 = ⟨b2, 3, [.int .i64 m]⟩ :: ⟨b5, 34, [vs]⟩ :: rs ∧ SlE byteV 5 vs (cTk b a e m) rs := by
  by_cases c : e = 0
  ·rw [if_pos c] at ht8; obtain ⟨vs, rs, h1, h2⟩ := ht8; exact ⟨vs, rs, h1, by unfold cTk; rw [if_pos c]; exact h2⟩
  rw [if_neg c] at ht8; exact ⟨_, [], ht8, by unfold cTk; rw [if_neg c]; exact Sl.nil 1 5⟩
 have hM8 : Mem w (ids r0) w8 [r8, [⟨b2, 3, [.int .i64 m]⟩], [⟨b5, 34, [vs8]⟩], rs8] := (Mem.step2 (hM6.keep (by simp) : Mem w (ids r0) w6 [r0, [⟨b2, 3, [.int .i64 m]⟩, ⟨b5, 34, [.slice none 0 0]⟩]]) 0 1 rfl rfl (by decide) hm8).keep (by simp)
 have hcn := hc8
 have hsn := hs8
 refine h7 _ _ <| seq fun _ h9 => m_ld (v := vs8) hM8 (i := 2) (j := 0) rfl rfl rfl rfl <| mv <| h9 _ _ <| ⟨vs8, rfl, ⟨_, _, hcn, hsn, ((hM8.drop 1).drop 2).keep (by simp)⟩⟩
def endE (b : List UInt8) (a : Nat) (e : Int) : Int := if ¬ e = 0 then e else if a < b.length then 22 else 0
def endA (b : List UInt8) (a : Nat) (e : Int) : Nat := if ¬ e = 0 then a else if a < b.length then a else 0
set_option maxRecDepth 100000 in
theorem End_ok (bc : Nat) (b : List UInt8) (a : Nat) (e : Int) (r0 : List Ent) (w : World) (hc : CurS bc b a e r0) (hr : Res w r0) : Calls Try.prog 90 [.pointer (some ⟨bc, 0, none⟩)].toArray w (Rt fun r w' => r = .agg #[.int .i64 (endE b a e), .int .i64 ((endA b a e : Nat) : Int)] ∧ Mem w (ids r0) w' [r0]) := by
 obtain ⟨vb, rb, rfl, hb, ha⟩ := hc
 have hM0 : Mem w (ids (⟨bc, 133, [vb, .int .i64 (a : Nat), .int .i64 e]⟩ :: rb)) w [[⟨bc, 133, [vb, .int .i64 (a : Nat), .int .i64 e]⟩], rb] := (Mem.start hr).keep (by simp)
 refine calls_vc mixed Try.func90 rfl C90 (by simp [Try.ntmps90]) <| seq fun _ h1 => m_al hM0 fun b2 w3 (hM3 : Mem w (ids (⟨bc, 133, [vb, .int .i64 (a : Nat), .int .i64 e]⟩ :: rb)) w3 [[⟨bc, 133, [vb, .int .i64 (a : Nat), .int .i64 e]⟩], rb, [⟨b2, 126, [.int .i64 0, .int .i64 0]⟩]]) => h1 _ _ <| seq fun _ h4 => seq fun _ h5 => mv <| stp (v := .bool false) (o_isnil rfl rfl) <| mv <| h5 _ _ <| cndF rfl <| seq fun _ h6 => mv <| nilchk rfl ?_
 refine fa rfl <| m_ld (v := .int .i64 e) hM3 (i := 0) (j := 0) rfl rfl rfl rfl <| bneq rfl rfl <| mv <| h6 _ _ <| cndP rfl (fun c7 => ?_) (fun c7 => ?_)
 ·refine seq fun _ h8 => ?_
  intro wd e1 e2 e3 e4
  have hd := Upd.same e1 e2 e3 e4 []
  have hM9 := hM3.pure hd
  clear e1 e2 e3 e4
  refine ⟨(some [bc]), ?_⟩
  show vd _ _ _ _ _ _ _
  refine dmv <| dq (v := .pointer (some ⟨bc, 0, none⟩)) (o_nilchk rfl rfl) <| dfa rfl <| dmv <| dq (v := .pointer (some ⟨bc, 0, none⟩)) (o_nilchk rfl rfl) <| dfa rfl <| dqld rfl (by simp [isHeld]) (v := .int .i64 (a : Nat)) ((hM9.at (i := 0) (j := 0) rfl rfl).cell 1) <| dl (m_ld (v := .int .i64 e) hM9 (i := 0) (j := 0) rfl rfl rfl rfl <| ⟨(fun b hb => rfl), dq (v := .agg ([.int .i64 e, .int .i64 (a : Nat)] : List Value).toArray) (o_bld rfl rfl) <| dl (m_stAU (l := [.int .i64 e, .int .i64 (a : Nat)]) hM9 (i := 2) rfl rfl rfl rfl (by simp [oneCells, Value.oneCell', byteV]) (by simp) fun w10 hup10 (hM10 : Mem w (ids (⟨bc, 133, [vb, .int .i64 (a : Nat), .int .i64 e]⟩ :: rb)) w10 [[⟨bc, 133, [vb, .int .i64 (a : Nat), .int .i64 e]⟩], rb, [⟨b2, 126, [.int .i64 e, .int .i64 (a : Nat)]⟩]]) => ?_)⟩)
  have hh10 := held_upd (wr := wd) (bs := [bc]) hup10 (fun b hb => by
   simp only [List.mem_cons, List.not_mem_nil, or_false] at hb
   rw [hb]; exact ⟨(hM9.at (i := 0) (j := 0) rfl rfl).lt, hM9.apart (i := 0) (j := 0) (k := 2) rfl rfl rfl (by decide)⟩) (fun b hb => rfl)
  refine ⟨hh10, h8 _ _ ?_⟩
  show resV _ _ _ _ _
  refine res_cell (s := some 2) (by kernel_rfl) <| vl_ldA (cs := [.int .i64 e, .int .i64 (a : Nat)]) rfl rfl ((hM10.at (i := 2) (j := 0) rfl rfl).agg rfl rfl) <| ⟨(.agg ([.int .i64 e, .int .i64 (a : Nat)] : List Value).toArray), rfl, ?_⟩
  first | exact ⟨by unfold endE endA; rw [if_pos (by omega), if_pos (by omega)], hM10.keep (by simp)⟩ | exact ⟨by unfold endE endA; rw [if_neg (by omega), if_pos (by omega), if_neg (by omega), if_pos (by omega)], hM10.keep (by simp)⟩ | exact ⟨by unfold endE endA; (rw [if_neg (by omega), if_neg (by omega), if_neg (by omega), if_neg (by omega)] <;> rfl), hM10.keep (by simp)⟩
 refine seq fun _ h11 => ?_
 intro wd e1 e2 e3 e4
 have hd := Upd.same e1 e2 e3 e4 []
 have hM12 := hM3.pure hd
 clear e1 e2 e3 e4
 refine ⟨none, ?_⟩
 show vd _ _ _ _ _ _ _
 refine dmv <| dq (v := .pointer (some ⟨bc, 0, none⟩)) (o_nilchk rfl rfl) <| dfa rfl <| dmv <| dq (v := .pointer (some ⟨bc, 0, none⟩)) (o_nilchk rfl rfl) <| dfa rfl <| dqld rfl (trivial) (v := vb) ((hM12.at (i := 0) (j := 0) rfl rfl).cell 0) <| dq (v := .int .i64 (b.length : Nat)) (o_lenR (hb.rd hM12 (i := 1) rfl) rfl rfl) <| dl (m_ld (v := .int .i64 (a : Nat)) hM12 (i := 0) (j := 0) rfl rfl rfl rfl <| ⟨rfl, dbn rfl rfl <| dmv <| h11 _ _ <| cndP rfl (fun c13 => ?_) (fun c13 => ?_)⟩)
 ·refine seq fun _ h14 => mv <| nilchk rfl <| fa rfl <| m_ld (v := .int .i64 (a : Nat)) hM12 (i := 0) (j := 0) rfl rfl rfl rfl <| stp (v := .agg ([.int .i64 22, .int .i64 (a : Nat)] : List Value).toArray) (o_bld rfl rfl) <| m_stA (l := [.int .i64 22, .int .i64 (a : Nat)]) hM12 (i := 2) rfl rfl rfl rfl (by simp [oneCells, Value.oneCell', byteV]) (by simp) fun w15 (hM15 : Mem w (ids (⟨bc, 133, [vb, .int .i64 (a : Nat), .int .i64 e]⟩ :: rb)) w15 [[⟨bc, 133, [vb, .int .i64 (a : Nat), .int .i64 e]⟩], rb, [⟨b2, 126, [.int .i64 22, .int .i64 (a : Nat)]⟩]]) => h14 _ _ ?_
  show resV _ _ _ _ _
  refine res_cell (s := some 2) (by kernel_rfl) <| vl_ldA (cs := [.int .i64 22, .int .i64 (a : Nat)]) rfl rfl ((hM15.at (i := 2) (j := 0) rfl rfl).agg rfl rfl) <| ⟨(.agg ([.int .i64 22, .int .i64 (a : Nat)] : List Value).toArray), rfl, ?_⟩
  first | exact ⟨by unfold endE endA; rw [if_pos (by omega), if_pos (by omega)], hM15.keep (by simp)⟩ | exact ⟨by unfold endE endA; rw [if_neg (by omega), if_pos (by omega), if_neg (by omega), if_pos (by omega)], hM15.keep (by simp)⟩ | exact ⟨by unfold endE endA; (rw [if_neg (by omega), if_neg (by omega), if_neg (by omega), if_neg (by omega)] <;> rfl), hM15.keep (by simp)⟩
 refine h4 _ _ <| seq fun _ h16 => stp (v := .agg ([.int .i64 0, .int .i64 0] : List Value).toArray) (o_bld rfl rfl) <| m_stA (l := [.int .i64 0, .int .i64 0]) hM12 (i := 2) rfl rfl rfl rfl (by simp [oneCells, Value.oneCell', byteV]) (by simp) fun w17 (hM17 : Mem w (ids (⟨bc, 133, [vb, .int .i64 (a : Nat), .int .i64 e]⟩ :: rb)) w17 [[⟨bc, 133, [vb, .int .i64 (a : Nat), .int .i64 e]⟩], rb, [⟨b2, 126, [.int .i64 0, .int .i64 0]⟩]]) => h16 _ _ ?_
 show resV _ _ _ _ _
 refine res_cell (s := some 2) (by kernel_rfl) <| vl_ldA (cs := [.int .i64 0, .int .i64 0]) rfl rfl ((hM17.at (i := 2) (j := 0) rfl rfl).agg rfl rfl) <| ⟨(.agg ([.int .i64 0, .int .i64 0] : List Value).toArray), rfl, ?_⟩
 first | exact ⟨by unfold endE endA; rw [if_pos (by omega), if_pos (by omega)], hM17.keep (by simp)⟩ | exact ⟨by unfold endE endA; rw [if_neg (by omega), if_pos (by omega), if_neg (by omega), if_pos (by omega)], hM17.keep (by simp)⟩ | exact ⟨by unfold endE endA; (rw [if_neg (by omega), if_neg (by omega), if_neg (by omega), if_neg (by omega)] <;> rfl), hM17.keep (by simp)⟩
def restV (b : List UInt8) (a : Nat) (e : Int) : Int := if e = 0 then ((b.length - a : Nat) : Int) else 0
theorem Rest_ok (bc : Nat) (b : List UInt8) (a : Nat) (e : Int) (r0 : List Ent) (w : World) (hc : CurS bc b a e r0) (hr : Res w r0) (hl : b.length ≤ 140737488355328) : Calls Try.prog 85 [.pointer (some ⟨bc, 0, none⟩)].toArray w (Rt fun r w' => r = .int .i64 (restV b a e) ∧ Mem w (ids r0) w' [r0]) := by
 obtain ⟨vb, rb, rfl, hb, ha⟩ := hc
 have hM0 : Mem w (ids (⟨bc, 133, [vb, .int .i64 (a : Nat), .int .i64 e]⟩ :: rb)) w [[⟨bc, 133, [vb, .int .i64 (a : Nat), .int .i64 e]⟩], rb] := (Mem.start hr).keep (by simp)
 refine calls_vc mixed Try.func85 rfl C85 (by simp [Try.ntmps85]) <| seq fun _ h1 => mv <| h1 _ _ <| seq fun _ h2 => seq fun _ h3 => mv <| stp (v := .bool false) (o_isnil rfl rfl) <| mv <| splitF rfl <| gmv rfl <| stg rfl (v := .pointer (some ⟨bc, 0, none⟩)) (o_nilchk rfl rfl) <| gfa rfl rfl <| gyesl rfl ?_
 refine m_ld (v := .int .i64 e) hM0 (i := 0) (j := 0) rfl rfl rfl rfl <| gbneq rfl rfl rfl <| pkF rfl <| h3 _ _ <| cndP rfl (fun c4 => ?_) (fun c4 => ?_)
 ·refine seq fun _ h5 => mv <| h5 _ _ <| ⟨(.int .i64 0), rfl, ⟨by unfold restV; (rw [if_neg (by omega)] <;> rfl), hM0.keep (by simp)⟩⟩
 refine h2 _ _ <| seq fun _ h6 => ?_
 intro wd e1 e2 e3 e4
 have hd := Upd.same e1 e2 e3 e4 []
 have hM7 := hM0.pure hd
 clear e1 e2 e3 e4
 refine ⟨none, ?_⟩
 show vd _ _ _ _ _ _ _
 refine dmv <| dq (v := .pointer (some ⟨bc, 0, none⟩)) (o_nilchk rfl rfl) <| dfa rfl <| dmv <| dq (v := .pointer (some ⟨bc, 0, none⟩)) (o_nilchk rfl rfl) <| dfa rfl <| dqld rfl (trivial) (v := .int .i64 (a : Nat)) ((hM7.at (i := 0) (j := 0) rfl rfl).cell 1) <| dl (m_ld (v := vb) hM7 (i := 0) (j := 0) rfl rfl rfl rfl <| ⟨rfl, dq (v := .int .i64 (b.length : Nat)) (o_lenR (hb.rd hM7 (i := 1) rfl) rfl rfl) <| dq (v := .int .i64 ((b.length : Nat) - (a : Nat))) (o_bin rfl rfl (v_sub64 (by omega))) <| dmv <| h6 _ _ <| ⟨(.int .i64 ((b.length : Nat) - (a : Nat))), rfl, ⟨by unfold restV; rw [if_pos (by omega)]; exact v_int (by omega), hM7.keep (by simp)⟩⟩⟩)
def txE (l : List UInt8) (m : Int) : Int := if ¬ (get l).2.2 = 0 then (get l).2.2 else if m < ((get l).1 : Int) then 23 else if (l.length : Int) - (get l).2.1 < ((get l).1 : Int) then 20 else 0
def txN (l : List UInt8) (m : Int) : Nat := if txE l m = 0 then (get l).2.1 + (get l).1 else 0
def txV (l : List UInt8) (m : Int) : List UInt8 := if txE l m = 0 then (l.drop (get l).2.1).take (get l).1 else []
def cTx (b : List UInt8) (a : Nat) (e m : Int) : List UInt8 := if e = 0 then txV (b.drop a) m else []
def cTxA (b : List UInt8) (a : Nat) (e m : Int) : Nat := if e = 0 ∧ txE (b.drop a) m = 0 then a + txN (b.drop a) m else a
def cTxE (b : List UInt8) (a : Nat) (e m : Int) : Int := if e = 0 then txE (b.drop a) m else e
theorem tx_bad {l : List UInt8} {m : Int} (h : ¬ (get l).2.2 = 0) : txE l m = (get l).2.2 ∧ txN l m = 0 ∧ txV l m = [] := by
 have e : txE l m = (get l).2.2 := by unfold txE; rw [if_pos h]
 exact ⟨e, by unfold txN; rw [if_neg (by omega)], by unfold txV; rw [if_neg (by omega)]⟩
theorem tx_much {l : List UInt8} {m : Int} (h : (get l).2.2 = 0) (h1 : m < ((get l).1 : Int)) : txE l m = 23 ∧ txN l m = 0 ∧ txV l m = [] := by
 have e : txE l m = 23 := by unfold txE; rw [if_neg (by omega), if_pos h1]
 exact ⟨e, by unfold txN; rw [if_neg (by omega)], by unfold txV; rw [if_neg (by omega)]⟩
theorem tx_short {l : List UInt8} {m : Int} (h : (get l).2.2 = 0) (h1 : ¬ m < ((get l).1 : Int)) (h2 : (l.length : Int) - (get l).2.1 < ((get l).1 : Int)) : txE l m = 20 ∧ txN l m = 0 ∧ txV l m = [] := by
 have e : txE l m = 20 := by unfold txE; rw [if_neg (by omega), if_neg h1, if_pos h2]
 exact ⟨e, by unfold txN; rw [if_neg (by omega)], by unfold txV; rw [if_neg (by omega)]⟩
theorem tx_fine {l : List UInt8} {m : Int} (h : (get l).2.2 = 0) (h1 : ¬ m < ((get l).1 : Int)) (h2 : ¬ (l.length : Int) - (get l).2.1 < ((get l).1 : Int)) : txE l m = 0 ∧ txN l m = (get l).2.1 + (get l).1 ∧ txV l m = (l.drop (get l).2.1).take (get l).1 := by
 have e : txE l m = 0 := by unfold txE; rw [if_neg (by omega), if_neg h1, if_neg h2]
 exact ⟨e, by unfold txN; rw [if_pos e], by unfold txV; rw [if_pos e]⟩
theorem txN_le {l : List UInt8} {m : Int} (h : txE l m = 0) : txN l m ≤ l.length := by
 by_cases c : (get l).2.2 = 0
 ·have hg := (get_ok c).2.1
  by_cases c1 : m < ((get l).1 : Int)
  ·rw [(tx_much c c1).1] at h; omega
  by_cases c2 : (l.length : Int) - (get l).2.1 < ((get l).1 : Int)
  ·rw [(tx_short c c1 c2).1] at h; omega
  rw [(tx_fine c c1 c2).2.1]; omega
 rw [(tx_bad (m := m) c).1] at h; exact absurd h c
theorem tx1_ok (bm bv : Nat) (m : Int) (u : Value) (l : List UInt8) (w : World) (hu : RdE byteV w u l) (hr : Res w [⟨bm, 3, [.int .i64 m]⟩, ⟨bv, 9, [.string (str ([]))]⟩]) (hl : l.length ≤ 140737488355328) : Calls Try.prog 106 [u, .pointer (some ⟨bm, 0, none⟩), .pointer (some ⟨bv, 0, none⟩)].toArray w (Rt fun r w' => r = .tuple #[.int .i64 ((txN l m : Nat) : Int), .int .i64 (txE l m)] ∧ ∃ rv', rv' = [⟨bm, 3, [.int .i64 m]⟩, ⟨bv, 9, [.string (str (txV l m))]⟩] ∧ Mem w (ids [⟨bm, 3, [.int .i64 m]⟩, ⟨bv, 9, [.string (str ([]))]⟩]) w' [rv']) := by
 have hM0 : Mem w (ids [⟨bm, 3, [.int .i64 m]⟩, ⟨bv, 9, [.string (str ([]))]⟩]) w [[⟨bm, 3, [.int .i64 m]⟩], [⟨bv, 9, [.string (str ([]))]⟩]] := (Mem.start hr).keep (by simp)
 refine calls_vc mixed Try.func106 rfl C106 (by simp [Try.ntmps106]) <| seq fun _ h1 => mv <| mv <| h1 _ _ <| seq fun _ h2 => mv <| m_call (Get_ok _ l w (hu) (by first | omega | (simp; done) | (simp; omega))) rfl fun v3 w3 ⟨hr3, hu3⟩ => ?_
 have hM3 : Mem w (ids [⟨bm, 3, [.int .i64 m]⟩, ⟨bv, 9, [.string (str ([]))]⟩]) w3 [[⟨bm, 3, [.int .i64 m]⟩], [⟨bv, 9, [.string (str ([]))]⟩]] := hM0.pure hu3
 subst hr3
 refine mv <| ext rfl rfl <| ext rfl rfl <| ext rfl rfl <| mv <| mv <| mv <| h2 _ _ <| seq fun _ h4 => seq fun _ h5 => mv <| bneq rfl rfl <| mv <| h5 _ _ ?_
 refine cndP rfl (fun c6 => ?_) (fun c6 => ?_)
 ·refine seq fun _ h7 => mv <| mv <| mv <| h7 _ _ <| ⟨(.tuple [.int .i64 0, .int .i64 ((get l).2.2)].toArray), rfl, ⟨by rw [(tx_bad (l := l) (m := m) (by omega)).1, (tx_bad (l := l) (m := m) (by omega)).2.1]; rfl, _, by rw [(tx_bad (l := l) (m := m) (by omega)).2.2], hM3.keep (by simp)⟩⟩
 refine seq fun _ h8 => mv <| m_ld (v := .int .i64 m) hM3 (i := 0) (j := 0) rfl rfl rfl rfl <| bn rfl rfl <| mv <| h8 _ _ <| cndP rfl (fun c9 => ?_) (fun c9 => ?_)
 ·refine seq fun _ h10 => mv <| mv <| h10 _ _ <| ⟨(.tuple [.int .i64 0, .int .i64 23].toArray), rfl, ⟨by rw [(tx_much (l := l) (m := m) (by omega) (by omega)).1, (tx_much (l := l) (m := m) (by omega) (by omega)).2.1]; rfl, _, by rw [(tx_much (l := l) (m := m) (by omega) (by omega)).2.2], hM3.keep (by simp)⟩⟩
 refine seq fun _ h11 => ?_
 have hgk := (get_ok (b := l) (by omega)).2.1
 refine mv <| mv <| stp (v := .int .i64 (l.length : Nat)) (o_lenR (hu.upd (hu3)) rfl rfl) <| mv <| stp (v := .int .i64 ((l.length : Nat) - ((get l).2.1 : Nat))) (o_bin rfl rfl (v_sub64 (by omega))) <| bn rfl rfl <| mv <| h11 _ _ <| cndP rfl (fun c12 => ?_) (fun c12 => ?_)
 ·refine seq fun _ h13 => mv <| mv <| h13 _ _ <| ⟨(.tuple [.int .i64 0, .int .i64 20].toArray), rfl, ⟨by rw [(tx_short (l := l) (m := m) (by omega) (by omega) (by omega)).1, (tx_short (l := l) (m := m) (by omega) (by omega) (by omega)).2.1]; rfl, _, by rw [(tx_short (l := l) (m := m) (by omega) (by omega) (by omega)).2.2], hM3.keep (by simp)⟩⟩
 refine h4 _ _ <| seq fun _ h14 => mv <| mv <| mv <| mv <| stp (v := .int .i64 (((get l).2.1 : Nat) + ((get l).1 : Nat))) (o_bin rfl rfl (v_add64 (by omega))) <| m_slcE ((get l).2.1) ((get l).2.1 + (get l).1) (hu.upd (hu3)) rfl (by omega) (by omega) ⟨_, v_int (by omega)⟩ ⟨_, v_int (by omega)⟩ fun u15 hu15 => ?_
 have hu15' : RdE byteV w3 u15 ((l.drop (get l).2.1).take (get l).1) := by
  have e : (l.take ((get l).2.1 + (get l).1)).drop ((get l).2.1) = ((l.drop (get l).2.1).take (get l).1) := by rw [List.drop_take]; congr 1; omega
  rw [e] at hu15; exact hu15
 refine m_b2s rfl (hu15') <| m_st (v := .string (str ((l.drop (get l).2.1).take (get l).1))) hM3 (i := 1) rfl rfl rfl rfl (by simp) fun w16 (hM16 : Mem w (ids [⟨bm, 3, [.int .i64 m]⟩, ⟨bv, 9, [.string (str ([]))]⟩]) w16 [[⟨bm, 3, [.int .i64 m]⟩], [⟨bv, 9, [.string (str ((l.drop (get l).2.1).take (get l).1))]⟩]]) => h14 _ _ <| seq fun _ h17 => mv <| mv <| stp (v := .int .i64 (((get l).2.1 : Nat) + ((get l).1 : Nat))) (o_bin rfl rfl (v_add64 (by omega))) <| mv <| mv <| h17 _ _ <| ⟨(.tuple [.int .i64 (((get l).2.1 : Nat) + ((get l).1 : Nat)), .int .i64 0].toArray), rfl, ⟨by rw [(tx_fine (l := l) (m := m) (by omega) (by omega) (by omega)).1, (tx_fine (l := l) (m := m) (by omega) (by omega) (by omega)).2.1]; rfl, _, by rw [(tx_fine (l := l) (m := m) (by omega) (by omega) (by omega)).2.2], hM16.keep (by simp)⟩⟩
theorem Text_ok (bc : Nat) (b : List UInt8) (a : Nat) (e m : Int) (r0 : List Ent) (w : World) (hc : CurS bc b a e r0) (hr : Res w r0) (hl : b.length ≤ 140737488355328) : Calls Try.prog 87 [.pointer (some ⟨bc, 0, none⟩), .int .i64 m].toArray w (Rt fun r w' => r = .string (str (cTx b a e m)) ∧ ∃ r', CurS bc b (cTxA b a e m) (cTxE b a e m) r' ∧ Mem w (ids r0) w' [r']) := by
 have hM0 : Mem w (ids r0) w [r0] := Mem.start hr
 refine calls_vc mixed Try.func87 rfl C87 (by simp [Try.ntmps87]) <| seq fun _ h1 => m_bx (v := .int .i64 m) hM0 rfl rfl fun b2 w3 (hM3 : Mem w (ids r0) w3 [r0, [⟨b2, 3, [.int .i64 m]⟩]]) => mv <| h1 _ _ <| seq fun _ h4 => m_al hM3 fun b5 w6 (hM6 : Mem w (ids r0) w6 [r0, [⟨b2, 3, [.int .i64 m]⟩], [⟨b5, 9, [.string (str ([]))]⟩]]) => h4 _ _ <| seq fun _ h7 => mv <| stp (v := .func (.func 106) [].toArray [.pointer (some ⟨b2, 0, none⟩), .pointer (some ⟨b5, 0, none⟩)].toArray) (o_mkf rfl) <| m_call (reads_ok bc b a e r0 [⟨b2, 3, [.int .i64 m]⟩, ⟨b5, 9, [.string (str ([]))]⟩] 106 _ (txN (b.drop a) m) (txE (b.drop a) m) (fun rv => rv = [⟨b2, 3, [.int .i64 m]⟩, ⟨b5, 9, [.string (str (txV (b.drop a) m))]⟩]) w6 hc (Mem.res2 ((hM6.keep (by simp) : Mem w (ids r0) w6 [r0, [⟨b2, 3, [.int .i64 m]⟩, ⟨b5, 9, [.string (str ([]))]⟩]])) 0 1 rfl rfl (by decide)) hl (by kernel_rfl) (by intro h; have := hc.le; have := txN_le h; simp only [List.length_drop] at this; omega) (fun wc u hx hr => tx1_ok b2 b5 m u _ wc hx hr (by simp; omega))) rfl fun v8 w8 ⟨r8, rv8, hc8, ht8, hm8⟩ => ?_
 obtain rfl : rv8 = [⟨b2, 3, [.int .i64 m]⟩, ⟨b5, 9, [.string (str (cTx b a e m))]⟩] := by
  by_cases c : e = 0
  ·rw [if_pos c] at ht8; rw [ht8, cTx, if_pos c]
  rw [if_neg c] at ht8; (rw [ht8, cTx, if_neg c] <;> rfl)
 have hM8 : Mem w (ids r0) w8 [r8, [⟨b2, 3, [.int .i64 m]⟩], [⟨b5, 9, [.string (str (cTx b a e m))]⟩]] := (Mem.step2 (hM6.keep (by simp) : Mem w (ids r0) w6 [r0, [⟨b2, 3, [.int .i64 m]⟩, ⟨b5, 9, [.string (str ([]))]⟩]]) 0 1 rfl rfl (by decide) hm8).keep (by simp)
 have hcn := hc8
 refine h7 _ _ <| seq fun _ h9 => m_ld (v := .string (str (cTx b a e m))) hM8 (i := 2) (j := 0) rfl rfl rfl rfl <| mv <| h9 _ _ <| ⟨(.string (str (cTx b a e m))), rfl, ⟨rfl, _, hcn, hM8.keep (by simp)⟩⟩
theorem fail1_ok (bm : Nat) (m : Int) (u : Value) (w : World) (hr : Res w [⟨bm, 25, [.int .i64 m]⟩]) : Calls Try.prog 107 [u, .pointer (some ⟨bm, 0, none⟩)].toArray w (Rt fun r w' => r = .tuple #[.int .i64 ((0 : Nat) : Int), .int .i64 m] ∧ ∃ rv', rv' = [⟨bm, 25, [.int .i64 m]⟩] ∧ Mem w (ids [⟨bm, 25, [.int .i64 m]⟩]) w' [rv']) := by
 have hM0 : Mem w (ids [⟨bm, 25, [.int .i64 m]⟩]) w [[⟨bm, 25, [.int .i64 m]⟩]] := Mem.start hr
 refine calls_vc mixed Try.func107 rfl C107 (by simp [Try.ntmps107]) <| seq fun _ h1 => mv <| mv <| h1 _ _ <| seq fun _ h2 => ?_
 intro wd e1 e2 e3 e4
 have hd := Upd.same e1 e2 e3 e4 []
 have hM3 := hM0.pure hd
 clear e1 e2 e3 e4
 refine ⟨none, ?_⟩
 show vd _ _ _ _ _ _ _
 refine dmv <| dl (m_ld (v := .int .i64 m) hM3 (i := 0) (j := 0) rfl rfl rfl rfl <| ⟨rfl, dmv <| h2 _ _ <| ⟨(.tuple [.int .i64 0, .int .i64 m].toArray), rfl, ⟨rfl, _, rfl, hM3.keep (by simp)⟩⟩⟩)
theorem Fail_ok (bc : Nat) (b : List UInt8) (a : Nat) (e m : Int) (r0 : List Ent) (w : World) (hc : CurS bc b a e r0) (hr : Res w r0) (hl : b.length ≤ 140737488355328) : Calls Try.prog 88 [.pointer (some ⟨bc, 0, none⟩), .int .i64 m].toArray w (Rt fun _ w' => ∃ r', CurS bc b a (if e = 0 then m else e) r' ∧ Mem w (ids r0) w' [r']) := by
 have hM0 : Mem w (ids r0) w [r0] := Mem.start hr
 refine calls_vc mixed Try.func88 rfl C88 (by simp [Try.ntmps88]) <| seq fun _ h1 => m_bx (v := .int .i64 m) hM0 rfl rfl fun b2 w3 (hM3 : Mem w (ids r0) w3 [r0, [⟨b2, 25, [.int .i64 m]⟩]]) => h1 _ _ <| mv <| stp (v := .func (.func 107) [].toArray [.pointer (some ⟨b2, 0, none⟩)].toArray) (o_mkf rfl) <| m_call (reads_ok bc b a e r0 [⟨b2, 25, [.int .i64 m]⟩] 107 _ 0 m (fun rv => rv = [⟨b2, 25, [.int .i64 m]⟩]) w3 hc (Mem.res2 (hM3 : Mem w (ids r0) w3 [r0, [⟨b2, 25, [.int .i64 m]⟩]]) 0 1 rfl rfl (by decide)) hl (by kernel_rfl) (fun _ => hc.le) (fun wc u _ hr => fail1_ok b2 m u wc hr)) rfl fun v4 w4 ⟨r4, rv4, hc4, ht4, hm4⟩ => ?_
 obtain rfl : rv4 = [⟨b2, 25, [.int .i64 m]⟩] := by
  by_cases c : e = 0
  ·rw [if_pos c] at ht4; exact ht4
  rw [if_neg c] at ht4; exact ht4
 have hM4 : Mem w (ids r0) w4 [r4, [⟨b2, 25, [.int .i64 m]⟩]] := Mem.step2 (hM3 : Mem w (ids r0) w3 [r0, [⟨b2, 25, [.int .i64 m]⟩]]) 0 1 rfl rfl (by decide) hm4
 have hcn : CurS bc b a (if e = 0 then m else e) r4 := by simpa using hc4
 refine ⟨(.tuple [].toArray), rfl, ⟨_, hcn, hM4.keep (by simp)⟩⟩
