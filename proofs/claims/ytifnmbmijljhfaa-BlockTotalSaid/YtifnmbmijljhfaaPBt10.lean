/- Part 10 of the proof of what the last of these files says. -/
import Derived.Test.YtifnmbmijljhfaaPBt9
namespace Go.Proofs.Ytifnmbmijljhfaa.E
open Go
theorem best_yes {T : List UInt8} {k : Nat} (h : T.length ≤ 64 * (cand T k).length) (h2 : (bestF T k).2 < 0 ∨ (cand T k).length < (bestF T k).1.length) : bestF T (k + 1) = (cand T k, (k : Int)) := by
 show bestS _ _ _ = _; unfold bestS; rw [if_pos ⟨h, h2⟩]
theorem best_no {T : List UInt8} {k : Nat} (h : ¬ (T.length ≤ 64 * (cand T k).length ∧ ((bestF T k).2 < 0 ∨ (cand T k).length < (bestF T k).1.length))) : bestF T (k + 1) = bestF T k := by
 show bestS _ _ _ = _; unfold bestS; rw [if_neg h]
set_option maxRecDepth 100000 in
theorem codes_ok (w : World) : Calls Try.prog 26 [].toArray w (Rt fun r w' => r = .agg ([.func (.func 50) [].toArray [].toArray, .func (.func 51) [].toArray [].toArray, .func (.func 13) [].toArray [].toArray, .func (.func 11) [].toArray [].toArray, .func (.func 14) [].toArray [].toArray, .func (.func 12) [].toArray [].toArray] : List Value).toArray ∧ Upd [] w w') := by
 have hM0 : Mem w [] w [] := Mem.nil w []
 refine calls_vc mixed Try.func26 rfl C26 (by simp [Try.ntmps26]) <| seq fun _ h1 => m_al hM0 fun b2 w3 (hM3 : Mem w [] w3 [[⟨b2, 58, [.nilFunc, .nilFunc, .nilFunc, .nilFunc, .nilFunc, .nilFunc]⟩]]) => h1 _ _ <| seq fun _ h4 => stp (v := .agg ([.func (.func 50) [].toArray [].toArray, .func (.func 51) [].toArray [].toArray] : List Value).toArray) (o_bld rfl rfl) <| stp (v := .agg ([.func (.func 13) [].toArray [].toArray, .func (.func 11) [].toArray [].toArray] : List Value).toArray) (o_bld rfl rfl) <| stp (v := .agg ([.func (.func 14) [].toArray [].toArray, .func (.func 12) [].toArray [].toArray] : List Value).toArray) (o_bld rfl rfl) <| stp (v := .agg ([.func (.func 50) [].toArray [].toArray, .func (.func 51) [].toArray [].toArray, .func (.func 13) [].toArray [].toArray, .func (.func 11) [].toArray [].toArray, .func (.func 14) [].toArray [].toArray, .func (.func 12) [].toArray [].toArray] : List Value).toArray) (o_bld rfl rfl) <| m_stA (l := [.func (.func 50) [].toArray [].toArray, .func (.func 51) [].toArray [].toArray, .func (.func 13) [].toArray [].toArray, .func (.func 11) [].toArray [].toArray, .func (.func 14) [].toArray [].toArray, .func (.func 12) [].toArray [].toArray]) hM3 (i := 0) rfl rfl rfl rfl (by simp [oneCells, Value.oneCell', byteV]) (by simp) fun w5 (hM5 : Mem w [] w5 [[⟨b2, 58, [.func (.func 50) [].toArray [].toArray, .func (.func 51) [].toArray [].toArray, .func (.func 13) [].toArray [].toArray, .func (.func 11) [].toArray [].toArray, .func (.func 14) [].toArray [].toArray, .func (.func 12) [].toArray [].toArray]⟩]]) => h4 _ _ ?_
 show resV _ _ _ _ _
 refine res_cell (s := some 6) (by kernel_rfl) <| vl_ldA (cs := [.func (.func 50) [].toArray [].toArray, .func (.func 51) [].toArray [].toArray, .func (.func 13) [].toArray [].toArray, .func (.func 11) [].toArray [].toArray, .func (.func 14) [].toArray [].toArray, .func (.func 12) [].toArray [].toArray]) rfl rfl ((hM5.at (i := 0) (j := 0) rfl rfl).agg rfl rfl) <| ⟨(.agg ([.func (.func 50) [].toArray [].toArray, .func (.func 51) [].toArray [].toArray, .func (.func 13) [].toArray [].toArray, .func (.func 11) [].toArray [].toArray, .func (.func 14) [].toArray [].toArray, .func (.func 12) [].toArray [].toArray] : List Value).toArray), rfl, ⟨rfl, hM5.upd⟩⟩
theorem code1_ok (x : Value) (w : World) : Calls Try.prog 50 [x].toArray w (Rt fun r w' => r = .tuple [x, .int .i64 0].toArray ∧ Upd [] w w') := by
 have hM0 : Mem w [] w [] := Mem.nil w []
 refine calls_vc mixed Try.func50 rfl C50 (by simp [Try.ntmps50]) <| seq fun _ h1 => mv <| mv <| h1 _ _ <| seq fun _ h2 => mv <| mv <| mv <| h2 _ _ <| ⟨(.tuple [x, .int .i64 0].toArray), rfl, ⟨rfl, hM0.upd⟩⟩
theorem code2_ok (x : Value) (b : List UInt8) (n : Int) (w : World) (hx : RdE byteV w x b) (hl : b.length ≤ 140737488355328) : Calls Try.prog 51 [x, .int .i64 n].toArray w (Rt fun r w' => r = .tuple [if (b.length : Int) = n then x else .slice none 0 0, .int .i64 (if (b.length : Int) = n then 0 else 60)].toArray ∧ Upd [] w w') := by
 have hM0 : Mem w [] w [] := Mem.nil w []
 refine calls_vc mixed Try.func51 rfl C51 (by simp [Try.ntmps51]) <| seq fun _ h1 => mv <| mv <| h1 _ _ <| seq fun _ h2 => seq fun _ h3 => mv <| stp (v := .int .i64 (b.length : Nat)) (o_lenR (hx.upd hM0.upd) rfl rfl) <| mv <| bneq rfl rfl <| h3 _ _ <| cndP rfl (fun c4 => ?_) (fun c4 => ?_)
 ·refine seq fun _ h5 => mv <| mv <| h5 _ _ <| ⟨(.tuple [.slice none 0 0, .int .i64 60].toArray), rfl, ⟨by first | rw [if_pos (by omega), if_pos (by omega)] | rw [if_neg (by omega), if_neg (by omega)], hM0.upd⟩⟩
 refine h2 _ _ <| seq fun _ h6 => mv <| mv <| mv <| h6 _ _ <| ⟨(.tuple [x, .int .i64 0].toArray), rfl, ⟨by first | rw [if_pos (by omega), if_pos (by omega)] | rw [if_neg (by omega), if_neg (by omega)], hM0.upd⟩⟩
end Go.Proofs.Ytifnmbmijljhfaa.E
namespace Go.Proofs.Ytifnmbmijljhfaa.E
open Go
theorem best_lt {T : List UInt8} : ∀ k, (bestF T k).2 < (k : Nat)
 | 0 => by show (-1 : Int) < 0; omega
 | k + 1 => by
  have ih := best_lt (T := T) k
  show (bestS T (bestF T k) k).2 < _
  unfold bestS
  split
  ·show (k : Int) < _; omega
  omega
theorem cand_len {T : List UInt8} (h : T.length ≤ 65536) (k : Nat) : (cand T k).length ≤ 200000 := by
 unfold cand
 split
 ·omega
 split
 ·have := (lz_len h).1; omega
 exact (huff_len h).1
theorem best_len {T : List UInt8} (h : T.length ≤ 65536) : ∀ k, (bestF T k).1.length ≤ 200000
 | 0 => Nat.zero_le _
 | k + 1 => by
  have ih := best_len h k
  show (bestS T (bestF T k) k).1.length ≤ _
  unfold bestS
  split
  ·exact cand_len h k
  exact ih
theorem best_yes1 {T bl : List UInt8} {k : Nat} (hbl : bl = (bestF T k).1) (h : T.length ≤ 64 * (cand T k).length) (h2 : (cand T k).length < bl.length) : cand T k = (bestF T (k + 1)).1 ∧ (k : Int) = (bestF T (k + 1)).2 := by
 subst hbl
 rw [best_yes h (.inr h2)]; exact ⟨rfl, rfl⟩
theorem best_no1 {T bl : List UInt8} {k : Nat} {fl : Int} (hk : 0 < k) (hbl : bl = (bestF T k).1) (hfl : fl = (bestF T k).2) (h : ¬ (T.length ≤ 64 * (cand T k).length ∧ (cand T k).length < bl.length)) : bl = (bestF T (k + 1)).1 ∧ fl = (bestF T (k + 1)).2 := by
 subst hbl; subst hfl
 rw [best_no fun q => h ⟨q.1, q.2.resolve_left (by have := best_fl (T := T) k hk; omega)⟩]; exact ⟨rfl, rfl⟩
theorem seal_len (l : List UInt8) : (sealF l).length = l.length + 4 := by unfold sealF; rw [List.length_append, fixed_length]
theorem Finish_ok (bb R M : Nat) (raw : List UInt8) (st : List Int) (last : List UInt8) (n : Nat) (r0 : List Ent) (w : World) (hB : BldS bb R M raw st last n r0) (hr : Res w r0) (hR : 1 ≤ R ∧ R ≤ 64) (hn : 0 < n ∧ n ≤ 65536) (hl : (rawB R raw st n).length ≤ 65536) (hst : ∀ j, j < st.length → 0 ≤ st.getD j 0 ∧ st.getD j 0 ≤ 65536) : Calls Try.prog 24 [.pointer (some ⟨bb, 0, none⟩)].toArray w (Rt fun r w' => ∃ v rb rt, r = .tuple [v, .int .i64 ((rawB R raw st n).length : Nat), .int .i64 0].toArray ∧ SlE byteV 5 v (sealF ((bestF (rawB R raw st n) 3).1 ++ [(bestF (rawB R raw st n) 3).2.toNat.toUInt8])) rt ∧ BldS bb R M [] [] [] 0 rb ∧ Mem w (ids r0) w' [rb, rt]) := by
 obtain ⟨vr, vs, rr, rs, rfl, hvr, hvs⟩ := hB
 have hM0 : Mem w (ids (⟨bb, 98, [.int .i64 (R : Nat), .int .i64 (M : Nat), vr, vs, .string (str last), .int .i64 (n : Nat)]⟩ :: (rr ++ rs))) w [[⟨bb, 98, [.int .i64 (R : Nat), .int .i64 (M : Nat), vr, vs, .string (str last), .int .i64 (n : Nat)]⟩], rr, rs] := (Mem.start hr).keep (by simp)
 have hsl := starts_len st
 have hlen : (rawB R raw st n).length = raw.length + 4 * st.length + 8 := by unfold rawB; rw [List.length_append, List.length_append, List.length_append, fix4_len, fix4_len, starts_len]
 obtain ⟨hz1, hz⟩ := lz_len hl
 obtain ⟨hy1, hy⟩ := huff_len hl
 refine calls_vc mixed Try.func24 rfl C24 (by simp [Try.ntmps24]) <| seq fun _ h1 => mv <| mv <| mv <| h1 _ _ <| seq fun _ h2 => seq fun _ h3 => mv <| stp (v := .bool false) (o_isnil rfl rfl) <| h3 _ _ <| cndF rfl <| h2 _ _ <| seq fun _ h4 => ?_
 refine seq fun _ h5 => mv <| nilchk rfl <| fa rfl <| m_ld (v := .int .i64 (n : Nat)) hM0 (i := 0) (j := 0) rfl rfl rfl rfl <| bn rfl rfl <| h5 _ _ <| cndP rfl (fun c6 => absurd c6 (by omega)) (fun c6 => h4 _ _ <| seq fun _ h7 => m_bs hM0 rfl fun b8 w9 (hM9 : Mem w (ids (⟨bb, 98, [.int .i64 (R : Nat), .int .i64 (M : Nat), vr, vs, .string (str last), .int .i64 (n : Nat)]⟩ :: (rr ++ rs))) w9 [[⟨bb, 98, [.int .i64 (R : Nat), .int .i64 (M : Nat), vr, vs, .string (str last), .int .i64 (n : Nat)]⟩], rr, rs, [⟨b8, 5, []⟩]]) => mv <| nilchk rfl <| fa rfl ?_)
 refine m_ld (v := vr) hM9 (i := 0) (j := 0) rfl rfl rfl rfl ?_
 have hs10 : SlE byteV 5 (.slice (some ⟨b8, 0, none⟩) 0 0) [] [⟨b8, 5, []⟩] := SlE.lit (l := []) rfl
 refine m_appE hM9 (i := 3) rfl hs10 rfl rfl (hvr.rd hM9 (i := 1) rfl) (by first | omega | (simp; omega)) (by omega) fun v11 w11 r11 (hs11 : SlE byteV 5 v11 (raw) r11) (hM11 : Mem w (ids (⟨bb, 98, [.int .i64 (R : Nat), .int .i64 (M : Nat), vr, vs, .string (str last), .int .i64 (n : Nat)]⟩ :: (rr ++ rs))) w11 [[⟨bb, 98, [.int .i64 (R : Nat), .int .i64 (M : Nat), vr, vs, .string (str last), .int .i64 (n : Nat)]⟩], rr, rs, r11]) => mv <| h7 _ _ <| seq fun _ h12 => seq fun _ h13 => mv <| nilchk rfl <| fa rfl <| m_ld (v := vs) hM11 (i := 0) (j := 0) rfl rfl rfl rfl <| stp (v := .int .i64 (st.length : Nat)) (o_lenR (hvs.rd hM11 (i := 2) rfl) rfl rfl) <| mv <| h13 _ _ <| lp (n := fun _ _ => False) (ι := (Nat) × (Value) × (List Ent)) (fun ⟨j, y5_, r5_⟩ f w' => f 5 = y5_ ∧ f 33 = .int .i64 (j : Nat) ∧ f 0 = .pointer (some ⟨bb, 0, none⟩) ∧ f 31 = vs ∧ f 32 = .int .i64 (st.length : Nat) ∧ Mem w (ids (⟨bb, 98, [.int .i64 (R : Nat), .int .i64 (M : Nat), vr, vs, .string (str last), .int .i64 (n : Nat)]⟩ :: (rr ++ rs))) w' [[⟨bb, 98, [.int .i64 (R : Nat), .int .i64 (M : Nat), vr, vs, .string (str last), .int .i64 (n : Nat)]⟩], rr, rs, r5_] ∧ (j ≤ st.length) ∧ (SlE byteV 5 y5_ (raw ++ startsF (st.take j)) r5_)) (fun ⟨j, y5_, r5_⟩ => st.length - j) (0, v11, r11) ?_ ?_
 ·exact ⟨rfl, vi, rfl, rfl, vi, hM11.keep (by simp), by omega, by simpa [startsF] using hs11⟩
 rintro ⟨j, y5_, r5_⟩ f w14 ⟨e14_5, e14_33, e14_0, e14_31, e14_32, hM14, hj, hy5_⟩ K15 h15
 obtain ⟨frm, rfl⟩ := re5 e14_5 e14_33 e14_0 e14_31 e14_32
 refine seq fun _ h16 => bn rfl rfl <| h16 _ _ <| seq fun _ h17 => cndP rfl (fun c18 => ?_) (fun c18 => ?_)
 ·refine h17 _ _ <| seq fun _ h19 => seq fun _ h20 => m_idxE 0 (j := j) (hvs.rd hM14 (i := 2) rfl) rfl rfl (by omega) fun b21 o21 hp21 => ?_
  have hsj := starts_len (st.take j)
  rw [List.length_take] at hsj
  have hgj := hst j (by omega)
  have hla : (raw ++ startsF (st.take j)).length = raw.length + 4 * min j st.length := by rw [List.length_append, hsj]
  refine ld (v := .int .i64 (st.getD j 0)) rfl (hp21) <| mv <| h20 _ _ <| mv <| mv <| stp (v := .int .u64 (st.getD j 0)) (o_conv rfl (conv_u64 (hst j (by omega)).1 (by have := (hst j (by omega)).2; omega))) <| m_call (Fixed_ok (st.getD j 0) 4 (by simp only [inK]; omega) (by simp only [inK]; omega) w14) rfl fun v22 w22 ⟨rs22, hs22, hm22⟩ => ?_
  have hM22 : Mem w (ids (⟨bb, 98, [.int .i64 (R : Nat), .int .i64 (M : Nat), vr, vs, .string (str last), .int .i64 (n : Nat)]⟩ :: (rr ++ rs))) w22 [[⟨bb, 98, [.int .i64 (R : Nat), .int .i64 (M : Nat), vr, vs, .string (str last), .int .i64 (n : Nat)]⟩], rr, rs, r5_, rs22] := hM14.add hm22
  have hn22 := fixedI_len (v := (st.getD j 0)) (n := 4)
  refine m_appE hM22 (i := 3) rfl hy5_ rfl rfl (hs22.rd hM22 (i := 4) rfl) (by first | omega | (simp; omega)) (by omega) fun v23 w23 r23 (hs23 : SlE byteV 5 v23 ((raw ++ startsF (st.take j)) ++ (fixedI (st.getD j 0) 4)) r23) (hM23 : Mem w (ids (⟨bb, 98, [.int .i64 (R : Nat), .int .i64 (M : Nat), vr, vs, .string (str last), .int .i64 (n : Nat)]⟩ :: (rr ++ rs))) w23 [[⟨bb, 98, [.int .i64 (R : Nat), .int .i64 (M : Nat), vr, vs, .string (str last), .int .i64 (n : Nat)]⟩], rr, rs, r23, rs22]) => mv <| h19 _ _ <| stp (v := .int .i64 ((j : Nat) + 1)) (o_bin rfl rfl (v_add64 (by omega))) <| mv <| h15 (j + 1, v23, r23) _ _ ⟨rfl, vi, rfl, rfl, vi, hM23.keep (by simp), by omega, by rw [starts_succ (by omega), ← List.append_assoc]; exact hs23⟩ (by (try dsimp only); omega)
 refine h12 _ _ <| seq fun _ h24 => ?_
 have hzj : startsF (st.take j) = startsF st := by rw [List.take_of_length_le (by omega)]
 rw [hzj] at hy5_
 have hlb : (raw ++ startsF st).length = raw.length + 4 * st.length := by rw [List.length_append, hsl]
 have hlc : (raw ++ startsF st ++ fixedI (R : Nat) 4).length = raw.length + 4 * st.length + 4 := by rw [List.length_append, hlb, fix4_len]
 have hld : (raw ++ startsF st ++ fixedI (R : Nat) 4 ++ fixedI (n : Nat) 4).length = (rawB R raw st n).length := rfl
 refine mv <| mv <| nilchk rfl <| fa rfl <| m_ld (v := .int .i64 (R : Nat)) hM14 (i := 0) (j := 0) rfl rfl rfl rfl <| stp (v := .int .u64 (R : Nat)) (o_conv rfl (conv_u64 (by omega) (by omega))) <| m_call (Fixed_ok (R : Nat) 4 (by simp only [inK]; omega) (by simp only [inK]; omega) w14) rfl fun v25 w25 ⟨rs25, hs25, hm25⟩ => ?_
 have hM25 : Mem w (ids (⟨bb, 98, [.int .i64 (R : Nat), .int .i64 (M : Nat), vr, vs, .string (str last), .int .i64 (n : Nat)]⟩ :: (rr ++ rs))) w25 [[⟨bb, 98, [.int .i64 (R : Nat), .int .i64 (M : Nat), vr, vs, .string (str last), .int .i64 (n : Nat)]⟩], rr, rs, r5_, rs25] := hM14.add hm25
 have hn25 := fixedI_len (v := (R : Nat)) (n := 4)
 refine m_appE hM25 (i := 3) rfl hy5_ rfl rfl (hs25.rd hM25 (i := 4) rfl) (by first | omega | (simp; omega)) (by omega) fun v26 w26 r26 (hs26 : SlE byteV 5 v26 ((raw ++ startsF st) ++ (fixedI (R : Nat) 4)) r26) (hM26 : Mem w (ids (⟨bb, 98, [.int .i64 (R : Nat), .int .i64 (M : Nat), vr, vs, .string (str last), .int .i64 (n : Nat)]⟩ :: (rr ++ rs))) w26 [[⟨bb, 98, [.int .i64 (R : Nat), .int .i64 (M : Nat), vr, vs, .string (str last), .int .i64 (n : Nat)]⟩], rr, rs, r26, rs25]) => mv <| h24 _ _ <| seq fun _ h27 => mv <| mv <| nilchk rfl <| fa rfl <| m_ld (v := .int .i64 (n : Nat)) hM26 (i := 0) (j := 0) rfl rfl rfl rfl <| stp (v := .int .u64 (n : Nat)) (o_conv rfl (conv_u64 (by omega) (by omega))) <| m_call (Fixed_ok (n : Nat) 4 (by simp only [inK]; omega) (by simp only [inK]; omega) w26) rfl fun v28 w28 ⟨rs28, hs28, hm28⟩ => ?_
 have hM28 : Mem w (ids (⟨bb, 98, [.int .i64 (R : Nat), .int .i64 (M : Nat), vr, vs, .string (str last), .int .i64 (n : Nat)]⟩ :: (rr ++ rs))) w28 [[⟨bb, 98, [.int .i64 (R : Nat), .int .i64 (M : Nat), vr, vs, .string (str last), .int .i64 (n : Nat)]⟩], rr, rs, r26, rs25, rs28] := hM26.add hm28
 have hn28 := fixedI_len (v := (n : Nat)) (n := 4)
 refine m_appE hM28 (i := 3) rfl hs26 rfl rfl (hs28.rd hM28 (i := 5) rfl) (by first | omega | (simp; omega)) (by omega) fun v29 w29 r29 (hs29 : SlE byteV 5 v29 (((raw ++ startsF st) ++ (fixedI (R : Nat) 4)) ++ (fixedI (n : Nat) 4)) r29) (hM29 : Mem w (ids (⟨bb, 98, [.int .i64 (R : Nat), .int .i64 (M : Nat), vr, vs, .string (str last), .int .i64 (n : Nat)]⟩ :: (rr ++ rs))) w29 [[⟨bb, 98, [.int .i64 (R : Nat), .int .i64 (M : Nat), vr, vs, .string (str last), .int .i64 (n : Nat)]⟩], rr, rs, r29, rs25, rs28]) => mv <| h27 _ _ <| seq fun _ h30 => mv <| h30 _ _ <| seq fun _ h31 => mv <| h31 _ _ <| seq fun _ h32 => seq fun _ h33 => m_call (codes_ok w29) rfl fun v34 w34 ⟨hr34, hu34⟩ => ?_
 have hM34 : Mem w (ids (⟨bb, 98, [.int .i64 (R : Nat), .int .i64 (M : Nat), vr, vs, .string (str last), .int .i64 (n : Nat)]⟩ :: (rr ++ rs))) w34 [[⟨bb, 98, [.int .i64 (R : Nat), .int .i64 (M : Nat), vr, vs, .string (str last), .int .i64 (n : Nat)]⟩], rr, rs, r29, rs25, rs28] := hM29.pure hu34
 subst hr34
 refine mv <| h33 _ _ <| lp (n := fun _ _ => False) (ι := (Nat) × (Value) × (List UInt8) × (Int) × (List Ent)) (fun ⟨k, x8, bl, fl, re⟩ f w' => f 60 = .int .i64 (k : Nat) ∧ f 8 = x8 ∧ f 9 = .int .i64 fl ∧ f 0 = .pointer (some ⟨bb, 0, none⟩) ∧ f 5 = v29 ∧ f 59 = .agg ([.func (.func 50) [].toArray [].toArray, .func (.func 51) [].toArray [].toArray, .func (.func 13) [].toArray [].toArray, .func (.func 11) [].toArray [].toArray, .func (.func 14) [].toArray [].toArray, .func (.func 12) [].toArray [].toArray] : List Value).toArray ∧ Mem w (ids (⟨bb, 98, [.int .i64 (R : Nat), .int .i64 (M : Nat), vr, vs, .string (str last), .int .i64 (n : Nat)]⟩ :: (rr ++ rs))) w' [[⟨bb, 98, [.int .i64 (R : Nat), .int .i64 (M : Nat), vr, vs, .string (str last), .int .i64 (n : Nat)]⟩], rr, rs, r29, re] ∧ (k ≤ 3) ∧ (∀ w2, (∀ e ∈ r29, Own w2 e) → (∀ e ∈ re, Own w2 e) → RdE byteV w2 x8 bl) ∧ (bl = (bestF (rawB R raw st n) k).1) ∧ (fl = (bestF (rawB R raw st n) k).2)) (fun ⟨k, x8, bl, fl, re⟩ => 3 - k) (0, .slice none 0 0, [], (-1), []) ?_ ?_
 ·exact ⟨vi, rfl, vi, rfl, rfl, by first | rfl | simp [upd], hM34.keep (by simp), by omega, fun _ _ _ => Rd.nilE byteV _, rfl, rfl⟩
 rintro ⟨k, x8, bl, fl, re⟩ f w35 ⟨e35_60, e35_8, e35_9, e35_0, e35_5, e35_59, hM35, hk, hb, hbl, hfl⟩ K36 h36
 obtain ⟨frm, rfl⟩ := re6 e35_60 e35_8 e35_9 e35_0 e35_5 e35_59
 refine seq fun _ h37 => bn rfl rfl <| h37 _ _ <| seq fun _ h38 => cndP rfl (fun c39 => ?_) (fun c39 => ?_)
 ·refine h38 _ _ <| seq fun _ h40 => seq fun _ h41 => ?_
  rcases (by omega : k = 0 ∨ k = 1 ∨ k = 2) with rfl | rfl | rfl
  ·refine mv <| stp (v := .agg ([.func (.func 50) [].toArray [].toArray, .func (.func 51) [].toArray [].toArray] : List Value).toArray) (o_idxv rfl rfl (by omega) rfl) <| m_al hM35 fun b42 w43 (hM43 : Mem w (ids (⟨bb, 98, [.int .i64 (R : Nat), .int .i64 (M : Nat), vr, vs, .string (str last), .int .i64 (n : Nat)]⟩ :: (rr ++ rs))) w43 [[⟨bb, 98, [.int .i64 (R : Nat), .int .i64 (M : Nat), vr, vs, .string (str last), .int .i64 (n : Nat)]⟩], rr, rs, r29, re, [⟨b42, 57, [.nilFunc, .nilFunc]⟩]]) => mv <| m_stA (l := [.func (.func 50) [].toArray [].toArray, .func (.func 51) [].toArray [].toArray]) hM43 (i := 5) rfl rfl rfl rfl (by simp [oneCells, Value.oneCell', byteV]) (by simp) fun w44 (hM44 : Mem w (ids (⟨bb, 98, [.int .i64 (R : Nat), .int .i64 (M : Nat), vr, vs, .string (str last), .int .i64 (n : Nat)]⟩ :: (rr ++ rs))) w44 [[⟨bb, 98, [.int .i64 (R : Nat), .int .i64 (M : Nat), vr, vs, .string (str last), .int .i64 (n : Nat)]⟩], rr, rs, r29, re, [⟨b42, 57, [.func (.func 50) [].toArray [].toArray, .func (.func 51) [].toArray [].toArray]⟩]]) => h41 _ _ <| seq fun _ h45 => fa rfl <| m_ld (v := .func (.func 50) [].toArray [].toArray) hM44 (i := 5) (j := 0) rfl rfl rfl rfl <| mv <| m_callv rfl (by kernel_rfl) (code1_ok v29 w44) rfl fun v46 w46 ⟨hr46, hu46⟩ => ?_
   have hM46 : Mem w (ids (⟨bb, 98, [.int .i64 (R : Nat), .int .i64 (M : Nat), vr, vs, .string (str last), .int .i64 (n : Nat)]⟩ :: (rr ++ rs))) w46 [[⟨bb, 98, [.int .i64 (R : Nat), .int .i64 (M : Nat), vr, vs, .string (str last), .int .i64 (n : Nat)]⟩], rr, rs, r29, re, [⟨b42, 57, [.func (.func 50) [].toArray [].toArray, .func (.func 51) [].toArray [].toArray]⟩]] := hM44.pure hu46
   subst hr46
   refine mv <| ext rfl rfl <| ext rfl rfl <| mv <| mv <| h45 _ _ <| seq fun _ h47 => mv <| stp (v := .bool true) (o_bin rfl rfl v_eqT) <| mv <| splitT rfl <| gmv rfl <| stg rfl (v := .int .i64 ((((raw ++ startsF st) ++ (fixedI (R : Nat) 4)) ++ (fixedI (n : Nat) 4)).length : Nat)) (o_lenR (hs29.rd hM46 (i := 3) rfl) rfl rfl) <| stg rfl (v := .int .i64 (64 * ((((raw ++ startsF st) ++ (fixedI (R : Nat) 4)) ++ (fixedI (n : Nat) 4)).length : Nat))) (o_bin rfl rfl (v_mul64 (by omega))) ?_
   refine gmv rfl <| stg rfl (v := .int .i64 ((((raw ++ startsF st) ++ (fixedI (R : Nat) 4)) ++ (fixedI (n : Nat) 4)).length : Nat)) (o_lenR (hs29.rd hM46 (i := 3) rfl) rfl rfl) <| gbn rfl rfl rfl <| pkT rfl <| mv <| splitP rfl (fun c48 => ?_) (fun c48 => (c48 (by omega)).elim)
   refine gmv rfl <| gbn rfl rfl rfl <| gmv rfl <| splitP rfl (fun c49 => ?_) (fun c49 => (c49 (by rw [hfl]; show (-1 : Int) < 0; omega)).elim)
   refine gx rfl <| gx rfl <| gx rfl <| gx rfl <| gx rfl <| gpkT rfl rfl <| pkT rfl <| h47 _ _ <| cndT rfl <| mv <| mv <| mv <| mv <| h40 _ _ ?_
   refine stp (v := .int .i64 ((0 : Nat) + 1)) (o_bin rfl rfl (v_add64 (by omega))) <| mv <| h36 (0 + 1, v29, (rawB R raw st n), 0, re) _ _ ⟨vi, rfl, vi, rfl, rfl, by first | rfl | simp [upd], hM46.keep (by simp), by omega, fun w2 h1 _ => (hs29).rdOwn h1, by rw [best_0], by rw [best_0]⟩ (by (try dsimp only); omega)
  ·refine mv <| stp (v := .agg ([.func (.func 13) [].toArray [].toArray, .func (.func 11) [].toArray [].toArray] : List Value).toArray) (o_idxv rfl rfl (by omega) rfl) <| m_al hM35 fun b50 w51 (hM51 : Mem w (ids (⟨bb, 98, [.int .i64 (R : Nat), .int .i64 (M : Nat), vr, vs, .string (str last), .int .i64 (n : Nat)]⟩ :: (rr ++ rs))) w51 [[⟨bb, 98, [.int .i64 (R : Nat), .int .i64 (M : Nat), vr, vs, .string (str last), .int .i64 (n : Nat)]⟩], rr, rs, r29, re, [⟨b50, 57, [.nilFunc, .nilFunc]⟩]]) => mv <| m_stA (l := [.func (.func 13) [].toArray [].toArray, .func (.func 11) [].toArray [].toArray]) hM51 (i := 5) rfl rfl rfl rfl (by simp [oneCells, Value.oneCell', byteV]) (by simp) fun w52 (hM52 : Mem w (ids (⟨bb, 98, [.int .i64 (R : Nat), .int .i64 (M : Nat), vr, vs, .string (str last), .int .i64 (n : Nat)]⟩ :: (rr ++ rs))) w52 [[⟨bb, 98, [.int .i64 (R : Nat), .int .i64 (M : Nat), vr, vs, .string (str last), .int .i64 (n : Nat)]⟩], rr, rs, r29, re, [⟨b50, 57, [.func (.func 13) [].toArray [].toArray, .func (.func 11) [].toArray [].toArray]⟩]]) => h41 _ _ <| seq fun _ h53 => fa rfl <| m_ld (v := .func (.func 13) [].toArray [].toArray) hM52 (i := 5) (j := 0) rfl rfl rfl rfl <| mv <| m_callv rfl (by kernel_rfl) (Lz.Encode_ok _ (rawB R raw st n) w52 (hs29.rd hM52 (i := 3) rfl) (by omega)) rfl fun v54 w54 ⟨y54, rs54, hr54, hs54, hm54⟩ => ?_
   have hM54 : Mem w (ids (⟨bb, 98, [.int .i64 (R : Nat), .int .i64 (M : Nat), vr, vs, .string (str last), .int .i64 (n : Nat)]⟩ :: (rr ++ rs))) w54 [[⟨bb, 98, [.int .i64 (R : Nat), .int .i64 (M : Nat), vr, vs, .string (str last), .int .i64 (n : Nat)]⟩], rr, rs, r29, re, [⟨b50, 57, [.func (.func 13) [].toArray [].toArray, .func (.func 11) [].toArray [].toArray]⟩], rs54] := hM52.add hm54
   subst hr54
   refine mv <| ext rfl rfl <| ext rfl rfl <| mv <| mv <| h53 _ _ <| seq fun _ h55 => mv <| bn rfl rfl <| mv <| splitP rfl (fun c56 => ?_) (fun c56 => (c56 (by omega)).elim)
   refine gmv rfl <| stg rfl (v := .int .i64 (((Lz.encF (rawB R raw st n)).1).length : Nat)) (o_lenR (hs54.rd hM54 (i := 6) rfl) rfl rfl) <| stg rfl (v := .int .i64 (64 * (((Lz.encF (rawB R raw st n)).1).length : Nat))) (o_bin rfl rfl (v_mul64 (by omega))) <| gmv rfl <| stg rfl (v := .int .i64 ((((raw ++ startsF st) ++ (fixedI (R : Nat) 4)) ++ (fixedI (n : Nat) 4)).length : Nat)) (o_lenR (hs29.rd hM54 (i := 3) rfl) rfl rfl) <| gbn rfl rfl rfl <| pkT rfl <| mv <| splitP rfl (fun c57 => ?_) (fun c57 => ?_)
   ·refine gmv rfl <| gbn rfl rfl rfl <| gmv rfl <| splitP rfl (fun c58 => absurd c58 (by have := best_fl (T := (rawB R raw st n)) 1 (by omega); omega)) (fun c58 => gmv rfl <| stg rfl (v := .int .i64 (((Lz.encF (rawB R raw st n)).1).length : Nat)) (o_lenR (hs54.rd hM54 (i := 6) rfl) rfl rfl) <| gmv rfl <| stg rfl (v := .int .i64 (bl.length : Nat)) (o_lenR (hb _ (hM54.res (i := 3) rfl).1 (hM54.res (i := 4) rfl).1) rfl rfl) <| gbn rfl rfl rfl <| gpkF rfl rfl <| pkT rfl <| h55 _ _ <| cndP rfl (fun c59 => ?_) (fun c59 => ?_))
    ·refine mv <| mv <| mv <| mv <| h40 _ _ <| stp (v := .int .i64 ((1 : Nat) + 1)) (o_bin rfl rfl (v_add64 (by omega))) <| mv <| h36 (1 + 1, y54, (Lz.encF (rawB R raw st n)).1, 1, re ++ rs54) _ _ ⟨vi, rfl, vi, rfl, rfl, by first | rfl | simp [upd], hM54.keep (by simp), by omega, fun w2 _ h2 => (hs54).rdOwn fun e he => h2 e (List.mem_append_right _ he), (best_yes1 (k := 1) hbl (by show _ ≤ 64 * (Lz.encF (rawB R raw st n)).1.length; omega) (by show (Lz.encF (rawB R raw st n)).1.length < _; omega)).1, (best_yes1 (k := 1) hbl (by show _ ≤ 64 * (Lz.encF (rawB R raw st n)).1.length; omega) (by show (Lz.encF (rawB R raw st n)).1.length < _; omega)).2⟩ (by (try dsimp only); omega)
    refine h40 _ _ <| stp (v := .int .i64 ((1 : Nat) + 1)) (o_bin rfl rfl (v_add64 (by omega))) <| mv <| h36 (1 + 1, x8, bl, fl, re) _ _ ⟨vi, rfl, vi, rfl, rfl, by first | rfl | simp [upd], hM54.keep (by simp), by omega, hb, (best_no1 (k := 1) (by omega) hbl hfl (by show ¬ (_ ≤ 64 * (Lz.encF (rawB R raw st n)).1.length ∧ (Lz.encF (rawB R raw st n)).1.length < _); omega)).1, (best_no1 (k := 1) (by omega) hbl hfl (by show ¬ (_ ≤ 64 * (Lz.encF (rawB R raw st n)).1.length ∧ (Lz.encF (rawB R raw st n)).1.length < _); omega)).2⟩ (by (try dsimp only); omega)
   refine gx rfl <| gx rfl <| gx rfl <| splitU rfl <| gnou rfl <| gnou rfl <| gnou rfl <| gnou rfl <| gnou rfl <| gx rfl <| pkF rfl <| h55 _ _ <| cndF rfl <| h40 _ _ <| stp (v := .int .i64 ((1 : Nat) + 1)) (o_bin rfl rfl (v_add64 (by omega))) <| mv <| h36 (1 + 1, x8, bl, fl, re) _ _ ⟨vi, rfl, vi, rfl, rfl, by first | rfl | simp [upd], hM54.keep (by simp), by omega, hb, (best_no1 (k := 1) (by omega) hbl hfl (by show ¬ (_ ≤ 64 * (Lz.encF (rawB R raw st n)).1.length ∧ (Lz.encF (rawB R raw st n)).1.length < _); omega)).1, (best_no1 (k := 1) (by omega) hbl hfl (by show ¬ (_ ≤ 64 * (Lz.encF (rawB R raw st n)).1.length ∧ (Lz.encF (rawB R raw st n)).1.length < _); omega)).2⟩ (by (try dsimp only); omega)
  refine mv <| stp (v := .agg ([.func (.func 14) [].toArray [].toArray, .func (.func 12) [].toArray [].toArray] : List Value).toArray) (o_idxv rfl rfl (by omega) rfl) <| m_al hM35 fun b60 w61 (hM61 : Mem w (ids (⟨bb, 98, [.int .i64 (R : Nat), .int .i64 (M : Nat), vr, vs, .string (str last), .int .i64 (n : Nat)]⟩ :: (rr ++ rs))) w61 [[⟨bb, 98, [.int .i64 (R : Nat), .int .i64 (M : Nat), vr, vs, .string (str last), .int .i64 (n : Nat)]⟩], rr, rs, r29, re, [⟨b60, 57, [.nilFunc, .nilFunc]⟩]]) => mv <| m_stA (l := [.func (.func 14) [].toArray [].toArray, .func (.func 12) [].toArray [].toArray]) hM61 (i := 5) rfl rfl rfl rfl (by simp [oneCells, Value.oneCell', byteV]) (by simp) fun w62 (hM62 : Mem w (ids (⟨bb, 98, [.int .i64 (R : Nat), .int .i64 (M : Nat), vr, vs, .string (str last), .int .i64 (n : Nat)]⟩ :: (rr ++ rs))) w62 [[⟨bb, 98, [.int .i64 (R : Nat), .int .i64 (M : Nat), vr, vs, .string (str last), .int .i64 (n : Nat)]⟩], rr, rs, r29, re, [⟨b60, 57, [.func (.func 14) [].toArray [].toArray, .func (.func 12) [].toArray [].toArray]⟩]]) => h41 _ _ <| seq fun _ h63 => fa rfl <| m_ld (v := .func (.func 14) [].toArray [].toArray) hM62 (i := 5) (j := 0) rfl rfl rfl rfl <| mv <| m_callv rfl (by kernel_rfl) (Hf.Encode_ok _ (rawB R raw st n) w62 (hs29.rd hM62 (i := 3) rfl) (by omega)) rfl fun v64 w64 ⟨y64, rs64, hr64, hs64, hm64⟩ => ?_
  have hM64 : Mem w (ids (⟨bb, 98, [.int .i64 (R : Nat), .int .i64 (M : Nat), vr, vs, .string (str last), .int .i64 (n : Nat)]⟩ :: (rr ++ rs))) w64 [[⟨bb, 98, [.int .i64 (R : Nat), .int .i64 (M : Nat), vr, vs, .string (str last), .int .i64 (n : Nat)]⟩], rr, rs, r29, re, [⟨b60, 57, [.func (.func 14) [].toArray [].toArray, .func (.func 12) [].toArray [].toArray]⟩], rs64] := hM62.add hm64
  subst hr64
  refine mv <| ext rfl rfl <| ext rfl rfl <| mv <| mv <| h63 _ _ <| seq fun _ h65 => mv <| bn rfl rfl <| mv <| splitP rfl (fun c66 => ?_) (fun c66 => (c66 (by omega)).elim)
  refine gmv rfl <| stg rfl (v := .int .i64 (((Hf.encR (rawB R raw st n)).1).length : Nat)) (o_lenR (hs64.rd hM64 (i := 6) rfl) rfl rfl) <| stg rfl (v := .int .i64 (64 * (((Hf.encR (rawB R raw st n)).1).length : Nat))) (o_bin rfl rfl (v_mul64 (by omega))) <| gmv rfl <| stg rfl (v := .int .i64 ((((raw ++ startsF st) ++ (fixedI (R : Nat) 4)) ++ (fixedI (n : Nat) 4)).length : Nat)) (o_lenR (hs29.rd hM64 (i := 3) rfl) rfl rfl) <| gbn rfl rfl rfl <| pkT rfl <| mv <| splitP rfl (fun c67 => ?_) (fun c67 => ?_)
  ·refine gmv rfl <| gbn rfl rfl rfl <| gmv rfl <| splitP rfl (fun c68 => absurd c68 (by have := best_fl (T := (rawB R raw st n)) 2 (by omega); omega)) (fun c68 => gmv rfl <| stg rfl (v := .int .i64 (((Hf.encR (rawB R raw st n)).1).length : Nat)) (o_lenR (hs64.rd hM64 (i := 6) rfl) rfl rfl) <| gmv rfl <| stg rfl (v := .int .i64 (bl.length : Nat)) (o_lenR (hb _ (hM64.res (i := 3) rfl).1 (hM64.res (i := 4) rfl).1) rfl rfl) <| gbn rfl rfl rfl <| gpkF rfl rfl <| pkT rfl <| h65 _ _ <| cndP rfl (fun c69 => ?_) (fun c69 => ?_))
   ·refine mv <| mv <| mv <| mv <| h40 _ _ <| stp (v := .int .i64 ((2 : Nat) + 1)) (o_bin rfl rfl (v_add64 (by omega))) <| mv <| h36 (2 + 1, y64, (Hf.encR (rawB R raw st n)).1, 2, re ++ rs64) _ _ ⟨vi, rfl, vi, rfl, rfl, by first | rfl | simp [upd], hM64.keep (by simp), by omega, fun w2 _ h2 => (hs64).rdOwn fun e he => h2 e (List.mem_append_right _ he), (best_yes1 (k := 2) hbl (by show _ ≤ 64 * (Hf.encR (rawB R raw st n)).1.length; omega) (by show (Hf.encR (rawB R raw st n)).1.length < _; omega)).1, (best_yes1 (k := 2) hbl (by show _ ≤ 64 * (Hf.encR (rawB R raw st n)).1.length; omega) (by show (Hf.encR (rawB R raw st n)).1.length < _; omega)).2⟩ (by (try dsimp only); omega)
   refine h40 _ _ <| stp (v := .int .i64 ((2 : Nat) + 1)) (o_bin rfl rfl (v_add64 (by omega))) <| mv <| h36 (2 + 1, x8, bl, fl, re) _ _ ⟨vi, rfl, vi, rfl, rfl, by first | rfl | simp [upd], hM64.keep (by simp), by omega, hb, (best_no1 (k := 2) (by omega) hbl hfl (by show ¬ (_ ≤ 64 * (Hf.encR (rawB R raw st n)).1.length ∧ (Hf.encR (rawB R raw st n)).1.length < _); omega)).1, (best_no1 (k := 2) (by omega) hbl hfl (by show ¬ (_ ≤ 64 * (Hf.encR (rawB R raw st n)).1.length ∧ (Hf.encR (rawB R raw st n)).1.length < _); omega)).2⟩ (by (try dsimp only); omega)
  refine gx rfl <| gx rfl <| gx rfl <| splitU rfl <| gnou rfl <| gnou rfl <| gnou rfl <| gnou rfl <| gnou rfl <| gx rfl <| pkF rfl <| h65 _ _ <| cndF rfl <| h40 _ _ <| stp (v := .int .i64 ((2 : Nat) + 1)) (o_bin rfl rfl (v_add64 (by omega))) <| mv <| h36 (2 + 1, x8, bl, fl, re) _ _ ⟨vi, rfl, vi, rfl, rfl, by first | rfl | simp [upd], hM64.keep (by simp), by omega, hb, (best_no1 (k := 2) (by omega) hbl hfl (by show ¬ (_ ≤ 64 * (Hf.encR (rawB R raw st n)).1.length ∧ (Hf.encR (rawB R raw st n)).1.length < _); omega)).1, (best_no1 (k := 2) (by omega) hbl hfl (by show ¬ (_ ≤ 64 * (Hf.encR (rawB R raw st n)).1.length ∧ (Hf.encR (rawB R raw st n)).1.length < _); omega)).2⟩ (by (try dsimp only); omega)
 refine h32 _ _ <| seq fun _ h70 => ?_
 obtain rfl : k = 3 := by omega
 have hbn := best_len hl 3
 rw [← hbl] at hbn
 have hf0 := best_fl (T := (rawB R raw st n)) 3 (by omega)
 have hf1 := best_lt (T := (rawB R raw st n)) 3
 rw [← hfl] at hf0 hf1
 refine m_bs hM35 rfl fun b71 w72 (hM72 : Mem w (ids (⟨bb, 98, [.int .i64 (R : Nat), .int .i64 (M : Nat), vr, vs, .string (str last), .int .i64 (n : Nat)]⟩ :: (rr ++ rs))) w72 [[⟨bb, 98, [.int .i64 (R : Nat), .int .i64 (M : Nat), vr, vs, .string (str last), .int .i64 (n : Nat)]⟩], rr, rs, r29, re, [⟨b71, 5, []⟩]]) => mv ?_
 have hs73 : SlE byteV 5 (.slice (some ⟨b71, 0, none⟩) 0 0) [] [⟨b71, 5, []⟩] := SlE.lit (l := []) rfl
 refine m_appE hM72 (i := 5) rfl hs73 rfl rfl (hb _ (hM72.res (i := 3) rfl).1 (hM72.res (i := 4) rfl).1) (by first | omega | (simp; omega)) (by omega) fun v74 w74 r74 (hs74 : SlE byteV 5 v74 (bl) r74) (hM74 : Mem w (ids (⟨bb, 98, [.int .i64 (R : Nat), .int .i64 (M : Nat), vr, vs, .string (str last), .int .i64 (n : Nat)]⟩ :: (rr ++ rs))) w74 [[⟨bb, 98, [.int .i64 (R : Nat), .int .i64 (M : Nat), vr, vs, .string (str last), .int .i64 (n : Nat)]⟩], rr, rs, r29, re, r74]) => mv <| stp (v := .int .u8 (fl % 256)) (o_conv rfl (v_u8 _)) <| m_app1 (E := byteV) (q := (fl % 256).toNat.toUInt8) hM74 (i := 5) rfl hs74 rfl (by simp) (byteV_of (by omega) (by omega)) (by omega) (by omega) fun v75 w75 r75 u75 (hs75 : SlE byteV 5 v75 (bl ++ [(fl % 256).toNat.toUInt8]) r75) (hM75 : Mem w (ids (⟨bb, 98, [.int .i64 (R : Nat), .int .i64 (M : Nat), vr, vs, .string (str last), .int .i64 (n : Nat)]⟩ :: (rr ++ rs))) w75 [[⟨bb, 98, [.int .i64 (R : Nat), .int .i64 (M : Nat), vr, vs, .string (str last), .int .i64 (n : Nat)]⟩], rr, rs, r29, re, r75]) => m_call (pSeal_ok _ (bl ++ [(fl % 256).toNat.toUInt8]) w75 (hs75.rd hM75 (i := 5) rfl) (by first | omega | (simp only [List.length_append, List.length_singleton]; omega))) rfl fun v76 w76 ⟨rs76, hs76, hm76⟩ => ?_
 have hM76 : Mem w (ids (⟨bb, 98, [.int .i64 (R : Nat), .int .i64 (M : Nat), vr, vs, .string (str last), .int .i64 (n : Nat)]⟩ :: (rr ++ rs))) w76 [[⟨bb, 98, [.int .i64 (R : Nat), .int .i64 (M : Nat), vr, vs, .string (str last), .int .i64 (n : Nat)]⟩], rr, rs, r29, re, r75, rs76] := hM75.add hm76
 have hsl76 := seal_len (bl ++ [(fl % 256).toNat.toUInt8])
 refine mv <| h70 _ _ <| seq fun _ h77 => ?_
 intro wd e1 e2 e3 e4
 have hd := Upd.same e1 e2 e3 e4 []
 have hM78 := hM76.pure hd
 clear e1 e2 e3 e4
 refine ⟨(some []), ?_⟩
 show vd _ _ _ _ _ _ _
 refine dmv <| dmv <| dq (v := .pointer (some ⟨bb, 0, none⟩)) (o_nilchk rfl rfl) <| dfa rfl <| dmv <| dq (v := .pointer (some ⟨bb, 0, none⟩)) (o_nilchk rfl rfl) <| dfa rfl ?_
 show _ ∧ _
 refine ⟨?_, ?_⟩
 ·show vd _ _ _ _ _ _ _
  refine dl (m_ld (v := .int .i64 (R : Nat)) hM78 (i := 0) (j := 0) rfl rfl rfl rfl <| ⟨(fun b hb => by cases hb), dl (m_ld (v := .int .i64 (M : Nat)) hM78 (i := 0) (j := 0) rfl rfl rfl rfl <| ⟨(fun b hb => by cases hb), dq (v := .agg ([.int .i64 (R : Nat), .int .i64 (M : Nat), .slice none 0 0, .slice none 0 0, .string (str ([])), .int .i64 0] : List Value).toArray) (o_bld rfl rfl) <| dq (v := .pointer (some ⟨bb, 0, none⟩)) (o_nilchk rfl rfl) <| dl (m_stA (l := [.int .i64 (R : Nat), .int .i64 (M : Nat), .slice none 0 0, .slice none 0 0, .string (str ([])), .int .i64 0]) hM78 (i := 0) rfl rfl rfl rfl (by simp [oneCells, Value.oneCell', byteV]) (by simp) fun w79 (hM79 : Mem w (ids (⟨bb, 98, [.int .i64 (R : Nat), .int .i64 (M : Nat), vr, vs, .string (str last), .int .i64 (n : Nat)]⟩ :: (rr ++ rs))) w79 [[⟨bb, 98, [.int .i64 (R : Nat), .int .i64 (M : Nat), .slice none 0 0, .slice none 0 0, .string (str ([])), .int .i64 0]⟩], rr, rs, r29, re, r75, rs76]) => ⟨(fun b hb => by cases hb), h77 _ _ <| seq fun _ h80 => mv <| mv <| stp (v := .int .i64 ((((raw ++ startsF st) ++ (fixedI (R : Nat) 4)) ++ (fixedI (n : Nat) 4)).length : Nat)) (o_lenR (hs29.rd hM79 (i := 3) rfl) rfl rfl) <| mv ?_⟩)⟩)⟩)
  refine mv <| mv <| h80 _ _ <| ⟨(.tuple [v76, .int .i64 ((((raw ++ startsF st) ++ (fixedI (R : Nat) 4)) ++ (fixedI (n : Nat) 4)).length : Nat), .int .i64 0].toArray), rfl, ?_⟩
  have hfm : fl % 256 = fl := by omega
  rw [hfm, hbl, hfl] at hs76
  exact ⟨_, _, _, rfl, hs76, ⟨_, _, [], [], rfl, Sl.nil 1 5, Sl.nil 1 3⟩, hM79.keep (by simp; repeat first | exact List.Sublist.refl _ | refine List.Sublist.trans ?_ (List.sublist_append_right _ _))⟩
 show vd _ _ _ _ _ _ _
 refine dl (m_ld (v := .int .i64 (M : Nat)) hM78 (i := 0) (j := 0) rfl rfl rfl rfl <| ⟨(fun b hb => by cases hb), dl (m_ld (v := .int .i64 (R : Nat)) hM78 (i := 0) (j := 0) rfl rfl rfl rfl <| ⟨(fun b hb => by cases hb), dq (v := .agg ([.int .i64 (R : Nat), .int .i64 (M : Nat), .slice none 0 0, .slice none 0 0, .string (str ([])), .int .i64 0] : List Value).toArray) (o_bld rfl rfl) <| dq (v := .pointer (some ⟨bb, 0, none⟩)) (o_nilchk rfl rfl) <| dl (m_stA (l := [.int .i64 (R : Nat), .int .i64 (M : Nat), .slice none 0 0, .slice none 0 0, .string (str ([])), .int .i64 0]) hM78 (i := 0) rfl rfl rfl rfl (by simp [oneCells, Value.oneCell', byteV]) (by simp) fun w81 (hM81 : Mem w (ids (⟨bb, 98, [.int .i64 (R : Nat), .int .i64 (M : Nat), vr, vs, .string (str last), .int .i64 (n : Nat)]⟩ :: (rr ++ rs))) w81 [[⟨bb, 98, [.int .i64 (R : Nat), .int .i64 (M : Nat), .slice none 0 0, .slice none 0 0, .string (str ([])), .int .i64 0]⟩], rr, rs, r29, re, r75, rs76]) => ⟨(fun b hb => by cases hb), h77 _ _ <| seq fun _ h82 => mv <| mv <| stp (v := .int .i64 ((((raw ++ startsF st) ++ (fixedI (R : Nat) 4)) ++ (fixedI (n : Nat) 4)).length : Nat)) (o_lenR (hs29.rd hM81 (i := 3) rfl) rfl rfl) <| mv <| mv <| mv <| h82 _ _ <| ⟨(.tuple [v76, .int .i64 ((((raw ++ startsF st) ++ (fixedI (R : Nat) 4)) ++ (fixedI (n : Nat) 4)).length : Nat), .int .i64 0].toArray), rfl, ?_⟩⟩)⟩)⟩)
 have hfm : fl % 256 = fl := by omega
 rw [hfm, hbl, hfl] at hs76
 exact ⟨_, _, _, rfl, hs76, ⟨_, _, [], [], rfl, Sl.nil 1 5, Sl.nil 1 3⟩, hM81.keep (by simp; repeat first | exact List.Sublist.refl _ | refine List.Sublist.trans ?_ (List.sublist_append_right _ _))⟩
end Go.Proofs.Ytifnmbmijljhfaa.E
namespace Go.Proofs.Ytifnmbmijljhfaa.E
open Go
def NumQ (b : List UInt8) (a : Nat) (e m V : Int) (a' : Nat) (e' : Int) : Prop := (0 ≤ V ∧ V ≤ m) ∧ (e' = 0 → e = 0 ∧ b.drop a = putI V ++ b.drop a') ∧ (∀ v R, e = 0 → b.drop a = putI v ++ R → 0 ≤ v → v ≤ m → v ≤ 9223372036854775807 → V = v ∧ e' = 0 ∧ b.drop a' = R) ∧ (e' = 22 → e = 22)
def TkQ (b : List UInt8) (a : Nat) (e n : Int) (T : List UInt8) (a' : Nat) (e' : Int) : Prop := T.length ≤ b.length ∧ (e' = 0 → e = 0 ∧ b.drop a = T ++ b.drop a' ∧ (T.length : Int) = n) ∧ (∀ t R, e = 0 → b.drop a = t ++ R → (t.length : Int) = n → T = t ∧ e' = 0 ∧ b.drop a' = R) ∧ (e' = 22 → e = 22)
theorem getA_er3 : ∀ (l : List UInt8) (i v : Nat), (getA i v l).2.2 = 0 ∨ (getA i v l).2.2 = 20 ∨ (getA i v l).2.2 = 21
 | [], _, _ => by simp [getA]
 | c :: r, i, v => by
  rw [getA]
  split
  ·simp
  split
  ·split <;> simp
  exact getA_er3 r _ _
theorem cNum_Q (b : List UInt8) (a : Nat) (e m : Int) (hm : 0 ≤ m) : NumQ b a e m (cNum b a e m) (cNumA b a e m) (cNumE b a e m) := by
 have he : ∀ l, numE l m = 0 ∨ numE l m = 20 ∨ numE l m = 21 ∨ numE l m = 23 := fun l => by
  have := getA_er3 l 0 0
  unfold numE get
  split
  ·split <;> omega
  omega
 refine ⟨?_, ?_, ?_, ?_⟩
 ·unfold cNum
  split
  ·unfold numV
   split
   ·rename_i h
    refine ⟨by omega, ?_⟩
    apply Decidable.byContradiction; intro k
    unfold numE at h
    rw [if_pos (numE_get (m := m) (by unfold numE; exact h)), if_pos (by omega)] at h
    omega
   omega
  omega
 ·intro h
  unfold cNumE at h
  split at h
  ·rename_i c
   refine ⟨c, ?_⟩
   have hg := get_ok (numE_get h)
   subst c
   have hA : cNumA b a 0 m = a + (get (b.drop a)).2.1 := by simp only [cNumA, if_pos]; rw [if_pos ⟨trivial, h⟩]
   have hV : cNum b a 0 m = ((get (b.drop a)).1 : Nat) := by simp only [cNum, if_pos, numV]; rw [if_pos h]
   rw [hA, hV, hg.2.2, ← List.drop_drop, List.take_append_drop]
  exact absurd h (by assumption)
 ·rintro v R rfl h h0 hv h9
  have hg := get_put h0 h9 R
  rw [← h] at hg
  have hE : numE (b.drop a) m = 0 := by unfold numE; rw [hg]; simp only [if_pos]; rw [if_neg (by omega)]
  have hA : cNumA b a 0 m = a + (putI v).length := by simp only [cNumA, if_pos]; rw [if_pos ⟨trivial, hE⟩, hg]
  refine ⟨?_, ?_, ?_⟩
  ·simp only [cNum, if_pos, numV]; rw [if_pos hE, hg]; simp only []; omega
  ·simp only [cNumE, if_pos]; exact hE
  rw [hA, ← List.drop_drop, h, List.drop_left]
 intro h
 unfold cNumE at h
 split at h
 ·have := he (b.drop a); omega
 exact h
theorem cTk_Q (b : List UInt8) (a : Nat) (e n : Int) : TkQ b a e n (cTk b a e n) (cTkA b a e n) (cTkE b a e n) := by
 refine ⟨?_, ?_, ?_, ?_⟩
 ·unfold cTk tkV
  split
  ·split
   ·rw [List.length_take, List.length_drop]; omega
   simp
  simp
 ·intro h
  unfold cTkE at h
  split at h
  ·rename_i c
   subst c
   have hN := tkN_n h
   have hL := tkN_le h
   have hA : cTkA b a 0 n = a + tkN (b.drop a) n := by simp only [cTkA, if_pos]; rw [if_pos ⟨trivial, h⟩]
   have hT : cTk b a 0 n = (b.drop a).take (tkN (b.drop a) n) := by simp only [cTk, if_pos]; unfold tkV; rw [if_pos h, show n.toNat = tkN (b.drop a) n by omega]
   refine ⟨rfl, ?_, ?_⟩
   ·rw [hA, hT, ← List.drop_drop, List.take_append_drop]
   rw [hT, List.length_take]; omega
  exact absurd h (by assumption)
 ·rintro t R rfl h hn
  have hl := congrArg List.length h
  rw [List.length_append] at hl
  have hf := tk_fine (l := b.drop a) (n := n) (by omega) (by omega)
  refine ⟨?_, ?_, ?_⟩
  ·simp only [cTk, if_pos]; rw [hf.2, h, show n.toNat = t.length by omega, List.take_left]
  ·simp only [cTkE, if_pos]; exact hf.1
  have hA : cTkA b a 0 n = a + t.length := by
   simp only [cTkA, if_pos]; rw [if_pos ⟨trivial, hf.1⟩]
   have := tkN_n hf.1
   omega
  rw [hA, ← List.drop_drop, h, List.drop_left]
 intro h
 unfold cTkE at h
 split at h
 ·unfold tkE at h
  split at h
  ·omega
  split at h <;> omega
 exact h
theorem cur_tail {b : List UInt8} {a : Nat} {e : Int} (h22 : ¬ e = 22) : (¬ (endE b a e = 0 ∨ endE b a e = 22) ↔ ¬ e = 0) := by
 unfold endE
 split
 ·omega
 split <;> omega
def NextQ (b : List UInt8) (a : Nat) (key : List UInt8) (rs fi ok : Bool) (x1 x2 : List UInt8) (a' : Nat) (e' : Int) : Prop :=
 (ok = true → e' = 0 ∧ b.drop a = wrB (if rs = true then [] else key) x1 x2 ++ b.drop a' ∧ x1.length ≤ 1024 ∧ x2.length ≤ 1024 ∧ (¬ fi = true → 0 ≤ cmp x1 key)) ∧
 (∀ k v R, b.drop a = wrB (if rs = true then [] else key) k v ++ R → k.length ≤ 1024 → v.length ≤ 1024 → (¬ fi = true → 0 ≤ cmp k key) → ok = true ∧ x1 = k ∧ x2 = v ∧ b.drop a' = R)
structure Five (b : List UInt8) (a : Nat) (c o l : Int) (T U : List UInt8) (a' : Nat) (e' : Int) : Prop where
 c0 : 0 ≤ c ∧ c ≤ 1024
 o0 : 0 ≤ o ∧ o ≤ 1024
 l0 : 0 ≤ l ∧ l ≤ 1024
 snd : e' = 0 → b.drop a = putI c ++ (putI o ++ (putI l ++ (T ++ (U ++ b.drop a')))) ∧ (T.length : Int) = o ∧ (U.length : Int) = l
 cpl : ∀ A k v R, b.drop a = wrB A k v ++ R → k.length ≤ 1024 → v.length ≤ 1024 → c = (common A k : Nat) ∧ o = (k.length : Nat) - (common A k : Nat) ∧ l = (v.length : Nat) ∧ T = k.drop (common A k) ∧ U = v ∧ e' = 0 ∧ b.drop a' = R
 n22 : ¬ e' = 22
theorem Five.mk5 {b T U : List UInt8} {a a1 a2 a3 a4 a5 : Nat} {c o l e1 e2 e3 e4 e5 : Int} (h1 : NumQ b a 0 1024 c a1 e1) (h2 : NumQ b a1 e1 1024 o a2 e2) (h3 : NumQ b a2 e2 1024 l a3 e3) (h4 : TkQ b a3 e3 o T a4 e4) (h5 : TkQ b a4 e4 l U a5 e5) : Five b a c o l T U a5 e5 := by
 refine ⟨h1.1, h2.1, h3.1, fun h => ?_, fun A k v R h hk hv => ?_, fun h => ?_⟩
 ·obtain ⟨g4, q5, l5⟩ := h5.2.1 h
  obtain ⟨g3, q4, l4⟩ := h4.2.1 g4
  obtain ⟨g2, q3⟩ := h3.2.1 g3
  obtain ⟨g1, q2⟩ := h2.2.1 g2
  obtain ⟨_, q1⟩ := h1.2.1 g1
  exact ⟨by rw [q1, q2, q3, q4, q5], l4, l5⟩
 ·have hc := common_le A k
  unfold wrB at h
  simp only [List.append_assoc] at h
  obtain ⟨v1, g1, q1⟩ := h1.2.2.1 _ _ rfl h (by omega) (by omega) (by omega)
  obtain ⟨v2, g2, q2⟩ := h2.2.2.1 _ _ g1 q1 (by omega) (by omega) (by omega)
  obtain ⟨v3, g3, q3⟩ := h3.2.2.1 _ _ g2 q2 (by omega) (by omega) (by omega)
  obtain ⟨v4, g4, q4⟩ := h4.2.2.1 _ _ g3 q3 (by rw [List.length_drop]; omega)
  obtain ⟨v5, g5, q5⟩ := h5.2.2.1 _ _ g4 q4 (by omega)
  exact ⟨v1, v2, v3, v4, v5, g5, q5⟩
 have := h1.2.2.2 (h2.2.2.2 (h3.2.2.2 (h4.2.2.2 (h5.2.2.2 h)))); omega
section
variable {b T U key : List UInt8} {a a' : Nat} {c o l e' : Int} {rs fi : Bool} (hF : Five b a c o l T U a' e')
include hF
theorem Five.all {k v R : List UInt8} (h : b.drop a = wrB (if rs = true then [] else key) k v ++ R) (hk : k.length ≤ 1024) (hv : v.length ≤ 1024) : c ≤ (key.length : Nat) ∧ (rs = true → c = 0) ∧ c + o ≤ 1024 ∧ key.take c.toNat ++ T = k ∧ (¬ rs = true → c = (common key k : Nat)) ∧ U = v ∧ e' = 0 ∧ b.drop a' = R := by
 obtain ⟨h1, h2, h3, h4, h5, h6, h7⟩ := hF.cpl _ k v R h hk hv
 by_cases hr : rs = true
 ·rw [if_pos hr] at h1 h2 h4
  have h0 : common [] k = 0 := by cases k <;> rfl
  rw [h0] at h1 h2 h4
  refine ⟨by omega, fun _ => by omega, by omega, by rw [h4, show c.toNat = 0 by omega]; rfl, fun q => absurd hr q, h5, h6, h7⟩
 rw [if_neg hr] at h1 h2 h4
 have hc := common_le key k
 refine ⟨by omega, fun q => absurd q hr, by omega, ?_, fun _ => h1, h5, h6, h7⟩
 rw [h4, show c.toNat = common key k by omega, hc.2.2.1, List.take_append_drop]
theorem Five.no {x1 x2 : List UInt8} (h : ¬ (e' = 0 ∧ c ≤ (key.length : Nat) ∧ (rs = true → c = 0) ∧ c + o ≤ 1024 ∧ (¬ fi = true → 0 ≤ cmp (key.take c.toNat ++ T) key) ∧ (¬ rs = true → c = (common key (key.take c.toNat ++ T) : Nat)))) : NextQ b a key rs fi false x1 x2 a' e' := by
 refine ⟨fun q => absurd q Bool.false_ne_true, fun k v R hd hk hv hc => absurd ?_ h⟩
 obtain ⟨g1, g2, g3, g4, g5, g6, g7, g8⟩ := hF.all hd hk hv
 rw [g4]
 exact ⟨g7, g1, g2, g3, hc, g5⟩
theorem Five.yes (h : e' = 0 ∧ c ≤ (key.length : Nat) ∧ (rs = true → c = 0) ∧ c + o ≤ 1024 ∧ (¬ fi = true → 0 ≤ cmp (key.take c.toNat ++ T) key) ∧ (¬ rs = true → c = (common key (key.take c.toNat ++ T) : Nat))) : NextQ b a key rs fi true (key.take c.toNat ++ T) U a' e' := by
 obtain ⟨g1, g2, g3, g4, g5, g6⟩ := h
 obtain ⟨s1, s2, s3⟩ := hF.snd g1
 have hc0 := hF.c0
 have hl0 := hF.l0
 have hlen : (key.take c.toNat ++ T).length = c.toNat + T.length := by rw [List.length_append, List.length_take]; omega
 refine ⟨fun _ => ⟨g1, ?_, by omega, by omega, g5⟩, fun k v R hd hk hv hc => ?_⟩
 ·have hcm : (common (if rs = true then [] else key) (key.take c.toNat ++ T) : Int) = c := by
   by_cases hr : rs = true
   ·rw [if_pos hr, show common [] (key.take c.toNat ++ T) = 0 by cases (key.take c.toNat ++ T) <;> rfl]; have := g3 hr; omega
   rw [if_neg hr]; exact (g6 hr).symm
  unfold wrB
  rw [show common (if rs = true then [] else key) (key.take c.toNat ++ T) = c.toNat by omega, show ((c.toNat : Nat) : Int) = c by omega, hlen, show (((c.toNat + T.length : Nat) : Int) - c) = o by omega, s3, List.drop_left' (by rw [List.length_take]; omega), s1]
  simp only [List.append_assoc]
 obtain ⟨_, _, _, q4, _, q6, _, q8⟩ := hF.all hd hk hv
 exact ⟨rfl, q4, q6, q8⟩
end
end Go.Proofs.Ytifnmbmijljhfaa.E
namespace Go.Proofs.Ytifnmbmijljhfaa.E
open Go
theorem NumQ_ok (bc : Nat) (b : List UInt8) (a : Nat) (e m : Int) (r0 : List Ent) (w : World) (hc : CurS bc b a e r0) (hr : Res w r0) (hl : b.length ≤ 140737488355328) (hm : 0 ≤ m) : Calls Try.prog 55 [.pointer (some ⟨bc, 0, none⟩), .int .i64 m].toArray w (Rt fun r w' => ∃ V a' e' r', r = .int .i64 V ∧ NumQ b a e m V a' e' ∧ CurS bc b a' e' r' ∧ Mem w (ids r0) w' [r']) :=
 (Num_ok bc b a e m r0 w hc hr hl).mono fun en w2 h => h.elim fun v h => ⟨v, h.1, by
  obtain ⟨h1, r2, h2, h3⟩ := h.2
  exact ⟨_, _, _, r2, h1, cNum_Q b a e m hm, h2, h3⟩⟩
theorem TakeQ_ok (bc : Nat) (b : List UInt8) (a : Nat) (e m : Int) (r0 : List Ent) (w : World) (hc : CurS bc b a e r0) (hr : Res w r0) (hl : b.length ≤ 140737488355328) : Calls Try.prog 36 [.pointer (some ⟨bc, 0, none⟩), .int .i64 m].toArray w (Rt fun r w' => ∃ T a' e' r' rs, TkQ b a e m T a' e' ∧ CurS bc b a' e' r' ∧ SlE byteV 5 r T rs ∧ Mem w (ids r0) w' [r', rs]) :=
 (Take_ok bc b a e m r0 w hc hr hl).mono fun en w2 h => h.elim fun v h => ⟨v, h.1, by
  obtain ⟨r2, rs, h1, h2, h3⟩ := h.2
  exact ⟨_, _, _, r2, rs, cTk_Q b a e m, h1, h2, h3⟩⟩
set_option maxHeartbeats 8000000 in
set_option maxRecDepth 100000 in
theorem next_ok (bw bc : Nat) (b : List UInt8) (a : Nat) (key : List UInt8) (rs fi : Bool) (r0 : List Ent) (w : World) (hc : CurS bc b a 0 r0) (hr : Res w (⟨bw, 106, [.pointer (some ⟨bc, 0, none⟩), .string (str key)]⟩ :: r0)) (hl : b.length ≤ 140737488355328) (hk : key.length ≤ 1024) : Calls Try.prog 52 [.pointer (some ⟨bw, 0, none⟩), .bool rs, .bool fi].toArray w (Rt fun r w' => ∃ ok x1 x2 a' e' key' r', r = .tuple [.agg [.string (str x1), .string (str x2)].toArray, .bool ok].toArray ∧ NextQ b a key rs fi ok x1 x2 a' e' ∧ (ok = true → key' = x1 ∧ x1.length ≤ 1024) ∧ CurS bc b a' e' r' ∧ Mem w (ids (⟨bw, 106, [.pointer (some ⟨bc, 0, none⟩), .string (str key)]⟩ :: r0)) w' [[⟨bw, 106, [.pointer (some ⟨bc, 0, none⟩), .string (str key')]⟩], r']) := by
 have hM0 : Mem w (ids (⟨bw, 106, [.pointer (some ⟨bc, 0, none⟩), .string (str key)]⟩ :: r0)) w [[⟨bw, 106, [.pointer (some ⟨bc, 0, none⟩), .string (str key)]⟩], r0] := Mem.start2 hr
 refine calls_vc mixed Try.func52 rfl C52 (by simp [Try.ntmps52]) <| seq fun _ h1 => m_al hM0 fun b2 w3 (hM3 : Mem w (ids (⟨bw, 106, [.pointer (some ⟨bc, 0, none⟩), .string (str key)]⟩ :: r0)) w3 [[⟨bw, 106, [.pointer (some ⟨bc, 0, none⟩), .string (str key)]⟩], r0, [⟨b2, 100, [.string (str ([])), .string (str ([]))]⟩]]) => mv <| h1 _ _ <| seq fun _ h4 => mv <| nilchk rfl <| fa rfl <| m_ld (v := .pointer (some ⟨bc, 0, none⟩)) hM3 (i := 0) (j := 0) rfl rfl rfl rfl <| m_call (NumQ_ok _ b a 0 1024 r0 w3 hc (hM3.res (i := 1) rfl) (by first | omega | (simp; done) | (simp; omega)) (by omega)) rfl fun v5 w5 ⟨V5, a5_, e5_, r'5, hr5, hn5, hc5, hm5⟩ => ?_
 have hM5 : Mem w (ids (⟨bw, 106, [.pointer (some ⟨bc, 0, none⟩), .string (str key)]⟩ :: r0)) w5 [[⟨bw, 106, [.pointer (some ⟨bc, 0, none⟩), .string (str key)]⟩], r'5, [⟨b2, 100, [.string (str ([])), .string (str ([]))]⟩]] := hM3.step 1 rfl hm5
 subst hr5
 have hb5 := hn5.1
 refine mv <| h4 _ _ <| seq fun _ h6 => mv <| nilchk rfl <| fa rfl <| m_ld (v := .pointer (some ⟨bc, 0, none⟩)) hM5 (i := 0) (j := 0) rfl rfl rfl rfl <| m_call (NumQ_ok _ b a5_ e5_ 1024 r'5 w5 hc5 (hM5.res (i := 1) rfl) (by first | omega | (simp; done) | (simp; omega)) (by omega)) rfl fun v7 w7 ⟨V7, a7_, e7_, r'7, hr7, hn7, hc7, hm7⟩ => ?_
 have hM7 : Mem w (ids (⟨bw, 106, [.pointer (some ⟨bc, 0, none⟩), .string (str key)]⟩ :: r0)) w7 [[⟨bw, 106, [.pointer (some ⟨bc, 0, none⟩), .string (str key)]⟩], r'7, [⟨b2, 100, [.string (str ([])), .string (str ([]))]⟩]] := hM5.step 1 rfl hm7
 subst hr7
 have hb7 := hn7.1
 refine mv <| h6 _ _ <| seq fun _ h8 => mv <| nilchk rfl <| fa rfl <| m_ld (v := .pointer (some ⟨bc, 0, none⟩)) hM7 (i := 0) (j := 0) rfl rfl rfl rfl <| m_call (NumQ_ok _ b a7_ e7_ 1024 r'7 w7 hc7 (hM7.res (i := 1) rfl) (by first | omega | (simp; done) | (simp; omega)) (by omega)) rfl fun v9 w9 ⟨V9, a9_, e9_, r'9, hr9, hn9, hc9, hm9⟩ => ?_
 have hM9 : Mem w (ids (⟨bw, 106, [.pointer (some ⟨bc, 0, none⟩), .string (str key)]⟩ :: r0)) w9 [[⟨bw, 106, [.pointer (some ⟨bc, 0, none⟩), .string (str key)]⟩], r'9, [⟨b2, 100, [.string (str ([])), .string (str ([]))]⟩]] := hM7.step 1 rfl hm9
 subst hr9
 have hb9 := hn9.1
 refine mv <| h8 _ _ <| seq fun _ h10 => mv <| nilchk rfl <| fa rfl <| m_ld (v := .pointer (some ⟨bc, 0, none⟩)) hM9 (i := 0) (j := 0) rfl rfl rfl rfl <| mv <| m_call (TakeQ_ok _ b a9_ e9_ V7 r'9 w9 hc9 (hM9.res (i := 1) rfl) (by first | omega | (simp; done) | (simp; omega))) rfl fun v11 w11 ⟨T11, a11_, e11_, r'11, rs11, hk11, hc11, hs11, hm11⟩ => ?_
 have hM11 : Mem w (ids (⟨bw, 106, [.pointer (some ⟨bc, 0, none⟩), .string (str key)]⟩ :: r0)) w11 [[⟨bw, 106, [.pointer (some ⟨bc, 0, none⟩), .string (str key)]⟩], r'11, [⟨b2, 100, [.string (str ([])), .string (str ([]))]⟩], rs11] := hM9.stepAdd 1 rfl hm11
 have hb11 := hk11.1
 refine m_b2s rfl (hs11.rd hM11 (i := 3) rfl) <| mv <| h10 _ _ <| seq fun _ h12 => mv <| nilchk rfl <| fa rfl <| m_ld (v := .pointer (some ⟨bc, 0, none⟩)) hM11 (i := 0) (j := 0) rfl rfl rfl rfl <| mv <| m_call (TakeQ_ok _ b a11_ e11_ V9 r'11 w11 hc11 (hM11.res (i := 1) rfl) (by first | omega | (simp; done) | (simp; omega))) rfl fun v13 w13 ⟨T13, a13_, e13_, r'13, rs13, hk13, hc13, hs13, hm13⟩ => ?_
 have hM13 : Mem w (ids (⟨bw, 106, [.pointer (some ⟨bc, 0, none⟩), .string (str key)]⟩ :: r0)) w13 [[⟨bw, 106, [.pointer (some ⟨bc, 0, none⟩), .string (str key)]⟩], r'13, [⟨b2, 100, [.string (str ([])), .string (str ([]))]⟩], rs11, rs13] := hM11.stepAdd 1 rfl hm13
 have hb13 := hk13.1
 refine m_b2s rfl (hs13.rd hM13 (i := 4) rfl) <| stp (v := .agg ([.string (str ([])), .string (str T13)] : List Value).toArray) (o_bld rfl rfl) <| m_al hM13 fun b14 w15 (hM15 : Mem w (ids (⟨bw, 106, [.pointer (some ⟨bc, 0, none⟩), .string (str key)]⟩ :: r0)) w15 [[⟨bw, 106, [.pointer (some ⟨bc, 0, none⟩), .string (str key)]⟩], r'13, [⟨b2, 100, [.string (str ([])), .string (str ([]))]⟩], rs11, rs13, [⟨b14, 100, [.string (str ([])), .string (str ([]))]⟩]]) => m_stA (l := [.string (str ([])), .string (str T13)]) hM15 (i := 5) rfl rfl rfl rfl (by simp [oneCells, Value.oneCell', byteV]) (by simp) fun w16 (hM16 : Mem w (ids (⟨bw, 106, [.pointer (some ⟨bc, 0, none⟩), .string (str key)]⟩ :: r0)) w16 [[⟨bw, 106, [.pointer (some ⟨bc, 0, none⟩), .string (str key)]⟩], r'13, [⟨b2, 100, [.string (str ([])), .string (str ([]))]⟩], rs11, rs13, [⟨b14, 100, [.string (str ([])), .string (str T13)]⟩]]) => h12 _ _ <| seq fun _ h17 => seq fun _ h18 => mv <| nilchk rfl <| fa rfl <| m_ld (v := .pointer (some ⟨bc, 0, none⟩)) hM16 (i := 0) (j := 0) rfl rfl rfl rfl <| m_call (End_ok _ b a13_ e13_ r'13 w16 hc13 (hM16.res (i := 1) rfl)) rfl fun v19 w19 ⟨hr19, hm19⟩ => ?_
 have hM19 : Mem w (ids (⟨bw, 106, [.pointer (some ⟨bc, 0, none⟩), .string (str key)]⟩ :: r0)) w19 [[⟨bw, 106, [.pointer (some ⟨bc, 0, none⟩), .string (str key)]⟩], r'13, [⟨b2, 100, [.string (str ([])), .string (str ([]))]⟩], rs11, rs13, [⟨b14, 100, [.string (str ([])), .string (str T13)]⟩]] := hM16.step 1 rfl hm19
 subst hr19
 refine m_al hM19 fun b20 w21 (hM21 : Mem w (ids (⟨bw, 106, [.pointer (some ⟨bc, 0, none⟩), .string (str key)]⟩ :: r0)) w21 [[⟨bw, 106, [.pointer (some ⟨bc, 0, none⟩), .string (str key)]⟩], r'13, [⟨b2, 100, [.string (str ([])), .string (str ([]))]⟩], rs11, rs13, [⟨b14, 100, [.string (str ([])), .string (str T13)]⟩], [⟨b20, 110, [.int .i64 0, .int .i64 0]⟩]]) => m_stA (l := [.int .i64 (endE b a13_ e13_), .int .i64 (endA b a13_ e13_ : Nat)]) hM21 (i := 6) rfl rfl rfl rfl (by simp [oneCells, Value.oneCell', byteV]) (by simp) fun w22 (hM22 : Mem w (ids (⟨bw, 106, [.pointer (some ⟨bc, 0, none⟩), .string (str key)]⟩ :: r0)) w22 [[⟨bw, 106, [.pointer (some ⟨bc, 0, none⟩), .string (str key)]⟩], r'13, [⟨b2, 100, [.string (str ([])), .string (str ([]))]⟩], rs11, rs13, [⟨b14, 100, [.string (str ([])), .string (str T13)]⟩], [⟨b20, 110, [.int .i64 (endE b a13_ e13_), .int .i64 (endA b a13_ e13_ : Nat)]⟩]]) => h18 _ _ <| seq fun _ h23 => ?_
 have hF := Five.mk5 hn5 hn7 hn9 hk11 hk13
 have ht := cur_tail (b := b) (a := a13_) hF.n22
 refine fa rfl <| m_ld (v := .int .i64 (endE b a13_ e13_)) hM22 (i := 6) (j := 0) rfl rfl rfl rfl <| bneq rfl rfl <| mv <| splitP rfl (fun c24 => ?_) (fun c24 => ?_)
 ·refine gfa rfl rfl <| gyesl rfl <| m_ld (v := .int .i64 (endE b a13_ e13_)) hM22 (i := 6) (j := 0) rfl rfl rfl rfl <| gbneq rfl rfl rfl <| pkT rfl <| h23 _ _ <| cndP rfl (fun c25 => ?_) (fun c25 => ?_)
  ·refine seq fun _ h26 => stp (v := .agg ([.string (str ([])), .string (str ([]))] : List Value).toArray) (o_bld rfl rfl) <| m_stA (l := [.string (str ([])), .string (str ([]))]) hM22 (i := 2) rfl rfl rfl rfl (by simp [oneCells, Value.oneCell', byteV]) (by simp) fun w27 (hM27 : Mem w (ids (⟨bw, 106, [.pointer (some ⟨bc, 0, none⟩), .string (str key)]⟩ :: r0)) w27 [[⟨bw, 106, [.pointer (some ⟨bc, 0, none⟩), .string (str key)]⟩], r'13, [⟨b2, 100, [.string (str ([])), .string (str ([]))]⟩], rs11, rs13, [⟨b14, 100, [.string (str ([])), .string (str T13)]⟩], [⟨b20, 110, [.int .i64 (endE b a13_ e13_), .int .i64 (endA b a13_ e13_ : Nat)]⟩]]) => mv <| h26 _ _ ?_
   show resV _ _ _ _ _
   refine res_cell (s := some 2) (by kernel_rfl) <| vl_ldA (cs := [.string (str ([])), .string (str ([]))]) rfl rfl ((hM27.at (i := 2) (j := 0) rfl rfl).agg rfl rfl) <| res_tmp <| ⟨(.tuple [.agg ([.string (str ([])), .string (str ([]))] : List Value).toArray, .bool false].toArray), rfl, ⟨false, _, _, _, _, key, _, rfl, hF.no (fun q => ?_), fun q => absurd q Bool.false_ne_true, hc13, hM27.keep (by simp)⟩⟩
   obtain ⟨q1, q2, q3, q4, q5, q6⟩ := q
   omega
  refine h17 _ _ <| seq fun _ h28 => seq fun _ h29 => mv <| mv <| split rfl (fun c30 => ?_) (fun c30 => ?_)
  ·refine gmv rfl <| gbneq rfl rfl rfl <| pkT rfl <| mv <| splitP rfl (fun c31 => ?_) (fun c31 => ?_)
   ·refine gx rfl <| gx rfl <| gx rfl <| gx rfl <| gxl rfl <| gx rfl <| gx rfl <| pkT rfl <| mv <| splitT rfl <| gx rfl <| gx rfl <| gx rfl <| gx rfl ?_
    refine pkT rfl <| h29 _ _ <| cndT rfl <| seq fun _ h32 => stp (v := .agg ([.string (str ([])), .string (str ([]))] : List Value).toArray) (o_bld rfl rfl) <| m_stA (l := [.string (str ([])), .string (str ([]))]) hM22 (i := 2) rfl rfl rfl rfl (by simp [oneCells, Value.oneCell', byteV]) (by simp) fun w33 (hM33 : Mem w (ids (⟨bw, 106, [.pointer (some ⟨bc, 0, none⟩), .string (str key)]⟩ :: r0)) w33 [[⟨bw, 106, [.pointer (some ⟨bc, 0, none⟩), .string (str key)]⟩], r'13, [⟨b2, 100, [.string (str ([])), .string (str ([]))]⟩], rs11, rs13, [⟨b14, 100, [.string (str ([])), .string (str T13)]⟩], [⟨b20, 110, [.int .i64 (endE b a13_ e13_), .int .i64 (endA b a13_ e13_ : Nat)]⟩]]) => mv <| h32 _ _ ?_
    show resV _ _ _ _ _
    refine res_cell (s := some 2) (by kernel_rfl) <| vl_ldA (cs := [.string (str ([])), .string (str ([]))]) rfl rfl ((hM33.at (i := 2) (j := 0) rfl rfl).agg rfl rfl) <| res_tmp <| ⟨(.tuple [.agg ([.string (str ([])), .string (str ([]))] : List Value).toArray, .bool false].toArray), rfl, ⟨false, _, _, _, _, key, _, rfl, hF.no (fun q => ?_), fun q => absurd q Bool.false_ne_true, hc13, hM33.keep (by simp)⟩⟩
    obtain ⟨q1, q2, q3, q4, q5, q6⟩ := q
    have := q3 (by first | assumption | (simpa using ‹(!fi) = true›) | (simpa using ‹(!rs) = true›) | (simpa using ‹rs = false›) | (simpa using ‹fi = false›)); omega
   refine gmv rfl <| gmv rfl <| stg rfl (v := .pointer (some ⟨bw, 0, none⟩)) (o_nilchk rfl rfl) <| gfa rfl rfl <| gyesl rfl <| m_ld (v := .string (str key)) hM22 (i := 0) (j := 0) rfl rfl rfl rfl <| stg rfl (v := .int .i64 (key.length : Nat)) (o_lens rfl rfl) <| gbn rfl rfl rfl <| pkF rfl <| mv <| splitP rfl (fun c34 => ?_) (fun c34 => ?_)
   ·refine gx rfl <| gx rfl <| gx rfl <| gx rfl <| pkT rfl <| h29 _ _ <| cndT rfl <| seq fun _ h35 => stp (v := .agg ([.string (str ([])), .string (str ([]))] : List Value).toArray) (o_bld rfl rfl) <| m_stA (l := [.string (str ([])), .string (str ([]))]) hM22 (i := 2) rfl rfl rfl rfl (by simp [oneCells, Value.oneCell', byteV]) (by simp) fun w36 (hM36 : Mem w (ids (⟨bw, 106, [.pointer (some ⟨bc, 0, none⟩), .string (str key)]⟩ :: r0)) w36 [[⟨bw, 106, [.pointer (some ⟨bc, 0, none⟩), .string (str key)]⟩], r'13, [⟨b2, 100, [.string (str ([])), .string (str ([]))]⟩], rs11, rs13, [⟨b14, 100, [.string (str ([])), .string (str T13)]⟩], [⟨b20, 110, [.int .i64 (endE b a13_ e13_), .int .i64 (endA b a13_ e13_ : Nat)]⟩]]) => mv <| h35 _ _ ?_
    show resV _ _ _ _ _
    refine res_cell (s := some 2) (by kernel_rfl) <| vl_ldA (cs := [.string (str ([])), .string (str ([]))]) rfl rfl ((hM36.at (i := 2) (j := 0) rfl rfl).agg rfl rfl) <| res_tmp <| ⟨(.tuple [.agg ([.string (str ([])), .string (str ([]))] : List Value).toArray, .bool false].toArray), rfl, ⟨false, _, _, _, _, key, _, rfl, hF.no (fun q => ?_), fun q => absurd q Bool.false_ne_true, hc13, hM36.keep (by simp)⟩⟩
    obtain ⟨q1, q2, q3, q4, q5, q6⟩ := q
    omega
   refine gmv rfl <| gmv rfl <| stg rfl (v := .int .i64 (V5 + V7)) (o_bin rfl rfl (v_add64 (by omega))) <| gbn rfl rfl rfl <| pkF rfl <| h29 _ _ <| cndP rfl (fun c37 => ?_) (fun c37 => ?_)
   ·refine seq fun _ h38 => stp (v := .agg ([.string (str ([])), .string (str ([]))] : List Value).toArray) (o_bld rfl rfl) <| m_stA (l := [.string (str ([])), .string (str ([]))]) hM22 (i := 2) rfl rfl rfl rfl (by simp [oneCells, Value.oneCell', byteV]) (by simp) fun w39 (hM39 : Mem w (ids (⟨bw, 106, [.pointer (some ⟨bc, 0, none⟩), .string (str key)]⟩ :: r0)) w39 [[⟨bw, 106, [.pointer (some ⟨bc, 0, none⟩), .string (str key)]⟩], r'13, [⟨b2, 100, [.string (str ([])), .string (str ([]))]⟩], rs11, rs13, [⟨b14, 100, [.string (str ([])), .string (str T13)]⟩], [⟨b20, 110, [.int .i64 (endE b a13_ e13_), .int .i64 (endA b a13_ e13_ : Nat)]⟩]]) => mv <| h38 _ _ ?_
    show resV _ _ _ _ _
    refine res_cell (s := some 2) (by kernel_rfl) <| vl_ldA (cs := [.string (str ([])), .string (str ([]))]) rfl rfl ((hM39.at (i := 2) (j := 0) rfl rfl).agg rfl rfl) <| res_tmp <| ⟨(.tuple [.agg ([.string (str ([])), .string (str ([]))] : List Value).toArray, .bool false].toArray), rfl, ⟨false, _, _, _, _, key, _, rfl, hF.no (fun q => ?_), fun q => absurd q Bool.false_ne_true, hc13, hM39.keep (by simp)⟩⟩
    obtain ⟨q1, q2, q3, q4, q5, q6⟩ := q
    omega
   refine h28 _ _ <| seq fun _ h40 => mv <| nilchk rfl <| fa rfl <| m_ld (v := .string (str key)) hM22 (i := 0) (j := 0) rfl rfl rfl rfl <| mv <| stp (v := .string (str (key.take V5.toNat))) (o_slcs (a := 0) (b := V5.toNat) rfl (by omega) ⟨_, v_int (by omega)⟩ rfl rfl) <| mv <| stp (v := .string (str ((key.take V5.toNat) ++ T11))) (o_sadd rfl rfl (by first | omega | (simp; omega)) rfl) <| fa rfl <| m_st (v := .string (str ((key.take V5.toNat) ++ T11))) hM22 (i := 5) rfl rfl rfl rfl (by simp) fun w41 (hM41 : Mem w (ids (⟨bw, 106, [.pointer (some ⟨bc, 0, none⟩), .string (str key)]⟩ :: r0)) w41 [[⟨bw, 106, [.pointer (some ⟨bc, 0, none⟩), .string (str key)]⟩], r'13, [⟨b2, 100, [.string (str ([])), .string (str ([]))]⟩], rs11, rs13, [⟨b14, 100, [.string (str ((key.take V5.toNat) ++ T11)), .string (str T13)]⟩], [⟨b20, 110, [.int .i64 (endE b a13_ e13_), .int .i64 (endA b a13_ e13_ : Nat)]⟩]]) => h40 _ _ <| seq fun _ h42 => seq fun _ h43 => ?_
   intro wd e1 e2 e3 e4
   have hd := Upd.same e1 e2 e3 e4 []
   have hM44 := hM41.pure hd
   clear e1 e2 e3 e4
   refine ⟨(some [bw, b14]), ?_⟩
   show vd _ _ _ _ _ _ _
   refine dmv <| dq (v := .bool (!fi)) (o_not rfl rfl) <| dmv <| dsplit rfl (fun c45 => ?_) (fun c45 => ?_)
   ·refine dgfa rfl rfl <| dgmv rfl <| dqg rfl (v := .pointer (some ⟨bw, 0, none⟩)) (o_nilchk rfl rfl) <| dgfa rfl rfl <| dqgyes rfl rfl <| dqld rfl (by simp [isHeld]) (v := .string (str key)) ((hM44.at (i := 0) (j := 0) rfl rfl).cell 1) <| dgyesl rfl <| dl (m_ld (v := .string (str ((key.take V5.toNat) ++ T11))) hM44 (i := 5) (j := 0) rfl rfl rfl rfl <| ⟨(fun b hb => rfl), dgyesl rfl <| dl (m_call (Compare_ok ((key.take V5.toNat) ++ T11) key wd (by first | omega | (simp; done) | (simp; omega)) (by first | omega | (simp; done) | (simp; omega))) rfl fun v46 w46 ⟨hr46, hu46⟩ => ?_)⟩)
    have hM46 : Mem w (ids (⟨bw, 106, [.pointer (some ⟨bc, 0, none⟩), .string (str key)]⟩ :: r0)) w46 [[⟨bw, 106, [.pointer (some ⟨bc, 0, none⟩), .string (str key)]⟩], r'13, [⟨b2, 100, [.string (str ([])), .string (str ([]))]⟩], rs11, rs13, [⟨b14, 100, [.string (str ((key.take V5.toNat) ++ T11)), .string (str T13)]⟩], [⟨b20, 110, [.int .i64 (endE b a13_ e13_), .int .i64 (endA b a13_ e13_ : Nat)]⟩]] := hM44.pure hu46
    subst hr46
    have hh46 := held_upd (wr := wd) (bs := [bw, b14]) hu46 (fun b hb => by
     simp only [List.mem_cons, List.not_mem_nil, or_false] at hb
     rcases hb with h | h
     ·rw [h]; exact ⟨(hM44.at (i := 0) (j := 0) rfl rfl).lt, by simp⟩
     rw [h]; exact ⟨(hM44.at (i := 5) (j := 0) rfl rfl).lt, by simp⟩) (fun b hb => rfl)
    refine ⟨hh46, dgbn rfl rfl rfl <| dpkT rfl <| dmv <| dsplitP rfl (fun c47 => ?_) (fun c47 => ?_)⟩
    ·refine dx rfl <| dx rfl <| dx rfl <| dsplitU rfl <| dgnou rfl <| dgnou rfl <| dgnou rfl <| dgnou rfl <| dgnou rfl <| dqgnou rfl <| dgnolu rfl <| dgnolu rfl <| dgnou rfl <| dx rfl ?_
     refine dpkT rfl <| h43 _ _ <| cndT rfl <| seq fun _ h48 => stp (v := .agg ([.string (str ([])), .string (str ([]))] : List Value).toArray) (o_bld rfl rfl) <| m_stA (l := [.string (str ([])), .string (str ([]))]) hM46 (i := 2) rfl rfl rfl rfl (by simp [oneCells, Value.oneCell', byteV]) (by simp) fun w49 (hM49 : Mem w (ids (⟨bw, 106, [.pointer (some ⟨bc, 0, none⟩), .string (str key)]⟩ :: r0)) w49 [[⟨bw, 106, [.pointer (some ⟨bc, 0, none⟩), .string (str key)]⟩], r'13, [⟨b2, 100, [.string (str ([])), .string (str ([]))]⟩], rs11, rs13, [⟨b14, 100, [.string (str ((key.take V5.toNat) ++ T11)), .string (str T13)]⟩], [⟨b20, 110, [.int .i64 (endE b a13_ e13_), .int .i64 (endA b a13_ e13_ : Nat)]⟩]]) => mv <| h48 _ _ ?_
     show resV _ _ _ _ _
     refine res_cell (s := some 2) (by kernel_rfl) <| vl_ldA (cs := [.string (str ([])), .string (str ([]))]) rfl rfl ((hM49.at (i := 2) (j := 0) rfl rfl).agg rfl rfl) <| res_tmp <| ⟨(.tuple [.agg ([.string (str ([])), .string (str ([]))] : List Value).toArray, .bool false].toArray), rfl, ⟨false, _, _, _, _, key, _, rfl, hF.no (fun q => ?_), fun q => absurd q Bool.false_ne_true, hc13, hM49.keep (by simp)⟩⟩
     obtain ⟨q1, q2, q3, q4, q5, q6⟩ := q
     have := q5 (by first | assumption | (simpa using ‹(!fi) = true›) | (simpa using ‹(!rs) = true›) | (simpa using ‹rs = false›) | (simpa using ‹fi = false›)); omega
    refine dgmv rfl <| dqg rfl (v := .bool (!rs)) (o_not rfl rfl) <| dgmv rfl <| dsplit rfl (fun c50 => ?_) (fun c50 => ?_)
    ·refine dgmv rfl <| dqg rfl (v := .pointer (some ⟨bw, 0, none⟩)) (o_nilchk rfl rfl) <| dgfa rfl rfl <| dgfa rfl rfl <| dgmv rfl <| dqgyes rfl rfl <| dqld rfl (by simp [isHeld]) (v := .string (str ((key.take V5.toNat) ++ T11))) ((hM44.at (i := 5) (j := 0) rfl rfl).cell 0) <| dgyesl rfl <| dl (m_ld (v := .string (str key)) hM46 (i := 0) (j := 0) rfl rfl rfl rfl <| ⟨hh46, dgyesl rfl <| dl (m_call (Common_ok key ((key.take V5.toNat) ++ T11) w46 (by first | omega | (simp; done) | (simp; omega)) (by first | omega | (simp; done) | (simp; omega))) rfl fun v51 w51 ⟨hr51, hu51⟩ => ?_)⟩)
     have hM51 : Mem w (ids (⟨bw, 106, [.pointer (some ⟨bc, 0, none⟩), .string (str key)]⟩ :: r0)) w51 [[⟨bw, 106, [.pointer (some ⟨bc, 0, none⟩), .string (str key)]⟩], r'13, [⟨b2, 100, [.string (str ([])), .string (str ([]))]⟩], rs11, rs13, [⟨b14, 100, [.string (str ((key.take V5.toNat) ++ T11)), .string (str T13)]⟩], [⟨b20, 110, [.int .i64 (endE b a13_ e13_), .int .i64 (endA b a13_ e13_ : Nat)]⟩]] := hM46.pure hu51
     subst hr51
     have hh51 := held_upd (wr := wd) (bs := [bw, b14]) hu51 (fun b hb => by
      simp only [List.mem_cons, List.not_mem_nil, or_false] at hb
      rcases hb with h | h
      ·rw [h]; exact ⟨(hM46.at (i := 0) (j := 0) rfl rfl).lt, by simp⟩
      rw [h]; exact ⟨(hM46.at (i := 5) (j := 0) rfl rfl).lt, by simp⟩) hh46
     refine ⟨hh51, dqg rfl (v := .bool (decide (¬ ((common key ((key.take V5.toNat) ++ T11) : Nat) : Int) = V5))) (o_bin rfl rfl v_neq) <| dqg rfl (v := .bool (decide (¬ ((common key ((key.take V5.toNat) ++ T11) : Nat) : Int) = V5))) (o_pickT rfl rfl) <| dpkF rfl <| h43 _ _ <| cndP rfl (fun c52 => ?_) (fun c52 => ?_)⟩
     ·refine seq fun _ h53 => stp (v := .agg ([.string (str ([])), .string (str ([]))] : List Value).toArray) (o_bld rfl rfl) <| m_stA (l := [.string (str ([])), .string (str ([]))]) hM51 (i := 2) rfl rfl rfl rfl (by simp [oneCells, Value.oneCell', byteV]) (by simp) fun w54 (hM54 : Mem w (ids (⟨bw, 106, [.pointer (some ⟨bc, 0, none⟩), .string (str key)]⟩ :: r0)) w54 [[⟨bw, 106, [.pointer (some ⟨bc, 0, none⟩), .string (str key)]⟩], r'13, [⟨b2, 100, [.string (str ([])), .string (str ([]))]⟩], rs11, rs13, [⟨b14, 100, [.string (str ((key.take V5.toNat) ++ T11)), .string (str T13)]⟩], [⟨b20, 110, [.int .i64 (endE b a13_ e13_), .int .i64 (endA b a13_ e13_ : Nat)]⟩]]) => mv <| h53 _ _ ?_
      show resV _ _ _ _ _
      refine res_cell (s := some 2) (by kernel_rfl) <| vl_ldA (cs := [.string (str ([])), .string (str ([]))]) rfl rfl ((hM54.at (i := 2) (j := 0) rfl rfl).agg rfl rfl) <| res_tmp <| ⟨(.tuple [.agg ([.string (str ([])), .string (str ([]))] : List Value).toArray, .bool false].toArray), rfl, ⟨false, _, _, _, _, key, _, rfl, hF.no (fun q => ?_), fun q => absurd q Bool.false_ne_true, hc13, hM54.keep (by simp)⟩⟩
      obtain ⟨q1, q2, q3, q4, q5, q6⟩ := q
      have := q6 (by first | assumption | (simpa using ‹(!fi) = true›) | (simpa using ‹(!rs) = true›) | (simpa using ‹rs = false›) | (simpa using ‹fi = false›)); omega
     refine h42 _ _ <| seq fun _ h55 => mv <| fa rfl <| m_ld (v := .string (str ((key.take V5.toNat) ++ T11))) hM51 (i := 5) (j := 0) rfl rfl rfl rfl <| nilchk rfl <| fa rfl <| m_st (v := .string (str ((key.take V5.toNat) ++ T11))) hM51 (i := 0) rfl rfl rfl rfl (by simp) fun w56 (hM56 : Mem w (ids (⟨bw, 106, [.pointer (some ⟨bc, 0, none⟩), .string (str key)]⟩ :: r0)) w56 [[⟨bw, 106, [.pointer (some ⟨bc, 0, none⟩), .string (str ((key.take V5.toNat) ++ T11))]⟩], r'13, [⟨b2, 100, [.string (str ([])), .string (str ([]))]⟩], rs11, rs13, [⟨b14, 100, [.string (str ((key.take V5.toNat) ++ T11)), .string (str T13)]⟩], [⟨b20, 110, [.int .i64 (endE b a13_ e13_), .int .i64 (endA b a13_ e13_ : Nat)]⟩]]) => h55 _ _ <| seq fun _ h57 => m_ldA (l := [.string (str ((key.take V5.toNat) ++ T11)), .string (str T13)]) hM56 (i := 5) (j := 0) rfl rfl rfl rfl rfl <| m_stA (l := [.string (str ((key.take V5.toNat) ++ T11)), .string (str T13)]) hM56 (i := 2) rfl rfl rfl rfl (by simp [oneCells, Value.oneCell', byteV]) (by simp) fun w58 (hM58 : Mem w (ids (⟨bw, 106, [.pointer (some ⟨bc, 0, none⟩), .string (str key)]⟩ :: r0)) w58 [[⟨bw, 106, [.pointer (some ⟨bc, 0, none⟩), .string (str ((key.take V5.toNat) ++ T11))]⟩], r'13, [⟨b2, 100, [.string (str ((key.take V5.toNat) ++ T11)), .string (str T13)]⟩], rs11, rs13, [⟨b14, 100, [.string (str ((key.take V5.toNat) ++ T11)), .string (str T13)]⟩], [⟨b20, 110, [.int .i64 (endE b a13_ e13_), .int .i64 (endA b a13_ e13_ : Nat)]⟩]]) => mv <| h57 _ _ ?_
     show resV _ _ _ _ _
     refine res_cell (s := some 2) (by kernel_rfl) <| vl_ldA (cs := [.string (str ((key.take V5.toNat) ++ T11)), .string (str T13)]) rfl rfl ((hM58.at (i := 2) (j := 0) rfl rfl).agg rfl rfl) <| res_tmp <| ⟨(.tuple [.agg ([.string (str ((key.take V5.toNat) ++ T11)), .string (str T13)] : List Value).toArray, .bool true].toArray), rfl, ⟨true, _, _, _, _, _, _, rfl, hF.yes ⟨by omega, by omega, fun hh => ?_, by omega, fun hh => ?_, fun hh => ?_⟩, fun _ => ⟨rfl, ?_⟩, hc13, hM58.keep (by simp)⟩⟩
     ·omega
     ·omega
     ·omega
     rw [List.length_append, List.length_take]; have := hF.snd (by omega); omega
    refine dx rfl <| dx rfl <| dx rfl <| dx rfl <| dx rfl <| dxq rfl <| dxl rfl <| dxl rfl <| dx rfl <| dqg rfl (v := .bool false) (o_pickF rfl rfl) <| dpkF rfl <| h43 _ _ <| cndF rfl <| h42 _ _ <| seq fun _ h59 => mv <| fa rfl <| m_ld (v := .string (str ((key.take V5.toNat) ++ T11))) hM46 (i := 5) (j := 0) rfl rfl rfl rfl <| nilchk rfl <| fa rfl <| m_st (v := .string (str ((key.take V5.toNat) ++ T11))) hM46 (i := 0) rfl rfl rfl rfl (by simp) fun w60 (hM60 : Mem w (ids (⟨bw, 106, [.pointer (some ⟨bc, 0, none⟩), .string (str key)]⟩ :: r0)) w60 [[⟨bw, 106, [.pointer (some ⟨bc, 0, none⟩), .string (str ((key.take V5.toNat) ++ T11))]⟩], r'13, [⟨b2, 100, [.string (str ([])), .string (str ([]))]⟩], rs11, rs13, [⟨b14, 100, [.string (str ((key.take V5.toNat) ++ T11)), .string (str T13)]⟩], [⟨b20, 110, [.int .i64 (endE b a13_ e13_), .int .i64 (endA b a13_ e13_ : Nat)]⟩]]) => h59 _ _ <| seq fun _ h61 => m_ldA (l := [.string (str ((key.take V5.toNat) ++ T11)), .string (str T13)]) hM60 (i := 5) (j := 0) rfl rfl rfl rfl rfl <| m_stA (l := [.string (str ((key.take V5.toNat) ++ T11)), .string (str T13)]) hM60 (i := 2) rfl rfl rfl rfl (by simp [oneCells, Value.oneCell', byteV]) (by simp) fun w62 (hM62 : Mem w (ids (⟨bw, 106, [.pointer (some ⟨bc, 0, none⟩), .string (str key)]⟩ :: r0)) w62 [[⟨bw, 106, [.pointer (some ⟨bc, 0, none⟩), .string (str ((key.take V5.toNat) ++ T11))]⟩], r'13, [⟨b2, 100, [.string (str ((key.take V5.toNat) ++ T11)), .string (str T13)]⟩], rs11, rs13, [⟨b14, 100, [.string (str ((key.take V5.toNat) ++ T11)), .string (str T13)]⟩], [⟨b20, 110, [.int .i64 (endE b a13_ e13_), .int .i64 (endA b a13_ e13_ : Nat)]⟩]]) => mv <| h61 _ _ ?_
    show resV _ _ _ _ _
    refine res_cell (s := some 2) (by kernel_rfl) <| vl_ldA (cs := [.string (str ((key.take V5.toNat) ++ T11)), .string (str T13)]) rfl rfl ((hM62.at (i := 2) (j := 0) rfl rfl).agg rfl rfl) <| res_tmp <| ⟨(.tuple [.agg ([.string (str ((key.take V5.toNat) ++ T11)), .string (str T13)] : List Value).toArray, .bool true].toArray), rfl, ⟨true, _, _, _, _, _, _, rfl, hF.yes ⟨by omega, by omega, fun hh => ?_, by omega, fun hh => ?_, fun hh => ?_⟩, fun _ => ⟨rfl, ?_⟩, hc13, hM62.keep (by simp)⟩⟩
    ·omega
    ·omega
    ·exact absurd (by first | assumption | (simpa using ‹(!fi) = false›) | (simpa using ‹(!rs) = false›)) hh
    rw [List.length_append, List.length_take]; have := hF.snd (by omega); omega
   refine dx rfl <| dx rfl <| dx rfl <| dx rfl <| dxq rfl <| dxl rfl <| dxl rfl <| dx rfl <| dpkF rfl <| dmv <| dsplitF rfl <| dgmv rfl <| dqg rfl (v := .bool (!rs)) (o_not rfl rfl) <| dgmv rfl <| dsplit rfl (fun c63 => ?_) (fun c63 => ?_)
   ·refine dgmv rfl <| dqg rfl (v := .pointer (some ⟨bw, 0, none⟩)) (o_nilchk rfl rfl) <| dgfa rfl rfl <| dgfa rfl rfl <| dgmv rfl <| dqgyes rfl rfl <| dqld rfl (by simp [isHeld]) (v := .string (str ((key.take V5.toNat) ++ T11))) ((hM44.at (i := 5) (j := 0) rfl rfl).cell 0) <| dgyesl rfl <| dl (m_ld (v := .string (str key)) hM44 (i := 0) (j := 0) rfl rfl rfl rfl <| ⟨(fun b hb => rfl), dgyesl rfl <| dl (m_call (Common_ok key ((key.take V5.toNat) ++ T11) wd (by first | omega | (simp; done) | (simp; omega)) (by first | omega | (simp; done) | (simp; omega))) rfl fun v64 w64 ⟨hr64, hu64⟩ => ?_)⟩)
    have hM64 : Mem w (ids (⟨bw, 106, [.pointer (some ⟨bc, 0, none⟩), .string (str key)]⟩ :: r0)) w64 [[⟨bw, 106, [.pointer (some ⟨bc, 0, none⟩), .string (str key)]⟩], r'13, [⟨b2, 100, [.string (str ([])), .string (str ([]))]⟩], rs11, rs13, [⟨b14, 100, [.string (str ((key.take V5.toNat) ++ T11)), .string (str T13)]⟩], [⟨b20, 110, [.int .i64 (endE b a13_ e13_), .int .i64 (endA b a13_ e13_ : Nat)]⟩]] := hM44.pure hu64
    subst hr64
    have hh64 := held_upd (wr := wd) (bs := [bw, b14]) hu64 (fun b hb => by
     simp only [List.mem_cons, List.not_mem_nil, or_false] at hb
     rcases hb with h | h
     ·rw [h]; exact ⟨(hM44.at (i := 0) (j := 0) rfl rfl).lt, by simp⟩
     rw [h]; exact ⟨(hM44.at (i := 5) (j := 0) rfl rfl).lt, by simp⟩) (fun b hb => rfl)
    refine ⟨hh64, dqg rfl (v := .bool (decide (¬ ((common key ((key.take V5.toNat) ++ T11) : Nat) : Int) = V5))) (o_bin rfl rfl v_neq) <| dqg rfl (v := .bool (decide (¬ ((common key ((key.take V5.toNat) ++ T11) : Nat) : Int) = V5))) (o_pickT rfl rfl) <| dpkF rfl <| h43 _ _ <| cndP rfl (fun c65 => ?_) (fun c65 => ?_)⟩
    ·refine seq fun _ h66 => stp (v := .agg ([.string (str ([])), .string (str ([]))] : List Value).toArray) (o_bld rfl rfl) <| m_stA (l := [.string (str ([])), .string (str ([]))]) hM64 (i := 2) rfl rfl rfl rfl (by simp [oneCells, Value.oneCell', byteV]) (by simp) fun w67 (hM67 : Mem w (ids (⟨bw, 106, [.pointer (some ⟨bc, 0, none⟩), .string (str key)]⟩ :: r0)) w67 [[⟨bw, 106, [.pointer (some ⟨bc, 0, none⟩), .string (str key)]⟩], r'13, [⟨b2, 100, [.string (str ([])), .string (str ([]))]⟩], rs11, rs13, [⟨b14, 100, [.string (str ((key.take V5.toNat) ++ T11)), .string (str T13)]⟩], [⟨b20, 110, [.int .i64 (endE b a13_ e13_), .int .i64 (endA b a13_ e13_ : Nat)]⟩]]) => mv <| h66 _ _ ?_
     show resV _ _ _ _ _
     refine res_cell (s := some 2) (by kernel_rfl) <| vl_ldA (cs := [.string (str ([])), .string (str ([]))]) rfl rfl ((hM67.at (i := 2) (j := 0) rfl rfl).agg rfl rfl) <| res_tmp <| ⟨(.tuple [.agg ([.string (str ([])), .string (str ([]))] : List Value).toArray, .bool false].toArray), rfl, ⟨false, _, _, _, _, key, _, rfl, hF.no (fun q => ?_), fun q => absurd q Bool.false_ne_true, hc13, hM67.keep (by simp)⟩⟩
     obtain ⟨q1, q2, q3, q4, q5, q6⟩ := q
     have := q6 (by first | assumption | (simpa using ‹(!fi) = true›) | (simpa using ‹(!rs) = true›) | (simpa using ‹rs = false›) | (simpa using ‹fi = false›)); omega
    refine h42 _ _ <| seq fun _ h68 => mv <| fa rfl <| m_ld (v := .string (str ((key.take V5.toNat) ++ T11))) hM64 (i := 5) (j := 0) rfl rfl rfl rfl <| nilchk rfl <| fa rfl <| m_st (v := .string (str ((key.take V5.toNat) ++ T11))) hM64 (i := 0) rfl rfl rfl rfl (by simp) fun w69 (hM69 : Mem w (ids (⟨bw, 106, [.pointer (some ⟨bc, 0, none⟩), .string (str key)]⟩ :: r0)) w69 [[⟨bw, 106, [.pointer (some ⟨bc, 0, none⟩), .string (str ((key.take V5.toNat) ++ T11))]⟩], r'13, [⟨b2, 100, [.string (str ([])), .string (str ([]))]⟩], rs11, rs13, [⟨b14, 100, [.string (str ((key.take V5.toNat) ++ T11)), .string (str T13)]⟩], [⟨b20, 110, [.int .i64 (endE b a13_ e13_), .int .i64 (endA b a13_ e13_ : Nat)]⟩]]) => h68 _ _ <| seq fun _ h70 => m_ldA (l := [.string (str ((key.take V5.toNat) ++ T11)), .string (str T13)]) hM69 (i := 5) (j := 0) rfl rfl rfl rfl rfl <| m_stA (l := [.string (str ((key.take V5.toNat) ++ T11)), .string (str T13)]) hM69 (i := 2) rfl rfl rfl rfl (by simp [oneCells, Value.oneCell', byteV]) (by simp) fun w71 (hM71 : Mem w (ids (⟨bw, 106, [.pointer (some ⟨bc, 0, none⟩), .string (str key)]⟩ :: r0)) w71 [[⟨bw, 106, [.pointer (some ⟨bc, 0, none⟩), .string (str ((key.take V5.toNat) ++ T11))]⟩], r'13, [⟨b2, 100, [.string (str ((key.take V5.toNat) ++ T11)), .string (str T13)]⟩], rs11, rs13, [⟨b14, 100, [.string (str ((key.take V5.toNat) ++ T11)), .string (str T13)]⟩], [⟨b20, 110, [.int .i64 (endE b a13_ e13_), .int .i64 (endA b a13_ e13_ : Nat)]⟩]]) => mv <| h70 _ _ ?_
    show resV _ _ _ _ _
    refine res_cell (s := some 2) (by kernel_rfl) <| vl_ldA (cs := [.string (str ((key.take V5.toNat) ++ T11)), .string (str T13)]) rfl rfl ((hM71.at (i := 2) (j := 0) rfl rfl).agg rfl rfl) <| res_tmp <| ⟨(.tuple [.agg ([.string (str ((key.take V5.toNat) ++ T11)), .string (str T13)] : List Value).toArray, .bool true].toArray), rfl, ⟨true, _, _, _, _, _, _, rfl, hF.yes ⟨by omega, by omega, fun hh => ?_, by omega, fun hh => ?_, fun hh => ?_⟩, fun _ => ⟨rfl, ?_⟩, hc13, hM71.keep (by simp)⟩⟩
    ·omega
    ·exact absurd (by first | assumption | (simpa using ‹(!fi) = false›) | (simpa using ‹(!rs) = false›)) hh
    ·omega
    rw [List.length_append, List.length_take]; have := hF.snd (by omega); omega
   refine dx rfl <| dx rfl <| dx rfl <| dx rfl <| dx rfl <| dxq rfl <| dxl rfl <| dxl rfl <| dx rfl <| dqg rfl (v := .bool false) (o_pickF rfl rfl) <| dpkF rfl <| h43 _ _ <| cndF rfl <| h42 _ _ <| seq fun _ h72 => mv <| fa rfl <| m_ld (v := .string (str ((key.take V5.toNat) ++ T11))) hM44 (i := 5) (j := 0) rfl rfl rfl rfl <| nilchk rfl <| fa rfl <| m_st (v := .string (str ((key.take V5.toNat) ++ T11))) hM44 (i := 0) rfl rfl rfl rfl (by simp) fun w73 (hM73 : Mem w (ids (⟨bw, 106, [.pointer (some ⟨bc, 0, none⟩), .string (str key)]⟩ :: r0)) w73 [[⟨bw, 106, [.pointer (some ⟨bc, 0, none⟩), .string (str ((key.take V5.toNat) ++ T11))]⟩], r'13, [⟨b2, 100, [.string (str ([])), .string (str ([]))]⟩], rs11, rs13, [⟨b14, 100, [.string (str ((key.take V5.toNat) ++ T11)), .string (str T13)]⟩], [⟨b20, 110, [.int .i64 (endE b a13_ e13_), .int .i64 (endA b a13_ e13_ : Nat)]⟩]]) => h72 _ _ <| seq fun _ h74 => m_ldA (l := [.string (str ((key.take V5.toNat) ++ T11)), .string (str T13)]) hM73 (i := 5) (j := 0) rfl rfl rfl rfl rfl <| m_stA (l := [.string (str ((key.take V5.toNat) ++ T11)), .string (str T13)]) hM73 (i := 2) rfl rfl rfl rfl (by simp [oneCells, Value.oneCell', byteV]) (by simp) fun w75 (hM75 : Mem w (ids (⟨bw, 106, [.pointer (some ⟨bc, 0, none⟩), .string (str key)]⟩ :: r0)) w75 [[⟨bw, 106, [.pointer (some ⟨bc, 0, none⟩), .string (str ((key.take V5.toNat) ++ T11))]⟩], r'13, [⟨b2, 100, [.string (str ((key.take V5.toNat) ++ T11)), .string (str T13)]⟩], rs11, rs13, [⟨b14, 100, [.string (str ((key.take V5.toNat) ++ T11)), .string (str T13)]⟩], [⟨b20, 110, [.int .i64 (endE b a13_ e13_), .int .i64 (endA b a13_ e13_ : Nat)]⟩]]) => mv <| h74 _ _ ?_
   show resV _ _ _ _ _
   refine res_cell (s := some 2) (by kernel_rfl) <| vl_ldA (cs := [.string (str ((key.take V5.toNat) ++ T11)), .string (str T13)]) rfl rfl ((hM75.at (i := 2) (j := 0) rfl rfl).agg rfl rfl) <| res_tmp <| ⟨(.tuple [.agg ([.string (str ((key.take V5.toNat) ++ T11)), .string (str T13)] : List Value).toArray, .bool true].toArray), rfl, ⟨true, _, _, _, _, _, _, rfl, hF.yes ⟨by omega, by omega, fun hh => ?_, by omega, fun hh => ?_, fun hh => ?_⟩, fun _ => ⟨rfl, ?_⟩, hc13, hM75.keep (by simp)⟩⟩
   ·omega
   ·exact absurd (by first | assumption | (simpa using ‹(!fi) = false›) | (simpa using ‹(!rs) = false›)) hh
   ·exact absurd (by first | assumption | (simpa using ‹(!fi) = false›) | (simpa using ‹(!rs) = false›)) hh
   rw [List.length_append, List.length_take]; have := hF.snd (by omega); omega
  refine gx rfl <| gx rfl <| pkF rfl <| mv <| splitF rfl <| gmv rfl <| gmv rfl <| stg rfl (v := .pointer (some ⟨bw, 0, none⟩)) (o_nilchk rfl rfl) <| gfa rfl rfl <| gyesl rfl <| m_ld (v := .string (str key)) hM22 (i := 0) (j := 0) rfl rfl rfl rfl <| stg rfl (v := .int .i64 (key.length : Nat)) (o_lens rfl rfl) <| gbn rfl rfl rfl <| pkF rfl <| mv <| splitP rfl (fun c76 => ?_) (fun c76 => ?_)
  ·refine gx rfl <| gx rfl <| gx rfl <| gx rfl <| pkT rfl <| h29 _ _ <| cndT rfl <| seq fun _ h77 => stp (v := .agg ([.string (str ([])), .string (str ([]))] : List Value).toArray) (o_bld rfl rfl) <| m_stA (l := [.string (str ([])), .string (str ([]))]) hM22 (i := 2) rfl rfl rfl rfl (by simp [oneCells, Value.oneCell', byteV]) (by simp) fun w78 (hM78 : Mem w (ids (⟨bw, 106, [.pointer (some ⟨bc, 0, none⟩), .string (str key)]⟩ :: r0)) w78 [[⟨bw, 106, [.pointer (some ⟨bc, 0, none⟩), .string (str key)]⟩], r'13, [⟨b2, 100, [.string (str ([])), .string (str ([]))]⟩], rs11, rs13, [⟨b14, 100, [.string (str ([])), .string (str T13)]⟩], [⟨b20, 110, [.int .i64 (endE b a13_ e13_), .int .i64 (endA b a13_ e13_ : Nat)]⟩]]) => mv <| h77 _ _ ?_
   show resV _ _ _ _ _
   refine res_cell (s := some 2) (by kernel_rfl) <| vl_ldA (cs := [.string (str ([])), .string (str ([]))]) rfl rfl ((hM78.at (i := 2) (j := 0) rfl rfl).agg rfl rfl) <| res_tmp <| ⟨(.tuple [.agg ([.string (str ([])), .string (str ([]))] : List Value).toArray, .bool false].toArray), rfl, ⟨false, _, _, _, _, key, _, rfl, hF.no (fun q => ?_), fun q => absurd q Bool.false_ne_true, hc13, hM78.keep (by simp)⟩⟩
   obtain ⟨q1, q2, q3, q4, q5, q6⟩ := q
   omega
  refine gmv rfl <| gmv rfl <| stg rfl (v := .int .i64 (V5 + V7)) (o_bin rfl rfl (v_add64 (by omega))) <| gbn rfl rfl rfl <| pkF rfl <| h29 _ _ <| cndP rfl (fun c79 => ?_) (fun c79 => ?_)
  ·refine seq fun _ h80 => stp (v := .agg ([.string (str ([])), .string (str ([]))] : List Value).toArray) (o_bld rfl rfl) <| m_stA (l := [.string (str ([])), .string (str ([]))]) hM22 (i := 2) rfl rfl rfl rfl (by simp [oneCells, Value.oneCell', byteV]) (by simp) fun w81 (hM81 : Mem w (ids (⟨bw, 106, [.pointer (some ⟨bc, 0, none⟩), .string (str key)]⟩ :: r0)) w81 [[⟨bw, 106, [.pointer (some ⟨bc, 0, none⟩), .string (str key)]⟩], r'13, [⟨b2, 100, [.string (str ([])), .string (str ([]))]⟩], rs11, rs13, [⟨b14, 100, [.string (str ([])), .string (str T13)]⟩], [⟨b20, 110, [.int .i64 (endE b a13_ e13_), .int .i64 (endA b a13_ e13_ : Nat)]⟩]]) => mv <| h80 _ _ ?_
   show resV _ _ _ _ _
   refine res_cell (s := some 2) (by kernel_rfl) <| vl_ldA (cs := [.string (str ([])), .string (str ([]))]) rfl rfl ((hM81.at (i := 2) (j := 0) rfl rfl).agg rfl rfl) <| res_tmp <| ⟨(.tuple [.agg ([.string (str ([])), .string (str ([]))] : List Value).toArray, .bool false].toArray), rfl, ⟨false, _, _, _, _, key, _, rfl, hF.no (fun q => ?_), fun q => absurd q Bool.false_ne_true, hc13, hM81.keep (by simp)⟩⟩
   obtain ⟨q1, q2, q3, q4, q5, q6⟩ := q
   omega
  refine h28 _ _ <| seq fun _ h82 => mv <| nilchk rfl <| fa rfl <| m_ld (v := .string (str key)) hM22 (i := 0) (j := 0) rfl rfl rfl rfl <| mv <| stp (v := .string (str (key.take V5.toNat))) (o_slcs (a := 0) (b := V5.toNat) rfl (by omega) ⟨_, v_int (by omega)⟩ rfl rfl) <| mv <| stp (v := .string (str ((key.take V5.toNat) ++ T11))) (o_sadd rfl rfl (by first | omega | (simp; omega)) rfl) <| fa rfl <| m_st (v := .string (str ((key.take V5.toNat) ++ T11))) hM22 (i := 5) rfl rfl rfl rfl (by simp) fun w83 (hM83 : Mem w (ids (⟨bw, 106, [.pointer (some ⟨bc, 0, none⟩), .string (str key)]⟩ :: r0)) w83 [[⟨bw, 106, [.pointer (some ⟨bc, 0, none⟩), .string (str key)]⟩], r'13, [⟨b2, 100, [.string (str ([])), .string (str ([]))]⟩], rs11, rs13, [⟨b14, 100, [.string (str ((key.take V5.toNat) ++ T11)), .string (str T13)]⟩], [⟨b20, 110, [.int .i64 (endE b a13_ e13_), .int .i64 (endA b a13_ e13_ : Nat)]⟩]]) => h82 _ _ <| seq fun _ h84 => seq fun _ h85 => ?_
  intro wd e1 e2 e3 e4
  have hd := Upd.same e1 e2 e3 e4 []
  have hM86 := hM83.pure hd
  clear e1 e2 e3 e4
  refine ⟨(some [bw, b14]), ?_⟩
  show vd _ _ _ _ _ _ _
  refine dmv <| dq (v := .bool (!fi)) (o_not rfl rfl) <| dmv <| dsplit rfl (fun c87 => ?_) (fun c87 => ?_)
  ·refine dgfa rfl rfl <| dgmv rfl <| dqg rfl (v := .pointer (some ⟨bw, 0, none⟩)) (o_nilchk rfl rfl) <| dgfa rfl rfl <| dqgyes rfl rfl <| dqld rfl (by simp [isHeld]) (v := .string (str key)) ((hM86.at (i := 0) (j := 0) rfl rfl).cell 1) <| dgyesl rfl <| dl (m_ld (v := .string (str ((key.take V5.toNat) ++ T11))) hM86 (i := 5) (j := 0) rfl rfl rfl rfl <| ⟨(fun b hb => rfl), dgyesl rfl <| dl (m_call (Compare_ok ((key.take V5.toNat) ++ T11) key wd (by first | omega | (simp; done) | (simp; omega)) (by first | omega | (simp; done) | (simp; omega))) rfl fun v88 w88 ⟨hr88, hu88⟩ => ?_)⟩)
   have hM88 : Mem w (ids (⟨bw, 106, [.pointer (some ⟨bc, 0, none⟩), .string (str key)]⟩ :: r0)) w88 [[⟨bw, 106, [.pointer (some ⟨bc, 0, none⟩), .string (str key)]⟩], r'13, [⟨b2, 100, [.string (str ([])), .string (str ([]))]⟩], rs11, rs13, [⟨b14, 100, [.string (str ((key.take V5.toNat) ++ T11)), .string (str T13)]⟩], [⟨b20, 110, [.int .i64 (endE b a13_ e13_), .int .i64 (endA b a13_ e13_ : Nat)]⟩]] := hM86.pure hu88
   subst hr88
   have hh88 := held_upd (wr := wd) (bs := [bw, b14]) hu88 (fun b hb => by
    simp only [List.mem_cons, List.not_mem_nil, or_false] at hb
    rcases hb with h | h
    ·rw [h]; exact ⟨(hM86.at (i := 0) (j := 0) rfl rfl).lt, by simp⟩
    rw [h]; exact ⟨(hM86.at (i := 5) (j := 0) rfl rfl).lt, by simp⟩) (fun b hb => rfl)
   refine ⟨hh88, dgbn rfl rfl rfl <| dpkT rfl <| dmv <| dsplitP rfl (fun c89 => ?_) (fun c89 => ?_)⟩
   ·refine dx rfl <| dx rfl <| dx rfl <| dsplitU rfl <| dgnou rfl <| dgnou rfl <| dgnou rfl <| dgnou rfl <| dgnou rfl <| dqgnou rfl <| dgnolu rfl <| dgnolu rfl <| dgnou rfl <| dx rfl ?_
    refine dpkT rfl <| h85 _ _ <| cndT rfl <| seq fun _ h90 => stp (v := .agg ([.string (str ([])), .string (str ([]))] : List Value).toArray) (o_bld rfl rfl) <| m_stA (l := [.string (str ([])), .string (str ([]))]) hM88 (i := 2) rfl rfl rfl rfl (by simp [oneCells, Value.oneCell', byteV]) (by simp) fun w91 (hM91 : Mem w (ids (⟨bw, 106, [.pointer (some ⟨bc, 0, none⟩), .string (str key)]⟩ :: r0)) w91 [[⟨bw, 106, [.pointer (some ⟨bc, 0, none⟩), .string (str key)]⟩], r'13, [⟨b2, 100, [.string (str ([])), .string (str ([]))]⟩], rs11, rs13, [⟨b14, 100, [.string (str ((key.take V5.toNat) ++ T11)), .string (str T13)]⟩], [⟨b20, 110, [.int .i64 (endE b a13_ e13_), .int .i64 (endA b a13_ e13_ : Nat)]⟩]]) => mv <| h90 _ _ ?_
    show resV _ _ _ _ _
    refine res_cell (s := some 2) (by kernel_rfl) <| vl_ldA (cs := [.string (str ([])), .string (str ([]))]) rfl rfl ((hM91.at (i := 2) (j := 0) rfl rfl).agg rfl rfl) <| res_tmp <| ⟨(.tuple [.agg ([.string (str ([])), .string (str ([]))] : List Value).toArray, .bool false].toArray), rfl, ⟨false, _, _, _, _, key, _, rfl, hF.no (fun q => ?_), fun q => absurd q Bool.false_ne_true, hc13, hM91.keep (by simp)⟩⟩
    obtain ⟨q1, q2, q3, q4, q5, q6⟩ := q
    have := q5 (by first | assumption | (simpa using ‹(!fi) = true›) | (simpa using ‹(!rs) = true›) | (simpa using ‹rs = false›) | (simpa using ‹fi = false›)); omega
   refine dgmv rfl <| dqg rfl (v := .bool (!rs)) (o_not rfl rfl) <| dgmv rfl <| dsplit rfl (fun c92 => ?_) (fun c92 => ?_)
   ·refine dgmv rfl <| dqg rfl (v := .pointer (some ⟨bw, 0, none⟩)) (o_nilchk rfl rfl) <| dgfa rfl rfl <| dgfa rfl rfl <| dgmv rfl <| dqgyes rfl rfl <| dqld rfl (by simp [isHeld]) (v := .string (str ((key.take V5.toNat) ++ T11))) ((hM86.at (i := 5) (j := 0) rfl rfl).cell 0) <| dgyesl rfl <| dl (m_ld (v := .string (str key)) hM88 (i := 0) (j := 0) rfl rfl rfl rfl <| ⟨hh88, dgyesl rfl <| dl (m_call (Common_ok key ((key.take V5.toNat) ++ T11) w88 (by first | omega | (simp; done) | (simp; omega)) (by first | omega | (simp; done) | (simp; omega))) rfl fun v93 w93 ⟨hr93, hu93⟩ => ?_)⟩)
    have hM93 : Mem w (ids (⟨bw, 106, [.pointer (some ⟨bc, 0, none⟩), .string (str key)]⟩ :: r0)) w93 [[⟨bw, 106, [.pointer (some ⟨bc, 0, none⟩), .string (str key)]⟩], r'13, [⟨b2, 100, [.string (str ([])), .string (str ([]))]⟩], rs11, rs13, [⟨b14, 100, [.string (str ((key.take V5.toNat) ++ T11)), .string (str T13)]⟩], [⟨b20, 110, [.int .i64 (endE b a13_ e13_), .int .i64 (endA b a13_ e13_ : Nat)]⟩]] := hM88.pure hu93
    subst hr93
    have hh93 := held_upd (wr := wd) (bs := [bw, b14]) hu93 (fun b hb => by
     simp only [List.mem_cons, List.not_mem_nil, or_false] at hb
     rcases hb with h | h
     ·rw [h]; exact ⟨(hM88.at (i := 0) (j := 0) rfl rfl).lt, by simp⟩
     rw [h]; exact ⟨(hM88.at (i := 5) (j := 0) rfl rfl).lt, by simp⟩) hh88
    refine ⟨hh93, dqg rfl (v := .bool (decide (¬ ((common key ((key.take V5.toNat) ++ T11) : Nat) : Int) = V5))) (o_bin rfl rfl v_neq) <| dqg rfl (v := .bool (decide (¬ ((common key ((key.take V5.toNat) ++ T11) : Nat) : Int) = V5))) (o_pickT rfl rfl) <| dpkF rfl <| h85 _ _ <| cndP rfl (fun c94 => ?_) (fun c94 => ?_)⟩
    ·refine seq fun _ h95 => stp (v := .agg ([.string (str ([])), .string (str ([]))] : List Value).toArray) (o_bld rfl rfl) <| m_stA (l := [.string (str ([])), .string (str ([]))]) hM93 (i := 2) rfl rfl rfl rfl (by simp [oneCells, Value.oneCell', byteV]) (by simp) fun w96 (hM96 : Mem w (ids (⟨bw, 106, [.pointer (some ⟨bc, 0, none⟩), .string (str key)]⟩ :: r0)) w96 [[⟨bw, 106, [.pointer (some ⟨bc, 0, none⟩), .string (str key)]⟩], r'13, [⟨b2, 100, [.string (str ([])), .string (str ([]))]⟩], rs11, rs13, [⟨b14, 100, [.string (str ((key.take V5.toNat) ++ T11)), .string (str T13)]⟩], [⟨b20, 110, [.int .i64 (endE b a13_ e13_), .int .i64 (endA b a13_ e13_ : Nat)]⟩]]) => mv <| h95 _ _ ?_
     show resV _ _ _ _ _
     refine res_cell (s := some 2) (by kernel_rfl) <| vl_ldA (cs := [.string (str ([])), .string (str ([]))]) rfl rfl ((hM96.at (i := 2) (j := 0) rfl rfl).agg rfl rfl) <| res_tmp <| ⟨(.tuple [.agg ([.string (str ([])), .string (str ([]))] : List Value).toArray, .bool false].toArray), rfl, ⟨false, _, _, _, _, key, _, rfl, hF.no (fun q => ?_), fun q => absurd q Bool.false_ne_true, hc13, hM96.keep (by simp)⟩⟩
     obtain ⟨q1, q2, q3, q4, q5, q6⟩ := q
     have := q6 (by first | assumption | (simpa using ‹(!fi) = true›) | (simpa using ‹(!rs) = true›) | (simpa using ‹rs = false›) | (simpa using ‹fi = false›)); omega
    refine h84 _ _ <| seq fun _ h97 => mv <| fa rfl <| m_ld (v := .string (str ((key.take V5.toNat) ++ T11))) hM93 (i := 5) (j := 0) rfl rfl rfl rfl <| nilchk rfl <| fa rfl <| m_st (v := .string (str ((key.take V5.toNat) ++ T11))) hM93 (i := 0) rfl rfl rfl rfl (by simp) fun w98 (hM98 : Mem w (ids (⟨bw, 106, [.pointer (some ⟨bc, 0, none⟩), .string (str key)]⟩ :: r0)) w98 [[⟨bw, 106, [.pointer (some ⟨bc, 0, none⟩), .string (str ((key.take V5.toNat) ++ T11))]⟩], r'13, [⟨b2, 100, [.string (str ([])), .string (str ([]))]⟩], rs11, rs13, [⟨b14, 100, [.string (str ((key.take V5.toNat) ++ T11)), .string (str T13)]⟩], [⟨b20, 110, [.int .i64 (endE b a13_ e13_), .int .i64 (endA b a13_ e13_ : Nat)]⟩]]) => h97 _ _ <| seq fun _ h99 => m_ldA (l := [.string (str ((key.take V5.toNat) ++ T11)), .string (str T13)]) hM98 (i := 5) (j := 0) rfl rfl rfl rfl rfl <| m_stA (l := [.string (str ((key.take V5.toNat) ++ T11)), .string (str T13)]) hM98 (i := 2) rfl rfl rfl rfl (by simp [oneCells, Value.oneCell', byteV]) (by simp) fun w100 (hM100 : Mem w (ids (⟨bw, 106, [.pointer (some ⟨bc, 0, none⟩), .string (str key)]⟩ :: r0)) w100 [[⟨bw, 106, [.pointer (some ⟨bc, 0, none⟩), .string (str ((key.take V5.toNat) ++ T11))]⟩], r'13, [⟨b2, 100, [.string (str ((key.take V5.toNat) ++ T11)), .string (str T13)]⟩], rs11, rs13, [⟨b14, 100, [.string (str ((key.take V5.toNat) ++ T11)), .string (str T13)]⟩], [⟨b20, 110, [.int .i64 (endE b a13_ e13_), .int .i64 (endA b a13_ e13_ : Nat)]⟩]]) => mv <| h99 _ _ ?_
    show resV _ _ _ _ _
    refine res_cell (s := some 2) (by kernel_rfl) <| vl_ldA (cs := [.string (str ((key.take V5.toNat) ++ T11)), .string (str T13)]) rfl rfl ((hM100.at (i := 2) (j := 0) rfl rfl).agg rfl rfl) <| res_tmp <| ⟨(.tuple [.agg ([.string (str ((key.take V5.toNat) ++ T11)), .string (str T13)] : List Value).toArray, .bool true].toArray), rfl, ⟨true, _, _, _, _, _, _, rfl, hF.yes ⟨by omega, by omega, fun hh => ?_, by omega, fun hh => ?_, fun hh => ?_⟩, fun _ => ⟨rfl, ?_⟩, hc13, hM100.keep (by simp)⟩⟩
    ·exact absurd hh (by first | assumption | (simpa using ‹(!fi) = true›) | (simpa using ‹(!rs) = true›) | (simpa using ‹rs = false›) | (simpa using ‹fi = false›))
    ·omega
    ·omega
    rw [List.length_append, List.length_take]; have := hF.snd (by omega); omega
   refine dx rfl <| dx rfl <| dx rfl <| dx rfl <| dx rfl <| dxq rfl <| dxl rfl <| dxl rfl <| dx rfl <| dqg rfl (v := .bool false) (o_pickF rfl rfl) <| dpkF rfl <| h85 _ _ <| cndF rfl <| h84 _ _ <| seq fun _ h101 => mv <| fa rfl <| m_ld (v := .string (str ((key.take V5.toNat) ++ T11))) hM88 (i := 5) (j := 0) rfl rfl rfl rfl <| nilchk rfl <| fa rfl <| m_st (v := .string (str ((key.take V5.toNat) ++ T11))) hM88 (i := 0) rfl rfl rfl rfl (by simp) fun w102 (hM102 : Mem w (ids (⟨bw, 106, [.pointer (some ⟨bc, 0, none⟩), .string (str key)]⟩ :: r0)) w102 [[⟨bw, 106, [.pointer (some ⟨bc, 0, none⟩), .string (str ((key.take V5.toNat) ++ T11))]⟩], r'13, [⟨b2, 100, [.string (str ([])), .string (str ([]))]⟩], rs11, rs13, [⟨b14, 100, [.string (str ((key.take V5.toNat) ++ T11)), .string (str T13)]⟩], [⟨b20, 110, [.int .i64 (endE b a13_ e13_), .int .i64 (endA b a13_ e13_ : Nat)]⟩]]) => h101 _ _ <| seq fun _ h103 => m_ldA (l := [.string (str ((key.take V5.toNat) ++ T11)), .string (str T13)]) hM102 (i := 5) (j := 0) rfl rfl rfl rfl rfl <| m_stA (l := [.string (str ((key.take V5.toNat) ++ T11)), .string (str T13)]) hM102 (i := 2) rfl rfl rfl rfl (by simp [oneCells, Value.oneCell', byteV]) (by simp) fun w104 (hM104 : Mem w (ids (⟨bw, 106, [.pointer (some ⟨bc, 0, none⟩), .string (str key)]⟩ :: r0)) w104 [[⟨bw, 106, [.pointer (some ⟨bc, 0, none⟩), .string (str ((key.take V5.toNat) ++ T11))]⟩], r'13, [⟨b2, 100, [.string (str ((key.take V5.toNat) ++ T11)), .string (str T13)]⟩], rs11, rs13, [⟨b14, 100, [.string (str ((key.take V5.toNat) ++ T11)), .string (str T13)]⟩], [⟨b20, 110, [.int .i64 (endE b a13_ e13_), .int .i64 (endA b a13_ e13_ : Nat)]⟩]]) => mv <| h103 _ _ ?_
   show resV _ _ _ _ _
   refine res_cell (s := some 2) (by kernel_rfl) <| vl_ldA (cs := [.string (str ((key.take V5.toNat) ++ T11)), .string (str T13)]) rfl rfl ((hM104.at (i := 2) (j := 0) rfl rfl).agg rfl rfl) <| res_tmp <| ⟨(.tuple [.agg ([.string (str ((key.take V5.toNat) ++ T11)), .string (str T13)] : List Value).toArray, .bool true].toArray), rfl, ⟨true, _, _, _, _, _, _, rfl, hF.yes ⟨by omega, by omega, fun hh => ?_, by omega, fun hh => ?_, fun hh => ?_⟩, fun _ => ⟨rfl, ?_⟩, hc13, hM104.keep (by simp)⟩⟩
   ·exact absurd hh (by first | assumption | (simpa using ‹(!fi) = true›) | (simpa using ‹(!rs) = true›) | (simpa using ‹rs = false›) | (simpa using ‹fi = false›))
   ·omega
   ·exact absurd (by first | assumption | (simpa using ‹(!fi) = false›) | (simpa using ‹(!rs) = false›)) hh
   rw [List.length_append, List.length_take]; have := hF.snd (by omega); omega
  refine dx rfl <| dx rfl <| dx rfl <| dx rfl <| dxq rfl <| dxl rfl <| dxl rfl <| dx rfl <| dpkF rfl <| dmv <| dsplitF rfl <| dgmv rfl <| dqg rfl (v := .bool (!rs)) (o_not rfl rfl) <| dgmv rfl <| dsplit rfl (fun c105 => ?_) (fun c105 => ?_)
  ·refine dgmv rfl <| dqg rfl (v := .pointer (some ⟨bw, 0, none⟩)) (o_nilchk rfl rfl) <| dgfa rfl rfl <| dgfa rfl rfl <| dgmv rfl <| dqgyes rfl rfl <| dqld rfl (by simp [isHeld]) (v := .string (str ((key.take V5.toNat) ++ T11))) ((hM86.at (i := 5) (j := 0) rfl rfl).cell 0) <| dgyesl rfl <| dl (m_ld (v := .string (str key)) hM86 (i := 0) (j := 0) rfl rfl rfl rfl <| ⟨(fun b hb => rfl), dgyesl rfl <| dl (m_call (Common_ok key ((key.take V5.toNat) ++ T11) wd (by first | omega | (simp; done) | (simp; omega)) (by first | omega | (simp; done) | (simp; omega))) rfl fun v106 w106 ⟨hr106, hu106⟩ => ?_)⟩)
   have hM106 : Mem w (ids (⟨bw, 106, [.pointer (some ⟨bc, 0, none⟩), .string (str key)]⟩ :: r0)) w106 [[⟨bw, 106, [.pointer (some ⟨bc, 0, none⟩), .string (str key)]⟩], r'13, [⟨b2, 100, [.string (str ([])), .string (str ([]))]⟩], rs11, rs13, [⟨b14, 100, [.string (str ((key.take V5.toNat) ++ T11)), .string (str T13)]⟩], [⟨b20, 110, [.int .i64 (endE b a13_ e13_), .int .i64 (endA b a13_ e13_ : Nat)]⟩]] := hM86.pure hu106
   subst hr106
   have hh106 := held_upd (wr := wd) (bs := [bw, b14]) hu106 (fun b hb => by
    simp only [List.mem_cons, List.not_mem_nil, or_false] at hb
    rcases hb with h | h
    ·rw [h]; exact ⟨(hM86.at (i := 0) (j := 0) rfl rfl).lt, by simp⟩
    rw [h]; exact ⟨(hM86.at (i := 5) (j := 0) rfl rfl).lt, by simp⟩) (fun b hb => rfl)
   refine ⟨hh106, dqg rfl (v := .bool (decide (¬ ((common key ((key.take V5.toNat) ++ T11) : Nat) : Int) = V5))) (o_bin rfl rfl v_neq) <| dqg rfl (v := .bool (decide (¬ ((common key ((key.take V5.toNat) ++ T11) : Nat) : Int) = V5))) (o_pickT rfl rfl) <| dpkF rfl <| h85 _ _ <| cndP rfl (fun c107 => ?_) (fun c107 => ?_)⟩
   ·refine seq fun _ h108 => stp (v := .agg ([.string (str ([])), .string (str ([]))] : List Value).toArray) (o_bld rfl rfl) <| m_stA (l := [.string (str ([])), .string (str ([]))]) hM106 (i := 2) rfl rfl rfl rfl (by simp [oneCells, Value.oneCell', byteV]) (by simp) fun w109 (hM109 : Mem w (ids (⟨bw, 106, [.pointer (some ⟨bc, 0, none⟩), .string (str key)]⟩ :: r0)) w109 [[⟨bw, 106, [.pointer (some ⟨bc, 0, none⟩), .string (str key)]⟩], r'13, [⟨b2, 100, [.string (str ([])), .string (str ([]))]⟩], rs11, rs13, [⟨b14, 100, [.string (str ((key.take V5.toNat) ++ T11)), .string (str T13)]⟩], [⟨b20, 110, [.int .i64 (endE b a13_ e13_), .int .i64 (endA b a13_ e13_ : Nat)]⟩]]) => mv <| h108 _ _ ?_
    show resV _ _ _ _ _
    refine res_cell (s := some 2) (by kernel_rfl) <| vl_ldA (cs := [.string (str ([])), .string (str ([]))]) rfl rfl ((hM109.at (i := 2) (j := 0) rfl rfl).agg rfl rfl) <| res_tmp <| ⟨(.tuple [.agg ([.string (str ([])), .string (str ([]))] : List Value).toArray, .bool false].toArray), rfl, ⟨false, _, _, _, _, key, _, rfl, hF.no (fun q => ?_), fun q => absurd q Bool.false_ne_true, hc13, hM109.keep (by simp)⟩⟩
    obtain ⟨q1, q2, q3, q4, q5, q6⟩ := q
    have := q6 (by first | assumption | (simpa using ‹(!fi) = true›) | (simpa using ‹(!rs) = true›) | (simpa using ‹rs = false›) | (simpa using ‹fi = false›)); omega
   refine h84 _ _ <| seq fun _ h110 => mv <| fa rfl <| m_ld (v := .string (str ((key.take V5.toNat) ++ T11))) hM106 (i := 5) (j := 0) rfl rfl rfl rfl <| nilchk rfl <| fa rfl <| m_st (v := .string (str ((key.take V5.toNat) ++ T11))) hM106 (i := 0) rfl rfl rfl rfl (by simp) fun w111 (hM111 : Mem w (ids (⟨bw, 106, [.pointer (some ⟨bc, 0, none⟩), .string (str key)]⟩ :: r0)) w111 [[⟨bw, 106, [.pointer (some ⟨bc, 0, none⟩), .string (str ((key.take V5.toNat) ++ T11))]⟩], r'13, [⟨b2, 100, [.string (str ([])), .string (str ([]))]⟩], rs11, rs13, [⟨b14, 100, [.string (str ((key.take V5.toNat) ++ T11)), .string (str T13)]⟩], [⟨b20, 110, [.int .i64 (endE b a13_ e13_), .int .i64 (endA b a13_ e13_ : Nat)]⟩]]) => h110 _ _ <| seq fun _ h112 => m_ldA (l := [.string (str ((key.take V5.toNat) ++ T11)), .string (str T13)]) hM111 (i := 5) (j := 0) rfl rfl rfl rfl rfl <| m_stA (l := [.string (str ((key.take V5.toNat) ++ T11)), .string (str T13)]) hM111 (i := 2) rfl rfl rfl rfl (by simp [oneCells, Value.oneCell', byteV]) (by simp) fun w113 (hM113 : Mem w (ids (⟨bw, 106, [.pointer (some ⟨bc, 0, none⟩), .string (str key)]⟩ :: r0)) w113 [[⟨bw, 106, [.pointer (some ⟨bc, 0, none⟩), .string (str ((key.take V5.toNat) ++ T11))]⟩], r'13, [⟨b2, 100, [.string (str ((key.take V5.toNat) ++ T11)), .string (str T13)]⟩], rs11, rs13, [⟨b14, 100, [.string (str ((key.take V5.toNat) ++ T11)), .string (str T13)]⟩], [⟨b20, 110, [.int .i64 (endE b a13_ e13_), .int .i64 (endA b a13_ e13_ : Nat)]⟩]]) => mv <| h112 _ _ ?_
   show resV _ _ _ _ _
   refine res_cell (s := some 2) (by kernel_rfl) <| vl_ldA (cs := [.string (str ((key.take V5.toNat) ++ T11)), .string (str T13)]) rfl rfl ((hM113.at (i := 2) (j := 0) rfl rfl).agg rfl rfl) <| res_tmp <| ⟨(.tuple [.agg ([.string (str ((key.take V5.toNat) ++ T11)), .string (str T13)] : List Value).toArray, .bool true].toArray), rfl, ⟨true, _, _, _, _, _, _, rfl, hF.yes ⟨by omega, by omega, fun hh => ?_, by omega, fun hh => ?_, fun hh => ?_⟩, fun _ => ⟨rfl, ?_⟩, hc13, hM113.keep (by simp)⟩⟩
   ·exact absurd hh (by first | assumption | (simpa using ‹(!fi) = true›) | (simpa using ‹(!rs) = true›) | (simpa using ‹rs = false›) | (simpa using ‹fi = false›))
   ·exact absurd (by first | assumption | (simpa using ‹(!fi) = false›) | (simpa using ‹(!rs) = false›)) hh
   ·omega
   rw [List.length_append, List.length_take]; have := hF.snd (by omega); omega
  refine dx rfl <| dx rfl <| dx rfl <| dx rfl <| dx rfl <| dxq rfl <| dxl rfl <| dxl rfl <| dx rfl <| dqg rfl (v := .bool false) (o_pickF rfl rfl) <| dpkF rfl <| h85 _ _ <| cndF rfl <| h84 _ _ <| seq fun _ h114 => mv <| fa rfl <| m_ld (v := .string (str ((key.take V5.toNat) ++ T11))) hM86 (i := 5) (j := 0) rfl rfl rfl rfl <| nilchk rfl <| fa rfl <| m_st (v := .string (str ((key.take V5.toNat) ++ T11))) hM86 (i := 0) rfl rfl rfl rfl (by simp) fun w115 (hM115 : Mem w (ids (⟨bw, 106, [.pointer (some ⟨bc, 0, none⟩), .string (str key)]⟩ :: r0)) w115 [[⟨bw, 106, [.pointer (some ⟨bc, 0, none⟩), .string (str ((key.take V5.toNat) ++ T11))]⟩], r'13, [⟨b2, 100, [.string (str ([])), .string (str ([]))]⟩], rs11, rs13, [⟨b14, 100, [.string (str ((key.take V5.toNat) ++ T11)), .string (str T13)]⟩], [⟨b20, 110, [.int .i64 (endE b a13_ e13_), .int .i64 (endA b a13_ e13_ : Nat)]⟩]]) => h114 _ _ <| seq fun _ h116 => m_ldA (l := [.string (str ((key.take V5.toNat) ++ T11)), .string (str T13)]) hM115 (i := 5) (j := 0) rfl rfl rfl rfl rfl <| m_stA (l := [.string (str ((key.take V5.toNat) ++ T11)), .string (str T13)]) hM115 (i := 2) rfl rfl rfl rfl (by simp [oneCells, Value.oneCell', byteV]) (by simp) fun w117 (hM117 : Mem w (ids (⟨bw, 106, [.pointer (some ⟨bc, 0, none⟩), .string (str key)]⟩ :: r0)) w117 [[⟨bw, 106, [.pointer (some ⟨bc, 0, none⟩), .string (str ((key.take V5.toNat) ++ T11))]⟩], r'13, [⟨b2, 100, [.string (str ((key.take V5.toNat) ++ T11)), .string (str T13)]⟩], rs11, rs13, [⟨b14, 100, [.string (str ((key.take V5.toNat) ++ T11)), .string (str T13)]⟩], [⟨b20, 110, [.int .i64 (endE b a13_ e13_), .int .i64 (endA b a13_ e13_ : Nat)]⟩]]) => mv <| h116 _ _ ?_
  show resV _ _ _ _ _
  refine res_cell (s := some 2) (by kernel_rfl) <| vl_ldA (cs := [.string (str ((key.take V5.toNat) ++ T11)), .string (str T13)]) rfl rfl ((hM117.at (i := 2) (j := 0) rfl rfl).agg rfl rfl) <| res_tmp <| ⟨(.tuple [.agg ([.string (str ((key.take V5.toNat) ++ T11)), .string (str T13)] : List Value).toArray, .bool true].toArray), rfl, ⟨true, _, _, _, _, _, _, rfl, hF.yes ⟨by omega, by omega, fun hh => ?_, by omega, fun hh => ?_, fun hh => ?_⟩, fun _ => ⟨rfl, ?_⟩, hc13, hM117.keep (by simp)⟩⟩
  ·exact absurd hh (by first | assumption | (simpa using ‹(!fi) = true›) | (simpa using ‹(!rs) = true›) | (simpa using ‹rs = false›) | (simpa using ‹fi = false›))
  ·exact absurd (by first | assumption | (simpa using ‹(!fi) = false›) | (simpa using ‹(!rs) = false›)) hh
  ·exact absurd (by first | assumption | (simpa using ‹(!fi) = false›) | (simpa using ‹(!rs) = false›)) hh
  rw [List.length_append, List.length_take]; have := hF.snd (by omega); omega
 refine gx rfl <| gxl rfl <| gx rfl <| pkF rfl <| h23 _ _ <| cndF rfl <| h17 _ _ <| seq fun _ h118 => seq fun _ h119 => mv <| mv <| split rfl (fun c120 => ?_) (fun c120 => ?_)
 ·refine gmv rfl <| gbneq rfl rfl rfl <| pkT rfl <| mv <| splitP rfl (fun c121 => ?_) (fun c121 => ?_)
  ·refine gx rfl <| gx rfl <| gx rfl <| gx rfl <| gxl rfl <| gx rfl <| gx rfl <| pkT rfl <| mv <| splitT rfl <| gx rfl <| gx rfl <| gx rfl <| gx rfl ?_
   refine pkT rfl <| h119 _ _ <| cndT rfl <| seq fun _ h122 => stp (v := .agg ([.string (str ([])), .string (str ([]))] : List Value).toArray) (o_bld rfl rfl) <| m_stA (l := [.string (str ([])), .string (str ([]))]) hM22 (i := 2) rfl rfl rfl rfl (by simp [oneCells, Value.oneCell', byteV]) (by simp) fun w123 (hM123 : Mem w (ids (⟨bw, 106, [.pointer (some ⟨bc, 0, none⟩), .string (str key)]⟩ :: r0)) w123 [[⟨bw, 106, [.pointer (some ⟨bc, 0, none⟩), .string (str key)]⟩], r'13, [⟨b2, 100, [.string (str ([])), .string (str ([]))]⟩], rs11, rs13, [⟨b14, 100, [.string (str ([])), .string (str T13)]⟩], [⟨b20, 110, [.int .i64 (endE b a13_ e13_), .int .i64 (endA b a13_ e13_ : Nat)]⟩]]) => mv <| h122 _ _ ?_
   show resV _ _ _ _ _
   refine res_cell (s := some 2) (by kernel_rfl) <| vl_ldA (cs := [.string (str ([])), .string (str ([]))]) rfl rfl ((hM123.at (i := 2) (j := 0) rfl rfl).agg rfl rfl) <| res_tmp <| ⟨(.tuple [.agg ([.string (str ([])), .string (str ([]))] : List Value).toArray, .bool false].toArray), rfl, ⟨false, _, _, _, _, key, _, rfl, hF.no (fun q => ?_), fun q => absurd q Bool.false_ne_true, hc13, hM123.keep (by simp)⟩⟩
   obtain ⟨q1, q2, q3, q4, q5, q6⟩ := q
   have := q3 (by first | assumption | (simpa using ‹(!fi) = true›) | (simpa using ‹(!rs) = true›) | (simpa using ‹rs = false›) | (simpa using ‹fi = false›)); omega
  refine gmv rfl <| gmv rfl <| stg rfl (v := .pointer (some ⟨bw, 0, none⟩)) (o_nilchk rfl rfl) <| gfa rfl rfl <| gyesl rfl <| m_ld (v := .string (str key)) hM22 (i := 0) (j := 0) rfl rfl rfl rfl <| stg rfl (v := .int .i64 (key.length : Nat)) (o_lens rfl rfl) <| gbn rfl rfl rfl <| pkF rfl <| mv <| splitP rfl (fun c124 => ?_) (fun c124 => ?_)
  ·refine gx rfl <| gx rfl <| gx rfl <| gx rfl <| pkT rfl <| h119 _ _ <| cndT rfl <| seq fun _ h125 => stp (v := .agg ([.string (str ([])), .string (str ([]))] : List Value).toArray) (o_bld rfl rfl) <| m_stA (l := [.string (str ([])), .string (str ([]))]) hM22 (i := 2) rfl rfl rfl rfl (by simp [oneCells, Value.oneCell', byteV]) (by simp) fun w126 (hM126 : Mem w (ids (⟨bw, 106, [.pointer (some ⟨bc, 0, none⟩), .string (str key)]⟩ :: r0)) w126 [[⟨bw, 106, [.pointer (some ⟨bc, 0, none⟩), .string (str key)]⟩], r'13, [⟨b2, 100, [.string (str ([])), .string (str ([]))]⟩], rs11, rs13, [⟨b14, 100, [.string (str ([])), .string (str T13)]⟩], [⟨b20, 110, [.int .i64 (endE b a13_ e13_), .int .i64 (endA b a13_ e13_ : Nat)]⟩]]) => mv <| h125 _ _ ?_
   show resV _ _ _ _ _
   refine res_cell (s := some 2) (by kernel_rfl) <| vl_ldA (cs := [.string (str ([])), .string (str ([]))]) rfl rfl ((hM126.at (i := 2) (j := 0) rfl rfl).agg rfl rfl) <| res_tmp <| ⟨(.tuple [.agg ([.string (str ([])), .string (str ([]))] : List Value).toArray, .bool false].toArray), rfl, ⟨false, _, _, _, _, key, _, rfl, hF.no (fun q => ?_), fun q => absurd q Bool.false_ne_true, hc13, hM126.keep (by simp)⟩⟩
   obtain ⟨q1, q2, q3, q4, q5, q6⟩ := q
   omega
  refine gmv rfl <| gmv rfl <| stg rfl (v := .int .i64 (V5 + V7)) (o_bin rfl rfl (v_add64 (by omega))) <| gbn rfl rfl rfl <| pkF rfl <| h119 _ _ <| cndP rfl (fun c127 => ?_) (fun c127 => ?_)
  ·refine seq fun _ h128 => stp (v := .agg ([.string (str ([])), .string (str ([]))] : List Value).toArray) (o_bld rfl rfl) <| m_stA (l := [.string (str ([])), .string (str ([]))]) hM22 (i := 2) rfl rfl rfl rfl (by simp [oneCells, Value.oneCell', byteV]) (by simp) fun w129 (hM129 : Mem w (ids (⟨bw, 106, [.pointer (some ⟨bc, 0, none⟩), .string (str key)]⟩ :: r0)) w129 [[⟨bw, 106, [.pointer (some ⟨bc, 0, none⟩), .string (str key)]⟩], r'13, [⟨b2, 100, [.string (str ([])), .string (str ([]))]⟩], rs11, rs13, [⟨b14, 100, [.string (str ([])), .string (str T13)]⟩], [⟨b20, 110, [.int .i64 (endE b a13_ e13_), .int .i64 (endA b a13_ e13_ : Nat)]⟩]]) => mv <| h128 _ _ ?_
   show resV _ _ _ _ _
   refine res_cell (s := some 2) (by kernel_rfl) <| vl_ldA (cs := [.string (str ([])), .string (str ([]))]) rfl rfl ((hM129.at (i := 2) (j := 0) rfl rfl).agg rfl rfl) <| res_tmp <| ⟨(.tuple [.agg ([.string (str ([])), .string (str ([]))] : List Value).toArray, .bool false].toArray), rfl, ⟨false, _, _, _, _, key, _, rfl, hF.no (fun q => ?_), fun q => absurd q Bool.false_ne_true, hc13, hM129.keep (by simp)⟩⟩
   obtain ⟨q1, q2, q3, q4, q5, q6⟩ := q
   omega
  refine h118 _ _ <| seq fun _ h130 => mv <| nilchk rfl <| fa rfl <| m_ld (v := .string (str key)) hM22 (i := 0) (j := 0) rfl rfl rfl rfl <| mv <| stp (v := .string (str (key.take V5.toNat))) (o_slcs (a := 0) (b := V5.toNat) rfl (by omega) ⟨_, v_int (by omega)⟩ rfl rfl) <| mv <| stp (v := .string (str ((key.take V5.toNat) ++ T11))) (o_sadd rfl rfl (by first | omega | (simp; omega)) rfl) <| fa rfl <| m_st (v := .string (str ((key.take V5.toNat) ++ T11))) hM22 (i := 5) rfl rfl rfl rfl (by simp) fun w131 (hM131 : Mem w (ids (⟨bw, 106, [.pointer (some ⟨bc, 0, none⟩), .string (str key)]⟩ :: r0)) w131 [[⟨bw, 106, [.pointer (some ⟨bc, 0, none⟩), .string (str key)]⟩], r'13, [⟨b2, 100, [.string (str ([])), .string (str ([]))]⟩], rs11, rs13, [⟨b14, 100, [.string (str ((key.take V5.toNat) ++ T11)), .string (str T13)]⟩], [⟨b20, 110, [.int .i64 (endE b a13_ e13_), .int .i64 (endA b a13_ e13_ : Nat)]⟩]]) => h130 _ _ <| seq fun _ h132 => seq fun _ h133 => ?_
  intro wd e1 e2 e3 e4
  have hd := Upd.same e1 e2 e3 e4 []
  have hM134 := hM131.pure hd
  clear e1 e2 e3 e4
  refine ⟨(some [bw, b14]), ?_⟩
  show vd _ _ _ _ _ _ _
  refine dmv <| dq (v := .bool (!fi)) (o_not rfl rfl) <| dmv <| dsplit rfl (fun c135 => ?_) (fun c135 => ?_)
  ·refine dgfa rfl rfl <| dgmv rfl <| dqg rfl (v := .pointer (some ⟨bw, 0, none⟩)) (o_nilchk rfl rfl) <| dgfa rfl rfl <| dqgyes rfl rfl <| dqld rfl (by simp [isHeld]) (v := .string (str key)) ((hM134.at (i := 0) (j := 0) rfl rfl).cell 1) <| dgyesl rfl <| dl (m_ld (v := .string (str ((key.take V5.toNat) ++ T11))) hM134 (i := 5) (j := 0) rfl rfl rfl rfl <| ⟨(fun b hb => rfl), dgyesl rfl <| dl (m_call (Compare_ok ((key.take V5.toNat) ++ T11) key wd (by first | omega | (simp; done) | (simp; omega)) (by first | omega | (simp; done) | (simp; omega))) rfl fun v136 w136 ⟨hr136, hu136⟩ => ?_)⟩)
   have hM136 : Mem w (ids (⟨bw, 106, [.pointer (some ⟨bc, 0, none⟩), .string (str key)]⟩ :: r0)) w136 [[⟨bw, 106, [.pointer (some ⟨bc, 0, none⟩), .string (str key)]⟩], r'13, [⟨b2, 100, [.string (str ([])), .string (str ([]))]⟩], rs11, rs13, [⟨b14, 100, [.string (str ((key.take V5.toNat) ++ T11)), .string (str T13)]⟩], [⟨b20, 110, [.int .i64 (endE b a13_ e13_), .int .i64 (endA b a13_ e13_ : Nat)]⟩]] := hM134.pure hu136
   subst hr136
   have hh136 := held_upd (wr := wd) (bs := [bw, b14]) hu136 (fun b hb => by
    simp only [List.mem_cons, List.not_mem_nil, or_false] at hb
    rcases hb with h | h
    ·rw [h]; exact ⟨(hM134.at (i := 0) (j := 0) rfl rfl).lt, by simp⟩
    rw [h]; exact ⟨(hM134.at (i := 5) (j := 0) rfl rfl).lt, by simp⟩) (fun b hb => rfl)
   refine ⟨hh136, dgbn rfl rfl rfl <| dpkT rfl <| dmv <| dsplitP rfl (fun c137 => ?_) (fun c137 => ?_)⟩
   ·refine dx rfl <| dx rfl <| dx rfl <| dsplitU rfl <| dgnou rfl <| dgnou rfl <| dgnou rfl <| dgnou rfl <| dgnou rfl <| dqgnou rfl <| dgnolu rfl <| dgnolu rfl <| dgnou rfl <| dx rfl ?_
    refine dpkT rfl <| h133 _ _ <| cndT rfl <| seq fun _ h138 => stp (v := .agg ([.string (str ([])), .string (str ([]))] : List Value).toArray) (o_bld rfl rfl) <| m_stA (l := [.string (str ([])), .string (str ([]))]) hM136 (i := 2) rfl rfl rfl rfl (by simp [oneCells, Value.oneCell', byteV]) (by simp) fun w139 (hM139 : Mem w (ids (⟨bw, 106, [.pointer (some ⟨bc, 0, none⟩), .string (str key)]⟩ :: r0)) w139 [[⟨bw, 106, [.pointer (some ⟨bc, 0, none⟩), .string (str key)]⟩], r'13, [⟨b2, 100, [.string (str ([])), .string (str ([]))]⟩], rs11, rs13, [⟨b14, 100, [.string (str ((key.take V5.toNat) ++ T11)), .string (str T13)]⟩], [⟨b20, 110, [.int .i64 (endE b a13_ e13_), .int .i64 (endA b a13_ e13_ : Nat)]⟩]]) => mv <| h138 _ _ ?_
    show resV _ _ _ _ _
    refine res_cell (s := some 2) (by kernel_rfl) <| vl_ldA (cs := [.string (str ([])), .string (str ([]))]) rfl rfl ((hM139.at (i := 2) (j := 0) rfl rfl).agg rfl rfl) <| res_tmp <| ⟨(.tuple [.agg ([.string (str ([])), .string (str ([]))] : List Value).toArray, .bool false].toArray), rfl, ⟨false, _, _, _, _, key, _, rfl, hF.no (fun q => ?_), fun q => absurd q Bool.false_ne_true, hc13, hM139.keep (by simp)⟩⟩
    obtain ⟨q1, q2, q3, q4, q5, q6⟩ := q
    have := q5 (by first | assumption | (simpa using ‹(!fi) = true›) | (simpa using ‹(!rs) = true›) | (simpa using ‹rs = false›) | (simpa using ‹fi = false›)); omega
   refine dgmv rfl <| dqg rfl (v := .bool (!rs)) (o_not rfl rfl) <| dgmv rfl <| dsplit rfl (fun c140 => ?_) (fun c140 => ?_)
   ·refine dgmv rfl <| dqg rfl (v := .pointer (some ⟨bw, 0, none⟩)) (o_nilchk rfl rfl) <| dgfa rfl rfl <| dgfa rfl rfl <| dgmv rfl <| dqgyes rfl rfl <| dqld rfl (by simp [isHeld]) (v := .string (str ((key.take V5.toNat) ++ T11))) ((hM134.at (i := 5) (j := 0) rfl rfl).cell 0) <| dgyesl rfl <| dl (m_ld (v := .string (str key)) hM136 (i := 0) (j := 0) rfl rfl rfl rfl <| ⟨hh136, dgyesl rfl <| dl (m_call (Common_ok key ((key.take V5.toNat) ++ T11) w136 (by first | omega | (simp; done) | (simp; omega)) (by first | omega | (simp; done) | (simp; omega))) rfl fun v141 w141 ⟨hr141, hu141⟩ => ?_)⟩)
    have hM141 : Mem w (ids (⟨bw, 106, [.pointer (some ⟨bc, 0, none⟩), .string (str key)]⟩ :: r0)) w141 [[⟨bw, 106, [.pointer (some ⟨bc, 0, none⟩), .string (str key)]⟩], r'13, [⟨b2, 100, [.string (str ([])), .string (str ([]))]⟩], rs11, rs13, [⟨b14, 100, [.string (str ((key.take V5.toNat) ++ T11)), .string (str T13)]⟩], [⟨b20, 110, [.int .i64 (endE b a13_ e13_), .int .i64 (endA b a13_ e13_ : Nat)]⟩]] := hM136.pure hu141
    subst hr141
    have hh141 := held_upd (wr := wd) (bs := [bw, b14]) hu141 (fun b hb => by
     simp only [List.mem_cons, List.not_mem_nil, or_false] at hb
     rcases hb with h | h
     ·rw [h]; exact ⟨(hM136.at (i := 0) (j := 0) rfl rfl).lt, by simp⟩
     rw [h]; exact ⟨(hM136.at (i := 5) (j := 0) rfl rfl).lt, by simp⟩) hh136
    refine ⟨hh141, dqg rfl (v := .bool (decide (¬ ((common key ((key.take V5.toNat) ++ T11) : Nat) : Int) = V5))) (o_bin rfl rfl v_neq) <| dqg rfl (v := .bool (decide (¬ ((common key ((key.take V5.toNat) ++ T11) : Nat) : Int) = V5))) (o_pickT rfl rfl) <| dpkF rfl <| h133 _ _ <| cndP rfl (fun c142 => ?_) (fun c142 => ?_)⟩
    ·refine seq fun _ h143 => stp (v := .agg ([.string (str ([])), .string (str ([]))] : List Value).toArray) (o_bld rfl rfl) <| m_stA (l := [.string (str ([])), .string (str ([]))]) hM141 (i := 2) rfl rfl rfl rfl (by simp [oneCells, Value.oneCell', byteV]) (by simp) fun w144 (hM144 : Mem w (ids (⟨bw, 106, [.pointer (some ⟨bc, 0, none⟩), .string (str key)]⟩ :: r0)) w144 [[⟨bw, 106, [.pointer (some ⟨bc, 0, none⟩), .string (str key)]⟩], r'13, [⟨b2, 100, [.string (str ([])), .string (str ([]))]⟩], rs11, rs13, [⟨b14, 100, [.string (str ((key.take V5.toNat) ++ T11)), .string (str T13)]⟩], [⟨b20, 110, [.int .i64 (endE b a13_ e13_), .int .i64 (endA b a13_ e13_ : Nat)]⟩]]) => mv <| h143 _ _ ?_
     show resV _ _ _ _ _
     refine res_cell (s := some 2) (by kernel_rfl) <| vl_ldA (cs := [.string (str ([])), .string (str ([]))]) rfl rfl ((hM144.at (i := 2) (j := 0) rfl rfl).agg rfl rfl) <| res_tmp <| ⟨(.tuple [.agg ([.string (str ([])), .string (str ([]))] : List Value).toArray, .bool false].toArray), rfl, ⟨false, _, _, _, _, key, _, rfl, hF.no (fun q => ?_), fun q => absurd q Bool.false_ne_true, hc13, hM144.keep (by simp)⟩⟩
     obtain ⟨q1, q2, q3, q4, q5, q6⟩ := q
     have := q6 (by first | assumption | (simpa using ‹(!fi) = true›) | (simpa using ‹(!rs) = true›) | (simpa using ‹rs = false›) | (simpa using ‹fi = false›)); omega
    refine h132 _ _ <| seq fun _ h145 => mv <| fa rfl <| m_ld (v := .string (str ((key.take V5.toNat) ++ T11))) hM141 (i := 5) (j := 0) rfl rfl rfl rfl <| nilchk rfl <| fa rfl <| m_st (v := .string (str ((key.take V5.toNat) ++ T11))) hM141 (i := 0) rfl rfl rfl rfl (by simp) fun w146 (hM146 : Mem w (ids (⟨bw, 106, [.pointer (some ⟨bc, 0, none⟩), .string (str key)]⟩ :: r0)) w146 [[⟨bw, 106, [.pointer (some ⟨bc, 0, none⟩), .string (str ((key.take V5.toNat) ++ T11))]⟩], r'13, [⟨b2, 100, [.string (str ([])), .string (str ([]))]⟩], rs11, rs13, [⟨b14, 100, [.string (str ((key.take V5.toNat) ++ T11)), .string (str T13)]⟩], [⟨b20, 110, [.int .i64 (endE b a13_ e13_), .int .i64 (endA b a13_ e13_ : Nat)]⟩]]) => h145 _ _ <| seq fun _ h147 => m_ldA (l := [.string (str ((key.take V5.toNat) ++ T11)), .string (str T13)]) hM146 (i := 5) (j := 0) rfl rfl rfl rfl rfl <| m_stA (l := [.string (str ((key.take V5.toNat) ++ T11)), .string (str T13)]) hM146 (i := 2) rfl rfl rfl rfl (by simp [oneCells, Value.oneCell', byteV]) (by simp) fun w148 (hM148 : Mem w (ids (⟨bw, 106, [.pointer (some ⟨bc, 0, none⟩), .string (str key)]⟩ :: r0)) w148 [[⟨bw, 106, [.pointer (some ⟨bc, 0, none⟩), .string (str ((key.take V5.toNat) ++ T11))]⟩], r'13, [⟨b2, 100, [.string (str ((key.take V5.toNat) ++ T11)), .string (str T13)]⟩], rs11, rs13, [⟨b14, 100, [.string (str ((key.take V5.toNat) ++ T11)), .string (str T13)]⟩], [⟨b20, 110, [.int .i64 (endE b a13_ e13_), .int .i64 (endA b a13_ e13_ : Nat)]⟩]]) => mv <| h147 _ _ ?_
    show resV _ _ _ _ _
    refine res_cell (s := some 2) (by kernel_rfl) <| vl_ldA (cs := [.string (str ((key.take V5.toNat) ++ T11)), .string (str T13)]) rfl rfl ((hM148.at (i := 2) (j := 0) rfl rfl).agg rfl rfl) <| res_tmp <| ⟨(.tuple [.agg ([.string (str ((key.take V5.toNat) ++ T11)), .string (str T13)] : List Value).toArray, .bool true].toArray), rfl, ⟨true, _, _, _, _, _, _, rfl, hF.yes ⟨by omega, by omega, fun hh => ?_, by omega, fun hh => ?_, fun hh => ?_⟩, fun _ => ⟨rfl, ?_⟩, hc13, hM148.keep (by simp)⟩⟩
    ·omega
    ·omega
    ·omega
    rw [List.length_append, List.length_take]; have := hF.snd (by omega); omega
   refine dx rfl <| dx rfl <| dx rfl <| dx rfl <| dx rfl <| dxq rfl <| dxl rfl <| dxl rfl <| dx rfl <| dqg rfl (v := .bool false) (o_pickF rfl rfl) <| dpkF rfl <| h133 _ _ <| cndF rfl <| h132 _ _ <| seq fun _ h149 => mv <| fa rfl <| m_ld (v := .string (str ((key.take V5.toNat) ++ T11))) hM136 (i := 5) (j := 0) rfl rfl rfl rfl <| nilchk rfl <| fa rfl <| m_st (v := .string (str ((key.take V5.toNat) ++ T11))) hM136 (i := 0) rfl rfl rfl rfl (by simp) fun w150 (hM150 : Mem w (ids (⟨bw, 106, [.pointer (some ⟨bc, 0, none⟩), .string (str key)]⟩ :: r0)) w150 [[⟨bw, 106, [.pointer (some ⟨bc, 0, none⟩), .string (str ((key.take V5.toNat) ++ T11))]⟩], r'13, [⟨b2, 100, [.string (str ([])), .string (str ([]))]⟩], rs11, rs13, [⟨b14, 100, [.string (str ((key.take V5.toNat) ++ T11)), .string (str T13)]⟩], [⟨b20, 110, [.int .i64 (endE b a13_ e13_), .int .i64 (endA b a13_ e13_ : Nat)]⟩]]) => h149 _ _ <| seq fun _ h151 => m_ldA (l := [.string (str ((key.take V5.toNat) ++ T11)), .string (str T13)]) hM150 (i := 5) (j := 0) rfl rfl rfl rfl rfl <| m_stA (l := [.string (str ((key.take V5.toNat) ++ T11)), .string (str T13)]) hM150 (i := 2) rfl rfl rfl rfl (by simp [oneCells, Value.oneCell', byteV]) (by simp) fun w152 (hM152 : Mem w (ids (⟨bw, 106, [.pointer (some ⟨bc, 0, none⟩), .string (str key)]⟩ :: r0)) w152 [[⟨bw, 106, [.pointer (some ⟨bc, 0, none⟩), .string (str ((key.take V5.toNat) ++ T11))]⟩], r'13, [⟨b2, 100, [.string (str ((key.take V5.toNat) ++ T11)), .string (str T13)]⟩], rs11, rs13, [⟨b14, 100, [.string (str ((key.take V5.toNat) ++ T11)), .string (str T13)]⟩], [⟨b20, 110, [.int .i64 (endE b a13_ e13_), .int .i64 (endA b a13_ e13_ : Nat)]⟩]]) => mv <| h151 _ _ ?_
   show resV _ _ _ _ _
   refine res_cell (s := some 2) (by kernel_rfl) <| vl_ldA (cs := [.string (str ((key.take V5.toNat) ++ T11)), .string (str T13)]) rfl rfl ((hM152.at (i := 2) (j := 0) rfl rfl).agg rfl rfl) <| res_tmp <| ⟨(.tuple [.agg ([.string (str ((key.take V5.toNat) ++ T11)), .string (str T13)] : List Value).toArray, .bool true].toArray), rfl, ⟨true, _, _, _, _, _, _, rfl, hF.yes ⟨by omega, by omega, fun hh => ?_, by omega, fun hh => ?_, fun hh => ?_⟩, fun _ => ⟨rfl, ?_⟩, hc13, hM152.keep (by simp)⟩⟩
   ·omega
   ·omega
   ·exact absurd (by first | assumption | (simpa using ‹(!fi) = false›) | (simpa using ‹(!rs) = false›)) hh
   rw [List.length_append, List.length_take]; have := hF.snd (by omega); omega
  refine dx rfl <| dx rfl <| dx rfl <| dx rfl <| dxq rfl <| dxl rfl <| dxl rfl <| dx rfl <| dpkF rfl <| dmv <| dsplitF rfl <| dgmv rfl <| dqg rfl (v := .bool (!rs)) (o_not rfl rfl) <| dgmv rfl <| dsplit rfl (fun c153 => ?_) (fun c153 => ?_)
  ·refine dgmv rfl <| dqg rfl (v := .pointer (some ⟨bw, 0, none⟩)) (o_nilchk rfl rfl) <| dgfa rfl rfl <| dgfa rfl rfl <| dgmv rfl <| dqgyes rfl rfl <| dqld rfl (by simp [isHeld]) (v := .string (str ((key.take V5.toNat) ++ T11))) ((hM134.at (i := 5) (j := 0) rfl rfl).cell 0) <| dgyesl rfl <| dl (m_ld (v := .string (str key)) hM134 (i := 0) (j := 0) rfl rfl rfl rfl <| ⟨(fun b hb => rfl), dgyesl rfl <| dl (m_call (Common_ok key ((key.take V5.toNat) ++ T11) wd (by first | omega | (simp; done) | (simp; omega)) (by first | omega | (simp; done) | (simp; omega))) rfl fun v154 w154 ⟨hr154, hu154⟩ => ?_)⟩)
   have hM154 : Mem w (ids (⟨bw, 106, [.pointer (some ⟨bc, 0, none⟩), .string (str key)]⟩ :: r0)) w154 [[⟨bw, 106, [.pointer (some ⟨bc, 0, none⟩), .string (str key)]⟩], r'13, [⟨b2, 100, [.string (str ([])), .string (str ([]))]⟩], rs11, rs13, [⟨b14, 100, [.string (str ((key.take V5.toNat) ++ T11)), .string (str T13)]⟩], [⟨b20, 110, [.int .i64 (endE b a13_ e13_), .int .i64 (endA b a13_ e13_ : Nat)]⟩]] := hM134.pure hu154
   subst hr154
   have hh154 := held_upd (wr := wd) (bs := [bw, b14]) hu154 (fun b hb => by
    simp only [List.mem_cons, List.not_mem_nil, or_false] at hb
    rcases hb with h | h
    ·rw [h]; exact ⟨(hM134.at (i := 0) (j := 0) rfl rfl).lt, by simp⟩
    rw [h]; exact ⟨(hM134.at (i := 5) (j := 0) rfl rfl).lt, by simp⟩) (fun b hb => rfl)
   refine ⟨hh154, dqg rfl (v := .bool (decide (¬ ((common key ((key.take V5.toNat) ++ T11) : Nat) : Int) = V5))) (o_bin rfl rfl v_neq) <| dqg rfl (v := .bool (decide (¬ ((common key ((key.take V5.toNat) ++ T11) : Nat) : Int) = V5))) (o_pickT rfl rfl) <| dpkF rfl <| h133 _ _ <| cndP rfl (fun c155 => ?_) (fun c155 => ?_)⟩
   ·refine seq fun _ h156 => stp (v := .agg ([.string (str ([])), .string (str ([]))] : List Value).toArray) (o_bld rfl rfl) <| m_stA (l := [.string (str ([])), .string (str ([]))]) hM154 (i := 2) rfl rfl rfl rfl (by simp [oneCells, Value.oneCell', byteV]) (by simp) fun w157 (hM157 : Mem w (ids (⟨bw, 106, [.pointer (some ⟨bc, 0, none⟩), .string (str key)]⟩ :: r0)) w157 [[⟨bw, 106, [.pointer (some ⟨bc, 0, none⟩), .string (str key)]⟩], r'13, [⟨b2, 100, [.string (str ([])), .string (str ([]))]⟩], rs11, rs13, [⟨b14, 100, [.string (str ((key.take V5.toNat) ++ T11)), .string (str T13)]⟩], [⟨b20, 110, [.int .i64 (endE b a13_ e13_), .int .i64 (endA b a13_ e13_ : Nat)]⟩]]) => mv <| h156 _ _ ?_
    show resV _ _ _ _ _
    refine res_cell (s := some 2) (by kernel_rfl) <| vl_ldA (cs := [.string (str ([])), .string (str ([]))]) rfl rfl ((hM157.at (i := 2) (j := 0) rfl rfl).agg rfl rfl) <| res_tmp <| ⟨(.tuple [.agg ([.string (str ([])), .string (str ([]))] : List Value).toArray, .bool false].toArray), rfl, ⟨false, _, _, _, _, key, _, rfl, hF.no (fun q => ?_), fun q => absurd q Bool.false_ne_true, hc13, hM157.keep (by simp)⟩⟩
    obtain ⟨q1, q2, q3, q4, q5, q6⟩ := q
    have := q6 (by first | assumption | (simpa using ‹(!fi) = true›) | (simpa using ‹(!rs) = true›) | (simpa using ‹rs = false›) | (simpa using ‹fi = false›)); omega
   refine h132 _ _ <| seq fun _ h158 => mv <| fa rfl <| m_ld (v := .string (str ((key.take V5.toNat) ++ T11))) hM154 (i := 5) (j := 0) rfl rfl rfl rfl <| nilchk rfl <| fa rfl <| m_st (v := .string (str ((key.take V5.toNat) ++ T11))) hM154 (i := 0) rfl rfl rfl rfl (by simp) fun w159 (hM159 : Mem w (ids (⟨bw, 106, [.pointer (some ⟨bc, 0, none⟩), .string (str key)]⟩ :: r0)) w159 [[⟨bw, 106, [.pointer (some ⟨bc, 0, none⟩), .string (str ((key.take V5.toNat) ++ T11))]⟩], r'13, [⟨b2, 100, [.string (str ([])), .string (str ([]))]⟩], rs11, rs13, [⟨b14, 100, [.string (str ((key.take V5.toNat) ++ T11)), .string (str T13)]⟩], [⟨b20, 110, [.int .i64 (endE b a13_ e13_), .int .i64 (endA b a13_ e13_ : Nat)]⟩]]) => h158 _ _ <| seq fun _ h160 => m_ldA (l := [.string (str ((key.take V5.toNat) ++ T11)), .string (str T13)]) hM159 (i := 5) (j := 0) rfl rfl rfl rfl rfl <| m_stA (l := [.string (str ((key.take V5.toNat) ++ T11)), .string (str T13)]) hM159 (i := 2) rfl rfl rfl rfl (by simp [oneCells, Value.oneCell', byteV]) (by simp) fun w161 (hM161 : Mem w (ids (⟨bw, 106, [.pointer (some ⟨bc, 0, none⟩), .string (str key)]⟩ :: r0)) w161 [[⟨bw, 106, [.pointer (some ⟨bc, 0, none⟩), .string (str ((key.take V5.toNat) ++ T11))]⟩], r'13, [⟨b2, 100, [.string (str ((key.take V5.toNat) ++ T11)), .string (str T13)]⟩], rs11, rs13, [⟨b14, 100, [.string (str ((key.take V5.toNat) ++ T11)), .string (str T13)]⟩], [⟨b20, 110, [.int .i64 (endE b a13_ e13_), .int .i64 (endA b a13_ e13_ : Nat)]⟩]]) => mv <| h160 _ _ ?_
   show resV _ _ _ _ _
   refine res_cell (s := some 2) (by kernel_rfl) <| vl_ldA (cs := [.string (str ((key.take V5.toNat) ++ T11)), .string (str T13)]) rfl rfl ((hM161.at (i := 2) (j := 0) rfl rfl).agg rfl rfl) <| res_tmp <| ⟨(.tuple [.agg ([.string (str ((key.take V5.toNat) ++ T11)), .string (str T13)] : List Value).toArray, .bool true].toArray), rfl, ⟨true, _, _, _, _, _, _, rfl, hF.yes ⟨by omega, by omega, fun hh => ?_, by omega, fun hh => ?_, fun hh => ?_⟩, fun _ => ⟨rfl, ?_⟩, hc13, hM161.keep (by simp)⟩⟩
   ·omega
   ·exact absurd (by first | assumption | (simpa using ‹(!fi) = false›) | (simpa using ‹(!rs) = false›)) hh
   ·omega
   rw [List.length_append, List.length_take]; have := hF.snd (by omega); omega
  refine dx rfl <| dx rfl <| dx rfl <| dx rfl <| dx rfl <| dxq rfl <| dxl rfl <| dxl rfl <| dx rfl <| dqg rfl (v := .bool false) (o_pickF rfl rfl) <| dpkF rfl <| h133 _ _ <| cndF rfl <| h132 _ _ <| seq fun _ h162 => mv <| fa rfl <| m_ld (v := .string (str ((key.take V5.toNat) ++ T11))) hM134 (i := 5) (j := 0) rfl rfl rfl rfl <| nilchk rfl <| fa rfl <| m_st (v := .string (str ((key.take V5.toNat) ++ T11))) hM134 (i := 0) rfl rfl rfl rfl (by simp) fun w163 (hM163 : Mem w (ids (⟨bw, 106, [.pointer (some ⟨bc, 0, none⟩), .string (str key)]⟩ :: r0)) w163 [[⟨bw, 106, [.pointer (some ⟨bc, 0, none⟩), .string (str ((key.take V5.toNat) ++ T11))]⟩], r'13, [⟨b2, 100, [.string (str ([])), .string (str ([]))]⟩], rs11, rs13, [⟨b14, 100, [.string (str ((key.take V5.toNat) ++ T11)), .string (str T13)]⟩], [⟨b20, 110, [.int .i64 (endE b a13_ e13_), .int .i64 (endA b a13_ e13_ : Nat)]⟩]]) => h162 _ _ <| seq fun _ h164 => m_ldA (l := [.string (str ((key.take V5.toNat) ++ T11)), .string (str T13)]) hM163 (i := 5) (j := 0) rfl rfl rfl rfl rfl <| m_stA (l := [.string (str ((key.take V5.toNat) ++ T11)), .string (str T13)]) hM163 (i := 2) rfl rfl rfl rfl (by simp [oneCells, Value.oneCell', byteV]) (by simp) fun w165 (hM165 : Mem w (ids (⟨bw, 106, [.pointer (some ⟨bc, 0, none⟩), .string (str key)]⟩ :: r0)) w165 [[⟨bw, 106, [.pointer (some ⟨bc, 0, none⟩), .string (str ((key.take V5.toNat) ++ T11))]⟩], r'13, [⟨b2, 100, [.string (str ((key.take V5.toNat) ++ T11)), .string (str T13)]⟩], rs11, rs13, [⟨b14, 100, [.string (str ((key.take V5.toNat) ++ T11)), .string (str T13)]⟩], [⟨b20, 110, [.int .i64 (endE b a13_ e13_), .int .i64 (endA b a13_ e13_ : Nat)]⟩]]) => mv <| h164 _ _ ?_
  show resV _ _ _ _ _
  refine res_cell (s := some 2) (by kernel_rfl) <| vl_ldA (cs := [.string (str ((key.take V5.toNat) ++ T11)), .string (str T13)]) rfl rfl ((hM165.at (i := 2) (j := 0) rfl rfl).agg rfl rfl) <| res_tmp <| ⟨(.tuple [.agg ([.string (str ((key.take V5.toNat) ++ T11)), .string (str T13)] : List Value).toArray, .bool true].toArray), rfl, ⟨true, _, _, _, _, _, _, rfl, hF.yes ⟨by omega, by omega, fun hh => ?_, by omega, fun hh => ?_, fun hh => ?_⟩, fun _ => ⟨rfl, ?_⟩, hc13, hM165.keep (by simp)⟩⟩
  ·omega
  ·exact absurd (by first | assumption | (simpa using ‹(!fi) = false›) | (simpa using ‹(!rs) = false›)) hh
  ·exact absurd (by first | assumption | (simpa using ‹(!fi) = false›) | (simpa using ‹(!rs) = false›)) hh
  rw [List.length_append, List.length_take]; have := hF.snd (by omega); omega
 refine gx rfl <| gx rfl <| pkF rfl <| mv <| splitF rfl <| gmv rfl <| gmv rfl <| stg rfl (v := .pointer (some ⟨bw, 0, none⟩)) (o_nilchk rfl rfl) <| gfa rfl rfl <| gyesl rfl <| m_ld (v := .string (str key)) hM22 (i := 0) (j := 0) rfl rfl rfl rfl <| stg rfl (v := .int .i64 (key.length : Nat)) (o_lens rfl rfl) <| gbn rfl rfl rfl <| pkF rfl <| mv <| splitP rfl (fun c166 => ?_) (fun c166 => ?_)
 ·refine gx rfl <| gx rfl <| gx rfl <| gx rfl <| pkT rfl <| h119 _ _ <| cndT rfl <| seq fun _ h167 => stp (v := .agg ([.string (str ([])), .string (str ([]))] : List Value).toArray) (o_bld rfl rfl) <| m_stA (l := [.string (str ([])), .string (str ([]))]) hM22 (i := 2) rfl rfl rfl rfl (by simp [oneCells, Value.oneCell', byteV]) (by simp) fun w168 (hM168 : Mem w (ids (⟨bw, 106, [.pointer (some ⟨bc, 0, none⟩), .string (str key)]⟩ :: r0)) w168 [[⟨bw, 106, [.pointer (some ⟨bc, 0, none⟩), .string (str key)]⟩], r'13, [⟨b2, 100, [.string (str ([])), .string (str ([]))]⟩], rs11, rs13, [⟨b14, 100, [.string (str ([])), .string (str T13)]⟩], [⟨b20, 110, [.int .i64 (endE b a13_ e13_), .int .i64 (endA b a13_ e13_ : Nat)]⟩]]) => mv <| h167 _ _ ?_
  show resV _ _ _ _ _
  refine res_cell (s := some 2) (by kernel_rfl) <| vl_ldA (cs := [.string (str ([])), .string (str ([]))]) rfl rfl ((hM168.at (i := 2) (j := 0) rfl rfl).agg rfl rfl) <| res_tmp <| ⟨(.tuple [.agg ([.string (str ([])), .string (str ([]))] : List Value).toArray, .bool false].toArray), rfl, ⟨false, _, _, _, _, key, _, rfl, hF.no (fun q => ?_), fun q => absurd q Bool.false_ne_true, hc13, hM168.keep (by simp)⟩⟩
  obtain ⟨q1, q2, q3, q4, q5, q6⟩ := q
  omega
 refine gmv rfl <| gmv rfl <| stg rfl (v := .int .i64 (V5 + V7)) (o_bin rfl rfl (v_add64 (by omega))) <| gbn rfl rfl rfl <| pkF rfl <| h119 _ _ <| cndP rfl (fun c169 => ?_) (fun c169 => ?_)
 ·refine seq fun _ h170 => stp (v := .agg ([.string (str ([])), .string (str ([]))] : List Value).toArray) (o_bld rfl rfl) <| m_stA (l := [.string (str ([])), .string (str ([]))]) hM22 (i := 2) rfl rfl rfl rfl (by simp [oneCells, Value.oneCell', byteV]) (by simp) fun w171 (hM171 : Mem w (ids (⟨bw, 106, [.pointer (some ⟨bc, 0, none⟩), .string (str key)]⟩ :: r0)) w171 [[⟨bw, 106, [.pointer (some ⟨bc, 0, none⟩), .string (str key)]⟩], r'13, [⟨b2, 100, [.string (str ([])), .string (str ([]))]⟩], rs11, rs13, [⟨b14, 100, [.string (str ([])), .string (str T13)]⟩], [⟨b20, 110, [.int .i64 (endE b a13_ e13_), .int .i64 (endA b a13_ e13_ : Nat)]⟩]]) => mv <| h170 _ _ ?_
  show resV _ _ _ _ _
  refine res_cell (s := some 2) (by kernel_rfl) <| vl_ldA (cs := [.string (str ([])), .string (str ([]))]) rfl rfl ((hM171.at (i := 2) (j := 0) rfl rfl).agg rfl rfl) <| res_tmp <| ⟨(.tuple [.agg ([.string (str ([])), .string (str ([]))] : List Value).toArray, .bool false].toArray), rfl, ⟨false, _, _, _, _, key, _, rfl, hF.no (fun q => ?_), fun q => absurd q Bool.false_ne_true, hc13, hM171.keep (by simp)⟩⟩
  obtain ⟨q1, q2, q3, q4, q5, q6⟩ := q
  omega
 refine h118 _ _ <| seq fun _ h172 => mv <| nilchk rfl <| fa rfl <| m_ld (v := .string (str key)) hM22 (i := 0) (j := 0) rfl rfl rfl rfl <| mv <| stp (v := .string (str (key.take V5.toNat))) (o_slcs (a := 0) (b := V5.toNat) rfl (by omega) ⟨_, v_int (by omega)⟩ rfl rfl) <| mv <| stp (v := .string (str ((key.take V5.toNat) ++ T11))) (o_sadd rfl rfl (by first | omega | (simp; omega)) rfl) <| fa rfl <| m_st (v := .string (str ((key.take V5.toNat) ++ T11))) hM22 (i := 5) rfl rfl rfl rfl (by simp) fun w173 (hM173 : Mem w (ids (⟨bw, 106, [.pointer (some ⟨bc, 0, none⟩), .string (str key)]⟩ :: r0)) w173 [[⟨bw, 106, [.pointer (some ⟨bc, 0, none⟩), .string (str key)]⟩], r'13, [⟨b2, 100, [.string (str ([])), .string (str ([]))]⟩], rs11, rs13, [⟨b14, 100, [.string (str ((key.take V5.toNat) ++ T11)), .string (str T13)]⟩], [⟨b20, 110, [.int .i64 (endE b a13_ e13_), .int .i64 (endA b a13_ e13_ : Nat)]⟩]]) => h172 _ _ <| seq fun _ h174 => seq fun _ h175 => ?_
 intro wd e1 e2 e3 e4
 have hd := Upd.same e1 e2 e3 e4 []
 have hM176 := hM173.pure hd
 clear e1 e2 e3 e4
 refine ⟨(some [bw, b14]), ?_⟩
 show vd _ _ _ _ _ _ _
 refine dmv <| dq (v := .bool (!fi)) (o_not rfl rfl) <| dmv <| dsplit rfl (fun c177 => ?_) (fun c177 => ?_)
 ·refine dgfa rfl rfl <| dgmv rfl <| dqg rfl (v := .pointer (some ⟨bw, 0, none⟩)) (o_nilchk rfl rfl) <| dgfa rfl rfl <| dqgyes rfl rfl <| dqld rfl (by simp [isHeld]) (v := .string (str key)) ((hM176.at (i := 0) (j := 0) rfl rfl).cell 1) <| dgyesl rfl <| dl (m_ld (v := .string (str ((key.take V5.toNat) ++ T11))) hM176 (i := 5) (j := 0) rfl rfl rfl rfl <| ⟨(fun b hb => rfl), dgyesl rfl <| dl (m_call (Compare_ok ((key.take V5.toNat) ++ T11) key wd (by first | omega | (simp; done) | (simp; omega)) (by first | omega | (simp; done) | (simp; omega))) rfl fun v178 w178 ⟨hr178, hu178⟩ => ?_)⟩)
  have hM178 : Mem w (ids (⟨bw, 106, [.pointer (some ⟨bc, 0, none⟩), .string (str key)]⟩ :: r0)) w178 [[⟨bw, 106, [.pointer (some ⟨bc, 0, none⟩), .string (str key)]⟩], r'13, [⟨b2, 100, [.string (str ([])), .string (str ([]))]⟩], rs11, rs13, [⟨b14, 100, [.string (str ((key.take V5.toNat) ++ T11)), .string (str T13)]⟩], [⟨b20, 110, [.int .i64 (endE b a13_ e13_), .int .i64 (endA b a13_ e13_ : Nat)]⟩]] := hM176.pure hu178
  subst hr178
  have hh178 := held_upd (wr := wd) (bs := [bw, b14]) hu178 (fun b hb => by
   simp only [List.mem_cons, List.not_mem_nil, or_false] at hb
   rcases hb with h | h
   ·rw [h]; exact ⟨(hM176.at (i := 0) (j := 0) rfl rfl).lt, by simp⟩
   rw [h]; exact ⟨(hM176.at (i := 5) (j := 0) rfl rfl).lt, by simp⟩) (fun b hb => rfl)
  refine ⟨hh178, dgbn rfl rfl rfl <| dpkT rfl <| dmv <| dsplitP rfl (fun c179 => ?_) (fun c179 => ?_)⟩
  ·refine dx rfl <| dx rfl <| dx rfl <| dsplitU rfl <| dgnou rfl <| dgnou rfl <| dgnou rfl <| dgnou rfl <| dgnou rfl <| dqgnou rfl <| dgnolu rfl <| dgnolu rfl <| dgnou rfl <| dx rfl ?_
   refine dpkT rfl <| h175 _ _ <| cndT rfl <| seq fun _ h180 => stp (v := .agg ([.string (str ([])), .string (str ([]))] : List Value).toArray) (o_bld rfl rfl) <| m_stA (l := [.string (str ([])), .string (str ([]))]) hM178 (i := 2) rfl rfl rfl rfl (by simp [oneCells, Value.oneCell', byteV]) (by simp) fun w181 (hM181 : Mem w (ids (⟨bw, 106, [.pointer (some ⟨bc, 0, none⟩), .string (str key)]⟩ :: r0)) w181 [[⟨bw, 106, [.pointer (some ⟨bc, 0, none⟩), .string (str key)]⟩], r'13, [⟨b2, 100, [.string (str ([])), .string (str ([]))]⟩], rs11, rs13, [⟨b14, 100, [.string (str ((key.take V5.toNat) ++ T11)), .string (str T13)]⟩], [⟨b20, 110, [.int .i64 (endE b a13_ e13_), .int .i64 (endA b a13_ e13_ : Nat)]⟩]]) => mv <| h180 _ _ ?_
   show resV _ _ _ _ _
   refine res_cell (s := some 2) (by kernel_rfl) <| vl_ldA (cs := [.string (str ([])), .string (str ([]))]) rfl rfl ((hM181.at (i := 2) (j := 0) rfl rfl).agg rfl rfl) <| res_tmp <| ⟨(.tuple [.agg ([.string (str ([])), .string (str ([]))] : List Value).toArray, .bool false].toArray), rfl, ⟨false, _, _, _, _, key, _, rfl, hF.no (fun q => ?_), fun q => absurd q Bool.false_ne_true, hc13, hM181.keep (by simp)⟩⟩
   obtain ⟨q1, q2, q3, q4, q5, q6⟩ := q
   have := q5 (by first | assumption | (simpa using ‹(!fi) = true›) | (simpa using ‹(!rs) = true›) | (simpa using ‹rs = false›) | (simpa using ‹fi = false›)); omega
  refine dgmv rfl <| dqg rfl (v := .bool (!rs)) (o_not rfl rfl) <| dgmv rfl <| dsplit rfl (fun c182 => ?_) (fun c182 => ?_)
  ·refine dgmv rfl <| dqg rfl (v := .pointer (some ⟨bw, 0, none⟩)) (o_nilchk rfl rfl) <| dgfa rfl rfl <| dgfa rfl rfl <| dgmv rfl <| dqgyes rfl rfl <| dqld rfl (by simp [isHeld]) (v := .string (str ((key.take V5.toNat) ++ T11))) ((hM176.at (i := 5) (j := 0) rfl rfl).cell 0) <| dgyesl rfl <| dl (m_ld (v := .string (str key)) hM178 (i := 0) (j := 0) rfl rfl rfl rfl <| ⟨hh178, dgyesl rfl <| dl (m_call (Common_ok key ((key.take V5.toNat) ++ T11) w178 (by first | omega | (simp; done) | (simp; omega)) (by first | omega | (simp; done) | (simp; omega))) rfl fun v183 w183 ⟨hr183, hu183⟩ => ?_)⟩)
   have hM183 : Mem w (ids (⟨bw, 106, [.pointer (some ⟨bc, 0, none⟩), .string (str key)]⟩ :: r0)) w183 [[⟨bw, 106, [.pointer (some ⟨bc, 0, none⟩), .string (str key)]⟩], r'13, [⟨b2, 100, [.string (str ([])), .string (str ([]))]⟩], rs11, rs13, [⟨b14, 100, [.string (str ((key.take V5.toNat) ++ T11)), .string (str T13)]⟩], [⟨b20, 110, [.int .i64 (endE b a13_ e13_), .int .i64 (endA b a13_ e13_ : Nat)]⟩]] := hM178.pure hu183
   subst hr183
   have hh183 := held_upd (wr := wd) (bs := [bw, b14]) hu183 (fun b hb => by
    simp only [List.mem_cons, List.not_mem_nil, or_false] at hb
    rcases hb with h | h
    ·rw [h]; exact ⟨(hM178.at (i := 0) (j := 0) rfl rfl).lt, by simp⟩
    rw [h]; exact ⟨(hM178.at (i := 5) (j := 0) rfl rfl).lt, by simp⟩) hh178
   refine ⟨hh183, dqg rfl (v := .bool (decide (¬ ((common key ((key.take V5.toNat) ++ T11) : Nat) : Int) = V5))) (o_bin rfl rfl v_neq) <| dqg rfl (v := .bool (decide (¬ ((common key ((key.take V5.toNat) ++ T11) : Nat) : Int) = V5))) (o_pickT rfl rfl) <| dpkF rfl <| h175 _ _ <| cndP rfl (fun c184 => ?_) (fun c184 => ?_)⟩
   ·refine seq fun _ h185 => stp (v := .agg ([.string (str ([])), .string (str ([]))] : List Value).toArray) (o_bld rfl rfl) <| m_stA (l := [.string (str ([])), .string (str ([]))]) hM183 (i := 2) rfl rfl rfl rfl (by simp [oneCells, Value.oneCell', byteV]) (by simp) fun w186 (hM186 : Mem w (ids (⟨bw, 106, [.pointer (some ⟨bc, 0, none⟩), .string (str key)]⟩ :: r0)) w186 [[⟨bw, 106, [.pointer (some ⟨bc, 0, none⟩), .string (str key)]⟩], r'13, [⟨b2, 100, [.string (str ([])), .string (str ([]))]⟩], rs11, rs13, [⟨b14, 100, [.string (str ((key.take V5.toNat) ++ T11)), .string (str T13)]⟩], [⟨b20, 110, [.int .i64 (endE b a13_ e13_), .int .i64 (endA b a13_ e13_ : Nat)]⟩]]) => mv <| h185 _ _ ?_
    show resV _ _ _ _ _
    refine res_cell (s := some 2) (by kernel_rfl) <| vl_ldA (cs := [.string (str ([])), .string (str ([]))]) rfl rfl ((hM186.at (i := 2) (j := 0) rfl rfl).agg rfl rfl) <| res_tmp <| ⟨(.tuple [.agg ([.string (str ([])), .string (str ([]))] : List Value).toArray, .bool false].toArray), rfl, ⟨false, _, _, _, _, key, _, rfl, hF.no (fun q => ?_), fun q => absurd q Bool.false_ne_true, hc13, hM186.keep (by simp)⟩⟩
    obtain ⟨q1, q2, q3, q4, q5, q6⟩ := q
    have := q6 (by first | assumption | (simpa using ‹(!fi) = true›) | (simpa using ‹(!rs) = true›) | (simpa using ‹rs = false›) | (simpa using ‹fi = false›)); omega
   refine h174 _ _ <| seq fun _ h187 => mv <| fa rfl <| m_ld (v := .string (str ((key.take V5.toNat) ++ T11))) hM183 (i := 5) (j := 0) rfl rfl rfl rfl <| nilchk rfl <| fa rfl <| m_st (v := .string (str ((key.take V5.toNat) ++ T11))) hM183 (i := 0) rfl rfl rfl rfl (by simp) fun w188 (hM188 : Mem w (ids (⟨bw, 106, [.pointer (some ⟨bc, 0, none⟩), .string (str key)]⟩ :: r0)) w188 [[⟨bw, 106, [.pointer (some ⟨bc, 0, none⟩), .string (str ((key.take V5.toNat) ++ T11))]⟩], r'13, [⟨b2, 100, [.string (str ([])), .string (str ([]))]⟩], rs11, rs13, [⟨b14, 100, [.string (str ((key.take V5.toNat) ++ T11)), .string (str T13)]⟩], [⟨b20, 110, [.int .i64 (endE b a13_ e13_), .int .i64 (endA b a13_ e13_ : Nat)]⟩]]) => h187 _ _ <| seq fun _ h189 => m_ldA (l := [.string (str ((key.take V5.toNat) ++ T11)), .string (str T13)]) hM188 (i := 5) (j := 0) rfl rfl rfl rfl rfl <| m_stA (l := [.string (str ((key.take V5.toNat) ++ T11)), .string (str T13)]) hM188 (i := 2) rfl rfl rfl rfl (by simp [oneCells, Value.oneCell', byteV]) (by simp) fun w190 (hM190 : Mem w (ids (⟨bw, 106, [.pointer (some ⟨bc, 0, none⟩), .string (str key)]⟩ :: r0)) w190 [[⟨bw, 106, [.pointer (some ⟨bc, 0, none⟩), .string (str ((key.take V5.toNat) ++ T11))]⟩], r'13, [⟨b2, 100, [.string (str ((key.take V5.toNat) ++ T11)), .string (str T13)]⟩], rs11, rs13, [⟨b14, 100, [.string (str ((key.take V5.toNat) ++ T11)), .string (str T13)]⟩], [⟨b20, 110, [.int .i64 (endE b a13_ e13_), .int .i64 (endA b a13_ e13_ : Nat)]⟩]]) => mv <| h189 _ _ ?_
   show resV _ _ _ _ _
   refine res_cell (s := some 2) (by kernel_rfl) <| vl_ldA (cs := [.string (str ((key.take V5.toNat) ++ T11)), .string (str T13)]) rfl rfl ((hM190.at (i := 2) (j := 0) rfl rfl).agg rfl rfl) <| res_tmp <| ⟨(.tuple [.agg ([.string (str ((key.take V5.toNat) ++ T11)), .string (str T13)] : List Value).toArray, .bool true].toArray), rfl, ⟨true, _, _, _, _, _, _, rfl, hF.yes ⟨by omega, by omega, fun hh => ?_, by omega, fun hh => ?_, fun hh => ?_⟩, fun _ => ⟨rfl, ?_⟩, hc13, hM190.keep (by simp)⟩⟩
   ·exact absurd hh (by first | assumption | (simpa using ‹(!fi) = true›) | (simpa using ‹(!rs) = true›) | (simpa using ‹rs = false›) | (simpa using ‹fi = false›))
   ·omega
   ·omega
   rw [List.length_append, List.length_take]; have := hF.snd (by omega); omega
  refine dx rfl <| dx rfl <| dx rfl <| dx rfl <| dx rfl <| dxq rfl <| dxl rfl <| dxl rfl <| dx rfl <| dqg rfl (v := .bool false) (o_pickF rfl rfl) <| dpkF rfl <| h175 _ _ <| cndF rfl <| h174 _ _ <| seq fun _ h191 => mv <| fa rfl <| m_ld (v := .string (str ((key.take V5.toNat) ++ T11))) hM178 (i := 5) (j := 0) rfl rfl rfl rfl <| nilchk rfl <| fa rfl <| m_st (v := .string (str ((key.take V5.toNat) ++ T11))) hM178 (i := 0) rfl rfl rfl rfl (by simp) fun w192 (hM192 : Mem w (ids (⟨bw, 106, [.pointer (some ⟨bc, 0, none⟩), .string (str key)]⟩ :: r0)) w192 [[⟨bw, 106, [.pointer (some ⟨bc, 0, none⟩), .string (str ((key.take V5.toNat) ++ T11))]⟩], r'13, [⟨b2, 100, [.string (str ([])), .string (str ([]))]⟩], rs11, rs13, [⟨b14, 100, [.string (str ((key.take V5.toNat) ++ T11)), .string (str T13)]⟩], [⟨b20, 110, [.int .i64 (endE b a13_ e13_), .int .i64 (endA b a13_ e13_ : Nat)]⟩]]) => h191 _ _ <| seq fun _ h193 => m_ldA (l := [.string (str ((key.take V5.toNat) ++ T11)), .string (str T13)]) hM192 (i := 5) (j := 0) rfl rfl rfl rfl rfl <| m_stA (l := [.string (str ((key.take V5.toNat) ++ T11)), .string (str T13)]) hM192 (i := 2) rfl rfl rfl rfl (by simp [oneCells, Value.oneCell', byteV]) (by simp) fun w194 (hM194 : Mem w (ids (⟨bw, 106, [.pointer (some ⟨bc, 0, none⟩), .string (str key)]⟩ :: r0)) w194 [[⟨bw, 106, [.pointer (some ⟨bc, 0, none⟩), .string (str ((key.take V5.toNat) ++ T11))]⟩], r'13, [⟨b2, 100, [.string (str ((key.take V5.toNat) ++ T11)), .string (str T13)]⟩], rs11, rs13, [⟨b14, 100, [.string (str ((key.take V5.toNat) ++ T11)), .string (str T13)]⟩], [⟨b20, 110, [.int .i64 (endE b a13_ e13_), .int .i64 (endA b a13_ e13_ : Nat)]⟩]]) => mv <| h193 _ _ ?_
  show resV _ _ _ _ _
  refine res_cell (s := some 2) (by kernel_rfl) <| vl_ldA (cs := [.string (str ((key.take V5.toNat) ++ T11)), .string (str T13)]) rfl rfl ((hM194.at (i := 2) (j := 0) rfl rfl).agg rfl rfl) <| res_tmp <| ⟨(.tuple [.agg ([.string (str ((key.take V5.toNat) ++ T11)), .string (str T13)] : List Value).toArray, .bool true].toArray), rfl, ⟨true, _, _, _, _, _, _, rfl, hF.yes ⟨by omega, by omega, fun hh => ?_, by omega, fun hh => ?_, fun hh => ?_⟩, fun _ => ⟨rfl, ?_⟩, hc13, hM194.keep (by simp)⟩⟩
  ·exact absurd hh (by first | assumption | (simpa using ‹(!fi) = true›) | (simpa using ‹(!rs) = true›) | (simpa using ‹rs = false›) | (simpa using ‹fi = false›))
  ·omega
  ·exact absurd (by first | assumption | (simpa using ‹(!fi) = false›) | (simpa using ‹(!rs) = false›)) hh
  rw [List.length_append, List.length_take]; have := hF.snd (by omega); omega
 refine dx rfl <| dx rfl <| dx rfl <| dx rfl <| dxq rfl <| dxl rfl <| dxl rfl <| dx rfl <| dpkF rfl <| dmv <| dsplitF rfl <| dgmv rfl <| dqg rfl (v := .bool (!rs)) (o_not rfl rfl) <| dgmv rfl <| dsplit rfl (fun c195 => ?_) (fun c195 => ?_)
 ·refine dgmv rfl <| dqg rfl (v := .pointer (some ⟨bw, 0, none⟩)) (o_nilchk rfl rfl) <| dgfa rfl rfl <| dgfa rfl rfl <| dgmv rfl <| dqgyes rfl rfl <| dqld rfl (by simp [isHeld]) (v := .string (str ((key.take V5.toNat) ++ T11))) ((hM176.at (i := 5) (j := 0) rfl rfl).cell 0) <| dgyesl rfl <| dl (m_ld (v := .string (str key)) hM176 (i := 0) (j := 0) rfl rfl rfl rfl <| ⟨(fun b hb => rfl), dgyesl rfl <| dl (m_call (Common_ok key ((key.take V5.toNat) ++ T11) wd (by first | omega | (simp; done) | (simp; omega)) (by first | omega | (simp; done) | (simp; omega))) rfl fun v196 w196 ⟨hr196, hu196⟩ => ?_)⟩)
  have hM196 : Mem w (ids (⟨bw, 106, [.pointer (some ⟨bc, 0, none⟩), .string (str key)]⟩ :: r0)) w196 [[⟨bw, 106, [.pointer (some ⟨bc, 0, none⟩), .string (str key)]⟩], r'13, [⟨b2, 100, [.string (str ([])), .string (str ([]))]⟩], rs11, rs13, [⟨b14, 100, [.string (str ((key.take V5.toNat) ++ T11)), .string (str T13)]⟩], [⟨b20, 110, [.int .i64 (endE b a13_ e13_), .int .i64 (endA b a13_ e13_ : Nat)]⟩]] := hM176.pure hu196
  subst hr196
  have hh196 := held_upd (wr := wd) (bs := [bw, b14]) hu196 (fun b hb => by
   simp only [List.mem_cons, List.not_mem_nil, or_false] at hb
   rcases hb with h | h
   ·rw [h]; exact ⟨(hM176.at (i := 0) (j := 0) rfl rfl).lt, by simp⟩
   rw [h]; exact ⟨(hM176.at (i := 5) (j := 0) rfl rfl).lt, by simp⟩) (fun b hb => rfl)
  refine ⟨hh196, dqg rfl (v := .bool (decide (¬ ((common key ((key.take V5.toNat) ++ T11) : Nat) : Int) = V5))) (o_bin rfl rfl v_neq) <| dqg rfl (v := .bool (decide (¬ ((common key ((key.take V5.toNat) ++ T11) : Nat) : Int) = V5))) (o_pickT rfl rfl) <| dpkF rfl <| h175 _ _ <| cndP rfl (fun c197 => ?_) (fun c197 => ?_)⟩
  ·refine seq fun _ h198 => stp (v := .agg ([.string (str ([])), .string (str ([]))] : List Value).toArray) (o_bld rfl rfl) <| m_stA (l := [.string (str ([])), .string (str ([]))]) hM196 (i := 2) rfl rfl rfl rfl (by simp [oneCells, Value.oneCell', byteV]) (by simp) fun w199 (hM199 : Mem w (ids (⟨bw, 106, [.pointer (some ⟨bc, 0, none⟩), .string (str key)]⟩ :: r0)) w199 [[⟨bw, 106, [.pointer (some ⟨bc, 0, none⟩), .string (str key)]⟩], r'13, [⟨b2, 100, [.string (str ([])), .string (str ([]))]⟩], rs11, rs13, [⟨b14, 100, [.string (str ((key.take V5.toNat) ++ T11)), .string (str T13)]⟩], [⟨b20, 110, [.int .i64 (endE b a13_ e13_), .int .i64 (endA b a13_ e13_ : Nat)]⟩]]) => mv <| h198 _ _ ?_
   show resV _ _ _ _ _
   refine res_cell (s := some 2) (by kernel_rfl) <| vl_ldA (cs := [.string (str ([])), .string (str ([]))]) rfl rfl ((hM199.at (i := 2) (j := 0) rfl rfl).agg rfl rfl) <| res_tmp <| ⟨(.tuple [.agg ([.string (str ([])), .string (str ([]))] : List Value).toArray, .bool false].toArray), rfl, ⟨false, _, _, _, _, key, _, rfl, hF.no (fun q => ?_), fun q => absurd q Bool.false_ne_true, hc13, hM199.keep (by simp)⟩⟩
   obtain ⟨q1, q2, q3, q4, q5, q6⟩ := q
   have := q6 (by first | assumption | (simpa using ‹(!fi) = true›) | (simpa using ‹(!rs) = true›) | (simpa using ‹rs = false›) | (simpa using ‹fi = false›)); omega
  refine h174 _ _ <| seq fun _ h200 => mv <| fa rfl <| m_ld (v := .string (str ((key.take V5.toNat) ++ T11))) hM196 (i := 5) (j := 0) rfl rfl rfl rfl <| nilchk rfl <| fa rfl <| m_st (v := .string (str ((key.take V5.toNat) ++ T11))) hM196 (i := 0) rfl rfl rfl rfl (by simp) fun w201 (hM201 : Mem w (ids (⟨bw, 106, [.pointer (some ⟨bc, 0, none⟩), .string (str key)]⟩ :: r0)) w201 [[⟨bw, 106, [.pointer (some ⟨bc, 0, none⟩), .string (str ((key.take V5.toNat) ++ T11))]⟩], r'13, [⟨b2, 100, [.string (str ([])), .string (str ([]))]⟩], rs11, rs13, [⟨b14, 100, [.string (str ((key.take V5.toNat) ++ T11)), .string (str T13)]⟩], [⟨b20, 110, [.int .i64 (endE b a13_ e13_), .int .i64 (endA b a13_ e13_ : Nat)]⟩]]) => h200 _ _ <| seq fun _ h202 => m_ldA (l := [.string (str ((key.take V5.toNat) ++ T11)), .string (str T13)]) hM201 (i := 5) (j := 0) rfl rfl rfl rfl rfl <| m_stA (l := [.string (str ((key.take V5.toNat) ++ T11)), .string (str T13)]) hM201 (i := 2) rfl rfl rfl rfl (by simp [oneCells, Value.oneCell', byteV]) (by simp) fun w203 (hM203 : Mem w (ids (⟨bw, 106, [.pointer (some ⟨bc, 0, none⟩), .string (str key)]⟩ :: r0)) w203 [[⟨bw, 106, [.pointer (some ⟨bc, 0, none⟩), .string (str ((key.take V5.toNat) ++ T11))]⟩], r'13, [⟨b2, 100, [.string (str ((key.take V5.toNat) ++ T11)), .string (str T13)]⟩], rs11, rs13, [⟨b14, 100, [.string (str ((key.take V5.toNat) ++ T11)), .string (str T13)]⟩], [⟨b20, 110, [.int .i64 (endE b a13_ e13_), .int .i64 (endA b a13_ e13_ : Nat)]⟩]]) => mv <| h202 _ _ ?_
  show resV _ _ _ _ _
  refine res_cell (s := some 2) (by kernel_rfl) <| vl_ldA (cs := [.string (str ((key.take V5.toNat) ++ T11)), .string (str T13)]) rfl rfl ((hM203.at (i := 2) (j := 0) rfl rfl).agg rfl rfl) <| res_tmp <| ⟨(.tuple [.agg ([.string (str ((key.take V5.toNat) ++ T11)), .string (str T13)] : List Value).toArray, .bool true].toArray), rfl, ⟨true, _, _, _, _, _, _, rfl, hF.yes ⟨by omega, by omega, fun hh => ?_, by omega, fun hh => ?_, fun hh => ?_⟩, fun _ => ⟨rfl, ?_⟩, hc13, hM203.keep (by simp)⟩⟩
  ·exact absurd hh (by first | assumption | (simpa using ‹(!fi) = true›) | (simpa using ‹(!rs) = true›) | (simpa using ‹rs = false›) | (simpa using ‹fi = false›))
  ·exact absurd (by first | assumption | (simpa using ‹(!fi) = false›) | (simpa using ‹(!rs) = false›)) hh
  ·omega
  rw [List.length_append, List.length_take]; have := hF.snd (by omega); omega
 refine dx rfl <| dx rfl <| dx rfl <| dx rfl <| dx rfl <| dxq rfl <| dxl rfl <| dxl rfl <| dx rfl <| dqg rfl (v := .bool false) (o_pickF rfl rfl) <| dpkF rfl <| h175 _ _ <| cndF rfl <| h174 _ _ <| seq fun _ h204 => mv <| fa rfl <| m_ld (v := .string (str ((key.take V5.toNat) ++ T11))) hM176 (i := 5) (j := 0) rfl rfl rfl rfl <| nilchk rfl <| fa rfl <| m_st (v := .string (str ((key.take V5.toNat) ++ T11))) hM176 (i := 0) rfl rfl rfl rfl (by simp) fun w205 (hM205 : Mem w (ids (⟨bw, 106, [.pointer (some ⟨bc, 0, none⟩), .string (str key)]⟩ :: r0)) w205 [[⟨bw, 106, [.pointer (some ⟨bc, 0, none⟩), .string (str ((key.take V5.toNat) ++ T11))]⟩], r'13, [⟨b2, 100, [.string (str ([])), .string (str ([]))]⟩], rs11, rs13, [⟨b14, 100, [.string (str ((key.take V5.toNat) ++ T11)), .string (str T13)]⟩], [⟨b20, 110, [.int .i64 (endE b a13_ e13_), .int .i64 (endA b a13_ e13_ : Nat)]⟩]]) => h204 _ _ <| seq fun _ h206 => m_ldA (l := [.string (str ((key.take V5.toNat) ++ T11)), .string (str T13)]) hM205 (i := 5) (j := 0) rfl rfl rfl rfl rfl <| m_stA (l := [.string (str ((key.take V5.toNat) ++ T11)), .string (str T13)]) hM205 (i := 2) rfl rfl rfl rfl (by simp [oneCells, Value.oneCell', byteV]) (by simp) fun w207 (hM207 : Mem w (ids (⟨bw, 106, [.pointer (some ⟨bc, 0, none⟩), .string (str key)]⟩ :: r0)) w207 [[⟨bw, 106, [.pointer (some ⟨bc, 0, none⟩), .string (str ((key.take V5.toNat) ++ T11))]⟩], r'13, [⟨b2, 100, [.string (str ((key.take V5.toNat) ++ T11)), .string (str T13)]⟩], rs11, rs13, [⟨b14, 100, [.string (str ((key.take V5.toNat) ++ T11)), .string (str T13)]⟩], [⟨b20, 110, [.int .i64 (endE b a13_ e13_), .int .i64 (endA b a13_ e13_ : Nat)]⟩]]) => mv <| h206 _ _ ?_
 show resV _ _ _ _ _
 refine res_cell (s := some 2) (by kernel_rfl) <| vl_ldA (cs := [.string (str ((key.take V5.toNat) ++ T11)), .string (str T13)]) rfl rfl ((hM207.at (i := 2) (j := 0) rfl rfl).agg rfl rfl) <| res_tmp <| ⟨(.tuple [.agg ([.string (str ((key.take V5.toNat) ++ T11)), .string (str T13)] : List Value).toArray, .bool true].toArray), rfl, ⟨true, _, _, _, _, _, _, rfl, hF.yes ⟨by omega, by omega, fun hh => ?_, by omega, fun hh => ?_, fun hh => ?_⟩, fun _ => ⟨rfl, ?_⟩, hc13, hM207.keep (by simp)⟩⟩
 ·exact absurd hh (by first | assumption | (simpa using ‹(!fi) = true›) | (simpa using ‹(!rs) = true›) | (simpa using ‹rs = false›) | (simpa using ‹fi = false›))
 ·exact absurd (by first | assumption | (simpa using ‹(!fi) = false›) | (simpa using ‹(!rs) = false›)) hh
 ·exact absurd (by first | assumption | (simpa using ‹(!fi) = false›) | (simpa using ‹(!rs) = false›)) hh
 rw [List.length_append, List.length_take]; have := hF.snd (by omega); omega
end Go.Proofs.Ytifnmbmijljhfaa.E
namespace Go.Proofs.Ytifnmbmijljhfaa.E
open Go
abbrev Pr2 := List UInt8 × List UInt8
def pairC (x : Pr2) : List Value := [.string (str x.1), .string (str x.2)]
instance : Enc pairC 2 := ⟨fun _ => rfl, by omega, fun c => by intro v hv; simp only [pairC, List.mem_cons, List.not_mem_nil, or_false] at hv; rcases hv with rfl | rfl <;> rfl⟩
def RdrS (br R : Nat) (es : List Pr2) (r : List Ent) : Prop := ∃ v re, r = ⟨br, 96, [.int .i64 (R : Nat), v]⟩ :: re ∧ SlS pairC 2 100 v es re
theorem RLen_ok (br R : Nat) (es : List (List UInt8 × List UInt8)) (r0 : List Ent) (w : World) (hR : RdrS br R es r0) (hr : Res w r0) : Calls Try.prog 16 [.pointer (some ⟨br, 0, none⟩)].toArray w (Rt fun r w' => r = .int .i64 (es.length : Nat) ∧ Mem w (ids r0) w' [r0]) := by
 obtain ⟨v, re, rfl, hv⟩ := hR
 have hM0 : Mem w (ids (⟨br, 96, [.int .i64 (R : Nat), v]⟩ :: re)) w [[⟨br, 96, [.int .i64 (R : Nat), v]⟩], re] := (Mem.start hr).keep (by simp)
 refine calls_vc mixed Try.func16 rfl C16 (by simp [Try.ntmps16]) <| seq fun _ h1 => mv <| h1 _ _ <| seq fun _ h2 => seq fun _ h3 => mv <| stp (v := .bool false) (o_isnil rfl rfl) <| h3 _ _ <| cndF rfl <| h2 _ _ <| seq fun _ h4 => mv <| nilchk rfl ?_
 refine fa rfl <| m_ld (v := v) hM0 (i := 0) (j := 0) rfl rfl rfl rfl <| stp (v := .int .i64 (es.length : Nat)) (o_lenR (hv.rd hM0 (i := 1) rfl) rfl rfl) <| mv <| h4 _ _ <| ⟨(.int .i64 (es.length : Nat)), rfl, ⟨rfl, hM0.keep (by simp)⟩⟩
theorem At_ok (br R : Nat) (es : List (List UInt8 × List UInt8)) (i : Nat) (hi : i < es.length) (r0 : List Ent) (w : World) (hR : RdrS br R es r0) (hr : Res w r0) : Calls Try.prog 19 [.pointer (some ⟨br, 0, none⟩), .int .i64 (i : Nat)].toArray w (Rt fun r w' => r = .tuple [.string (str (es.getD i ([], [])).1), .string (str (es.getD i ([], [])).2), .int .i64 0].toArray ∧ Mem w (ids r0) w' [r0]) := by
 obtain ⟨v, re, rfl, hv⟩ := hR
 have hM0 : Mem w (ids (⟨br, 96, [.int .i64 (R : Nat), v]⟩ :: re)) w [[⟨br, 96, [.int .i64 (R : Nat), v]⟩], re] := (Mem.start hr).keep (by simp)
 refine calls_vc mixed Try.func19 rfl C19 (by simp [Try.ntmps19]) <| seq fun _ h1 => mv <| mv <| mv <| h1 _ _ <| seq fun _ h2 => seq fun _ h3 => mv <| stp (v := .bool false) (o_isnil rfl rfl) <| mv <| h3 _ _ <| cndF rfl <| seq fun _ h4 => ?_
 refine mv <| bn rfl rfl <| mv <| splitP rfl (fun c5 => absurd c5 (by omega)) (fun c5 => gmv rfl <| gmv rfl <| stg rfl (v := .pointer (some ⟨br, 0, none⟩)) (o_nilchk rfl rfl) <| gfa rfl rfl <| gyesl rfl <| m_ld (v := v) hM0 (i := 0) (j := 0) rfl rfl rfl rfl <| stg rfl (v := .int .i64 (es.length : Nat)) (o_lenR (hv.rd hM0 (i := 1) rfl) rfl rfl) <| gbn rfl rfl rfl <| pkF rfl <| mv ?_)
 refine h4 _ _ <| cndP rfl (fun c6 => absurd c6 (by omega)) (fun c6 => h2 _ _ <| seq fun _ h7 => ?_)
 intro wd e1 e2 e3 e4
 have hd := Upd.same e1 e2 e3 e4 []
 have hM8 := hM0.pure hd
 clear e1 e2 e3 e4
 refine ⟨none, ?_⟩
 show vd _ _ _ _ _ _ _
 refine dmv <| dq (v := .pointer (some ⟨br, 0, none⟩)) (o_nilchk rfl rfl) <| dfa rfl <| dmv <| dmv <| dq (v := .pointer (some ⟨br, 0, none⟩)) (o_nilchk rfl rfl) <| dfa rfl <| dmv <| dqld rfl (trivial) (v := v) ((hM8.at (i := 0) (j := 0) rfl rfl).cell 1) <| dqp (m_idxS ([], []) (j := i) (hv.rd hM8 (i := 1) rfl) rfl rfl (by omega) fun b9 o9 hp9 => ?_)
 show vd _ _ _ _ _ _ _
 refine dfa rfl <| dqld rfl (trivial) (v := .string (str ((es.getD i ([], [])).2))) (hp9.get 1 rfl) <| dl (m_ld (v := v) hM8 (i := 0) (j := 0) rfl rfl rfl rfl <| ⟨rfl, dqp (m_idxS ([], []) (j := i) (hv.rd hM8 (i := 1) rfl) rfl rfl (by omega) fun b10 o10 hp10 => ?_)⟩)
 show vd _ _ _ _ _ _ _
 refine dfa rfl <| dl (ld (v := .string (str ((es.getD i ([], [])).1))) rfl (hp10.get 0 rfl) <| ⟨rfl, dmv <| dmv <| dmv <| h7 _ _ <| ⟨(.tuple [.string (str ((es.getD i ([], [])).1)), .string (str ((es.getD i ([], [])).2)), .int .i64 0].toArray), rfl, ⟨rfl, hM8.keep (by simp)⟩⟩⟩)
end Go.Proofs.Ytifnmbmijljhfaa.E
namespace Go.Proofs.Ytifnmbmijljhfaa.E
open Go
structure Bd where
 raw : List UInt8
 st : List Int
 last : List UInt8
 n : Nat
def Bd.z : Bd := ⟨[], [], [], 0⟩
def Bd.add (R : Nat) (s : Bd) (x : Pr2) : Bd := ⟨s.raw ++ wrB (ahd R s.n s.last) x.1 x.2, if s.n % R = 0 then s.st ++ [(s.raw.length : Int)] else s.st, x.1, s.n + 1⟩
def bldF (R : Nat) (es : List Pr2) : Bd := es.foldl (Bd.add R) .z
def okB (es : List Pr2) : Prop := ∀ i, i < es.length → (es.getD i ([], [])).1.length ≤ 1024 ∧ (es.getD i ([], [])).2.length ≤ 1024 ∧ (0 < i → 0 ≤ cmp (es.getD i ([], [])).1 (es.getD (i - 1) ([], [])).1)
def Blk (R : Nat) (es : List Pr2) (raw : List UInt8) : Prop := (1 ≤ R ∧ R ≤ 64) ∧ 0 < es.length ∧ okB es ∧ raw = rawB R (bldF R es).raw (bldF R es).st es.length
def lastK (es : List Pr2) : List UInt8 := (es.getD (es.length - 1) ([], [])).1
theorem bld_snoc (R : Nat) (es : List Pr2) (x : Pr2) : bldF R (es ++ [x]) = (bldF R es).add R x := by unfold bldF; rw [List.foldl_append]; rfl
theorem getD_snoc {α : Type} (z : α) (es : List α) (x : α) : (es ++ [x]).getD es.length z = x := by simp [List.getD_eq_getElem?_getD]
theorem getD_lt {α : Type} (z : α) (es : List α) (x : α) {i : Nat} (h : i < es.length) : (es ++ [x]).getD i z = es.getD i z := by simp [List.getD_eq_getElem?_getD, List.getElem?_append_left h]
theorem rev_ind {P : List Pr2 → Prop} (h0 : P []) (h1 : ∀ es x, P es → P (es ++ [x])) : ∀ es, P es := by
 intro es
 rw [← List.reverse_reverse es]
 induction es.reverse with
 | nil => exact h0
 | cons a r ih => rw [List.reverse_cons]; exact h1 _ _ ih
theorem bld_n (R : Nat) : ∀ es, (bldF R es).n = es.length := rev_ind rfl fun es x ih => by rw [bld_snoc]; show (bldF R es).n + 1 = _; rw [ih, List.length_append]; rfl
theorem bld_last (R : Nat) : ∀ es, (bldF R es).last = lastK es := rev_ind rfl fun es x _ => by
 rw [bld_snoc]
 show x.1 = _
 unfold lastK
 rw [List.length_append, List.length_singleton, Nat.add_sub_cancel, getD_snoc]
def cdiv (R n : Nat) : Nat := (n + R - 1) / R
theorem cdiv_succ {R n : Nat} (hR : 1 ≤ R) : cdiv R (n + 1) = if n % R = 0 then cdiv R n + 1 else cdiv R n := by
 unfold cdiv
 have hd := Nat.div_add_mod n R
 have hm := Nat.mod_lt n (show 0 < R by omega)
 split
 ·rename_i h
  have e1 : n = R * (n / R) := by omega
  have h1 : (n + 1 + R - 1) / R = n / R + 1 := by
   rw [show n + 1 + R - 1 = n + R by omega, Nat.add_div_right _ (by omega)]
  have h2 : (n + R - 1) / R = n / R := by
   rw [show n + R - 1 = R - 1 + R * (n / R) by omega, Nat.add_mul_div_left _ _ (by omega), Nat.div_eq_of_lt (by omega)]; omega
  rw [h1, h2]
 rename_i h
 have h1 : (n + 1 + R - 1) / R = n / R + 1 := by
  rw [show n + 1 + R - 1 = n + R by omega, Nat.add_div_right _ (by omega)]
 have h2 : (n + R - 1) / R = n / R + 1 := by
  rw [show n + R - 1 = (n % R - 1) + R * (n / R + 1) by rw [Nat.mul_add]; omega, Nat.add_mul_div_left _ _ (by omega), Nat.div_eq_of_lt (by omega)]; omega
 rw [h1, h2]
theorem cdiv_0 {R : Nat} (hR : 1 ≤ R) : cdiv R 0 = 0 := by unfold cdiv; exact Nat.div_eq_of_lt (by omega)
theorem cdiv_at {R n : Nat} (hR : 1 ≤ R) (h : n % R = 0) : cdiv R n = n / R := by
 unfold cdiv
 have hd := Nat.div_add_mod n R
 rw [show n + R - 1 = R - 1 + R * (n / R) by omega, Nat.add_mul_div_left _ _ (by omega), Nat.div_eq_of_lt (by omega)]; omega
theorem cdiv_le {R n m : Nat} (h : n ≤ m) : cdiv R n ≤ cdiv R m := Nat.div_le_div_right (by omega)
theorem bld_st (R : Nat) (hR : 1 ≤ R) : ∀ es, (bldF R es).st.length = cdiv R es.length := rev_ind (by rw [show ([] : List Pr2).length = 0 from rfl, cdiv_0 hR]; rfl) fun es x ih => by
 rw [bld_snoc, List.length_append, List.length_singleton, cdiv_succ hR]
 show (if (bldF R es).n % R = 0 then _ else _ : List Int).length = _
 rw [bld_n]
 split
 ·rw [List.length_append, ih]; rfl
 exact ih
theorem bld_raw {R : Nat} : ∀ es, okB es → 3 * es.length ≤ (bldF R es).raw.length := rev_ind (fun _ => Nat.zero_le _) fun es x ih h => by
 have ho : okB es := fun i hi => by
  have := h i (by rw [List.length_append]; omega)
  rw [getD_lt _ _ _ hi] at this
  refine ⟨this.1, this.2.1, fun h0 => ?_⟩
  have q := this.2.2 h0
  rwa [getD_lt _ _ _ (by omega)] at q
 have hx := h es.length (by simp)
 rw [getD_snoc] at hx
 have := (wrB_len (a := ahd R (bldF R es).n (bldF R es).last) hx.1 hx.2.1).2
 have := ih ho
 rw [bld_snoc]
 show _ ≤ ((bldF R es).raw ++ _).length
 rw [List.length_append, List.length_append, List.length_singleton]; omega
theorem bld_ext (R : Nat) (es : List Pr2) : ∀ l, ∃ r s, (bldF R (es ++ l)).raw = (bldF R es).raw ++ r ∧ (bldF R (es ++ l)).st = (bldF R es).st ++ s := rev_ind ⟨[], [], by simp, by simp⟩ fun l x ⟨r, s, h1, h2⟩ => by
 rw [← List.append_assoc, bld_snoc]
 refine ⟨r ++ wrB (ahd R (bldF R (es ++ l)).n (bldF R (es ++ l)).last) x.1 x.2, if (bldF R (es ++ l)).n % R = 0 then s ++ [((bldF R (es ++ l)).raw.length : Int)] else s, ?_, ?_⟩
 ·show (bldF R (es ++ l)).raw ++ _ = _
  rw [← List.append_assoc, ← h1]
 show (if _ then (bldF R (es ++ l)).st ++ _ else (bldF R (es ++ l)).st) = _
 split
 ·rw [h2, List.append_assoc]
 exact h2
end Go.Proofs.Ytifnmbmijljhfaa.E
namespace Go.Proofs.Ytifnmbmijljhfaa.E
open Go
def FullB (R n : Nat) (b X : List UInt8) (es : List Pr2) : Prop := okB es ∧ es.length = n ∧ b = (bldF R es).raw ∧ startsF (bldF R es).st = X.take (4 * cdiv R n)
structure PI (R n : Nat) (b X : List UInt8) (i a : Nat) (p : List UInt8) (es : List Pr2) : Prop where
 len : es.length = i
 raw : b.take a = (bldF R es).raw
 ale : a = (bldF R es).raw.length
 key : p = lastK es
 ok : okB es
 st : startsF (bldF R es).st = X.take (4 * cdiv R i)
 cpl : ∀ es', FullB R n b X es' → es'.take i = es
theorem PI.init {R n : Nat} {b X : List UInt8} (hR : 1 ≤ R) : PI R n b X 0 0 [] [] := ⟨rfl, rfl, rfl, rfl, fun i hi => absurd hi (Nat.not_lt_zero _), by rw [cdiv_0 hR]; rfl, fun _ _ => rfl⟩
theorem fix4_word {a : Nat} (h : a < 4294967296) : word (fixedI (a : Nat) 4) = a := by
 rw [fixedI_some (by omega)]
 unfold word
 rw [List.take_of_length_le (by rw [fixed_length]; decide), le_fixed]
 rw [show (256 : Nat) ^ (Int.toNat 4) = 4294967296 by decide]; omega
theorem word_fix4 {l : List UInt8} (h : l.length = 4) : fixedI (word l : Nat) 4 = l := by
 have := fixed_word (b := l) (by omega) (by omega)
 rwa [h] at this
theorem startsF_app (s t : List Int) : startsF (s ++ t) = startsF s ++ startsF t := by unfold startsF; rw [List.map_append, List.flatten_append]
theorem split_at {es es' : List Pr2} {i : Nat} (h : es'.take i = es) (hi : i < es'.length) : es' = es ++ (es'.getD i ([], [])) :: es'.drop (i + 1) := by
 conv => lhs; rw [← List.take_append_drop i es', h, List.drop_eq_getElem_cons hi]
 simp [List.getD_eq_getElem?_getD, List.getElem?_eq_getElem hi]
theorem if_ahd {R i : Nat} {p : List UInt8} : (if decide (i % R = 0) = true then [] else p) = ahd R i p := by unfold ahd; by_cases h : i % R = 0 <;> simp [h]
section
variable {R n i a : Nat} {b X p : List UInt8} {es : List Pr2} (hI : PI R n b X i a p es) (hR : 1 ≤ R)
include hI
theorem PI.al : a ≤ b.length := by
 have h1 := congrArg List.length hI.raw
 rw [List.length_take, ← hI.ale] at h1; omega
theorem PI.add (x : Pr2) : (bldF R (es ++ [x])).raw = b.take a ++ wrB (ahd R i p) x.1 x.2 ∧ (bldF R (es ++ [x])).st = if i % R = 0 then (bldF R es).st ++ [(a : Int)] else (bldF R es).st := by
 rw [bld_snoc]
 constructor
 ·show (bldF R es).raw ++ wrB (ahd R (bldF R es).n (bldF R es).last) x.1 x.2 = _
  rw [bld_n, bld_last, ← hI.key, hI.len, hI.raw]
 show (if (bldF R es).n % R = 0 then (bldF R es).st ++ [((bldF R es).raw.length : Int)] else (bldF R es).st) = _
 rw [bld_n, hI.len, ← hI.ale]
theorem PI.full (hi : i < n) {es' : List Pr2} (h : FullB R n b X es') : ∃ r s, b.drop a = wrB (ahd R i p) (es'.getD i ([], [])).1 (es'.getD i ([], [])).2 ++ r ∧ (bldF R es').st = (if i % R = 0 then (bldF R es).st ++ [(a : Int)] else (bldF R es).st) ++ s := by
 have hs := split_at (hI.cpl _ h) (by rw [h.2.1]; exact hi)
 obtain ⟨r, s, h1, h2⟩ := bld_ext R (es ++ [es'.getD i ([], [])]) (es'.drop (i + 1))
 rw [List.append_assoc, List.singleton_append, ← hs] at h1 h2
 obtain ⟨g1, g2⟩ := hI.add (es'.getD i ([], []))
 refine ⟨r, s, ?_, by rw [h2, g2]⟩
 have hb := h.2.2.1
 rw [h1, g1, List.append_assoc] at hb
 have hal := hI.al
 have := congrArg (List.drop a) hb
 rwa [List.drop_left' (by rw [List.length_take]; omega)] at this
include hR
theorem PI.start (hi : i < n) (h0 : i % R = 0) (hX : X.length = 4 * cdiv R n + 8) (hb : b.length ≤ 65536) {es' : List Pr2} (h : FullB R n b X es') : word ((X.drop (4 * (i / R))).take 4) = a := by
 obtain ⟨r, s, -, h2⟩ := hI.full hi h
 rw [if_pos h0] at h2
 have h3 := h.2.2.2
 have hl := bld_st R hR es
 rw [hI.len, cdiv_at hR h0] at hl
 have hal := hI.al
 rw [h2, startsF_app, startsF_app, List.append_assoc] at h3
 have h4 := congrArg (fun l => (l.drop (4 * (i / R))).take 4) h3
 have hn : cdiv R (i + 1) ≤ cdiv R n := cdiv_le (by omega)
 rw [cdiv_succ hR, if_pos h0, cdiv_at hR h0] at hn
 rw [List.drop_left' (by rw [starts_len, hl]), show startsF [(a : Int)] = fixedI (a : Nat) 4 by simp [startsF], List.take_left' (fix4_len _), List.drop_take, List.take_take, show min 4 (4 * cdiv R n - 4 * (i / R)) = 4 by omega] at h4
 rw [← h4]
 exact fix4_word (by omega)
theorem PI.restart (hi : i < n) (h0 : i % R = 0) (hX : X.length = 4 * cdiv R n + 8) (h : word ((X.drop (4 * (i / R))).take 4) = a) : (X.drop (4 * (i / R))).take 4 = fixedI (a : Nat) 4 := by
 have _ := hI.len
 have hn : cdiv R (i + 1) ≤ cdiv R n := cdiv_le (by omega)
 rw [cdiv_succ hR, if_pos h0, cdiv_at hR h0] at hn
 have := word_fix4 (l := (X.drop (4 * (i / R))).take 4) (by rw [List.length_take, List.length_drop]; omega)
 rw [h] at this
 exact this.symm
theorem PI.step {a' : Nat} {e' : Int} {x1 x2 : List UInt8} (hi : i < n) (ha : a' ≤ b.length) (hs : i % R = 0 → (X.drop (4 * (i / R))).take 4 = fixedI (a : Nat) 4) (hN : NextQ b a p (decide (i % R = 0)) (decide (i = 0)) true x1 x2 a' e') : PI R n b X (i + 1) a' x1 (es ++ [(x1, x2)]) := by
 obtain ⟨-, g1, g2, g3, g4⟩ := hN.1 rfl
 rw [if_ahd] at g1
 have hal := hI.al
 obtain ⟨q1, q2⟩ := hI.add (x1, x2)
 have hbb : b = (bldF R (es ++ [(x1, x2)])).raw ++ b.drop a' := by rw [q1, List.append_assoc, ← g1, List.take_append_drop]
 have hlen : a' = (bldF R (es ++ [(x1, x2)])).raw.length := by
  have := congrArg List.length hbb
  rw [List.length_append, List.length_drop] at this; omega
 have hraw : b.take a' = (bldF R (es ++ [(x1, x2)])).raw := by
  conv => lhs; rw [hbb]
  exact List.take_left' hlen.symm
 refine ⟨by rw [List.length_append, hI.len]; rfl, hraw, hlen, ?_, ?_, ?_, ?_⟩
 ·unfold lastK; rw [List.length_append, List.length_singleton, Nat.add_sub_cancel, getD_snoc]
 ·intro j hj
  rw [List.length_append, List.length_singleton] at hj
  by_cases hje : j = es.length
  ·subst hje
   rw [getD_snoc]
   refine ⟨g2, g3, fun h0 => ?_⟩
   rw [getD_lt _ _ _ (by omega)]
   have := g4 (by rw [← hI.len]; simp; intro q; rw [q] at h0; simp at h0)
   rw [hI.key] at this; exact this
  have := hI.ok j (by omega)
  rw [getD_lt _ _ _ (by omega)]
  refine ⟨this.1, this.2.1, fun h0 => ?_⟩
  rw [getD_lt _ _ _ (by omega)]; exact this.2.2 h0
 ·rw [q2, cdiv_succ hR]
  split
  ·rename_i h0
   rw [startsF_app, hI.st, cdiv_at hR h0, show startsF [(a : Int)] = fixedI (a : Nat) 4 by simp [startsF], ← hs h0, Nat.mul_add, List.take_add]
  exact hI.st
 intro es' h
 obtain ⟨r, s, h1, -⟩ := hI.full hi h
 have hx := h.1 i (by rw [h.2.1]; exact hi)
 have hcp := hI.cpl _ h
 have hsp := split_at hcp (by rw [h.2.1]; exact hi)
 have hq := hN.2 (es'.getD i ([], [])).1 (es'.getD i ([], [])).2 r (by rw [if_ahd]; exact h1) hx.1 hx.2.1 (fun h0 => by
  have hi0 : 0 < i := Nat.pos_of_ne_zero fun q => h0 (by simp [q])
  have := hx.2.2 hi0
  rw [hI.key]
  unfold lastK
  rw [hI.len]
  rwa [show es.getD (i - 1) ([], []) = es'.getD (i - 1) ([], []) by rw [← hcp]; simp [List.getD_eq_getElem?_getD, List.getElem?_take, show i - 1 < i by omega]])
 rw [hsp, ← hI.len, List.take_append, List.take_of_length_le (by omega), show es.length + 1 - es.length = 1 by omega, hI.len, hq.2.1, hq.2.2.1]
 rfl
theorem PI.stop {a' : Nat} {e' : Int} {x1 x2 : List UInt8} (hi : i < n) (hN : NextQ b a p (decide (i % R = 0)) (decide (i = 0)) false x1 x2 a' e') {es' : List Pr2} (h : FullB R n b X es') : False := by
 have _ := hR
 obtain ⟨r, s, h1, -⟩ := hI.full hi h
 have hx := h.1 i (by rw [h.2.1]; exact hi)
 have hcp := hI.cpl _ h
 have hq := hN.2 (es'.getD i ([], [])).1 (es'.getD i ([], [])).2 r (by rw [if_ahd]; exact h1) hx.1 hx.2.1 (fun h0 => by
  have hi0 : 0 < i := Nat.pos_of_ne_zero fun q => h0 (by simp [q])
  have := hx.2.2 hi0
  rw [hI.key]
  unfold lastK
  rw [hI.len]
  rwa [show es.getD (i - 1) ([], []) = es'.getD (i - 1) ([], []) by rw [← hcp]; simp [List.getD_eq_getElem?_getD, List.getElem?_take, show i - 1 < i by omega]])
 exact absurd hq.1 Bool.false_ne_true
theorem PI.done (hi : i = n) (ha : a = b.length) : FullB R n b X es := have _ := hR; ⟨hI.ok, by rw [hI.len, hi], by rw [← hI.raw, ha, List.take_of_length_le (Nat.le_refl _)], by rw [hI.st, hi]⟩
theorem PI.left (hi : i = n) (ha : ¬ a = b.length) {es' : List Pr2} (h : FullB R n b X es') : False := by
 have _ := hR
 have := hI.cpl _ h
 rw [List.take_of_length_le (by rw [h.2.1, hi]; exact Nat.le_refl _)] at this
 subst this
 exact ha (by rw [hI.ale, ← h.2.2.1])
end
end Go.Proofs.Ytifnmbmijljhfaa.E
namespace Go.Proofs.Ytifnmbmijljhfaa.E
open Go
theorem word_lt4 {l : List UInt8} (h : l.length ≤ 4) : word l < 4294967296 := by
 by_cases h0 : l = []
 ·subst h0; decide
 have h1 : 0 < l.length := List.length_pos_iff.2 h0
 unfold word
 rw [List.take_of_length_le (by omega)]
 have := le_fixed l.length (le l)
 rw [fixed_le] at this
 have h2 : le l < 256 ^ l.length := by
  have := Nat.mod_lt (le l) (Nat.pow_pos (n := l.length) (show 0 < 256 by omega)); omega
 exact Nat.lt_of_lt_of_le h2 (Nat.le_trans (Nat.pow_le_pow_right (show 0 < 256 by omega) h) (by decide))
section
variable {R : Nat} {es : List Pr2} {raw : List UInt8}
theorem blk_len (h : Blk R es raw) : raw.length = (bldF R es).raw.length + 4 * cdiv R es.length + 8 := by
 have hst := bld_st R h.1.1 es
 have := congrArg List.length h.2.2.2
 unfold rawB at this
 rw [List.length_append, List.length_append, List.length_append, fix4_len, fix4_len, starts_len, hst] at this
 omega
theorem blk_nums (h : Blk R es raw) (hl : raw.length ≤ 65536) {E : Nat} (hE : E = raw.length - 8) : word ((raw.take (E + 4)).drop E) = R ∧ word (raw.drop (E + 4)) = es.length := by
 have h1 := blk_len h
 have h2 := bld_raw (R := R) es h.2.2.1
 have hst := bld_st R h.1.1 es
 have hb : ((bldF R es).raw ++ startsF (bldF R es).st).length = E := by rw [List.length_append, starts_len, hst]; omega
 have e := h.2.2.2
 unfold rawB at e
 constructor
 ·rw [e, List.append_assoc, List.take_append, List.take_of_length_le (by rw [hb]; omega), hb, show E + 4 - E = 4 by omega, List.take_left' (fix4_len _), List.drop_left' hb]
  exact fix4_word (by have := h.1; omega)
 rw [e, List.drop_left' (by rw [List.length_append, hb, fix4_len])]
 exact fix4_word (by omega)
theorem blk_full (h : Blk R es raw) {n : Nat} (hn : n = es.length) {F : Nat} (hF : F + 4 * cdiv R n + 8 = raw.length) : FullB R n (raw.take F) (raw.drop F) es := by
 subst hn
 have h1 := blk_len h
 have hst := bld_st R h.1.1 es
 have e := h.2.2.2
 unfold rawB at e
 have hF2 : (bldF R es).raw.length = F := by omega
 refine ⟨h.2.2.1, rfl, ?_, ?_⟩
 ·conv => rhs; rw [← List.take_left' (l₁ := (bldF R es).raw) (l₂ := startsF (bldF R es).st ++ fixedI (R : Nat) 4 ++ fixedI (es.length : Nat) 4) hF2]
  rw [e]; simp only [List.append_assoc]
 rw [e, List.append_assoc, List.append_assoc, List.drop_left' hF2, List.take_left' (by rw [starts_len, hst])]
theorem full_blk {n F E : Nat} (hF : F + 4 * cdiv R n + 8 = raw.length) (hE : E = raw.length - 8) (hR : 1 ≤ R ∧ R ≤ 64) (hn : 1 ≤ n) (hw : word ((raw.take (E + 4)).drop E) = R) (hw2 : word (raw.drop (E + 4)) = n) (h : FullB R n (raw.take F) (raw.drop F) es) : Blk R es raw := by
 refine ⟨hR, by rw [h.2.1]; exact hn, h.1, ?_⟩
 have g1 := word_fix4 (l := (raw.take (E + 4)).drop E) (by rw [List.length_drop, List.length_take]; omega)
 have g2 := word_fix4 (l := raw.drop (E + 4)) (by rw [List.length_drop]; omega)
 rw [hw] at g1
 rw [hw2] at g2
 unfold rawB
 rw [h.2.1, g1, g2, ← h.2.2.1, h.2.2.2]
 have e1 : F + 4 * cdiv R n = E := by omega
 have e2 : raw.take F ++ (raw.drop F).take (4 * cdiv R n) = raw.take E := by rw [← List.take_add, e1]
 rw [e2, List.append_assoc]
 have e3 : raw.take (E + 4) = raw.take E ++ (raw.take (E + 4)).drop E := by
  conv => lhs; rw [← List.take_append_drop E (raw.take (E + 4)), List.take_take, show min E (E + 4) = E by omega]
 rw [← List.append_assoc, ← e3, List.take_append_drop]
end
end Go.Proofs.Ytifnmbmijljhfaa.E
namespace Go.Proofs.Ytifnmbmijljhfaa.E
open Go
theorem blk_here {Rq nq E R : Nat} {es : List Pr2} {raw : List UInt8} (hB : Blk R es raw) (hl : raw.length ≤ 65536) (hE : E = raw.length - 8) (hRe : Rq = word ((raw.take (E + 4)).drop E)) (hne : nq = word (raw.drop (E + 4))) : R = Rq ∧ es.length = nq ∧ (1 ≤ Rq ∧ Rq ≤ 64) ∧ 1 ≤ nq ∧ 3 * nq ≤ E ∧ 4 * cdiv Rq nq ≤ E ∧ ∀ F, F + 4 * cdiv Rq nq = E → FullB Rq nq (raw.take F) (raw.drop F) es := by
 obtain ⟨h1, h2⟩ := blk_nums hB hl hE
 have e1 : R = Rq := by rw [hRe, h1]
 have e2 : es.length = nq := by rw [hne, h2]
 subst e1; subst e2
 have h3 := blk_len hB
 have h4 := bld_raw (R := R) es hB.2.2.1
 exact ⟨rfl, rfl, hB.1, hB.2.1, by omega, by omega, fun F hF => blk_full hB rfl (by omega)⟩
theorem cut_eq {raw : List UInt8} {F g : Nat} : (raw.take (F + 4 * g + 4)).drop (F + 4 * g) = ((raw.drop F).drop (4 * g)).take 4 := by rw [List.drop_drop, List.drop_take, show F + 4 * g + 4 - (F + 4 * g) = 4 by omega]
theorem end_0 {b : List UInt8} {a : Nat} : endE b a 0 = if a < b.length then 22 else 0 := by unfold endE; rw [if_neg (by omega)]
theorem conv_i64 {a : Nat} (h : a ≤ 9223372036854775807) : Value.int .i64 (IntKind.i64.wrap (a : Int)) = .int .i64 (a : Nat) := by
 congr 1
 simp [IntKind.wrap, IntKind.bits, IntKind.signed]
 omega
theorem parsed_ok (x : Value) (raw : List UInt8) (w : World) (hx : RdE byteV w x raw) (hl : raw.length ≤ 65536) : Calls Try.prog 27 [x].toArray w (Rt fun r w' => ∃ rs, Mem w [] w' [rs] ∧ ((r = .pointer none ∧ ∀ R es, ¬ Blk R es raw) ∨ (∃ br R es, r = .pointer (some ⟨br, 0, none⟩) ∧ Blk R es raw ∧ RdrS br R es rs ∧ ∀ R' es', Blk R' es' raw → R' = R ∧ es' = es))) := by
 have hM0 : Mem w [] w [] := Mem.nil w []
 obtain ⟨E, hE⟩ : ∃ E, E = raw.length - 8 := ⟨_, rfl⟩
 refine calls_vc mixed Try.func27 rfl C27 (by simp [Try.ntmps27]) <| seq fun _ h1 => stp (v := .pointer none) (o_mv rfl) <| h1 _ _ <| seq fun _ h2 => seq fun _ h3 => stp (v := x) (o_mv rfl) <| stp (v := .int .i64 (raw.length : Nat)) (o_lenR (hx.upd hM0.upd) rfl rfl) <| stp (v := .bool (decide (((raw.length : Nat) : Int) < 8))) (o_bin rfl rfl rfl) <| h3 _ _ <| cndP rfl (fun c4 => ?_) (fun c4 => ?_)
 ·refine seq fun _ h5 => stp (v := .pointer none) (o_mv rfl) <| h5 _ _ <| ⟨(.pointer none), rfl, ⟨[], hM0.keep (by simp), .inl ⟨rfl, fun R es hB => by have := blk_len hB; omega⟩⟩⟩
 refine h2 _ _ <| seq fun _ h6 => stp (v := x) (o_mv rfl) <| stp (v := .int .i64 (raw.length : Nat)) (o_lenR (hx.upd hM0.upd) rfl rfl) <| stp (v := .int .i64 (E : Nat)) (o_bin rfl rfl ((v_sub64 (by omega)).trans (v_int (by omega)))) <| stp (v := .int .i64 (E : Nat)) (o_mv rfl) <| h6 _ _ <| seq fun _ h7 => stp (v := x) (o_mv rfl) <| stp (v := .int .i64 (E : Nat)) (o_mv rfl) <| stp (v := .int .i64 (E : Nat)) (o_mv rfl) <| stp (v := .int .i64 ((E : Nat) + 4)) (o_bin rfl rfl (v_add64 (by omega))) <| m_slcE E (E + 4) (hx) rfl (by omega) (by omega) ⟨_, v_int (by omega)⟩ ⟨_, v_int (by omega)⟩ fun u8 hu8 => m_call (Word_ok _ ((raw.take (E + 4)).drop E) w ((hu8.upd hM0.upd)) (by first | omega | (simp; done) | (simp; omega))) rfl fun v9 w9 ⟨hr9, hu9⟩ => ?_
 have hM9 : Mem w [] w9 [] := hM0.pure hu9
 subst hr9
 obtain ⟨Rq, hRe⟩ : ∃ R, R = word ((raw.take (E + 4)).drop E) := ⟨_, rfl⟩
 have hR4 : Rq < 4294967296 := by rw [hRe]; exact word_lt4 (by rw [List.length_drop, List.length_take]; omega)
 refine stp (v := .int .i64 (Rq : Nat)) (o_conv rfl (by rw [← hRe]; exact conv_i64 (by omega))) <| stp (v := .int .i64 (Rq : Nat)) (o_mv rfl) <| h7 _ _ <| seq fun _ h10 => stp (v := x) (o_mv rfl) <| stp (v := .int .i64 (E : Nat)) (o_mv rfl) <| stp (v := .int .i64 ((E : Nat) + 4)) (o_bin rfl rfl (v_add64 (by omega))) <| m_slcE (E + 4) raw.length (hx) rfl (by omega) (by omega) rfl ⟨_, v_int (by omega)⟩ fun u11 hu11 => m_call (Word_ok _ ((raw.take raw.length).drop (E + 4)) w9 ((hu11.upd hM9.upd)) (by first | omega | (simp; done) | (simp; omega))) rfl fun v12 w12 ⟨hr12, hu12⟩ => ?_
 have hM12 : Mem w [] w12 [] := hM9.pure hu12
 subst hr12
 obtain ⟨nq, hne⟩ : ∃ R, R = word (raw.drop (E + 4)) := ⟨_, rfl⟩
 have hn4 : nq < 4294967296 := by rw [hne]; exact word_lt4 (by rw [List.length_drop]; omega)
 refine stp (v := .int .i64 (nq : Nat)) (o_conv rfl (by first | (rw [← hne]; exact conv_i64 (by omega)) | (rw [List.take_of_length_le (Nat.le_refl _), ← hne]; exact conv_i64 (by omega)))) <| stp (v := .int .i64 (nq : Nat)) (o_mv rfl) <| h10 _ _ <| seq fun _ h13 => seq fun _ h14 => stp (v := .int .i64 (Rq : Nat)) (o_mv rfl) <| stp (v := .bool (decide (((Rq : Nat) : Int) < 1))) (o_bin rfl rfl rfl) <| stp (v := .bool (decide (((Rq : Nat) : Int) < 1))) (o_mv rfl) <| splitP rfl (fun c15 => ?_) (fun c15 => ?_)
 ·refine gx rfl <| gx rfl <| stp (v := .bool true) (o_pickT rfl rfl) <| stp (v := .bool true) (o_mv rfl) <| splitT rfl <| gx rfl <| gx rfl <| stp (v := .bool true) (o_pickT rfl rfl) <| stp (v := .bool true) (o_mv rfl) <| splitT rfl <| gx rfl <| gx rfl <| gx rfl <| gx rfl ?_
  refine stp (v := .bool true) (o_pickT rfl rfl) <| h14 _ _ <| cndT rfl <| seq fun _ h16 => stp (v := .pointer none) (o_mv rfl) <| h16 _ _ <| ⟨(.pointer none), rfl, ⟨[], hM12.keep (by simp), .inl ⟨rfl, fun R es hB => by have hh := blk_here hB hl hE hRe hne; omega⟩⟩⟩
 refine stg rfl (v := .int .i64 (Rq : Nat)) (o_mv rfl) <| stg rfl (v := .bool (decide ((64 : Int) < ((Rq : Nat) : Int)))) (o_bin rfl rfl rfl) <| stp (v := .bool (decide ((64 : Int) < ((Rq : Nat) : Int)))) (o_pickF rfl rfl) <| stp (v := .bool (decide ((64 : Int) < ((Rq : Nat) : Int)))) (o_mv rfl) <| splitP rfl (fun c17 => ?_) (fun c17 => ?_)
 ·refine gx rfl <| gx rfl <| stp (v := .bool true) (o_pickT rfl rfl) <| stp (v := .bool true) (o_mv rfl) <| splitT rfl <| gx rfl <| gx rfl <| gx rfl <| gx rfl <| stp (v := .bool true) (o_pickT rfl rfl) <| h14 _ _ <| cndT rfl <| seq fun _ h18 => stp (v := .pointer none) (o_mv rfl) ?_
  refine h18 _ _ <| ⟨(.pointer none), rfl, ⟨[], hM12.keep (by simp), .inl ⟨rfl, fun R es hB => by have hh := blk_here hB hl hE hRe hne; omega⟩⟩⟩
 refine stg rfl (v := .int .i64 (nq : Nat)) (o_mv rfl) <| stg rfl (v := .bool (decide (((nq : Nat) : Int) < 1))) (o_bin rfl rfl rfl) <| stp (v := .bool (decide (((nq : Nat) : Int) < 1))) (o_pickF rfl rfl) <| stp (v := .bool (decide (((nq : Nat) : Int) < 1))) (o_mv rfl) <| splitP rfl (fun c19 => ?_) (fun c19 => ?_)
 ·refine gx rfl <| gx rfl <| gx rfl <| gx rfl <| stp (v := .bool true) (o_pickT rfl rfl) <| h14 _ _ <| cndT rfl <| seq fun _ h20 => stp (v := .pointer none) (o_mv rfl) <| h20 _ _ <| ⟨(.pointer none), rfl, ⟨[], hM12.keep (by simp), .inl ⟨rfl, fun R es hB => by have hh := blk_here hB hl hE hRe hne; omega⟩⟩⟩
 refine stg rfl (v := .int .i64 (nq : Nat)) (o_mv rfl) <| stg rfl (v := .int .i64 (E : Nat)) (o_mv rfl) <| stg rfl (v := .int .i64 ((E : Nat) / 3)) (o_quo rfl rfl (by omega) (v_quo (by omega) (by omega) (by simp only [inK]; omega))) <| stg rfl (v := .bool (decide ((((E : Nat) / 3 : Int) : Int) < ((nq : Nat) : Int)))) (o_bin rfl rfl rfl) <| stp (v := .bool (decide ((((E : Nat) / 3 : Int) : Int) < ((nq : Nat) : Int)))) (o_pickF rfl rfl) <| h14 _ _ <| cndP rfl (fun c21 => ?_) (fun c21 => ?_)
 ·refine seq fun _ h22 => stp (v := .pointer none) (o_mv rfl) <| h22 _ _ <| ⟨(.pointer none), rfl, ⟨[], hM12.keep (by simp), .inl ⟨rfl, fun R es hB => by have hh := blk_here hB hl hE hRe hne; omega⟩⟩⟩
 refine h13 _ _ <| seq fun _ h23 => stp (v := .int .i64 (E : Nat)) (o_mv rfl) <| stp (v := .int .i64 (nq : Nat)) (o_mv rfl) <| stp (v := .int .i64 (Rq : Nat)) (o_mv rfl) <| stp (v := .int .i64 ((nq : Nat) + (Rq : Nat))) (o_bin rfl rfl (v_add64 (by omega))) <| stp (v := .int .i64 (((nq : Nat) + (Rq : Nat)) - 1)) (o_bin rfl rfl (v_sub64 (by omega))) <| stp (v := .int .i64 (Rq : Nat)) (o_mv rfl) ?_
 obtain ⟨q, hq⟩ : ∃ q, q = cdiv Rq nq := ⟨_, rfl⟩
 have hqb : q ≤ nq + Rq - 1 := by rw [hq]; exact Nat.div_le_self _ _
 refine stp (v := .int .i64 (q : Nat)) (o_quo rfl rfl (by omega) ((v_quo (by omega) (by omega) (by simp only [inK]; omega)).trans (v_int (by rw [hq]; unfold cdiv; rw [show ((nq : Nat) : Int) + (Rq : Int) - 1 = ((nq + Rq - 1 : Nat) : Int) by omega]; rfl)))) <| stp (v := .int .i64 (4 * (q : Nat))) (o_bin rfl rfl (v_mul64 (by omega))) <| stp (v := .int .i64 ((E : Nat) - (4 * (q : Nat)))) (o_bin rfl rfl (v_sub64 (by omega))) <| stp (v := .int .i64 ((E : Nat) - (4 * (q : Nat)))) (o_mv rfl) <| h23 _ _ <| seq fun _ h24 => seq fun _ h25 => stp (v := .int .i64 ((E : Nat) - (4 * (q : Nat)))) (o_mv rfl) <| stp (v := .bool (decide (((E : Nat) - (4 * (q : Nat)) : Int) < 0))) (o_bin rfl rfl rfl) <| h25 _ _ <| cndP rfl (fun c26 => ?_) (fun c26 => ?_)
 ·refine seq fun _ h27 => stp (v := .pointer none) (o_mv rfl) <| h27 _ _ <| ⟨(.pointer none), rfl, ⟨[], hM12.keep (by simp), .inl ⟨rfl, fun R es hB => by have hh := blk_here hB hl hE hRe hne; omega⟩⟩⟩
 refine h24 _ _ <| seq fun _ h28 => ?_
 obtain ⟨F, hF⟩ : ∃ F : Nat, (F : Int) = (E : Nat) - 4 * (q : Nat) := ⟨E - 4 * q, by omega⟩
 rw [← hF]
 refine stp (v := .int .i64 (Rq : Nat)) (o_mv rfl) <| stp (v := .agg ([.int .i64 (Rq : Nat), .slice none 0 0] : List Value).toArray) (o_bld rfl rfl) <| m_bx (v := .agg ([.int .i64 (Rq : Nat), .slice none 0 0] : List Value).toArray) hM12 rfl rfl fun b29 w30 (hM30 : Mem w [] w30 [[⟨b29, 96, [.int .i64 (Rq : Nat), .slice none 0 0]⟩]]) => stp (v := .pointer (some ⟨b29, 0, none⟩)) (o_mv rfl) <| h28 _ _ <| seq fun _ h31 => stp (v := x) (o_mv rfl) <| stp (v := .int .i64 (F : Nat)) (o_mv rfl) <| m_slcE 0 F (hx) rfl (by omega) (by omega) ⟨_, rfl⟩ rfl fun u32 hu32 => m_call (NewCursor_ok _ ((raw.take F).drop 0) w30 ((hu32.upd hM30.upd)) (by first | omega | (simp; done) | (simp; omega))) rfl fun v33 w33 ⟨bc33, rs33, hr33, hc33, hm33⟩ => ?_
 have hM33 : Mem w [] w33 [[⟨b29, 96, [.int .i64 (Rq : Nat), .slice none 0 0]⟩], rs33] := hM30.add hm33
 subst hr33
 refine stp (v := .agg ([.pointer (some ⟨bc33, 0, none⟩), .string (str ([]))] : List Value).toArray) (o_bld rfl rfl) <| m_al hM33 fun b34 w35 (hM35 : Mem w [] w35 [[⟨b29, 96, [.int .i64 (Rq : Nat), .slice none 0 0]⟩], rs33, [⟨b34, 106, [.pointer none, .string (str ([]))]⟩]]) => m_stA (l := [.pointer (some ⟨bc33, 0, none⟩), .string (str ([]))]) hM35 (i := 2) rfl rfl rfl rfl (by simp [oneCells, Value.oneCell', byteV]) (by simp) fun w36 (hM36 : Mem w [] w36 [[⟨b29, 96, [.int .i64 (Rq : Nat), .slice none 0 0]⟩], rs33, [⟨b34, 106, [.pointer (some ⟨bc33, 0, none⟩), .string (str ([]))]⟩]]) => h31 _ _ <| seq fun _ h37 => seq fun _ h38 => stp (v := .int .i64 (nq : Nat)) (o_mv rfl) <| stp (v := .int .i64 0) (o_mv rfl) <| h38 _ _ <| lp (n := fun _ _ => False) (ι := (Nat) × (Nat) × (List UInt8) × (List Pr2) × (Value) × (List Ent) × (List Ent)) (fun ⟨i, a, p, es, v, re, rc⟩ f w' => f 68 = .int .i64 (i : Nat) ∧ f 0 = x ∧ f 4 = .int .i64 (Rq : Nat) ∧ f 6 = .int .i64 (F : Nat) ∧ f 7 = .pointer (some ⟨b29, 0, none⟩) ∧ f 8 = .pointer (some ⟨b34, 0, none⟩) ∧ f 67 = .int .i64 (nq : Nat) ∧ Mem w [] w' [[⟨b29, 96, [.int .i64 (Rq : Nat), v]⟩], rc, [⟨b34, 106, [.pointer (some ⟨bc33, 0, none⟩), .string (str p)]⟩], re] ∧ (i ≤ nq) ∧ (SlS pairC 2 100 v es re) ∧ (CurS bc33 (raw.take F) a 0 rc) ∧ (PI Rq nq (raw.take F) (raw.drop F) i a p es) ∧ (p.length ≤ 1024)) (fun ⟨i, a, p, es, v, re, rc⟩ => nq - i) (0, 0, [], [], (.slice none 0 0), [], rs33) ?_ ?_
 ·exact ⟨vi, rfl, vi, vi, rfl, rfl, vi, hM36.keep (by simp), by omega, Sl.nil 2 100, hc33, PI.init (by omega), by simp⟩
 rintro ⟨i, a, p, es, v, re, rc⟩ f w39 ⟨e39_68, e39_0, e39_4, e39_6, e39_7, e39_8, e39_67, hM39, hi, hv, hc, hI, hpk⟩ K40 h40
 obtain ⟨frm, rfl⟩ := re7 e39_68 e39_0 e39_4 e39_6 e39_7 e39_8 e39_67
 refine seq fun _ h41 => stp (v := .bool (decide (((i : Nat) : Int) < (nq : Nat)))) (o_bin rfl rfl rfl) <| h41 _ _ <| seq fun _ h42 => cndP rfl (fun c43 => ?_) (fun c43 => ?_)
 ·refine h42 _ _ <| seq fun _ h44 => seq fun _ h45 => ?_
  have hel := hI.len
  refine stp (v := .int .i64 (i : Nat)) (o_mv rfl) <| stp (v := .int .i64 (i : Nat)) (o_mv rfl) <| h45 _ _ <| seq fun _ h46 => seq fun _ h47 => stp (v := .int .i64 (i : Nat)) (o_mv rfl) <| stp (v := .int .i64 (Rq : Nat)) (o_mv rfl) <| stp (v := .int .i64 (i % Rq : Nat)) (o_rem rfl rfl (by omega) ((v_rem (Int.natCast_nonneg _)).trans rfl)) <| stp (v := .bool (decide (((i % Rq : Nat) : Int) = 0))) (o_bin rfl rfl rfl) <| h47 _ _ <| cndP rfl (fun c48 => ?_) (fun c48 => ?_)
  ·refine seq fun _ h49 => stp (v := .int .i64 (F : Nat)) (o_mv rfl) <| stp (v := .int .i64 (i : Nat)) (o_mv rfl) <| stp (v := .int .i64 (Rq : Nat)) (o_mv rfl) ?_
   have h0 : i % Rq = 0 := by omega
   obtain ⟨g, hg⟩ : ∃ g, g = i / Rq := ⟨_, rfl⟩
   have hgb : g ≤ i := by rw [hg]; exact Nat.div_le_self _ _
   have hgq : g + 1 ≤ q := by
    have := cdiv_le (R := Rq) (show i + 1 ≤ nq by omega)
    rw [cdiv_succ (by omega), if_pos h0, cdiv_at (by omega) h0] at this
    omega
   refine stp (v := .int .i64 (g : Nat)) (o_quo rfl rfl (by omega) ((v_quo (by omega) (by omega) (by simp only [inK]; omega)).trans (v_int (by rw [hg]; rfl)))) <| stp (v := .int .i64 (4 * (g : Nat))) (o_bin rfl rfl (v_mul64 (by omega))) <| stp (v := .int .i64 ((F : Nat) + (4 * (g : Nat)))) (o_bin rfl rfl (v_add64 (by omega))) <| stp (v := .int .i64 ((F : Nat) + (4 * (g : Nat)))) (o_mv rfl) <| h49 _ _ <| seq fun _ h50 => ?_
   intro wd e1 e2 e3 e4
   have hd := Upd.same e1 e2 e3 e4 []
   have hM51 := hM39.pure hd
   clear e1 e2 e3 e4
   refine ⟨(some [b34]), ?_⟩
   show vd _ _ _ _ _ _ _
   refine dq (v := x) (o_mv rfl) <| dq (v := .int .i64 ((F : Nat) + (4 * (g : Nat)))) (o_mv rfl) <| dq (v := .int .i64 ((F : Nat) + (4 * (g : Nat)))) (o_mv rfl) <| dq (v := .int .i64 (((F : Nat) + (4 * (g : Nat))) + 4)) (o_bin rfl rfl (v_add64 (by omega))) <| dqp (m_slcE (F + 4 * g) (F + 4 * g + 4) (hx) rfl (by omega) (by omega) ⟨_, v_int (by omega)⟩ ⟨_, v_int (by omega)⟩ fun u52 hu52 => ?_)
   show vd _ _ _ _ _ _ _
   refine dq (v := .int .i64 (F : Nat)) (o_mv rfl) <| dq (v := .pointer (some ⟨b34, 0, none⟩)) (o_fa rfl rfl) <| dqld rfl (by simp [isHeld]) (v := .pointer (some ⟨bc33, 0, none⟩)) ((hM51.at (i := 2) (j := 0) rfl rfl).cell 0) <| dl (m_call (Word_ok _ ((raw.take (F + 4 * g + 4)).drop (F + 4 * g)) wd ((hu52.upd hM51.upd)) (by first | omega | (simp; done) | (simp; omega))) rfl fun v53 w53 ⟨hr53, hu53⟩ => ?_)
   have hM53 : Mem w [] w53 [[⟨b29, 96, [.int .i64 (Rq : Nat), v]⟩], rc, [⟨b34, 106, [.pointer (some ⟨bc33, 0, none⟩), .string (str p)]⟩], re] := hM51.pure hu53
   subst hr53
   have hh53 := held_upd (wr := wd) (bs := [b34]) hu53 (fun b hb => by
    simp only [List.mem_cons, List.not_mem_nil, or_false] at hb
    rw [hb]; exact ⟨(hM51.at (i := 2) (j := 0) rfl rfl).lt, by simp⟩) (fun b hb => rfl)
   refine ⟨hh53, dl (m_call (Rest_ok _ (raw.take F) a 0 rc w53 hc (hM53.res (i := 1) rfl) (by first | omega | (simp; done) | (simp; omega))) rfl fun v54 w54 ⟨hr54, hm54⟩ => ?_)⟩
   have hM54 : Mem w [] w54 [[⟨b29, 96, [.int .i64 (Rq : Nat), v]⟩], rc, [⟨b34, 106, [.pointer (some ⟨bc33, 0, none⟩), .string (str p)]⟩], re] := hM53.step 1 rfl hm54
   subst hr54
   have hh54 := held_upd (wr := wd) (bs := [b34]) hm54.upd (fun b hb => by
    simp only [List.mem_cons, List.not_mem_nil, or_false] at hb
    rw [hb]; exact ⟨(hM53.at (i := 2) (j := 0) rfl rfl).lt, hM53.apart (i := 2) (j := 0) (k := 1) rfl rfl rfl (by decide)⟩) hh53
   refine ⟨hh54, ?_⟩
   have hrv : restV (raw.take F) a 0 = (F : Nat) - (a : Nat) := by
    unfold restV
    rw [if_pos rfl, List.length_take]
    have := hc.le
    rw [List.length_take] at this
    omega
   have hal := hc.le
   rw [List.length_take] at hal
   refine dq (v := .int .i64 ((F : Nat) - (restV (raw.take F) a 0))) (o_bin rfl rfl (v_sub64 (by omega))) <| dq (v := .int .u64 (a : Nat)) (o_conv rfl (by rw [hrv, show ((F : Nat) : Int) - ((F : Nat) - (a : Nat)) = ((a : Nat) : Int) by omega]; exact conv_u64 (by omega) (by have := hc.le; rw [List.length_take] at this; omega))) <| dq (v := .bool (decide (¬ ((word ((raw.take (F + 4 * g + 4)).drop (F + 4 * g)) : Nat) : Int) = (a : Nat)))) (o_bin rfl rfl v_neq) <| h50 _ _ <| cndP rfl (fun c55 => ?_) (fun c55 => ?_)
   ·refine seq fun _ h56 => stp (v := .pointer none) (o_mv rfl) <| h56 _ _ <| ⟨(.pointer none), rfl, ⟨[], hM54.keep (by simp), .inl ⟨rfl, fun R es2 hB => ?_⟩⟩⟩
    obtain ⟨u1, u2, g1, g2, g3, g4, g5⟩ := blk_here hB hl hE hRe hne
    rw [← hq] at g4 g5
    have hw := hI.start (by omega) (by omega) h0 (by rw [List.length_drop, ← hq]; omega) (by rw [List.length_take]; omega) (g5 F (by omega))
    rw [← hg, ← cut_eq] at hw
    omega
   refine h46 _ _ <| seq fun _ h57 => stp (v := .int .i64 (i : Nat)) (o_mv rfl) <| stp (v := .int .i64 (Rq : Nat)) (o_mv rfl) <| stp (v := .int .i64 (i % Rq : Nat)) (o_rem rfl rfl (by omega) ((v_rem (Int.natCast_nonneg _)).trans rfl)) <| stp (v := .bool (decide (i % Rq = 0))) (o_bin rfl rfl (congrArg Value.bool (decide_eq_decide.2 (by omega)))) <| stp (v := .int .i64 (i : Nat)) (o_mv rfl) <| stp (v := .bool (decide (i = 0))) (o_bin rfl rfl (congrArg Value.bool (decide_eq_decide.2 (by omega)))) <| m_call (next_ok b34 bc33 (raw.take F) a p (decide (i % Rq = 0)) (decide (i = 0)) rc w54 hc (Mem.res2 hM54 2 1 rfl rfl (by decide)) (by rw [List.length_take]; omega) hpk) rfl fun v58 w58 ⟨okq, x1q, x2q, aq, eq_, keyq, r'58, hr58, hnq, hkq, hcq, hm58⟩ => ?_
   have hM58 : Mem w [] w58 [[⟨b29, 96, [.int .i64 (Rq : Nat), v]⟩], r'58, [⟨b34, 106, [.pointer (some ⟨bc33, 0, none⟩), .string (str keyq)]⟩], re] := Mem.step2 hM54 2 1 rfl rfl (by decide) hm58
   subst hr58
   refine stp (v := .tuple [.agg ([.string (str x1q), .string (str x2q)] : List Value).toArray, .bool okq].toArray) (o_mv rfl) <| stp (v := .agg ([.string (str x1q), .string (str x2q)] : List Value).toArray) (o_ext rfl rfl) <| stp (v := .bool okq) (o_ext rfl rfl) <| m_al hM58 fun b59 w60 (hM60 : Mem w [] w60 [[⟨b29, 96, [.int .i64 (Rq : Nat), v]⟩], r'58, [⟨b34, 106, [.pointer (some ⟨bc33, 0, none⟩), .string (str keyq)]⟩], re, [⟨b59, 100, [.string (str ([])), .string (str ([]))]⟩]]) => m_stA (l := [.string (str x1q), .string (str x2q)]) hM60 (i := 4) rfl rfl rfl rfl (by simp [oneCells, Value.oneCell', byteV]) (by simp) fun w61 (hM61 : Mem w [] w61 [[⟨b29, 96, [.int .i64 (Rq : Nat), v]⟩], r'58, [⟨b34, 106, [.pointer (some ⟨bc33, 0, none⟩), .string (str keyq)]⟩], re, [⟨b59, 100, [.string (str x1q), .string (str x2q)]⟩]]) => stp (v := .bool okq) (o_mv rfl) <| h57 _ _ <| seq fun _ h62 => seq fun _ h63 => ?_
   rcases okq with _ | _
   ·refine stp (v := .bool false) (o_mv rfl) <| stp (v := .bool true) (o_not rfl rfl) <| h63 _ _ <| cndT rfl <| seq fun _ h64 => stp (v := .pointer none) (o_mv rfl) <| h64 _ _ <| ⟨(.pointer none), rfl, ⟨[], hM61.keep (by simp), .inl ⟨rfl, fun R es2 hB => ?_⟩⟩⟩
    obtain ⟨u1, u2, g1, g2, g3, g4, g5⟩ := blk_here hB hl hE hRe hne
    rw [← hq] at g4 g5
    exact hI.stop (by omega) (by omega) hnq (g5 F (by omega))
   refine stp (v := .bool true) (o_mv rfl) <| stp (v := .bool false) (o_not rfl rfl) <| h63 _ _ <| cndF rfl <| h62 _ _ ?_
   intro wd e1 e2 e3 e4
   have hd := Upd.same e1 e2 e3 e4 []
   have hM65 := hM61.pure hd
   clear e1 e2 e3 e4
   refine ⟨(some [b59]), ?_⟩
   show vd _ _ _ _ _ _ _
   refine dq (v := .pointer (some ⟨b29, 0, none⟩)) (o_mv rfl) <| dq (v := .pointer (some ⟨b29, 0, none⟩)) (o_mv rfl) <| dq (v := .pointer (some ⟨b29, 0, none⟩)) (o_nilchk rfl rfl) <| dq (v := .pointer (some ⟨b29, 1, none⟩)) (o_fa rfl rfl) <| dqldA (cs := [.string (str x1q), .string (str x2q)]) rfl (by simp [isHeld]) rfl ((hM65.at (i := 4) (j := 0) rfl rfl).agg rfl rfl) ?_
   show _ ∧ _
   refine ⟨?_, ?_⟩
   ·show vd _ _ _ _ _ _ _
    refine dl (m_ld (v := v) hM65 (i := 0) (j := 0) rfl rfl rfl rfl <| ⟨(fun b hb => rfl), dl (m_bsU hM65 rfl fun b66 w67 hup67 (hM67 : Mem w [] w67 [[⟨b29, 96, [.int .i64 (Rq : Nat), v]⟩], r'58, [⟨b34, 106, [.pointer (some ⟨bc33, 0, none⟩), .string (str keyq)]⟩], re, [⟨b59, 100, [.string (str x1q), .string (str x2q)]⟩], [⟨b66, 100, [.string (str x1q), .string (str x2q)]⟩]]) => ?_)⟩)
    have hh67 := held_upd (wr := wd) (bs := [b59]) hup67 (fun b hb => by
     simp only [List.mem_cons, List.not_mem_nil, or_false] at hb
     rw [hb]; exact ⟨(hM65.at (i := 4) (j := 0) rfl rfl).lt, by simp⟩) (fun b hb => rfl)
    refine ⟨hh67, dl (m_appSU (enc := pairC) hM67 (i := 3) rfl hv rfl rfl (own_rdS (enc := pairC) (l := [(x1q, x2q)]) (hM67.at (i := 5) (j := 0) rfl rfl) rfl) rfl (by first | omega | (simp; omega)) (by omega) fun v68 w68 r68 (hs68 : SlS pairC 2 100 v68 (es ++ ([(x1q, x2q)])) r68) hup68 (hM68 : Mem w [] w68 [[⟨b29, 96, [.int .i64 (Rq : Nat), v]⟩], r'58, [⟨b34, 106, [.pointer (some ⟨bc33, 0, none⟩), .string (str keyq)]⟩], r68, [⟨b59, 100, [.string (str x1q), .string (str x2q)]⟩], [⟨b66, 100, [.string (str x1q), .string (str x2q)]⟩]]) => ?_)⟩
    have hh68 := held_upd (wr := wd) (bs := [b59]) hup68 (fun b hb => by
     simp only [List.mem_cons, List.not_mem_nil, or_false] at hb
     rw [hb]; exact ⟨(hM67.at (i := 4) (j := 0) rfl rfl).lt, hM67.apart (i := 4) (j := 0) (k := 3) rfl rfl rfl (by decide)⟩) hh67
    refine ⟨hh68, dq (v := .pointer (some ⟨b29, 0, none⟩)) (o_nilchk rfl rfl) <| dq (v := .pointer (some ⟨b29, 1, none⟩)) (o_fa rfl rfl) <| dl (m_stU (v := v68) hM68 (i := 0) rfl rfl rfl (Sl.one hs68) (by simp) fun w69 hup69 (hM69 : Mem w [] w69 [[⟨b29, 96, [.int .i64 (Rq : Nat), v68]⟩], r'58, [⟨b34, 106, [.pointer (some ⟨bc33, 0, none⟩), .string (str keyq)]⟩], r68, [⟨b59, 100, [.string (str x1q), .string (str x2q)]⟩], [⟨b66, 100, [.string (str x1q), .string (str x2q)]⟩]]) => ?_)⟩
    have hh69 := held_upd (wr := wd) (bs := [b59]) hup69 (fun b hb => by
     simp only [List.mem_cons, List.not_mem_nil, or_false] at hb
     rw [hb]; exact ⟨(hM68.at (i := 4) (j := 0) rfl rfl).lt, hM68.apart (i := 4) (j := 0) (k := 0) rfl rfl rfl (by decide)⟩) hh68
    refine ⟨hh69, h44 _ _ <| stp (v := .int .i64 ((i : Nat) + 1)) (o_bin rfl rfl (v_add64 (by omega))) <| stp (v := .int .i64 ((i : Nat) + 1)) (o_mv rfl) <| h40 (i + 1, aq, keyq, es ++ [(x1q, x2q)], v68, r68, r'58) _ _ ⟨vi, rfl, vi, vi, rfl, rfl, vi, hM69.keep (by simp), by omega, hs68, by have h1 := (hnq.1 rfl).1; rw [h1] at hcq; exact hcq, by rw [(hkq rfl).1]; exact hI.step (by omega) (by omega) hcq.le (fun q0 => by first | exact hI.restart (by omega) (by omega) q0 (by rw [List.length_drop, ← hq]; omega) (by rw [← hg, ← cut_eq]; omega) | exact absurd q0 (by omega)) hnq, by rw [(hkq rfl).1]; exact (hkq rfl).2⟩ (by (try dsimp only); omega)⟩
   show vd _ _ _ _ _ _ _
   refine dl (m_bsU hM65 rfl fun b70 w71 hup71 (hM71 : Mem w [] w71 [[⟨b29, 96, [.int .i64 (Rq : Nat), v]⟩], r'58, [⟨b34, 106, [.pointer (some ⟨bc33, 0, none⟩), .string (str keyq)]⟩], re, [⟨b59, 100, [.string (str x1q), .string (str x2q)]⟩], [⟨b70, 100, [.string (str x1q), .string (str x2q)]⟩]]) => ?_)
   have hh71 := held_upd (wr := wd) (bs := [b59]) hup71 (fun b hb => by
    simp only [List.mem_cons, List.not_mem_nil, or_false] at hb
    rw [hb]; exact ⟨(hM65.at (i := 4) (j := 0) rfl rfl).lt, by simp⟩) (fun b hb => rfl)
   refine ⟨hh71, dl (m_ld (v := v) hM71 (i := 0) (j := 0) rfl rfl rfl rfl <| ⟨hh71, dl (m_appSU (enc := pairC) hM71 (i := 3) rfl hv rfl rfl (own_rdS (enc := pairC) (l := [(x1q, x2q)]) (hM71.at (i := 5) (j := 0) rfl rfl) rfl) rfl (by first | omega | (simp; omega)) (by omega) fun v72 w72 r72 (hs72 : SlS pairC 2 100 v72 (es ++ ([(x1q, x2q)])) r72) hup72 (hM72 : Mem w [] w72 [[⟨b29, 96, [.int .i64 (Rq : Nat), v]⟩], r'58, [⟨b34, 106, [.pointer (some ⟨bc33, 0, none⟩), .string (str keyq)]⟩], r72, [⟨b59, 100, [.string (str x1q), .string (str x2q)]⟩], [⟨b70, 100, [.string (str x1q), .string (str x2q)]⟩]]) => ?_)⟩)⟩
   have hh72 := held_upd (wr := wd) (bs := [b59]) hup72 (fun b hb => by
    simp only [List.mem_cons, List.not_mem_nil, or_false] at hb
    rw [hb]; exact ⟨(hM71.at (i := 4) (j := 0) rfl rfl).lt, hM71.apart (i := 4) (j := 0) (k := 3) rfl rfl rfl (by decide)⟩) hh71
   refine ⟨hh72, dq (v := .pointer (some ⟨b29, 0, none⟩)) (o_nilchk rfl rfl) <| dq (v := .pointer (some ⟨b29, 1, none⟩)) (o_fa rfl rfl) <| dl (m_stU (v := v72) hM72 (i := 0) rfl rfl rfl (Sl.one hs72) (by simp) fun w73 hup73 (hM73 : Mem w [] w73 [[⟨b29, 96, [.int .i64 (Rq : Nat), v72]⟩], r'58, [⟨b34, 106, [.pointer (some ⟨bc33, 0, none⟩), .string (str keyq)]⟩], r72, [⟨b59, 100, [.string (str x1q), .string (str x2q)]⟩], [⟨b70, 100, [.string (str x1q), .string (str x2q)]⟩]]) => ?_)⟩
   have hh73 := held_upd (wr := wd) (bs := [b59]) hup73 (fun b hb => by
    simp only [List.mem_cons, List.not_mem_nil, or_false] at hb
    rw [hb]; exact ⟨(hM72.at (i := 4) (j := 0) rfl rfl).lt, hM72.apart (i := 4) (j := 0) (k := 0) rfl rfl rfl (by decide)⟩) hh72
   refine ⟨hh73, h44 _ _ <| stp (v := .int .i64 ((i : Nat) + 1)) (o_bin rfl rfl (v_add64 (by omega))) <| stp (v := .int .i64 ((i : Nat) + 1)) (o_mv rfl) <| h40 (i + 1, aq, keyq, es ++ [(x1q, x2q)], v72, r72, r'58) _ _ ⟨vi, rfl, vi, vi, rfl, rfl, vi, hM73.keep (by simp), by omega, hs72, by have h1 := (hnq.1 rfl).1; rw [h1] at hcq; exact hcq, by rw [(hkq rfl).1]; exact hI.step (by omega) (by omega) hcq.le (fun q0 => by first | exact hI.restart (by omega) (by omega) q0 (by rw [List.length_drop, ← hq]; omega) (by rw [← hg, ← cut_eq]; omega) | exact absurd q0 (by omega)) hnq, by rw [(hkq rfl).1]; exact (hkq rfl).2⟩ (by (try dsimp only); omega)⟩
  refine h46 _ _ <| seq fun _ h74 => stp (v := .int .i64 (i : Nat)) (o_mv rfl) <| stp (v := .int .i64 (Rq : Nat)) (o_mv rfl) <| stp (v := .int .i64 (i % Rq : Nat)) (o_rem rfl rfl (by omega) ((v_rem (Int.natCast_nonneg _)).trans rfl)) <| stp (v := .bool (decide (i % Rq = 0))) (o_bin rfl rfl (congrArg Value.bool (decide_eq_decide.2 (by omega)))) <| stp (v := .int .i64 (i : Nat)) (o_mv rfl) <| stp (v := .bool (decide (i = 0))) (o_bin rfl rfl (congrArg Value.bool (decide_eq_decide.2 (by omega)))) <| m_call (next_ok b34 bc33 (raw.take F) a p (decide (i % Rq = 0)) (decide (i = 0)) rc w39 hc (Mem.res2 hM39 2 1 rfl rfl (by decide)) (by rw [List.length_take]; omega) hpk) rfl fun v75 w75 ⟨okq, x1q, x2q, aq, eq_, keyq, r'75, hr75, hnq, hkq, hcq, hm75⟩ => ?_
  have hM75 : Mem w [] w75 [[⟨b29, 96, [.int .i64 (Rq : Nat), v]⟩], r'75, [⟨b34, 106, [.pointer (some ⟨bc33, 0, none⟩), .string (str keyq)]⟩], re] := Mem.step2 hM39 2 1 rfl rfl (by decide) hm75
  subst hr75
  refine stp (v := .tuple [.agg ([.string (str x1q), .string (str x2q)] : List Value).toArray, .bool okq].toArray) (o_mv rfl) <| stp (v := .agg ([.string (str x1q), .string (str x2q)] : List Value).toArray) (o_ext rfl rfl) <| stp (v := .bool okq) (o_ext rfl rfl) <| m_al hM75 fun b76 w77 (hM77 : Mem w [] w77 [[⟨b29, 96, [.int .i64 (Rq : Nat), v]⟩], r'75, [⟨b34, 106, [.pointer (some ⟨bc33, 0, none⟩), .string (str keyq)]⟩], re, [⟨b76, 100, [.string (str ([])), .string (str ([]))]⟩]]) => m_stA (l := [.string (str x1q), .string (str x2q)]) hM77 (i := 4) rfl rfl rfl rfl (by simp [oneCells, Value.oneCell', byteV]) (by simp) fun w78 (hM78 : Mem w [] w78 [[⟨b29, 96, [.int .i64 (Rq : Nat), v]⟩], r'75, [⟨b34, 106, [.pointer (some ⟨bc33, 0, none⟩), .string (str keyq)]⟩], re, [⟨b76, 100, [.string (str x1q), .string (str x2q)]⟩]]) => stp (v := .bool okq) (o_mv rfl) <| h74 _ _ <| seq fun _ h79 => seq fun _ h80 => ?_
  rcases okq with _ | _
  ·refine stp (v := .bool false) (o_mv rfl) <| stp (v := .bool true) (o_not rfl rfl) <| h80 _ _ <| cndT rfl <| seq fun _ h81 => stp (v := .pointer none) (o_mv rfl) <| h81 _ _ <| ⟨(.pointer none), rfl, ⟨[], hM78.keep (by simp), .inl ⟨rfl, fun R es2 hB => ?_⟩⟩⟩
   obtain ⟨u1, u2, g1, g2, g3, g4, g5⟩ := blk_here hB hl hE hRe hne
   rw [← hq] at g4 g5
   exact hI.stop (by omega) (by omega) hnq (g5 F (by omega))
  refine stp (v := .bool true) (o_mv rfl) <| stp (v := .bool false) (o_not rfl rfl) <| h80 _ _ <| cndF rfl <| h79 _ _ ?_
  intro wd e1 e2 e3 e4
  have hd := Upd.same e1 e2 e3 e4 []
  have hM82 := hM78.pure hd
  clear e1 e2 e3 e4
  refine ⟨(some [b76]), ?_⟩
  show vd _ _ _ _ _ _ _
  refine dq (v := .pointer (some ⟨b29, 0, none⟩)) (o_mv rfl) <| dq (v := .pointer (some ⟨b29, 0, none⟩)) (o_mv rfl) <| dq (v := .pointer (some ⟨b29, 0, none⟩)) (o_nilchk rfl rfl) <| dq (v := .pointer (some ⟨b29, 1, none⟩)) (o_fa rfl rfl) <| dqldA (cs := [.string (str x1q), .string (str x2q)]) rfl (by simp [isHeld]) rfl ((hM82.at (i := 4) (j := 0) rfl rfl).agg rfl rfl) ?_
  show _ ∧ _
  refine ⟨?_, ?_⟩
  ·show vd _ _ _ _ _ _ _
   refine dl (m_ld (v := v) hM82 (i := 0) (j := 0) rfl rfl rfl rfl <| ⟨(fun b hb => rfl), dl (m_bsU hM82 rfl fun b83 w84 hup84 (hM84 : Mem w [] w84 [[⟨b29, 96, [.int .i64 (Rq : Nat), v]⟩], r'75, [⟨b34, 106, [.pointer (some ⟨bc33, 0, none⟩), .string (str keyq)]⟩], re, [⟨b76, 100, [.string (str x1q), .string (str x2q)]⟩], [⟨b83, 100, [.string (str x1q), .string (str x2q)]⟩]]) => ?_)⟩)
   have hh84 := held_upd (wr := wd) (bs := [b76]) hup84 (fun b hb => by
    simp only [List.mem_cons, List.not_mem_nil, or_false] at hb
    rw [hb]; exact ⟨(hM82.at (i := 4) (j := 0) rfl rfl).lt, by simp⟩) (fun b hb => rfl)
   refine ⟨hh84, dl (m_appSU (enc := pairC) hM84 (i := 3) rfl hv rfl rfl (own_rdS (enc := pairC) (l := [(x1q, x2q)]) (hM84.at (i := 5) (j := 0) rfl rfl) rfl) rfl (by first | omega | (simp; omega)) (by omega) fun v85 w85 r85 (hs85 : SlS pairC 2 100 v85 (es ++ ([(x1q, x2q)])) r85) hup85 (hM85 : Mem w [] w85 [[⟨b29, 96, [.int .i64 (Rq : Nat), v]⟩], r'75, [⟨b34, 106, [.pointer (some ⟨bc33, 0, none⟩), .string (str keyq)]⟩], r85, [⟨b76, 100, [.string (str x1q), .string (str x2q)]⟩], [⟨b83, 100, [.string (str x1q), .string (str x2q)]⟩]]) => ?_)⟩
   have hh85 := held_upd (wr := wd) (bs := [b76]) hup85 (fun b hb => by
    simp only [List.mem_cons, List.not_mem_nil, or_false] at hb
    rw [hb]; exact ⟨(hM84.at (i := 4) (j := 0) rfl rfl).lt, hM84.apart (i := 4) (j := 0) (k := 3) rfl rfl rfl (by decide)⟩) hh84
   refine ⟨hh85, dq (v := .pointer (some ⟨b29, 0, none⟩)) (o_nilchk rfl rfl) <| dq (v := .pointer (some ⟨b29, 1, none⟩)) (o_fa rfl rfl) <| dl (m_stU (v := v85) hM85 (i := 0) rfl rfl rfl (Sl.one hs85) (by simp) fun w86 hup86 (hM86 : Mem w [] w86 [[⟨b29, 96, [.int .i64 (Rq : Nat), v85]⟩], r'75, [⟨b34, 106, [.pointer (some ⟨bc33, 0, none⟩), .string (str keyq)]⟩], r85, [⟨b76, 100, [.string (str x1q), .string (str x2q)]⟩], [⟨b83, 100, [.string (str x1q), .string (str x2q)]⟩]]) => ?_)⟩
   have hh86 := held_upd (wr := wd) (bs := [b76]) hup86 (fun b hb => by
    simp only [List.mem_cons, List.not_mem_nil, or_false] at hb
    rw [hb]; exact ⟨(hM85.at (i := 4) (j := 0) rfl rfl).lt, hM85.apart (i := 4) (j := 0) (k := 0) rfl rfl rfl (by decide)⟩) hh85
   refine ⟨hh86, h44 _ _ <| stp (v := .int .i64 ((i : Nat) + 1)) (o_bin rfl rfl (v_add64 (by omega))) <| stp (v := .int .i64 ((i : Nat) + 1)) (o_mv rfl) <| h40 (i + 1, aq, keyq, es ++ [(x1q, x2q)], v85, r85, r'75) _ _ ⟨vi, rfl, vi, vi, rfl, rfl, vi, hM86.keep (by simp), by omega, hs85, by have h1 := (hnq.1 rfl).1; rw [h1] at hcq; exact hcq, by rw [(hkq rfl).1]; exact hI.step (by omega) (by omega) hcq.le (fun q0 => by first | exact hI.restart (by omega) (by omega) q0 (by rw [List.length_drop, ← hq]; omega) (by rw [← hg, ← cut_eq]; omega) | exact absurd q0 (by omega)) hnq, by rw [(hkq rfl).1]; exact (hkq rfl).2⟩ (by (try dsimp only); omega)⟩
  show vd _ _ _ _ _ _ _
  refine dl (m_bsU hM82 rfl fun b87 w88 hup88 (hM88 : Mem w [] w88 [[⟨b29, 96, [.int .i64 (Rq : Nat), v]⟩], r'75, [⟨b34, 106, [.pointer (some ⟨bc33, 0, none⟩), .string (str keyq)]⟩], re, [⟨b76, 100, [.string (str x1q), .string (str x2q)]⟩], [⟨b87, 100, [.string (str x1q), .string (str x2q)]⟩]]) => ?_)
  have hh88 := held_upd (wr := wd) (bs := [b76]) hup88 (fun b hb => by
   simp only [List.mem_cons, List.not_mem_nil, or_false] at hb
   rw [hb]; exact ⟨(hM82.at (i := 4) (j := 0) rfl rfl).lt, by simp⟩) (fun b hb => rfl)
  refine ⟨hh88, dl (m_ld (v := v) hM88 (i := 0) (j := 0) rfl rfl rfl rfl <| ⟨hh88, dl (m_appSU (enc := pairC) hM88 (i := 3) rfl hv rfl rfl (own_rdS (enc := pairC) (l := [(x1q, x2q)]) (hM88.at (i := 5) (j := 0) rfl rfl) rfl) rfl (by first | omega | (simp; omega)) (by omega) fun v89 w89 r89 (hs89 : SlS pairC 2 100 v89 (es ++ ([(x1q, x2q)])) r89) hup89 (hM89 : Mem w [] w89 [[⟨b29, 96, [.int .i64 (Rq : Nat), v]⟩], r'75, [⟨b34, 106, [.pointer (some ⟨bc33, 0, none⟩), .string (str keyq)]⟩], r89, [⟨b76, 100, [.string (str x1q), .string (str x2q)]⟩], [⟨b87, 100, [.string (str x1q), .string (str x2q)]⟩]]) => ?_)⟩)⟩
  have hh89 := held_upd (wr := wd) (bs := [b76]) hup89 (fun b hb => by
   simp only [List.mem_cons, List.not_mem_nil, or_false] at hb
   rw [hb]; exact ⟨(hM88.at (i := 4) (j := 0) rfl rfl).lt, hM88.apart (i := 4) (j := 0) (k := 3) rfl rfl rfl (by decide)⟩) hh88
  refine ⟨hh89, dq (v := .pointer (some ⟨b29, 0, none⟩)) (o_nilchk rfl rfl) <| dq (v := .pointer (some ⟨b29, 1, none⟩)) (o_fa rfl rfl) <| dl (m_stU (v := v89) hM89 (i := 0) rfl rfl rfl (Sl.one hs89) (by simp) fun w90 hup90 (hM90 : Mem w [] w90 [[⟨b29, 96, [.int .i64 (Rq : Nat), v89]⟩], r'75, [⟨b34, 106, [.pointer (some ⟨bc33, 0, none⟩), .string (str keyq)]⟩], r89, [⟨b76, 100, [.string (str x1q), .string (str x2q)]⟩], [⟨b87, 100, [.string (str x1q), .string (str x2q)]⟩]]) => ?_)⟩
  have hh90 := held_upd (wr := wd) (bs := [b76]) hup90 (fun b hb => by
   simp only [List.mem_cons, List.not_mem_nil, or_false] at hb
   rw [hb]; exact ⟨(hM89.at (i := 4) (j := 0) rfl rfl).lt, hM89.apart (i := 4) (j := 0) (k := 0) rfl rfl rfl (by decide)⟩) hh89
  refine ⟨hh90, h44 _ _ <| stp (v := .int .i64 ((i : Nat) + 1)) (o_bin rfl rfl (v_add64 (by omega))) <| stp (v := .int .i64 ((i : Nat) + 1)) (o_mv rfl) <| h40 (i + 1, aq, keyq, es ++ [(x1q, x2q)], v89, r89, r'75) _ _ ⟨vi, rfl, vi, vi, rfl, rfl, vi, hM90.keep (by simp), by omega, hs89, by have h1 := (hnq.1 rfl).1; rw [h1] at hcq; exact hcq, by rw [(hkq rfl).1]; exact hI.step (by omega) (by omega) hcq.le (fun q0 => by first | exact hI.restart (by omega) (by omega) q0 (by rw [List.length_drop, ← hq]; omega) (by rw [← hg, ← cut_eq]; omega) | exact absurd q0 (by omega)) hnq, by rw [(hkq rfl).1]; exact (hkq rfl).2⟩ (by (try dsimp only); omega)⟩
 refine h37 _ _ <| seq fun _ h91 => seq fun _ h92 => stp (v := .pointer (some ⟨b34, 0, none⟩)) (o_fa rfl rfl) <| m_ld (v := .pointer (some ⟨bc33, 0, none⟩)) hM39 (i := 2) (j := 0) rfl rfl rfl rfl <| m_call (End_ok _ (raw.take F) a 0 rc w39 hc (hM39.res (i := 1) rfl)) rfl fun v93 w93 ⟨hr93, hm93⟩ => ?_
 have hM93 : Mem w [] w93 [[⟨b29, 96, [.int .i64 (Rq : Nat), v]⟩], rc, [⟨b34, 106, [.pointer (some ⟨bc33, 0, none⟩), .string (str p)]⟩], re] := hM39.step 1 rfl hm93
 subst hr93
 refine stp (v := .int .i64 (endE (raw.take F) a 0)) (o_fld rfl rfl) <| stp (v := .bool (decide (¬ (endE (raw.take F) a 0) = 0))) (o_bin rfl rfl v_neq) <| h92 _ _ <| cndP rfl (fun c94 => ?_) (fun c94 => ?_)
 ·refine seq fun _ h95 => stp (v := .pointer none) (o_mv rfl) <| h95 _ _ <| ⟨(.pointer none), rfl, ⟨[], hM93.keep (by simp), .inl ⟨rfl, fun R es2 hB => ?_⟩⟩⟩
  obtain ⟨u1, u2, g1, g2, g3, g4, g5⟩ := blk_here hB hl hE hRe hne
  rw [← hq] at g4 g5
  have hz : ¬ a = (raw.take F).length := fun u => by
   have h1 : endE (raw.take F) a 0 = 0 := by rw [end_0, if_neg (by omega)]
   omega
  exact hI.left (by omega) (by omega) hz (g5 F (by omega))
 refine h91 _ _ <| seq fun _ h96 => stp (v := .pointer (some ⟨b29, 0, none⟩)) (o_mv rfl) <| stp (v := .pointer (some ⟨b29, 0, none⟩)) (o_mv rfl) <| h96 _ _ <| ⟨(.pointer (some ⟨b29, 0, none⟩)), rfl, ?_⟩
 have hz : a = (raw.take F).length := by
  have h1 := hc.le
  have h2 : endE (raw.take F) a 0 = 0 := by omega
  rw [end_0] at h2
  split at h2 <;> omega
 have hblk := full_blk (by rw [← hq]; omega) hE ⟨by omega, by omega⟩ (by omega) hRe.symm hne.symm (hI.done (by omega) (by omega) hz)
 refine ⟨_, hM93.keep (by simp; repeat first | exact List.Sublist.refl _ | refine List.Sublist.trans ?_ (List.sublist_append_right _ _) | refine List.Sublist.cons _ ?_), .inr ⟨_, Rq, es, rfl, hblk, ⟨v, re, rfl, hv⟩, fun R2 es2 hB => ?_⟩⟩
 obtain ⟨u1, u2, g1, g2, g3, g4, g5⟩ := blk_here hB hl hE hRe hne
 rw [← hq] at g4 g5
 have hcp := hI.cpl _ (g5 F (by omega))
 rw [List.take_of_length_le (by omega)] at hcp
 exact ⟨u1, hcp⟩
end Go.Proofs.Ytifnmbmijljhfaa.E
namespace Go.Proofs.Ytifnmbmijljhfaa.E.Hf
open Go
theorem ifc {α : Type} {p q : Prop} [Decidable p] [Decidable q] {x y : α} (h : p ↔ q) : (if p then x else y) = (if q then x else y) := by
 by_cases c : p
 ·rw [if_pos c, if_pos (h.1 c)]
 rw [if_neg c, if_neg (fun k => c (h.2 k))]
theorem get_err (b : List UInt8) : ¬ (get b).2.2 = 22 := by
 have h : (get b).2.2 = 0 ∨ (get b).2.2 = 20 ∨ (get b).2.2 = 21 := (getA_err b 0 0).1
 omega
def hdI (b : List UInt8) (a : Nat) (e : Int) (L : List Int) : Prop := (e = 0 ∧ hdr b 0 [] = hdr b a L) ∨ (¬ e = 0 ∧ ¬ e = 22 ∧ hdr b 0 [] = none ∧ lastI L = 0)
theorem hd_num {b : List UInt8} {a : Nat} {e : Int} {L : List Int} (h : hdI b a e L) (hn : ¬ cNum b a e 256 = 0) : e = 0 ∧ hdr b 0 [] = hdr b a L ∧ (get (b.drop a)).2.2 = 0 ∧ (get (b.drop a)).1 ≤ 256 ∧ cNum b a e 256 = ((get (b.drop a)).1 : Nat) ∧ cNumA b a e 256 = a + (get (b.drop a)).2.1 ∧ cNumE b a e 256 = 0 ∧ a < b.length ∧ ¬ b.getD a 0 = 0 ∧ a + (get (b.drop a)).2.1 ≤ b.length := by
 have he : e = 0 := by
  apply Decidable.byContradiction; intro c
  exact hn (by unfold cNum; rw [if_neg c])
 subst he
 have hE : (get (b.drop a)).2.2 = 0 := by
  apply Decidable.byContradiction; intro c
  exact hn (by unfold cNum; rw [if_pos rfl, (num_bad c).2])
 have hM : ¬ (256 : Int) < ((get (b.drop a)).1 : Nat) := by
  intro c; exact hn (by unfold cNum; rw [if_pos rfl, (num_much hE c).2])
 have hf := num_fine hE hM
 have hg := get_ok hE
 rw [List.length_drop] at hg
 have ha : a < b.length := by omega
 refine ⟨rfl, ?_, hE, by omega, by unfold cNum; rw [if_pos rfl, hf.2], by unfold cNumA; rw [if_pos ⟨rfl, by rw [hf.1, hE]⟩], by unfold cNumE; rw [if_pos rfl, hf.1, hE], ha, ?_, by omega⟩
 ·rcases h with h | h
  ·exact h.2
  exact absurd rfl h.1
 intro h0
 have := get_z ha h0
 exact hn (by unfold cNum; rw [if_pos rfl, hf.2, this]; rfl)
theorem word_1 (x : UInt8) : word [x] = x.toNat := by
 have := x.toNat_lt
 simp [word, le]
theorem fix_1 {b : List UInt8} {A : Nat} : (A < b.length → cFix b A 0 1 = (b.getD A 0).toNat ∧ cFixA b A 0 1 = A + 1 ∧ cFixE b A 0 1 = 0) ∧ (¬ A < b.length → cFix b A 0 1 = 0 ∧ cFixA b A 0 1 = A ∧ cFixE b A 0 1 = 20) := by
 constructor
 ·intro h
  have hf := fix_fine (l := b.drop A) (n := 1) (by omega) (by rw [List.length_drop]; omega)
  refine ⟨?_, ?_, ?_⟩
  ·unfold cFix; rw [if_pos rfl, hf.2, dropG 0 h]; simp [word_1]
  ·unfold cFixA fixN; rw [if_pos ⟨rfl, hf.1⟩, if_pos hf.1]; rfl
  unfold cFixE; rw [if_pos rfl, hf.1]
 intro h
 have hf := fix_short (l := b.drop A) (n := 1) (by omega) (by rw [List.length_drop]; omega)
 refine ⟨?_, ?_, ?_⟩
 ·unfold cFix; rw [if_pos rfl, hf.2]
 ·unfold cFixA; rw [if_neg (by rw [hf.1]; omega)]
 unfold cFixE; rw [if_pos rfl, hf.1]
theorem fix1_le (b : List UInt8) (A : Nat) (E : Int) : cFix b A E 1 ≤ 255 := by
 by_cases c : E = 0
 ·subst c
  by_cases h : A < b.length
  ·rw [(fix_1.1 h).1]; have := (b.getD A 0).toNat_lt; omega
  rw [(fix_1.2 h).1]; omega
 unfold cFix; rw [if_neg c]; omega
theorem cNum_bd {b : List UInt8} {a : Nat} {e : Int} {L : List Int} (h : hdI b a e L) : 0 ≤ cNum b a e 256 ∧ cNum b a e 256 ≤ 256 := by
 by_cases c : cNum b a e 256 = 0
 ·omega
 obtain ⟨_, _, _, h4, h5, _⟩ := hd_num h c; omega
theorem hd_stop {b : List UInt8} {a : Nat} {e : Int} {L : List Int} (h : hdI b a e L) (hn : cNum b a e 256 = 0) :
 hdr b 0 [] = (if ¬ lastI L = 0 ∧ (endE b (cNumA b a e 256) (cNumE b a e 256) = 0 ∨ endE b (cNumA b a e 256) (cNumE b a e 256) = 22) then some (L, cNumA b a e 256) else none) ∧ ((endE b (cNumA b a e 256) (cNumE b a e 256) = 0 ∨ endE b (cNumA b a e 256) (cNumE b a e 256) = 22) → cNumE b a e 256 = 0) := by
 have nope : ∀ E : Int, ¬ E = 0 → ¬ E = 22 → cNumE b a e 256 = E → hdr b 0 [] = none → hdr b 0 [] = (if ¬ lastI L = 0 ∧ (endE b (cNumA b a e 256) (cNumE b a e 256) = 0 ∨ endE b (cNumA b a e 256) (cNumE b a e 256) = 22) then some (L, cNumA b a e 256) else none) ∧ ((endE b (cNumA b a e 256) (cNumE b a e 256) = 0 ∨ endE b (cNumA b a e 256) (cNumE b a e 256) = 22) → cNumE b a e 256 = 0) := by
  intro E h0 h22 hE hno
  have : endE b (cNumA b a e 256) (cNumE b a e 256) = E := by unfold endE; rw [hE, if_pos h0]
  rw [this, hno, if_neg (by omega)]
  exact ⟨rfl, by omega⟩
 rcases h with ⟨he, h⟩ | ⟨he, h22, h, hl⟩
 ·subst he
  by_cases hE : (get (b.drop a)).2.2 = 0
  ·have hg := get_ok hE
   rw [List.length_drop] at hg
   have ha : a < b.length := by omega
   by_cases hM : (256 : Int) < ((get (b.drop a)).1 : Nat)
   ·have hf := num_much hE hM
    refine nope 23 (by omega) (by omega) (by unfold cNumE; rw [if_pos rfl, hf.1]) ?_
    have h0 : ¬ b.getD a 0 = 0 := by
     intro h0; rw [get_z ha h0] at hM; simp at hM
    rw [h, hdr_no ha h0]
    rintro ⟨_, p, _⟩; omega
   have hf := num_fine hE hM
   have hz : (get (b.drop a)).1 = 0 := by
    unfold cNum at hn; rw [if_pos rfl, hf.2] at hn; omega
   have h0 : b.getD a 0 = 0 := by
    apply Decidable.byContradiction; intro c
    have := get_nz ha c hE; omega
   have hA : cNumA b a 0 256 = a + 1 := by unfold cNumA; rw [if_pos ⟨rfl, by rw [hf.1, hE]⟩, get_z ha h0]
   have hC : cNumE b a 0 256 = 0 := by unfold cNumE; rw [if_pos rfl, hf.1, hE]
   have hX : endE b (a + 1) 0 = 0 ∨ endE b (a + 1) 0 = 22 := by
    unfold endE; rw [if_neg (by omega)]; split
    ·exact .inr rfl
    exact .inl rfl
   rw [hA, hC, h]
   refine ⟨?_, fun _ => rfl⟩
   by_cases c : lastI L = 0
   ·rw [hdr_z0 ha h0 c, if_neg (fun h => h.1 c)]
   rw [hdr_z1 ha h0 c, if_pos ⟨c, hX⟩]
  have hf := num_bad (m := 256) hE
  refine nope _ hE (get_err _) (by unfold cNumE; rw [if_pos rfl, hf.1]) ?_
  rw [h]
  by_cases ha : a < b.length
  ·have h0 : ¬ b.getD a 0 = 0 := by
    intro h0; rw [get_z ha h0] at hE; exact hE rfl
   rw [hdr_no ha h0]
   exact fun p => hE p.1
  exact hdr_end ha
 exact nope e he h22 (by unfold cNumE; rw [if_neg he]) h
abbrev xF (b : List UInt8) (a : Nat) (e : Int) : Int := ((cFix b (cNumA b a e 256) (cNumE b a e 256) 1 : Nat) : Int)
theorem hd_bad {b : List UInt8} {a : Nat} {e : Int} {L : List Int} (h : hdI b a e L) (hn : ¬ cNum b a e 256 = 0) (hx : 15 < xF b a e ∨ xF b a e = lastI L ∨ 256 < ((L.length : Nat) : Int) + cNum b a e 256) : hdr b 0 [] = none := by
 obtain ⟨he, h1, h2, h3, h4, h5, h6, h7, h8, h9⟩ := hd_num h hn
 subst he
 unfold xF at hx
 rw [h1, hdr_no h7 h8]
 rintro ⟨_, p2, p3, p4, p5⟩
 rw [h5, h6, (fix_1.1 p3).1] at hx
 rw [h4] at hx
 rcases hx with hx | hx | hx
 ·omega
 ·exact p5 hx.symm
 omega
theorem hd_go {b : List UInt8} {a : Nat} {e : Int} {L : List Int} (h : hdI b a e L) (hn : ¬ cNum b a e 256 = 0) (hx : ¬ 15 < xF b a e) (hx2 : ¬ xF b a e = lastI L) (hx3 : ¬ 256 < ((L.length : Nat) : Int) + cNum b a e 256) :
 hdI b (cFixA b (cNumA b a e 256) (cNumE b a e 256) 1) (cFixE b (cNumA b a e 256) (cNumE b a e 256) 1) (L ++ List.replicate (cNum b a e 256).toNat (xF b a e)) ∧ lastI (L ++ List.replicate (cNum b a e 256).toNat (xF b a e)) = xF b a e := by
 obtain ⟨he, h1, h2, h3, h4, h5, h6, h7, h8, h9⟩ := hd_num h hn
 subst he
 have hl : lastI (L ++ List.replicate (cNum b a 0 256).toNat (xF b a 0)) = xF b a 0 := lastI_app (by omega)
 refine ⟨?_, hl⟩
 unfold xF at hx hx2 hl ⊢
 rw [h5, h6] at hx hx2 hl ⊢
 by_cases p3 : a + (get (b.drop a)).2.1 < b.length
 ·have hf := fix_1.1 p3
  rw [hf.1] at hx hx2 hl ⊢
  rw [hf.2.1, hf.2.2, h4]
  refine .inl ⟨rfl, ?_⟩
  rw [h1, hdr_more h7 h8 ⟨h2, by omega, p3, by omega, fun k => hx2 k.symm⟩]
  rw [Int.toNat_natCast]; rfl
 have hf := fix_1.2 p3
 rw [hf.1] at hx hx2 hl ⊢
 rw [hf.2.1, hf.2.2]
 refine .inr ⟨by omega, by omega, ?_, hl⟩
 rw [h1, hdr_no h7 h8]
 rintro ⟨_, _, p, _⟩; exact p3 p
theorem hdI_init (b : List UInt8) : hdI b 0 0 [] := .inl ⟨rfl, rfl⟩
theorem lengths_ok (bc : Nat) (b : List UInt8) (r0 : List Ent) (w : World) (hc : CurS bc b 0 0 r0) (hr : Res w r0) (hl : b.length ≤ 140737488355328) : Calls Try.prog 34 [.pointer (some ⟨bc, 0, none⟩)].toArray w (Rt fun r w' => ∃ v ok L a' e' r' rs, r = .tuple [v, .bool ok].toArray ∧ SlE i64V 3 v L rs ∧ CurS bc b a' e' r' ∧ (if ok then some (L, a') else none) = hdr b 0 [] ∧ (ok = true → e' = 0) ∧ Mem w (ids r0) w' [r', rs]) := by
 have hM0 : Mem w (ids r0) w [r0] := Mem.start hr
 refine calls_vc mixed Try.func34 rfl C34 (by simp [Try.ntmps34]) <| seq fun _ h1 => mv <| mv <| h1 _ _ <| seq fun _ h2 => mv <| h2 _ _ <| seq fun _ h3 => mv <| h3 _ _ <| seq fun _ h4 => ?_
 have hM5 : Mem w (ids r0) w [r0, []] := hM0.addNil
 have hs5 : SlE i64V 3 (.slice none 0 0) [] [] := Sl.nil 1 3
 refine lp (n := fun _ _ => False) (ι := (List Int) × (Nat) × (Int) × (List Ent) × (Value) × (List Ent)) (fun ⟨L, a, e, rc, y4_, r4_⟩ f w' => f 0 = .pointer (some ⟨bc, 0, none⟩) ∧ f 4 = y4_ ∧ f 5 = .int .i64 (lastI L) ∧ Mem w (ids r0) w' [rc, r4_] ∧ (CurS bc b a e rc) ∧ (hdI b a e L) ∧ (L.length ≤ 256) ∧ (SlE i64V 3 y4_ (L) r4_)) (fun ⟨L, a, e, rc, y4_, r4_⟩ => 256 - L.length) ([], 0, 0, r0, ((.slice none 0 0)), ([])) ?_ ?_
 ·exact ⟨rfl, rfl, vi, hM5, hc, hdI_init b, by simp, by first | exact hs5 | simpa using hs5⟩
 rintro ⟨L, a, e, rc, y4_, r4_⟩ f w6 ⟨e6_0, e6_4, e6_5, hM6, hcl, hI, hL, hy4_⟩ K7 h7
 obtain ⟨frm, rfl⟩ := re3 e6_0 e6_4 e6_5
 refine seq fun _ h8 => mv ?_
 have hcb := cNum_bd hI
 refine m_call (Num_ok _ b a e 256 rc w6 hcl (hM6.res (i := 0) rfl) (by first | omega | (simp; done) | (simp; omega))) rfl fun v9 w9 ⟨hr9, r'9, hc9, hm9⟩ => ?_
 have hM9 : Mem w (ids r0) w9 [r'9, r4_] := hM6.step 0 rfl hm9
 subst hr9
 refine mv <| h8 _ _ <| seq fun _ h10 => seq fun _ h11 => mv <| bn rfl rfl <| h11 _ _ <| cndP rfl (fun c12 => ?_) (fun c12 => ?_)
 ·refine h4 _ _ <| seq fun _ h13 => mv <| m_call (End_ok _ b (cNumA b a e 256) (cNumE b a e 256) r'9 w9 hc9 (hM9.res (i := 0) rfl)) rfl fun v14 w14 ⟨hr14, hm14⟩ => ?_
  have hM14 : Mem w (ids r0) w14 [r'9, r4_] := hM9.step 0 rfl hm14
  subst hr14
  refine stp (v := .int .i64 (endE b (cNumA b a e 256) (cNumE b a e 256))) (o_fld rfl rfl) <| mv <| h13 _ _ <| seq fun _ h15 => mv <| mv <| bneq rfl rfl <| mv <| splitP rfl (fun c16 => ?_) (fun c16 => ?_)
  ·refine gmv rfl <| gbn rfl rfl rfl <| gmv rfl <| splitP rfl (fun c17 => ?_) (fun c17 => ?_)
   ·refine gx rfl <| gx rfl <| gpkT rfl rfl <| pkT rfl <| mv <| mv <| h15 _ _ <| ⟨(.tuple [y4_, .bool true].toArray), rfl, ?_⟩
    have hs := hd_stop hI (by omega)
    exact ⟨_, _, _, _, _, _, _, rfl, hy4_, hc9, by rw [hs.1]; exact ifc (by constructor <;> intro h <;> first | omega | (have := of_decide_eq_true h; omega) | (exact decide_eq_true (by omega)) | rfl | cases h), fun h => hs.2 (by first | omega | (have := of_decide_eq_true h; omega) | cases h), hM14⟩
   refine gmv rfl <| gbn rfl rfl rfl <| gpkF rfl rfl <| pkT rfl <| mv <| mv <| h15 _ _ <| ⟨(.tuple [y4_, .bool (decide ((endE b (cNumA b a e 256) (cNumE b a e 256)) = 22))].toArray), rfl, ?_⟩
   have hs := hd_stop hI (by omega)
   exact ⟨_, _, _, _, _, _, _, rfl, hy4_, hc9, by rw [hs.1]; exact ifc (by constructor <;> intro h <;> first | omega | (have := of_decide_eq_true h; omega) | (exact decide_eq_true (by omega)) | rfl | cases h), fun h => hs.2 (by first | omega | (have := of_decide_eq_true h; omega) | cases h), hM14⟩
  refine gx rfl <| gx rfl <| gx rfl <| splitU rfl <| gnou rfl <| gnou rfl <| gx rfl <| pkF rfl <| mv <| mv <| h15 _ _ <| ⟨(.tuple [y4_, .bool false].toArray), rfl, ?_⟩
  have hs := hd_stop hI (by omega)
  exact ⟨_, _, _, _, _, _, _, rfl, hy4_, hc9, by rw [hs.1]; exact ifc (by constructor <;> intro h <;> first | omega | (have := of_decide_eq_true h; omega) | (exact decide_eq_true (by omega)) | rfl | cases h), fun h => hs.2 (by first | omega | (have := of_decide_eq_true h; omega) | cases h), hM14⟩
 refine h10 _ _ <| seq fun _ h18 => mv ?_
 have hfb := fix1_le b (cNumA b a e 256) (cNumE b a e 256)
 refine m_call (cFixed_ok _ b (cNumA b a e 256) (cNumE b a e 256) 1 r'9 w9 hc9 (hM9.res (i := 0) rfl) (by first | omega | (simp; done) | (simp; omega))) rfl fun v19 w19 ⟨hr19, r'19, hc19, hm19⟩ => ?_
 have hM19 : Mem w (ids r0) w19 [r'19, r4_] := hM9.step 0 rfl hm19
 subst hr19
 refine stp (v := .int .i64 (cFix b (cNumA b a e 256) (cNumE b a e 256) 1 : Nat)) (o_conv rfl (v_same (by simp only [inK]; omega))) <| mv <| h18 _ _ <| seq fun _ h20 => seq fun _ h21 => mv <| bn rfl rfl <| mv <| splitP rfl (fun c22 => ?_) (fun c22 => ?_)
 ·refine gx rfl <| gx rfl <| gx rfl <| pkT rfl <| mv <| splitT rfl <| gx rfl <| gx rfl <| gx rfl <| gx rfl <| gx rfl <| pkT rfl <| h21 _ _ <| cndT rfl ?_
  refine seq fun _ h23 => mv <| mv <| h23 _ _ <| ⟨(.tuple [.slice none 0 0, .bool false].toArray), rfl, ?_⟩
  have hb := hd_bad hI (by omega) (by first | exact .inl (by omega) | exact .inr (.inl (by omega)) | exact .inr (.inr (by omega)))
  exact ⟨_, _, [], _, _, _, _, rfl, (Sl.nil 1 3 : SlE i64V 3 _ [] []), hc19, by rw [hb]; rfl, (fun h => by cases h), (hM19.drop 1).keep (by simp)⟩
 refine gmv rfl <| gmv rfl <| gbn rfl rfl rfl <| pkF rfl <| mv <| splitP rfl (fun c24 => ?_) (fun c24 => ?_)
 ·refine gx rfl <| gx rfl <| gx rfl <| gx rfl <| gx rfl <| pkT rfl <| h21 _ _ <| cndT rfl <| seq fun _ h25 => mv <| mv <| h25 _ _ <| ⟨(.tuple [.slice none 0 0, .bool false].toArray), rfl, ?_⟩
  have hb := hd_bad hI (by omega) (by first | exact .inl (by omega) | exact .inr (.inl (by omega)) | exact .inr (.inr (by omega)))
  exact ⟨_, _, [], _, _, _, _, rfl, (Sl.nil 1 3 : SlE i64V 3 _ [] []), hc19, by rw [hb]; rfl, (fun h => by cases h), (hM19.drop 1).keep (by simp)⟩
 refine gmv rfl <| stg rfl (v := .int .i64 (L.length : Nat)) (o_lenR (hy4_.rd hM19 (i := 1) rfl) rfl rfl) <| gmv rfl <| stg rfl (v := .int .i64 ((L.length : Nat) + (cNum b a e 256))) (o_bin rfl rfl (v_add64 (by omega))) <| gbn rfl rfl rfl <| pkF rfl <| h21 _ _ <| cndP rfl (fun c26 => ?_) (fun c26 => ?_)
 ·refine seq fun _ h27 => mv <| mv <| h27 _ _ <| ⟨(.tuple [.slice none 0 0, .bool false].toArray), rfl, ?_⟩
  have hb := hd_bad hI (by omega) (by first | exact .inl (by omega) | exact .inr (.inl (by omega)) | exact .inr (.inr (by omega)))
  exact ⟨_, _, [], _, _, _, _, rfl, (Sl.nil 1 3 : SlE i64V 3 _ [] []), hc19, by rw [hb]; rfl, (fun h => by cases h), (hM19.drop 1).keep (by simp)⟩
 refine h20 _ _ <| seq fun _ h28 => seq fun _ h29 => mv <| mv <| h29 _ _ <| lp (n := fun _ _ => False) (ι := (Nat) × (Value) × (List Ent)) (fun ⟨k, y4_, r4_⟩ f w' => f 4 = y4_ ∧ f 31 = .int .i64 (k : Nat) ∧ f 0 = .pointer (some ⟨bc, 0, none⟩) ∧ f 7 = .int .i64 (cFix b (cNumA b a e 256) (cNumE b a e 256) 1 : Nat) ∧ f 30 = .int .i64 (cNum b a e 256) ∧ Mem w (ids r0) w' [r'19, r4_] ∧ ((k : Int) ≤ cNum b a e 256) ∧ (SlE i64V 3 y4_ (L ++ List.replicate k (xF b a e)) r4_)) (fun ⟨k, y4_, r4_⟩ => (cNum b a e 256).toNat - k) (0, y4_, r4_) ?_ ?_
 ·exact ⟨rfl, vi, rfl, vi, vi, hM19, by omega, by first | exact hy4_ | simpa using hy4_⟩
 rintro ⟨k, y4_, r4_⟩ f w30 ⟨e30_4, e30_31, e30_0, e30_7, e30_30, hM30, hk, hy4_⟩ K31 h31
 obtain ⟨frm, rfl⟩ := re5 e30_4 e30_31 e30_0 e30_7 e30_30
 refine seq fun _ h32 => bn rfl rfl <| h32 _ _ <| seq fun _ h33 => cndP rfl (fun c34 => ?_) (fun c34 => ?_)
 ·refine h33 _ _ <| seq fun _ h35 => mv <| mv <| m_app1 (E := i64V) (q := (xF b a e)) hM30 (i := 1) rfl hy4_ rfl (by simp) (rfl) (by rw [List.length_append, List.length_replicate]; omega) (by omega) fun v36 w36 r36 u36 (hs36 : SlE i64V 3 v36 ((L ++ List.replicate k (xF b a e)) ++ [(xF b a e)]) r36) (hM36 : Mem w (ids r0) w36 [r'19, r36]) => mv <| h35 _ _ <| stp (v := .int .i64 ((k : Nat) + 1)) (o_bin rfl rfl (v_add64 (by omega))) <| mv <| h31 (k + 1, v36, r36) _ _ ⟨rfl, vi, rfl, vi, vi, hM36, by omega, by rw [List.replicate_succ', ← List.append_assoc]; exact hs36⟩ (by (try dsimp only); omega)
 refine h28 _ _ ?_
 have hkk : k = (cNum b a e 256).toNat := by omega
 have hgo := hd_go hI (by omega) (by omega) (by omega) (by omega)
 refine mv <| mv <| h7 (L ++ List.replicate (cNum b a e 256).toNat (xF b a e), cFixA b (cNumA b a e 256) (cNumE b a e 256) 1, cFixE b (cNumA b a e 256) (cNumE b a e 256) 1, r'19, y4_, r4_) _ _ ⟨rfl, rfl, v_int hgo.2.symm, hM30, hc19, hgo.1, by rw [List.length_append, List.length_replicate]; omega, by rw [← hkk]; exact hy4_⟩ (by dsimp only; rw [List.length_append, List.length_replicate]; omega)
end Go.Proofs.Ytifnmbmijljhfaa.E.Hf
namespace Go.Proofs.Ytifnmbmijljhfaa.E.Hf
open Go
theorem hdr_bd {b : List UInt8} : ∀ (m a : Nat) (L : List Int), b.length - a ≤ m → L.length ≤ 256 → inB 0 15 L = true → ∀ l e, hdr b a L = some (l, e) → l.length ≤ 256 ∧ inB 0 15 l = true ∧ e ≤ b.length
 | m, a, L, hm, hL, hB, l, e, h => by
  by_cases ha : a < b.length
  ·by_cases h0 : b.getD a 0 = 0
   ·by_cases c : lastI L = 0
    ·rw [hdr_z0 ha h0 c] at h; cases h
    rw [hdr_z1 ha h0 c] at h; injection h with h; injection h with h1 h2; subst h1; exact ⟨hL, hB, by omega⟩
   by_cases p : hdrP b a L
   ·rw [hdr_more ha h0 p] at h
    obtain ⟨p1, p2, p3, p4, p5⟩ := p
    cases m with
    | zero => omega
    | succ m =>
     refine hdr_bd m _ _ (by omega) ?_ ?_ l e h
     ·unfold hdrL; rw [List.length_append, List.length_replicate]; omega
     unfold hdrL inB at *
     rw [List.all_append, hB, Bool.true_and, List.all_eq_true]
     intro x hx
     have := List.eq_of_mem_replicate hx
     simp only [Bool.and_eq_true, decide_eq_true_eq]; omega
   rw [hdr_no ha h0 p] at h; cases h
  rw [hdr_end ha] at h; cases h
theorem hdr_ok {b : List UInt8} {l : List Int} {e : Nat} (h : hdr b 0 [] = some (l, e)) : l.length ≤ 256 ∧ inB 0 15 l = true ∧ e ≤ b.length := hdr_bd _ 0 [] (Nat.le_refl _) (by simp) rfl l e h
theorem bit8 (x : UInt8) (k : Nat) : x.toNat / 2 ^ k ≤ 255 := by have := x.toNat_lt; have := Nat.div_le_self x.toNat (2 ^ k); omega
theorem shr_bit {x : UInt8} {i : Nat} {z : Int} (hz : z = ((i % 8 : Nat) : Int)) : Value.int .u8 ((x.toNat : Int).fdiv (2 ^ min z.toNat IntKind.u8.bits)) = .int .u8 ((x.toNat / 2 ^ (i % 8) : Nat) : Int) := by
 subst hz
 rw [v_shr _ (by simp only [IntKind.bits]; omega), Int.natCast_ediv]; simp
end Go.Proofs.Ytifnmbmijljhfaa.E.Hf
namespace Go.Proofs.Ytifnmbmijljhfaa.E.Hf
open Go
def findV (l : List Int) (n W : Nat) : Int := if firstW l n ≤ W ∧ W < firstW l n + cntW l n then (((symN l n l.length).getD (W - firstW l n) 0 : Nat) : Int) else -1
theorem cntW_pos {l : List Int} {n : Nat} (h : 1 ≤ n) : cntW l n = (symN l n l.length).length := by unfold cntW; rw [if_neg (by omega)]
structure Dec (l : List Int) (w : List UInt8) (p0 k W p : Nat) : Prop where
 d : dec1 l w (16 - k) k W p = dec1 l w 15 1 0 p0
 lo : firstW l (k - 1) + cntW l (k - 1) ≤ W
 hi : W + 1 ≤ 2 ^ (k - 1)
 k1 : 1 ≤ k
 k2 : k ≤ 16
 p : p ≤ 8 * w.length
theorem Dec.init {l : List Int} {w : List UInt8} {p : Nat} (h : p ≤ 8 * w.length) : Dec l w p 1 0 p := ⟨rfl, by show 0 + 0 ≤ 0; omega, by simp, by omega, by omega, h⟩
theorem Dec.bd {l : List Int} {w : List UInt8} {p0 k W p : Nat} (h : Dec l w p0 k W p) : W ≤ 32767 := by
 have h1 := h.hi; have := h.k2
 have h2 : 2 ^ (k - 1) ≤ 2 ^ 15 := Nat.pow_le_pow_right (by omega) (by omega)
 have h3 : 2 ^ 15 = 32768 := by decide
 omega
theorem Dec.first {l : List Int} {w : List UInt8} {p0 k W p : Nat} (h : Dec l w p0 k W p) : firstW l k = 2 * (firstW l (k - 1) + cntW l (k - 1)) := by
 obtain ⟨j, rfl⟩ : ∃ j, k = j + 1 := ⟨k - 1, by have := h.k1; omega⟩
 rfl
theorem Dec.out {l : List Int} {w : List UInt8} {p0 k W p : Nat} (h : Dec l w p0 k W p) (hk : 15 < k ∨ 8 * w.length ≤ p) : dec1 l w 15 1 0 p0 = none := by
 rw [← h.d]
 rcases hk with hk | hk
 ·have : k = 16 := by have := h.k2; omega
  subst this; rfl
 exact dec1_end (by omega)
theorem Dec.yes {l : List Int} {w : List UInt8} {p0 k W p : Nat} (h : Dec l w p0 k W p) (hk : k ≤ 15) (hp : p < 8 * w.length) (hf : 2 * W + bitW w p < firstW l k + cntW l k) : dec1 l w 15 1 0 p0 = some ((symN l k l.length).getD (2 * W + bitW w p - firstW l k) 0, p + 1) := by
 rw [← h.d, show 16 - k = (16 - (k + 1)) + 1 by omega, dec1_yes hp hf]
theorem Dec.no {l : List Int} {w : List UInt8} {p0 k W p : Nat} (h : Dec l w p0 k W p) (hk : k ≤ 15) (hp : p < 8 * w.length) (hf : ¬ 2 * W + bitW w p < firstW l k + cntW l k) : Dec l w p0 (k + 1) (2 * W + bitW w p) (p + 1) := by
 have hb := bitW_le w p
 have h1 := h.hi; have h2 := h.k1
 refine ⟨?_, by rw [Nat.add_sub_cancel]; omega, ?_, by omega, by omega, by omega⟩
 ·rw [← h.d, show 16 - k = (16 - (k + 1)) + 1 by omega, dec1_no hp hf]
 rw [Nat.add_sub_cancel]
 have : 2 ^ k = 2 * 2 ^ (k - 1) := by rw [← Nat.pow_succ', show (k - 1).succ = k by omega]
 omega
theorem Dec.low {l : List Int} {w : List UInt8} {p0 k W p : Nat} (h : Dec l w p0 k W p) : firstW l k ≤ 2 * W + bitW w p := by
 have := h.first; have := h.lo; omega
theorem findV_yes {l : List Int} {w : List UInt8} {p0 k W p : Nat} (h : Dec l w p0 k W p) (hf : 2 * W + bitW w p < firstW l k + cntW l k) : findV l k (2 * W + bitW w p) = (((symN l k l.length).getD (2 * W + bitW w p - firstW l k) 0 : Nat) : Int) := by
 unfold findV; rw [if_pos ⟨h.low, hf⟩]
theorem findV_no {l : List Int} {n W : Nat} (hf : ¬ W < firstW l n + cntW l n) : findV l n W = -1 := by
 unfold findV; rw [if_neg (by omega)]
theorem wordsF_none {l : List Int} {w : List UInt8} {n : Nat} (h : 32768 < usedB l 15 ∨ decA l w n 0 = none) : wordsF l w n = none := by
 unfold wordsF
 by_cases c : 32768 < usedB l 15
 ·rw [if_pos c]
 rw [if_neg c]
 rcases h with h | h
 ·exact absurd h c
 rw [h]
theorem wordsF_some {l : List Int} {w : List UInt8} {n e : Nat} {t : List UInt8} (hu : ¬ 32768 < usedB l 15) (h : decA l w n 0 = some (t, e)) : wordsF l w n = if (e + 7) / 8 = w.length ∧ tailZ w e then some t else none := by
 unfold wordsF; rw [if_neg hu, h]
theorem decA_long {l : List Int} {w : List UInt8} {n : Nat} (h : 8 * w.length < n) : decA l w n 0 = none := by
 cases hd : decA l w n 0 with
 | none => rfl
 | some x =>
  obtain ⟨t, e⟩ := x
  have := decA_bd hd (by omega)
  omega
structure Dcs (l : List Int) (w : List UInt8) (n : Nat) (T : List UInt8) (p : Nat) : Prop where
 d : pre T (decA l w (n - T.length) p) = decA l w n 0
 m : T.length ≤ n
 p : p ≤ 8 * w.length
theorem Dcs.init {l : List Int} {w : List UInt8} {n : Nat} : Dcs l w n [] 0 := ⟨pre_nil _, by simp, by omega⟩
theorem Dcs.fail {l : List Int} {w : List UInt8} {n : Nat} {T : List UInt8} {p : Nat} (h : Dcs l w n T p) (hm : T.length < n) (h1 : dec1 l w 15 1 0 p = none) : decA l w n 0 = none := by
 rw [← h.d, show n - T.length = (n - T.length - 1) + 1 by omega, pre_fail h1]
theorem Dcs.step {l : List Int} {w : List UInt8} {n : Nat} {T : List UInt8} {p s e : Nat} (h : Dcs l w n T p) (hm : T.length < n) (h1 : dec1 l w 15 1 0 p = some (s, e)) : Dcs l w n (T ++ [s.toUInt8]) e := by
 refine ⟨?_, by rw [List.length_append, List.length_singleton]; omega, (dec1_bd h1).2⟩
 rw [← h.d, show n - T.length = (n - (T ++ [s.toUInt8]).length) + 1 by rw [List.length_append, List.length_singleton]; omega, pre_step h1]
theorem Dcs.done {l : List Int} {w : List UInt8} {n : Nat} {T : List UInt8} {p : Nat} (h : Dcs l w n T p) (hm : n ≤ T.length) : decA l w n 0 = some (T, p) := by
 have := h.m
 rw [← h.d, show n - T.length = 0 by omega]
 simp [decA, pre]
end Go.Proofs.Ytifnmbmijljhfaa.E.Hf
namespace Go.Proofs.Ytifnmbmijljhfaa.E.Hf
open Go
theorem ord_pre {l : List Int} {k i : Nat} (h : i < (ordB l k).length) : ∀ d, (ordB l (k + d)).getD i 0 = (ordB l k).getD i 0
 | 0 => rfl
 | d + 1 => by
  have := ord_mono l k d
  show (ordB l (k + d) ++ symN l (k + d + 1) l.length).getD i 0 = _
  rw [appG1 0 (by omega)]; exact ord_pre h d
theorem ord_len {l : List Int} {k : Nat} (h : 1 ≤ k) : (ordB l k).length = (ordB l (k - 1)).length + cntW l k := by
 obtain ⟨j, rfl⟩ : ∃ j, k = j + 1 := ⟨k - 1, by omega⟩
 rw [cntW_pos h]; simp [ordB]
theorem ord_elem {l : List Int} {k r : Nat} (h : 1 ≤ k) (h2 : k ≤ 15) (hr : r < cntW l k) : (ordB l 15).getD ((ordB l (k - 1)).length + r) 0 = (symN l k l.length).getD r 0 := by
 have hl := ord_len (l := l) h
 rw [show (15 : Nat) = k + (15 - k) by omega, ord_pre (by omega)]
 obtain ⟨j, rfl⟩ : ∃ j, k = j + 1 := ⟨k - 1, by omega⟩
 simp only [Nat.add_sub_cancel] at hl ⊢
 rw [ordB, appG2 0 (by omega)]; congr 1; omega
theorem ord_all {l : List Int} {k : Nat} (h : k ≤ 15) : (ordB l k).length ≤ (ordB l 15).length := by
 have := ord_mono l k (15 - k); rwa [show k + (15 - k) = 15 by omega] at this
theorem many_16 {l : List Int} {k : Nat} (h : 1 ≤ k) (h2 : k ≤ 15) : ((manyL l 16 0).map i64V)[k]? = some (.int .i64 ((cntW l k : Nat) : Int)) := by
 rw [List.getElem?_map, manyL, List.getElem?_map, List.getElem?_range (by omega), cntW_pos h]
 simp only [Option.map_some]
 rw [if_pos (by omega)]; rfl
theorem shl1 {a b : Nat} (ha : a ≤ 1000000) (h : b = 2 * a) : Value.int .i64 (IntKind.i64.wrap ((a : Int) * 2 ^ min ((1 : Int)).toNat IntKind.i64.bits)) = .int .i64 ((b : Nat) : Int) := by
 have e : min ((1 : Int)).toNat IntKind.i64.bits = 1 := by decide
 rw [e, v_same (by simp only [inK]; omega)]
 exact v_int (by omega)
theorem and_bit {x : UInt8} {i : Nat} : binI .and .u8 ((x.toNat / 2 ^ (i % 8) : Nat) : Int) 1 = .int .u8 ((x.toNat / 2 ^ (i % 8) % 2 : Nat) : Int) := by
 have hb := bit8 x (i % 8)
 have h := andI_nat (k := .u8) (a := x.toNat / 2 ^ (i % 8)) (b := 1) (by simp only [IntKind.bits]; omega) (by decide) (by
  have := Nat.and_le_left (n := x.toNat / 2 ^ (i % 8)) (m := 1)
  simp only [inK]; omega)
 rw [show (1 : Nat) = 2 ^ 1 - 1 from rfl, and_low] at h
 exact v_int h
theorem or_bit {a b : Nat} (ha : a ≤ 1000000) (hb : b ≤ 1) : binI .or .i64 ((2 * a : Nat) : Int) ((b : Nat) : Int) = .int .i64 ((2 * a + b : Nat) : Int) := by
 have e := or_add (v := b) (d := a) (n := 1) (by omega)
 rw [Nat.or_comm, Nat.pow_one, Nat.mul_comm a 2] at e
 have h := orI_nat (k := .i64) (a := 2 * a) (b := b) (by simp only [IntKind.bits]; omega) (by simp only [IntKind.bits]; omega) (by rw [e]; simp only [inK]; omega)
 rw [e, Nat.add_comm] at h
 exact v_int h
theorem sym_lt {l : List Int} {k r : Nat} (hl : l.length ≤ 256) (hr : r < (symN l k l.length).length) : (symN l k l.length).getD r 0 ≤ 255 := by
 have := (mem_symN.1 (getD_mem hr)).1; omega
theorem sym_byte {l : List Int} {k r : Nat} (hl : l.length ≤ 256) (h : 1 ≤ k) (h2 : k ≤ 15) (hr : r < cntW l k) : Value.int .u8 ((((ordB l 15).getD ((ordB l (k - 1)).length + r) 0 : Nat) : Int) % 256) = byteV ((symN l k l.length).getD r 0).toUInt8 := by
 rw [ord_elem h h2 hr]
 rw [cntW_pos h] at hr
 have := sym_lt hl hr
 rw [byteV_of (by omega) (by omega)]
 congr 2; omega
theorem words_ok (x y : Value) (l : List Int) (bs : List UInt8) (n : Nat) (w : World) (hx : RdE i64V w x l) (hy : RdE byteV w y bs) (hl : l.length ≤ 256) (hb : bs.length ≤ 140737488355328) (hn : n ≤ 65536) : Calls Try.prog 35 [x, y, .int .i64 ((n : Nat) : Int)].toArray w (Rt fun r w' => ∃ v ok T rs, r = .tuple [v, .bool ok].toArray ∧ SlE byteV 5 v T rs ∧ (if ok then some T else none) = wordsF l bs n ∧ Mem w [] w' [rs]) := by
 have hM0 : Mem w [] w [] := Mem.nil w []
 refine calls_vc mixed Try.func35 rfl C35 (by simp [Try.ntmps35]) <| seq fun _ h1 => mv <| mv <| h1 _ _ <| seq fun _ h2 => mv <| m_call (order_ok _ l w (hx.upd hM0.upd) (by omega)) rfl fun v3 w3 ⟨y3, rs3, hr3, hs3, hm3⟩ => ?_
 have hM3 : Mem w [] w3 [rs3] := hM0.add hm3
 subst hr3
 refine mv <| ext rfl rfl <| ext rfl rfl <| ext rfl rfl <| m_al hM3 fun b4 w5 (hM5 : Mem w [] w5 [rs3, [⟨b4, 120, (List.replicate 16 (.int .i64 0))⟩]]) => mv <| m_stA (l := ((manyL l 16 0).map i64V)) hM5 (i := 1) rfl rfl rfl (by simp [manyL_length]) (one_elems _) (by simp) fun w6 hm6 => ?_
 have hM6 : Mem w [] w6 [rs3, [⟨b4, 120, ((manyL l 16 0).map i64V)⟩]] := by
  have e : splice (List.replicate 16 (.int .i64 0)) 0 ((manyL l 16 0).map i64V) = ((manyL l 16 0).map i64V) := splice_full (by simp; first | done | (simp [manyL_length]) | omega)
  rw [e] at hm6
  exact hm6
 refine mv <| h2 _ _ <| seq fun _ h7 => seq fun _ h8 => mv <| stp (v := .bool (decide (¬ (0 ≤ 32768 - ((usedB l 15 : Nat) : Int))))) (o_not rfl v_not) <| mv <| splitP rfl (fun c9 => ?_) (fun c9 => ?_)
 ·refine gx rfl <| gx rfl <| gx rfl <| gx rfl <| gx rfl <| pkT rfl <| h8 _ _ <| cndT rfl <| seq fun _ h10 => mv <| mv <| h10 _ _ <| ⟨(.tuple [.slice none 0 0, .bool false].toArray), rfl, ⟨_, _, [], [], rfl, (Sl.nil 1 5 : SlE byteV 5 _ [] []), by rw [wordsF_none (.inl (by omega))]; rfl, hM6.keep (by simp)⟩⟩
 refine gmv rfl <| gmv rfl <| stg rfl (v := .int .i64 (bs.length : Nat)) (o_lenR (hy.upd hM6.upd) rfl rfl) <| stg rfl (v := .int .i64 (8 * (bs.length : Nat))) (o_bin rfl rfl (v_mul64 (by omega))) <| gbn rfl rfl rfl <| pkF rfl <| h8 _ _ <| cndP rfl (fun c11 => ?_) (fun c11 => ?_)
 ·refine seq fun _ h12 => mv <| mv <| h12 _ _ <| ⟨(.tuple [.slice none 0 0, .bool false].toArray), rfl, ⟨_, _, [], [], rfl, (Sl.nil 1 5 : SlE byteV 5 _ [] []), by rw [wordsF_none (.inr (decA_long (by omega)))]; rfl, hM6.keep (by simp)⟩⟩
 refine h7 _ _ <| seq fun _ h13 => mv <| m_mksE (E := byteV) (z := 0) (n := 0) (c := n) rfl hM6 (v_int (by omega)) (v_int (by omega)) (by omega) (by omega) (by omega) fun v14 w14 r14 hs14 (hM14 : Mem w [] w14 [rs3, [⟨b4, 120, ((manyL l 16 0).map i64V)⟩], r14]) => mv <| h13 _ _ <| seq fun _ h15 => mv <| h15 _ _ <| seq fun _ h16 => seq fun _ h17 => mv <| mv <| h17 _ _ <| lp (n := fun _ _ => False) (ι := (List UInt8) × (Nat) × (Value) × (List Ent)) (fun ⟨T, p, y11_, r11_⟩ f w' => f 11 = y11_ ∧ f 12 = .int .i64 (p : Nat) ∧ f 35 = .int .i64 (T.length : Nat) ∧ f 1 = y ∧ f 8 = y3 ∧ f 9 = .pointer (some ⟨b4, 0, none⟩) ∧ f 34 = .int .i64 (n : Nat) ∧ Mem w [] w' [rs3, [⟨b4, 120, ((manyL l 16 0).map i64V)⟩], r11_] ∧ (Dcs l bs n T p) ∧ (SlE byteV 5 y11_ (T) r11_)) (fun ⟨T, p, y11_, r11_⟩ => n - T.length) ([], 0, v14, r14) ?_ ?_
 ·exact ⟨rfl, vi, vi, rfl, rfl, rfl, vi, hM14, Dcs.init, by first | exact hs14 | simpa using hs14⟩
 rintro ⟨T, p, y11_, r11_⟩ f w18 ⟨e18_11, e18_12, e18_35, e18_1, e18_8, e18_9, e18_34, hM18, hD, hy11_⟩ K19 h19
 obtain ⟨frm, rfl⟩ := re7 e18_11 e18_12 e18_35 e18_1 e18_8 e18_9 e18_34
 refine seq fun _ h20 => bn rfl rfl <| h20 _ _ <| seq fun _ h21 => cndP rfl (fun c22 => ?_) (fun c22 => ?_)
 ·refine h21 _ _ <| seq fun _ h23 => seq fun _ h24 => mv <| mv <| mv <| h24 _ _ <| seq fun _ h25 => mv <| h25 _ _ <| lp (n := fun _ _ => False) (ι := (Nat) × (Nat) × (Nat)) (fun ⟨W, k, q⟩ f w' => f 11 = y11_ ∧ f 12 = .int .i64 (q : Nat) ∧ f 13 = .int .i64 (W : Nat) ∧ f 14 = .int .i64 (firstW l (k - 1) + cntW l (k - 1) : Nat) ∧ f 15 = .int .i64 ((ordB l (k - 1)).length : Nat) ∧ f 16 = .int .i64 (k : Nat) ∧ f 1 = y ∧ f 8 = y3 ∧ f 9 = .pointer (some ⟨b4, 0, none⟩) ∧ f 34 = .int .i64 (n : Nat) ∧ f 35 = .int .i64 (T.length : Nat) ∧ Mem w [] w' [rs3, [⟨b4, 120, ((manyL l 16 0).map i64V)⟩], r11_] ∧ (Dec l bs p k W q)) (fun ⟨W, k, q⟩ => 16 - k) (0, 1, p) ?_ ?_
  ·exact ⟨rfl, vi, vi, vi, vi, vi, rfl, rfl, rfl, vi, vi, hM18, Dec.init hD.p⟩
  rintro ⟨W, k, q⟩ f w26 ⟨e26_11, e26_12, e26_13, e26_14, e26_15, e26_16, e26_1, e26_8, e26_9, e26_34, e26_35, hM26, hd⟩ K27 h27
  obtain ⟨frm, rfl⟩ := re11 e26_11 e26_12 e26_13 e26_14 e26_15 e26_16 e26_1 e26_8 e26_9 e26_34 e26_35
  refine seq fun _ h28 => seq fun _ h29 => seq fun _ h30 => mv <| bn rfl rfl <| mv <| splitP rfl (fun c31 => ?_) (fun c31 => ?_)
  ·refine gx rfl <| gx rfl <| gx rfl <| gx rfl <| gx rfl <| pkT rfl <| h30 _ _ <| cndT rfl <| seq fun _ h32 => mv <| mv <| h32 _ _ <| ⟨(.tuple [.slice none 0 0, .bool false].toArray), rfl, ⟨_, _, [], [], rfl, (Sl.nil 1 5 : SlE byteV 5 _ [] []), by rw [wordsF_none (.inr (hD.fail (by omega) (hd.out (.inl (by omega)))))]; rfl, hM26.keep (by simp)⟩⟩
  refine gmv rfl <| gmv rfl <| stg rfl (v := .int .i64 (bs.length : Nat)) (o_lenR (hy.upd hM26.upd) rfl rfl) <| stg rfl (v := .int .i64 (8 * (bs.length : Nat))) (o_bin rfl rfl (v_mul64 (by omega))) <| gbn rfl rfl rfl <| pkF rfl <| h30 _ _ <| cndP rfl (fun c33 => ?_) (fun c33 => ?_)
  ·refine seq fun _ h34 => mv <| mv <| h34 _ _ <| ⟨(.tuple [.slice none 0 0, .bool false].toArray), rfl, ⟨_, _, [], [], rfl, (Sl.nil 1 5 : SlE byteV 5 _ [] []), by rw [wordsF_none (.inr (hD.fail (by omega) (hd.out (.inr (by omega)))))]; rfl, hM26.keep (by simp)⟩⟩
  refine h29 _ _ <| seq fun _ h35 => ?_
  have hqp := hd.p
  have hWb := hd.bd
  have hfi := hd.first
  have hlo := hd.low
  have hk1 := hd.k1
  have hwl := word_le (l := l) (by omega) (n := k) (by omega)
  have hbw := bitW_le bs q
  have hol := ord_len (l := l) hd.k1
  have hoa := ord_all (l := l) (k := k) (by omega)
  have hoz := ordB_le l 15 hl
  refine mv <| stp (v := .int .i64 (2 * W : Nat)) (o_shl rfl rfl (by omega) (shl1 (by omega) rfl)) <| mv <| mv <| stp (v := .int .i64 ((q : Nat) / 8)) (o_quo rfl rfl (by omega) (v_quo (by omega) (by omega) (by simp only [inK]; omega))) <| m_idxE 0 (j := (q / 8)) (hy.upd hM26.upd) rfl (v_int (by omega)) (by omega) fun b36 o36 hp36 => ld (v := byteV (bs.getD (q / 8) 0)) rfl (hp36) <| mv <| stp (v := .int .i64 ((q : Nat) % 8)) (o_rem rfl rfl (by omega) (v_rem (by omega))) <| stp (v := .int .u8 ((bs.getD (q / 8) 0).toNat / 2 ^ (q % 8) : Nat)) (o_shr rfl rfl (by omega) (shr_bit (by omega))) <| stp (v := .int .u8 (bitW bs q : Nat)) (o_bin rfl rfl (and_bit)) <| stp (v := .int .i64 (bitW bs q : Nat)) (o_conv rfl (v_same (by simp only [inK]; omega))) <| stp (v := .int .i64 (2 * W + bitW bs q : Nat)) (o_bin rfl rfl (or_bit (by omega) hbw)) <| mv <| h35 _ _ <| seq fun _ h37 => mv <| stp (v := .int .i64 ((q : Nat) + 1)) (o_bin rfl rfl (v_add64 (by omega))) <| mv <| h37 _ _ <| seq fun _ h38 => mv <| stp (v := .int .i64 (firstW l k : Nat)) (o_shl rfl rfl (by omega) (shl1 (by omega) hfi)) <| mv <| h38 _ _ <| seq fun _ h39 => seq fun _ h40 => mv <| mv <| stp (v := .int .i64 ((2 * W + bitW bs q : Nat) - (firstW l k : Nat))) (o_bin rfl rfl (v_sub64 (by omega))) <| mv <| stp (v := .pointer (some ⟨b4, k, none⟩)) (o_idxa rfl rfl (by omega) (v_ptr (by first | (rw [Int.toNat_natCast, Nat.mul_one]; done) | (simp; done) | omega))) <| ld (v := .int .i64 (cntW l k : Nat)) rfl (((hM26.at (i := 1) (j := 0) rfl rfl).cell k).trans (many_16 (by omega) (by omega))) <| bn rfl rfl <| h40 _ _ <| cndP rfl (fun c41 => ?_) (fun c41 => ?_)
  ·refine seq fun _ h42 => mv <| mv <| mv <| mv <| stp (v := .int .i64 (((ordB l (k - 1)).length : Nat) + (2 * W + bitW bs q : Nat))) (o_bin rfl rfl (v_add64 (by omega))) <| mv <| stp (v := .int .i64 ((((ordB l (k - 1)).length : Nat) + (2 * W + bitW bs q : Nat)) - (firstW l k : Nat))) (o_bin rfl rfl (v_sub64 (by omega))) <| m_idxE 0 (j := ((ordB l (k - 1)).length + (2 * W + bitW bs q - firstW l k))) (hs3.rd hM26 (i := 0) rfl) rfl (v_int (by omega)) (by omega) fun b43 o43 hp43 => ld (v := .int .i64 ((ordB l 15).getD ((ordB l (k - 1)).length + (2 * W + bitW bs q - firstW l k)) 0 : Nat)) rfl (hp43) <| stp (v := .int .u8 (((ordB l 15).getD ((ordB l (k - 1)).length + (2 * W + bitW bs q - firstW l k)) 0 : Nat) % 256)) (o_conv rfl (v_u8 _)) <| m_app1 (E := byteV) (q := ((symN l k l.length).getD (2 * W + bitW bs q - firstW l k) 0).toUInt8) hM26 (i := 2) rfl hy11_ rfl (by simp) (sym_byte hl (by omega) (by omega) (by omega)) (by omega) (by omega) fun v44 w44 r44 u44 (hs44 : SlE byteV 5 v44 (T ++ [((symN l k l.length).getD (2 * W + bitW bs q - firstW l k) 0).toUInt8]) r44) (hM44 : Mem w [] w44 [rs3, [⟨b4, 120, ((manyL l 16 0).map i64V)⟩], r44]) => mv <| h42 _ _ ?_
   refine h23 _ _ <| stp (v := .int .i64 ((T.length : Nat) + 1)) (o_bin rfl rfl (v_add64 (by omega))) <| mv <| h19 (T ++ [((symN l k l.length).getD (2 * W + bitW bs q - firstW l k) 0).toUInt8], q + 1, v44, r44) _ _ ⟨rfl, vi, vi, rfl, rfl, rfl, vi, hM44, hD.step (by omega) (hd.yes (by omega) (by omega) (by omega)), by first | exact hs44 | simpa using hs44⟩ (by dsimp only; rw [List.length_append, List.length_singleton]; omega)
  refine h39 _ _ <| seq fun _ h45 => mv <| mv <| stp (v := .pointer (some ⟨b4, k, none⟩)) (o_idxa rfl rfl (by omega) (v_ptr (by first | (rw [Int.toNat_natCast, Nat.mul_one]; done) | (simp; done) | omega))) <| ld (v := .int .i64 (cntW l k : Nat)) rfl (((hM26.at (i := 1) (j := 0) rfl rfl).cell k).trans (many_16 (by omega) (by omega))) <| stp (v := .int .i64 ((firstW l k : Nat) + (cntW l k : Nat))) (o_bin rfl rfl (v_add64 (by omega))) <| mv <| h45 _ _ <| mv <| mv <| stp (v := .pointer (some ⟨b4, k, none⟩)) (o_idxa rfl rfl (by omega) (v_ptr (by first | (rw [Int.toNat_natCast, Nat.mul_one]; done) | (simp; done) | omega))) <| ld (v := .int .i64 (cntW l k : Nat)) rfl (((hM26.at (i := 1) (j := 0) rfl rfl).cell k).trans (many_16 (by omega) (by omega))) <| stp (v := .int .i64 ((ordB l k).length : Nat)) (o_bin rfl rfl ((v_add64 (by omega)).trans (v_int (by omega)))) <| mv <| h28 _ _ <| mv <| stp (v := .int .i64 ((k : Nat) + 1)) (o_bin rfl rfl (v_add64 (by omega))) <| mv <| h27 (2 * W + bitW bs q, k + 1, q + 1) _ _ ⟨rfl, vi, vi, vi, vi, vi, rfl, rfl, rfl, vi, vi, hM26, hd.no (by omega) (by omega) (by omega)⟩ (by (try dsimp only); omega)
 refine h16 _ _ <| seq fun _ h46 => seq fun _ h47 => ?_
 have hpp := hD.p
 refine mv <| stp (v := .int .i64 ((p : Nat) + 7)) (o_bin rfl rfl (v_add64 (by omega))) <| stp (v := .int .i64 (((p : Nat) + 7) / 8)) (o_quo rfl rfl (by omega) (v_quo (by omega) (by omega) (by simp only [inK]; omega))) <| mv <| stp (v := .int .i64 (bs.length : Nat)) (o_lenR (hy.upd hM18.upd) rfl rfl) <| bneq rfl rfl <| mv <| splitP rfl (fun c48 => ?_) (fun c48 => ?_)
 ·refine gx rfl <| gx rfl <| gx rfl <| gx rfl <| splitU rfl <| gnou rfl <| gnou rfl <| gnou rfl <| gnou rfl <| gnolu rfl <| gnou rfl <| gnou rfl <| gnou rfl <| gnou rfl ?_
  refine gx rfl <| pkT rfl <| h47 _ _ <| cndT rfl <| seq fun _ h49 => mv <| mv <| h49 _ _ <| ⟨(.tuple [.slice none 0 0, .bool false].toArray), rfl, ⟨_, _, [], [], rfl, (Sl.nil 1 5 : SlE byteV 5 _ [] []), by rw [wordsF_some (by omega) (hD.done (by omega))]; exact (if_neg (fun h => by have := h.1; omega)).symm, hM18.keep (by simp)⟩⟩
 refine gmv rfl <| stg rfl (v := .int .i64 ((p : Nat) % 8)) (o_rem rfl rfl (by omega) (v_rem (by omega))) <| gbneq rfl rfl rfl <| gmv rfl <| splitP rfl (fun c50 => ?_) (fun c50 => ?_)
 ·refine gmv rfl <| gmv rfl <| stg rfl (v := .int .i64 ((p : Nat) / 8)) (o_quo rfl rfl (by omega) (v_quo (by omega) (by omega) (by simp only [inK]; omega))) <| gyes rfl rfl (m_idxE 0 (j := (p / 8)) (hy.upd hM18.upd) rfl (v_int (by omega)) (by omega) fun b51 o51 hp51 => gyesl rfl <| ld (v := byteV (bs.getD (p / 8) 0)) rfl (hp51) <| gmv rfl <| stg rfl (v := .int .i64 ((p : Nat) % 8)) (o_rem rfl rfl (by omega) (v_rem (by omega))) <| stg rfl (v := .int .u8 ((bs.getD (p / 8) 0).toNat / 2 ^ (p % 8) : Nat)) (o_shr rfl rfl (by omega) (shr_bit (by omega))) <| gbneq rfl rfl rfl <| gpkT rfl rfl <| pkF rfl <| h47 _ _ <| cndP rfl (fun c52 => ?_) (fun c52 => ?_))
  ·refine seq fun _ h53 => mv <| mv <| h53 _ _ <| ⟨(.tuple [.slice none 0 0, .bool false].toArray), rfl, ⟨_, _, [], [], rfl, (Sl.nil 1 5 : SlE byteV 5 _ [] []), by rw [wordsF_some (by omega) (hD.done (by omega))]; exact (if_neg (fun h => by have := (tail_byte (w := bs) (e := p) (by omega) (by omega)).1 h.2; omega)).symm, hM18.keep (by simp)⟩⟩
  refine h46 _ _ <| seq fun _ h54 => mv <| mv <| mv <| h54 _ _ <| ⟨(.tuple [y11_, .bool true].toArray), rfl, ⟨_, _, T, _, rfl, hy11_, by rw [wordsF_some (by omega) (hD.done (by omega))]; exact (if_pos ⟨by omega, (tail_byte (w := bs) (e := p) (by omega) (by omega)).2 (by omega)⟩).symm, hM18.keep (by simp)⟩⟩
 refine gx rfl <| gx rfl <| gx rfl <| gx rfl <| gxl rfl <| gx rfl <| gx rfl <| gx rfl <| gx rfl <| gpkF rfl rfl <| pkF rfl <| h47 _ _ <| cndF rfl <| h46 _ _ <| seq fun _ h55 => mv <| mv <| mv <| h55 _ _ <| ⟨(.tuple [y11_, .bool true].toArray), rfl, ⟨_, _, T, _, rfl, hy11_, by rw [wordsF_some (by omega) (hD.done (by omega))]; exact (if_pos ⟨by omega, tail_none (by omega) (by omega)⟩).symm, hM18.keep (by simp)⟩⟩
end Go.Proofs.Ytifnmbmijljhfaa.E.Hf
namespace Go.Proofs.Ytifnmbmijljhfaa.E.Hf
open Go
theorem huffD_arg {b : List UInt8} {n : Int} (h : n < 0 ∨ 65536 < n) : huffD b n = ([], 3) := by unfold huffD; rw [if_pos h]
theorem huffD_hdr {b : List UInt8} {n : Int} (h : ¬ (n < 0 ∨ 65536 < n)) (h1 : hdr b 0 [] = none) : huffD b n = ([], 40) := by unfold huffD; rw [if_neg h, h1]
theorem huffD_none {b : List UInt8} {n : Int} {l : List Int} {a : Nat} (h : ¬ (n < 0 ∨ 65536 < n)) (h1 : hdr b 0 [] = some (l, a)) (h2 : wordsF l (b.drop a) n.toNat = none) : huffD b n = ([], 40) := by unfold huffD; rw [if_neg h, h1]; simp only []; rw [h2]
theorem huffD_some {b : List UInt8} {n : Int} {l : List Int} {a : Nat} {t : List UInt8} (h : ¬ (n < 0 ∨ 65536 < n)) (h1 : hdr b 0 [] = some (l, a)) (h2 : wordsF l (b.drop a) n.toNat = some t) : huffD b n = (t, 0) := by unfold huffD; rw [if_neg h, h1]; simp only []; rw [h2]
def DecS (l : List Int) (w : List UInt8) (p0 k W : Nat) (s : Int) (q : Nat) : Prop := (s = -1 ∧ Dec l w p0 k W q) ∨ (0 ≤ s ∧ s ≤ 255 ∧ dec1 l w 15 1 0 p0 = some (s.toNat, q))
theorem DecS.neg {l : List Int} {w : List UInt8} {p0 k W : Nat} {s : Int} {q : Nat} (h : DecS l w p0 k W s q) (hs : s < 0) : Dec l w p0 k W q := by
 rcases h with h | h
 ·exact h.2
 omega
theorem DecS.pos {l : List Int} {w : List UInt8} {p0 k W : Nat} {s : Int} {q : Nat} (h : DecS l w p0 k W s q) (hs : ¬ s < 0) : s ≤ 255 ∧ dec1 l w 15 1 0 p0 = some (s.toNat, q) := by
 rcases h with h | h
 ·omega
 exact h.2
theorem DecS.step {l : List Int} {w : List UInt8} {p0 k W q : Nat} (hl : l.length ≤ 256) (h : Dec l w p0 k W q) (hk : k ≤ 15) (hq : q < 8 * w.length) : DecS l w p0 (k + 1) (2 * W + bitW w q) (findV l k (2 * W + bitW w q)) (q + 1) := by
 by_cases c : 2 * W + bitW w q < firstW l k + cntW l k
 ·refine .inr ?_
  have h1 := h.yes hk hq c
  have hlo := h.low
  have hr : 2 * W + bitW w q - firstW l k < (symN l k l.length).length := by rw [cntW_pos h.k1] at c; omega
  have := sym_lt hl hr
  rw [findV_yes h c]
  exact ⟨by omega, by omega, by rw [Int.toNat_natCast]; exact h1⟩
 exact .inl ⟨findV_no c, h.no hk hq c⟩
theorem take_rest {b : List UInt8} {a : Nat} (h : a ≤ b.length) : cTk b a 0 (restV b a 0) = b.drop a := by
 unfold restV
 rw [if_pos rfl]
 have hf := tk_fine (l := b.drop a) (n := ((b.length - a : Nat) : Int)) (by omega) (by rw [List.length_drop]; omega)
 unfold cTk
 rw [if_pos rfl, hf.2, Int.toNat_natCast, List.take_of_length_le (by rw [List.length_drop]; omega)]
def zeros (w : List UInt8) (p q : Nat) : Prop := ∀ i, i < 8 * w.length → p ≤ i → i < q → bitW w i = 0
theorem words_okD (x y : Value) (b m : List UInt8) (L : List Int) (aq : Nat) (n : Int) (w : World) (hx : RdE i64V w x L) (hy : RdE byteV w y m) (he : m = b.drop aq) (hl : L.length ≤ 256) (hb : b.length ≤ 140737488355328) (h0 : 0 ≤ n) (hn : n ≤ 65536) : Calls Try.prog 35 [x, y, .int .i64 n].toArray w (Rt fun r w' => ∃ v ok T rs, r = .tuple [v, .bool ok].toArray ∧ SlE byteV 5 v T rs ∧ (if ok then some T else none) = wordsF L (b.drop aq) n.toNat ∧ Mem w [] w' [rs]) := by
 subst he
 have hw := words_ok x y L (b.drop aq) n.toNat w hx hy hl (by rw [List.length_drop]; omega) (by omega)
 rw [Int.toNat_of_nonneg h0] at hw
 exact hw
theorem Decode_ok (x : Value) (b : List UInt8) (n : Int) (w : World) (hx : RdE byteV w x b) (hl : b.length ≤ 140737488355328) (hn : inK .i64 n) : Calls Try.prog 12 [x, .int .i64 n].toArray w (Rt fun r w' => ∃ v rs, r = .tuple [v, .int .i64 (huffD b n).2].toArray ∧ SlE byteV 5 v (huffD b n).1 rs ∧ Mem w [] w' [rs]) := by
 have hM0 : Mem w [] w [] := Mem.nil w []
 simp only [inK] at hn
 refine calls_vc mixed Try.func12 rfl C12 (by simp [Try.ntmps12]) <| seq fun _ h1 => mv <| mv <| h1 _ _ <| seq fun _ h2 => seq fun _ h3 => mv <| bn rfl rfl <| mv <| splitP rfl (fun c4 => ?_) (fun c4 => ?_)
 ·refine gx rfl <| gx rfl <| pkT rfl <| h3 _ _ <| cndT rfl <| seq fun _ h5 => mv <| mv <| h5 _ _ <| ⟨(.tuple [.slice none 0 0, .int .i64 3].toArray), rfl, ⟨.slice none 0 0, [], by rw [huffD_arg (by omega)], by rw [huffD_arg (by omega)]; exact Sl.nil 1 5, hM0.keep (by simp)⟩⟩
 refine gmv rfl <| gbn rfl rfl rfl <| pkF rfl <| h3 _ _ <| cndP rfl (fun c6 => ?_) (fun c6 => ?_)
 ·refine seq fun _ h7 => mv <| mv <| h7 _ _ <| ⟨(.tuple [.slice none 0 0, .int .i64 3].toArray), rfl, ⟨.slice none 0 0, [], by rw [huffD_arg (by omega)], by rw [huffD_arg (by omega)]; exact Sl.nil 1 5, hM0.keep (by simp)⟩⟩
 refine h2 _ _ <| seq fun _ h8 => mv <| m_call (NewCursor_ok _ b w (hx.upd hM0.upd) (by first | omega | (simp; done) | (simp; omega))) rfl fun v9 w9 ⟨bc9, rs9, hr9, hc9, hm9⟩ => ?_
 have hM9 : Mem w [] w9 [rs9] := hM0.add hm9
 subst hr9
 refine mv <| h8 _ _ <| seq fun _ h10 => mv <| m_call (lengths_ok _ b rs9 w9 hc9 (hM9.res (i := 0) rfl) (by omega)) rfl fun v11 w11 ⟨y11, okq, L, aq, eq, r'11, rs11, hr11, hs11, hc11, hq, hez, hm11⟩ => ?_
 have hM11 : Mem w [] w11 [r'11, rs11] := hM9.stepAdd 0 rfl hm11
 subst hr11
 refine mv <| ext rfl rfl <| ext rfl rfl <| mv <| mv <| h10 _ _ <| seq fun _ h12 => seq fun _ h13 => mv <| stp (v := .bool (!okq)) (o_not rfl rfl) <| h13 _ _ <| cnd rfl (fun hkT => ?_) (fun hkF => ?_)
 ·refine seq fun _ h15 => mv <| mv <| h15 _ _ <| ⟨(.tuple [.slice none 0 0, .int .i64 40].toArray), rfl, ?_⟩
  have hok : okq = false := by simpa using hkT
  rw [hok] at hq
  exact ⟨.slice none 0 0, [], by rw [huffD_hdr (by omega) hq.symm], by rw [huffD_hdr (by omega) hq.symm]; exact Sl.nil 1 5, hM11.keep (by simp)⟩
 refine h12 _ _ <| seq fun _ h16 => ?_
 have hok : okq = true := by simpa using hkF
 rw [if_pos hok] at hq
 have hqs := hq.symm
 have hkk := hdr_ok hqs
 have htk : cTk b aq eq (restV b aq eq) = b.drop aq := by rw [hez hok]; exact take_rest hkk.2.2
 refine mv <| mv <| mv <| m_call (Rest_ok _ b aq eq r'11 w11 hc11 (hM11.res (i := 0) rfl) (by first | omega | (simp; done) | (simp; omega))) rfl fun v17 w17 ⟨hr17, hm17⟩ => ?_
 have hM17 : Mem w [] w17 [r'11, rs11] := hM11.step 0 rfl hm17
 subst hr17
 refine m_call (Take_ok _ b aq eq (restV b aq eq) r'11 w17 hc11 (hM17.res (i := 0) rfl) (by first | omega | (simp; done) | (simp; omega))) rfl fun v18 w18 ⟨r'18, rs18, hc18, hs18, hm18⟩ => ?_
 have hM18 : Mem w [] w18 [r'18, rs11, rs18] := hM17.stepAdd 0 rfl hm18
 refine mv <| m_call (words_okD _ _ b _ L aq n w18 (hs11.rd hM18 (i := 1) rfl) (hs18.rd hM18 (i := 2) rfl) htk (by omega) (by omega) (by omega) (by omega)) rfl fun v19 w19 ⟨y19, okw, T, rs19, hr19, hs19, hw, hm19⟩ => ?_
 have hM19 : Mem w [] w19 [r'18, rs11, rs18, rs19] := hM18.add hm19
 subst hr19
 refine mv <| ext rfl rfl <| ext rfl rfl <| mv <| mv <| h16 _ _ <| seq fun _ h20 => seq fun _ h21 => mv <| stp (v := .bool (!okw)) (o_not rfl rfl) <| h21 _ _ <| cnd rfl (fun hwT => ?_) (fun hwF => ?_)
 ·refine seq fun _ h23 => mv <| mv <| h23 _ _ <| ⟨(.tuple [.slice none 0 0, .int .i64 40].toArray), rfl, ?_⟩
  have hok2 : okw = false := by simpa using hwT
  rw [hok2] at hw
  exact ⟨.slice none 0 0, [], by rw [huffD_none (by omega) hqs hw.symm], by rw [huffD_none (by omega) hqs hw.symm]; exact Sl.nil 1 5, hM19.keep (by simp)⟩
 refine h20 _ _ <| seq fun _ h24 => mv <| mv <| mv <| h24 _ _ <| ⟨(.tuple [y19, .int .i64 0].toArray), rfl, ?_⟩
 have hok2 : okw = true := by simpa using hwF
 rw [hok2, if_pos rfl] at hw
 have hr := huffD_some (n := n) (by omega) hqs hw.symm
 rw [hr]
 exact ⟨_, _, rfl, hs19, hM19.keep (by simp only [List.flatten_cons, List.flatten_nil, List.append_nil, ← List.append_assoc]; exact List.sublist_append_right _ _)⟩
end Go.Proofs.Ytifnmbmijljhfaa.E.Hf
namespace Go.Proofs.Ytifnmbmijljhfaa.E
open Go
theorem decF_len (b : List UInt8) (n : Int) : (Lz.decF b n).1.length ≤ 65536 := by
 by_cases h : n < 0 ∨ 65536 < n
 ·rw [Lz.decF_arg h]; simp
 cases hr : Lz.rdF b n.toNat with
 | none => rw [Lz.decF_none h hr]; simp
 | some ps =>
  have e := Lz.exp_rd (by omega) hr
  rw [Lz.decF_some h hr]
  show (Lz.textP ps).length ≤ _
  rw [Lz.textP_len]
  have := e.2.1
  omega
open Hf in
theorem huffD_len (b : List UInt8) (n : Int) : (huffD b n).1.length ≤ 65536 := by
 unfold huffD
 split
 ·simp
 split
 ·simp
 rename_i l a _
 split
 ·simp
 rename_i t h
 have hw : t.length ≤ 65536 := by
  unfold wordsF at h
  split at h
  ·cases h
  split at h
  ·cases h
  rename_i t' e hd
  split at h
  ·injection h with h; subst h
   have := decA_bd hd (by omega); omega
  cases h
 exact hw
def dcode (fl : Nat) (p : List UInt8) (n : Int) : List UInt8 × Int := if fl = 0 then (if (p.length : Int) = n then (p, 0) else ([], 60)) else if fl = 1 then Lz.decF p n else Hf.huffD p n
def textF (tile : List UInt8) (n : Int) : Option (List UInt8) := if (openF tile).2 = 0 ∧ 0 < (openF tile).1.length ∧ ((openF tile).1.getD ((openF tile).1.length - 1) 0).toNat < 3 ∧ n ≤ 64 * (((openF tile).1.length - 1 : Nat) : Int) ∧ (dcode ((openF tile).1.getD ((openF tile).1.length - 1) 0).toNat ((openF tile).1.take ((openF tile).1.length - 1)) n).2 = 0 then some (dcode ((openF tile).1.getD ((openF tile).1.length - 1) 0).toNat ((openF tile).1.take ((openF tile).1.length - 1)) n).1 else none
theorem txt {tile T : List UInt8} {n : Int} {fl : Nat} (h1 : (openF tile).2 = 0) (h2 : 0 < (openF tile).1.length) (hfl : fl = ((openF tile).1.getD ((openF tile).1.length - 1) 0).toNat) (h3 : fl < 3) (h4 : n ≤ 64 * (((openF tile).1.length - 1 : Nat) : Int)) (h5 : dcode fl ((openF tile).1.take ((openF tile).1.length - 1)) n = (T, 0)) : textF tile n = some T := by
 unfold textF
 rw [← hfl, h5, if_pos ⟨h1, h2, h3, h4, rfl⟩]
theorem txt_no {tile T : List UInt8} {n : Int} {fl : Nat} (hfl : fl = ((openF tile).1.getD ((openF tile).1.length - 1) 0).toNat) (h : ¬ (0 < (openF tile).1.length ∧ fl < 3 ∧ n ≤ 64 * (((openF tile).1.length - 1 : Nat) : Int) ∧ (dcode fl ((openF tile).1.take ((openF tile).1.length - 1)) n).2 = 0)) : ¬ textF tile n = some T := by
 unfold textF
 rw [← hfl, if_neg (fun q => h q.2)]
 exact fun q => by cases q
theorem dc_0 {p : List UInt8} {n : Int} (h : (p.length : Int) = n) : dcode 0 p n = (p, 0) := by unfold dcode; rw [if_pos rfl, if_pos h]
theorem dc_1 {p : List UInt8} {n : Int} (h : (Lz.decF p n).2 = 0) : dcode 1 p n = ((Lz.decF p n).1, 0) := by unfold dcode; rw [if_neg (by decide), if_pos rfl, ← h]
theorem dc_2 {p : List UInt8} {n : Int} (h : (Hf.huffD p n).2 = 0) : dcode 2 p n = ((Hf.huffD p n).1, 0) := by unfold dcode; rw [if_neg (by decide), if_neg (by decide), ← h]
theorem dn_0 {p : List UInt8} {n : Int} (h : ¬ (p.length : Int) = n) : ¬ (dcode 0 p n).2 = 0 := by unfold dcode; rw [if_pos rfl, if_neg h]; decide
theorem dn_1 {p : List UInt8} {n : Int} (h : ¬ (Lz.decF p n).2 = 0) : ¬ (dcode 1 p n).2 = 0 := by unfold dcode; rw [if_neg (by decide), if_pos rfl]; exact h
theorem dn_2 {p : List UInt8} {n : Int} (h : ¬ (Hf.huffD p n).2 = 0) : ¬ (dcode 2 p n).2 = 0 := by unfold dcode; rw [if_neg (by decide), if_neg (by decide)]; exact h
def OpnQ (tile : List UInt8) (n : Int) (r : Value) (rs : List Ent) : Prop :=
 (∃ e, r = .tuple [.pointer none, .int .i64 e].toArray ∧ ((e = 3 ∧ (n < 1 ∨ 65536 < n)) ∨ ((1 ≤ n ∧ n ≤ 65536) ∧ ¬ (openF tile).2 = 0 ∧ e = (openF tile).2) ∨ ((1 ≤ n ∧ n ≤ 65536) ∧ (openF tile).2 = 0 ∧ e = 60 ∧ ∀ t, textF tile n = some t → ∀ R es, ¬ Blk R es t))) ∨
 (∃ br R es t, r = .tuple [.pointer (some ⟨br, 0, none⟩), .int .i64 0].toArray ∧ (1 ≤ n ∧ n ≤ 65536) ∧ textF tile n = some t ∧ Blk R es t ∧ RdrS br R es rs ∧ ∀ R' es', Blk R' es' t → R' = R ∧ es' = es)
end Go.Proofs.Ytifnmbmijljhfaa.E
