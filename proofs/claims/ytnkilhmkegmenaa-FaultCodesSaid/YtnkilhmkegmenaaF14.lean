/- Entries as bytes, the document's way: writing. -/
import Derived.Test.YtnkilhmkegmenaaF12
namespace Go.Proofs.Ytnkilhmkegmenaa.E
open Go
theorem shr_byte32 {v : Int} {i : Nat} (h0 : 0 ≤ v) (hv : v < 4294967296) (hi : i < 4) : Value.int .u8 (IntKind.u8.wrap (shrI .u32 v (8 * (i : Int)))) = byteV (v.toNat / 256 ^ i % 256).toUInt8 := by
  obtain ⟨n, rfl⟩ := Int.eq_ofNat_of_zero_le h0
  have e : shrI .u32 (n : Int) (8 * (i : Int)) = ((n / 2 ^ (8 * i) : Nat) : Int) := by
    have := shrI_nat (k := .u32) (a := n) (n := 8 * i) (by simp only [IntKind.bits]; omega)
    simpa using this
  rw [e, Int.toNat_natCast, Nat.pow_mul]
  rw [wrap_u8, show (2 : Nat) ^ 8 = 256 by decide]
  have := byte_mod (n / 256 ^ i)
  rw [Int.emod_emod_of_dvd _ (Int.dvd_refl _)] at this
  exact this

/-- winnowref2.Put -/
theorem refPut_ok (v : Int) (hv : inK .i64 v) (w : World) : Calls Try.prog 45 [.int .i64 v].toArray w (Rt fun r w' => ∃ rs, SlB 5 r (putI v) rs ∧ Mem w [] w' [rs]) := by
  have hM0 : Mem w [] w [] := Mem.nil w []
  simp only [inK] at hv
  refine calls_vc mixed Try.func45 rfl C45 (by simp [Try.ntmps45]) ?_
  refine seq fun K1 h1 => ?_
  refine stp (v := .slice none 0 0) (o_mv rfl) ?_
  refine h1 _ _ ?_
  clear h1
  refine seq fun K2 h2 => ?_
  refine stp (v := .slice none 0 0) (o_mv rfl) ?_
  refine h2 _ _ ?_
  clear h2
  refine seq fun K3 h3 => ?_
  refine seq fun K4 h4 => ?_
  refine stp (v := .int .i64 v) (o_mv rfl) ?_
  refine stp (v := .bool (decide (v < 0))) (o_bin rfl rfl rfl) ?_
  refine h4 _ _ ?_
  clear h4
  refine cndP rfl (fun c5 => ?_) (fun c5 => ?_)
  ·
    refine seq fun K6 h6 => ?_
    refine stp (v := .slice none 0 0) (o_mv rfl) ?_
    refine stp (v := .slice none 0 0) (o_mv rfl) ?_
    refine h6 _ _ ?_
    clear h6
    refine ⟨(.slice none 0 0), rfl, ?_⟩
    exact ⟨[], by unfold putI; rw [if_pos (by omega)]; exact Sl.nil 1 5, hM0.addNil⟩
  ·
    refine h3 _ _ ?_
    clear h3
    refine seq fun K7 h7 => ?_
    refine lp (n := fun _ _ => False) (ι := (Int) × (List UInt8) × (Value) × (List Ent)) (fun ⟨v', p, r, rs⟩ f w' => f 0 = .int .i64 v' ∧ f 3 = r ∧ Mem w [] w' [rs] ∧ (SlB 5 r p rs) ∧ (0 ≤ v' ∧ v' ≤ 9223372036854775807) ∧ (p ++ putI v' = putI v) ∧ (p.length ≤ 9)) (fun ⟨v', p, r, rs⟩ => v'.toNat) (v, [], .slice none 0 0, []) ?_ ?_
    · exact ⟨by first | rfl | exact v_int (by omega) | exact v_int (by simp) | exact v_int (by simp; omega), rfl, hM0.addNil, Sl.nil 1 5, by omega, by simp, by simp⟩
    · rintro ⟨v', p, r, rs⟩ f w8 ⟨e8_0, e8_3, hM8, hs, hv1, hp, hl⟩ K9 h9
      obtain ⟨frm, rfl⟩ : ∃ frm, f = (upd (upd frm 0 (.int .i64 v')) 3 (r)) := ⟨f, by rw [upd_self e8_0, upd_self e8_3]⟩
      clear e8_0 e8_3
      refine seq fun K10 h10 => ?_
      refine seq fun K11 h11 => ?_
      refine stp (v := .int .i64 v') (o_mv rfl) ?_
      refine stp (v := .bool (decide ((128 : Int) ≤ v'))) (o_bin rfl rfl rfl) ?_
      refine h11 _ _ ?_
      clear h11
      refine cndP rfl (fun c12 => ?_) (fun c12 => ?_)
      ·
        refine h10 _ _ ?_
        clear h10
        refine seq fun K13 h13 => ?_
        refine stp (v := r) (o_mv rfl) ?_
        refine stp (v := .int .i64 v') (o_mv rfl) ?_
        refine stp (v := .int .i64 (v' % 128)) (o_rem rfl rfl (by omega) (v_rem (by omega))) ?_
        refine stp (v := .int .i64 ((v' % 128) + 128)) (o_bin rfl rfl (v_add64 (by constructor <;> omega))) ?_
        refine stp (v := .int .u8 (((v' % 128) + 128) % 256)) (o_conv rfl (v_u8 _)) ?_
        refine m_app1 (E := byteV) (q := (v' % 128 + 128).toNat.toUInt8) hM8 (i := 0) rfl hs rfl (by simp) (by rw [show (v' % 128 + 128) % 256 = v' % 128 + 128 by omega]; exact byteV_of (by omega) (by omega)) (by omega) (by omega) fun v14 w14 r14 u14 (hs14 : SlE byteV 5 v14 (p ++ [(v' % 128 + 128).toNat.toUInt8]) r14) (hM14 : Mem w [] w14 [r14]) => ?_
        refine stp (v := v14) (o_mv rfl) ?_
        refine h13 _ _ ?_
        clear h13
        refine stp (v := .int .i64 v') (o_mv rfl) ?_
        refine stp (v := .int .i64 (v' / 128)) (o_quo rfl rfl (by omega) (v_quo (by omega) (by omega) (by simp only [inK]; omega))) ?_
        refine stp (v := .int .i64 (v' / 128)) (o_mv rfl) ?_
        refine h9 (v' / 128, p ++ [(v' % 128 + 128).toNat.toUInt8], v14, r14) _ _ ⟨by first | rfl | exact v_int (by omega) | exact v_int (by simp) | exact v_int (by simp; omega), rfl, hM14, hs14, by omega, by rw [← hp, putI_ge (v := v') (by omega), List.append_assoc]; rfl, by have h1 := putI_len hv.2; have h2 := putI_pos (v := v' / 128) (by omega); rw [← hp, putI_ge (v := v') (by omega)] at h1; simp at h1 ⊢; omega⟩ (by (try dsimp only); omega)
      ·
        refine h7 _ _ ?_
        clear h7
        refine seq fun K15 h15 => ?_
        refine stp (v := r) (o_mv rfl) ?_
        refine stp (v := .int .i64 v') (o_mv rfl) ?_
        refine stp (v := .int .u8 (v' % 256)) (o_conv rfl (v_u8 _)) ?_
        refine m_app1 (E := byteV) (q := v'.toNat.toUInt8) hM8 (i := 0) rfl hs rfl (by simp) (by rw [Int.emod_eq_of_lt (by omega) (by omega)]; exact byteV_of (by omega) (by omega)) (by omega) (by omega) fun v16 w16 r16 u16 (hs16 : SlE byteV 5 v16 (p ++ [v'.toNat.toUInt8]) r16) (hM16 : Mem w [] w16 [r16]) => ?_
        refine stp (v := v16) (o_mv rfl) ?_
        refine h15 _ _ ?_
        clear h15
        refine seq fun K17 h17 => ?_
        refine stp (v := v16) (o_mv rfl) ?_
        refine stp (v := v16) (o_mv rfl) ?_
        refine h17 _ _ ?_
        clear h17
        refine ⟨v16, rfl, ?_⟩
        exact ⟨_, by rw [← hp, putI_lt (by omega) (by omega)]; exact hs16, hM16⟩

/-- winnowref16.Encode -/
theorem refEncode_ok (x : Value) (l : List Flt) (w : World) (hx : RdS fltC w x l) (hok : ∀ y ∈ l, y.ok) (hl : l.length * 64 ≤ 140737488355328) : Calls Try.prog 32 [x].toArray w (Rt fun r w' => ∃ v rs, r = .tuple #[v, .int .i64 (encE l).2] ∧ SlE byteV 5 v (encE l).1 rs ∧ Mem w [] w' [rs]) := by
  have hM0 : Mem w [] w [] := Mem.nil w []
  refine calls_vc mixed Try.func32 rfl C32 (by simp [Try.ntmps32]) ?_
  refine seq fun K1 h1 => ?_
  refine stp (v := .slice none 0 0) (o_mv rfl) ?_
  refine stp (v := .int .i64 0) (o_mv rfl) ?_
  refine h1 _ _ ?_
  clear h1
  refine seq fun K2 h2 => ?_
  refine stp (v := x) (o_mv rfl) ?_
  refine m_call (refCheck_ok _ l w (hx.upd hM0.upd) (by first | exact hok | assumption) (by first | omega | (simp; omega))) rfl fun v3 w3 ⟨hr3, hu3⟩ => ?_
  have hM3 : Mem w [] w3 [] := hM0.pure hu3
  subst hr3
  refine stp (v := .int .i64 (check l)) (o_mv rfl) ?_
  refine h2 _ _ ?_
  clear h2
  refine seq fun K4 h4 => ?_
  refine seq fun K5 h5 => ?_
  refine stp (v := .int .i64 (check l)) (o_mv rfl) ?_
  refine stp (v := .bool (decide (¬ (check l) = 0))) (o_bin rfl rfl v_neq) ?_
  refine h5 _ _ ?_
  clear h5
  refine cndP rfl (fun c6 => ?_) (fun c6 => ?_)
  ·
    refine seq fun K7 h7 => ?_
    refine stp (v := .int .i64 (check l)) (o_mv rfl) ?_
    refine stp (v := .slice none 0 0) (o_mv rfl) ?_
    refine stp (v := .int .i64 (check l)) (o_mv rfl) ?_
    refine h7 _ _ ?_
    clear h7
    refine ⟨(.tuple [.slice none 0 0, .int .i64 (check l)].toArray), rfl, ?_⟩
    have e := encE_no (l := l) (by omega)
    exact ⟨_, _, by rw [e], by rw [e]; exact Sl.nil 1 5, (hM3.addNil).keep (by simp)⟩
  ·
    refine h4 _ _ ?_
    clear h4
    refine seq fun K8 h8 => ?_
    have hck := check_0 (l := l) (by omega)
    refine stp (v := x) (o_mv rfl) ?_
    refine stp (v := .int .i64 (l.length : Nat)) (o_lenR (hx.upd hM3.upd) rfl rfl) ?_
    refine m_call (refPut_ok (l.length : Nat) (by simp only [inK]; omega) w3) rfl fun v9 w9 ⟨rs9, hs9, hm9⟩ => ?_
    have hM9 : Mem w [] w9 [rs9] := hM3.add hm9
    have hn9 := putI_len (v := (l.length : Nat)) (by omega)
    refine stp (v := v9) (o_mv rfl) ?_
    refine h8 _ _ ?_
    clear h8
    refine seq fun K10 h10 => ?_
    refine seq fun K11 h11 => ?_
    refine stp (v := .int .i64 0) (o_mv rfl) ?_
    refine h11 _ _ ?_
    clear h11
    refine lp (n := fun _ _ => False) (ι := (Nat) × (Value) × (List Ent)) (fun ⟨i, y5_, r5_⟩ f w' => f 6 = .int .i64 (i : Nat) ∧ f 5 = y5_ ∧ f 0 = x ∧ Mem w [] w' [r5_] ∧ (i ≤ l.length) ∧ ((encL l i).length ≤ 9 + 64 * i) ∧ (SlE byteV 5 y5_ (encL l i) r5_)) (fun ⟨i, y5_, r5_⟩ => l.length - i) (0, v9, rs9) ?_ ?_
    · exact ⟨by first | rfl | exact v_int (by omega) | exact v_int (by simp) | exact v_int (by simp; omega), rfl, rfl, hM9, by omega, by have := putI_len (v := (l.length : Nat)) (by omega); simpa [encL] using this, by unfold encL; simpa using hs9⟩
    · rintro ⟨i, y5_, r5_⟩ f w12 ⟨e12_6, e12_5, e12_0, hM12, hi, hel, hy5_⟩ K13 h13
      obtain ⟨frm, rfl⟩ : ∃ frm, f = (upd (upd (upd frm 6 (.int .i64 (i : Nat))) 5 (y5_)) 0 (x)) := ⟨f, by rw [upd_self e12_6, upd_self e12_5, upd_self e12_0]⟩
      clear e12_6 e12_5 e12_0
      refine seq fun K14 h14 => ?_
      refine seq fun K15 h15 => ?_
      refine stp (v := .int .i64 (i : Nat)) (o_mv rfl) ?_
      refine stp (v := x) (o_mv rfl) ?_
      refine stp (v := .int .i64 (l.length : Nat)) (o_lenR (hx.upd hM12.upd) rfl rfl) ?_
      refine stp (v := .bool (decide (((i : Nat) : Int) < (l.length : Nat)))) (o_bin rfl rfl rfl) ?_
      refine h15 _ _ ?_
      clear h15
      refine cndP rfl (fun c16 => ?_) (fun c16 => ?_)
      ·
        refine h14 _ _ ?_
        clear h14
        refine seq fun K17 h17 => ?_
        refine seq fun K18 h18 => ?_
        refine stp (v := x) (o_mv rfl) ?_
        refine stp (v := .int .i64 (i : Nat)) (o_mv rfl) ?_
        refine m_idxS fz (j := i) (hx.upd hM12.upd) rfl rfl (by omega) fun b19 o19 hp19 => ?_
        have hgm := getD_memG fz (i := i) (l := l) (by omega)
        have hg := fine_good hck.2 _ hgm
        have hrg := good_rng hg
        obtain ⟨_, _, _, _, _, _, hak, hmk0⟩ := hok _ hgm
        simp only [inK] at hak hmk0
        have hmk := hmk0.1
        have hln := entB_len hg
        have hp1 := putI_len (v := (l.getD i fz).task) (by omega)
        have hp2 := putI_len (v := (l.getD i fz).att) (by omega)
        have hp3 := putI_len (v := (l.getD i fz).rd) (by omega)
        refine ldA (cs := [.int .i64 ((l.getD i fz).kind), .int .i64 ((l.getD i fz).tk), .int .i64 ((l.getD i fz).task), .int .i64 ((l.getD i fz).att), .int .i64 ((l.getD i fz).mom), .int .i64 ((l.getD i fz).rd), .int .i64 ((l.getD i fz).at_), .int .u32 ((l.getD i fz).mask)]) rfl rfl (hp19.row (k := 0) rfl rfl) ?_
        refine m_al hM12 fun b20 w21 (hM21 : Mem w [] w21 [r5_, [⟨b20, 25, [.int .i64 0, .int .i64 0, .int .i64 0, .int .i64 0, .int .i64 0, .int .i64 0, .int .i64 0, .int .u32 0]⟩]]) => ?_
        refine m_stA (l := [.int .i64 ((l.getD i fz).kind), .int .i64 ((l.getD i fz).tk), .int .i64 ((l.getD i fz).task), .int .i64 ((l.getD i fz).att), .int .i64 ((l.getD i fz).mom), .int .i64 ((l.getD i fz).rd), .int .i64 ((l.getD i fz).at_), .int .u32 ((l.getD i fz).mask)]) hM21 (i := 1) rfl rfl rfl rfl (by simp [oneCells, Value.oneCell', byteV]) (by simp) fun w22 (hM22 : Mem w [] w22 [r5_, [⟨b20, 25, [.int .i64 ((l.getD i fz).kind), .int .i64 ((l.getD i fz).tk), .int .i64 ((l.getD i fz).task), .int .i64 ((l.getD i fz).att), .int .i64 ((l.getD i fz).mom), .int .i64 ((l.getD i fz).rd), .int .i64 ((l.getD i fz).at_), .int .u32 ((l.getD i fz).mask)]⟩]]) => ?_
        refine h18 _ _ ?_
        clear h18
        refine seq fun K23 h23 => ?_
        refine stp (v := y5_) (o_mv rfl) ?_
        refine stp (v := .pointer (some ⟨b20, 0, none⟩)) (o_fa rfl rfl) ?_
        refine m_ld (v := .int .i64 ((l.getD i fz).kind)) hM22 (i := 1) (j := 0) rfl rfl rfl rfl ?_
        refine stp (v := byteV ((l.getD i fz).kind.toNat.toUInt8)) (o_conv rfl (byte_conv (by omega) (by omega))) ?_
        refine stp (v := .pointer (some ⟨b20, 1, none⟩)) (o_fa rfl rfl) ?_
        refine m_ld (v := .int .i64 ((l.getD i fz).tk)) hM22 (i := 1) (j := 0) rfl rfl rfl rfl ?_
        refine stp (v := byteV ((l.getD i fz).tk.toNat.toUInt8)) (o_conv rfl (byte_conv (by omega) (by omega))) ?_
        refine m_bs hM22 rfl fun b24 w25 (hM25 : Mem w [] w25 [r5_, [⟨b20, 25, [.int .i64 ((l.getD i fz).kind), .int .i64 ((l.getD i fz).tk), .int .i64 ((l.getD i fz).task), .int .i64 ((l.getD i fz).att), .int .i64 ((l.getD i fz).mom), .int .i64 ((l.getD i fz).rd), .int .i64 ((l.getD i fz).at_), .int .u32 ((l.getD i fz).mask)]⟩], [⟨b24, 5, [byteV ((l.getD i fz).kind.toNat.toUInt8), byteV ((l.getD i fz).tk.toNat.toUInt8)]⟩]]) => ?_
        refine m_appE hM25 (i := 0) rfl hy5_ rfl rfl (own_rdE (E := byteV) (l := [(l.getD i fz).kind.toNat.toUInt8, (l.getD i fz).tk.toNat.toUInt8]) (hM25.at (i := 2) (j := 0) rfl rfl) rfl) (by simp only [List.length_append, List.length_cons, List.length_nil]; omega) (by omega) fun v26 w26 r26 (hs26 : SlE byteV 5 v26 ((encL l i) ++ ([(l.getD i fz).kind.toNat.toUInt8, (l.getD i fz).tk.toNat.toUInt8])) r26) (hM26 : Mem w [] w26 [r26, [⟨b20, 25, [.int .i64 ((l.getD i fz).kind), .int .i64 ((l.getD i fz).tk), .int .i64 ((l.getD i fz).task), .int .i64 ((l.getD i fz).att), .int .i64 ((l.getD i fz).mom), .int .i64 ((l.getD i fz).rd), .int .i64 ((l.getD i fz).at_), .int .u32 ((l.getD i fz).mask)]⟩], [⟨b24, 5, [byteV ((l.getD i fz).kind.toNat.toUInt8), byteV ((l.getD i fz).tk.toNat.toUInt8)]⟩]]) => ?_
        refine stp (v := v26) (o_mv rfl) ?_
        refine h23 _ _ ?_
        clear h23
        refine seq fun K27 h27 => ?_
        refine stp (v := v26) (o_mv rfl) ?_
        refine stp (v := .pointer (some ⟨b20, 2, none⟩)) (o_fa rfl rfl) ?_
        refine m_ld (v := .int .i64 ((l.getD i fz).task)) hM26 (i := 1) (j := 0) rfl rfl rfl rfl ?_
        refine m_call (refPut_ok ((l.getD i fz).task) (by simp only [inK]; omega) w26) rfl fun v28 w28 ⟨rs28, hs28, hm28⟩ => ?_
        have hM28 : Mem w [] w28 [r26, [⟨b20, 25, [.int .i64 ((l.getD i fz).kind), .int .i64 ((l.getD i fz).tk), .int .i64 ((l.getD i fz).task), .int .i64 ((l.getD i fz).att), .int .i64 ((l.getD i fz).mom), .int .i64 ((l.getD i fz).rd), .int .i64 ((l.getD i fz).at_), .int .u32 ((l.getD i fz).mask)]⟩], [⟨b24, 5, [byteV ((l.getD i fz).kind.toNat.toUInt8), byteV ((l.getD i fz).tk.toNat.toUInt8)]⟩], rs28] := hM26.add hm28
        have hn28 := putI_len (v := (l.getD i fz).task) (by omega)
        refine m_appE hM28 (i := 0) rfl hs26 rfl rfl (hs28.rd hM28 (i := 3) rfl) (by simp only [List.length_append, List.length_cons, List.length_nil]; omega) (by omega) fun v29 w29 r29 (hs29 : SlE byteV 5 v29 (((encL l i) ++ ([(l.getD i fz).kind.toNat.toUInt8, (l.getD i fz).tk.toNat.toUInt8])) ++ (putI ((l.getD i fz).task))) r29) (hM29 : Mem w [] w29 [r29, [⟨b20, 25, [.int .i64 ((l.getD i fz).kind), .int .i64 ((l.getD i fz).tk), .int .i64 ((l.getD i fz).task), .int .i64 ((l.getD i fz).att), .int .i64 ((l.getD i fz).mom), .int .i64 ((l.getD i fz).rd), .int .i64 ((l.getD i fz).at_), .int .u32 ((l.getD i fz).mask)]⟩], [⟨b24, 5, [byteV ((l.getD i fz).kind.toNat.toUInt8), byteV ((l.getD i fz).tk.toNat.toUInt8)]⟩], rs28]) => ?_
        refine stp (v := v29) (o_mv rfl) ?_
        refine h27 _ _ ?_
        clear h27
        refine seq fun K30 h30 => ?_
        refine stp (v := v29) (o_mv rfl) ?_
        refine stp (v := .pointer (some ⟨b20, 3, none⟩)) (o_fa rfl rfl) ?_
        refine m_ld (v := .int .i64 ((l.getD i fz).att)) hM29 (i := 1) (j := 0) rfl rfl rfl rfl ?_
        refine m_call (refPut_ok ((l.getD i fz).att) (by simp only [inK]; omega) w29) rfl fun v31 w31 ⟨rs31, hs31, hm31⟩ => ?_
        have hM31 : Mem w [] w31 [r29, [⟨b20, 25, [.int .i64 ((l.getD i fz).kind), .int .i64 ((l.getD i fz).tk), .int .i64 ((l.getD i fz).task), .int .i64 ((l.getD i fz).att), .int .i64 ((l.getD i fz).mom), .int .i64 ((l.getD i fz).rd), .int .i64 ((l.getD i fz).at_), .int .u32 ((l.getD i fz).mask)]⟩], [⟨b24, 5, [byteV ((l.getD i fz).kind.toNat.toUInt8), byteV ((l.getD i fz).tk.toNat.toUInt8)]⟩], rs28, rs31] := hM29.add hm31
        have hn31 := putI_len (v := (l.getD i fz).att) (by omega)
        refine m_appE hM31 (i := 0) rfl hs29 rfl rfl (hs31.rd hM31 (i := 4) rfl) (by simp only [List.length_append, List.length_cons, List.length_nil]; omega) (by omega) fun v32 w32 r32 (hs32 : SlE byteV 5 v32 ((((encL l i) ++ ([(l.getD i fz).kind.toNat.toUInt8, (l.getD i fz).tk.toNat.toUInt8])) ++ (putI ((l.getD i fz).task))) ++ (putI ((l.getD i fz).att))) r32) (hM32 : Mem w [] w32 [r32, [⟨b20, 25, [.int .i64 ((l.getD i fz).kind), .int .i64 ((l.getD i fz).tk), .int .i64 ((l.getD i fz).task), .int .i64 ((l.getD i fz).att), .int .i64 ((l.getD i fz).mom), .int .i64 ((l.getD i fz).rd), .int .i64 ((l.getD i fz).at_), .int .u32 ((l.getD i fz).mask)]⟩], [⟨b24, 5, [byteV ((l.getD i fz).kind.toNat.toUInt8), byteV ((l.getD i fz).tk.toNat.toUInt8)]⟩], rs28, rs31]) => ?_
        refine stp (v := v32) (o_mv rfl) ?_
        refine h30 _ _ ?_
        clear h30
        refine seq fun K33 h33 => ?_
        refine stp (v := v32) (o_mv rfl) ?_
        refine stp (v := .pointer (some ⟨b20, 4, none⟩)) (o_fa rfl rfl) ?_
        refine m_ld (v := .int .i64 ((l.getD i fz).mom)) hM32 (i := 1) (j := 0) rfl rfl rfl rfl ?_
        refine stp (v := byteV ((l.getD i fz).mom.toNat.toUInt8)) (o_conv rfl (byte_conv (by omega) (by omega))) ?_
        refine m_app1 (E := byteV) (q := (l.getD i fz).mom.toNat.toUInt8) hM32 (i := 0) rfl hs32 rfl (by simp) (rfl) (by simp only [List.length_append, List.length_cons, List.length_nil]; omega) (by omega) fun v34 w34 r34 u34 (hs34 : SlE byteV 5 v34 (((((encL l i) ++ ([(l.getD i fz).kind.toNat.toUInt8, (l.getD i fz).tk.toNat.toUInt8])) ++ (putI ((l.getD i fz).task))) ++ (putI ((l.getD i fz).att))) ++ [(l.getD i fz).mom.toNat.toUInt8]) r34) (hM34 : Mem w [] w34 [r34, [⟨b20, 25, [.int .i64 ((l.getD i fz).kind), .int .i64 ((l.getD i fz).tk), .int .i64 ((l.getD i fz).task), .int .i64 ((l.getD i fz).att), .int .i64 ((l.getD i fz).mom), .int .i64 ((l.getD i fz).rd), .int .i64 ((l.getD i fz).at_), .int .u32 ((l.getD i fz).mask)]⟩], [⟨b24, 5, [byteV ((l.getD i fz).kind.toNat.toUInt8), byteV ((l.getD i fz).tk.toNat.toUInt8)]⟩], rs28, rs31]) => ?_
        refine stp (v := v34) (o_mv rfl) ?_
        refine h33 _ _ ?_
        clear h33
        refine seq fun K35 h35 => ?_
        refine stp (v := v34) (o_mv rfl) ?_
        refine stp (v := .pointer (some ⟨b20, 5, none⟩)) (o_fa rfl rfl) ?_
        refine m_ld (v := .int .i64 ((l.getD i fz).rd)) hM34 (i := 1) (j := 0) rfl rfl rfl rfl ?_
        refine m_call (refPut_ok ((l.getD i fz).rd) (by simp only [inK]; omega) w34) rfl fun v36 w36 ⟨rs36, hs36, hm36⟩ => ?_
        have hM36 : Mem w [] w36 [r34, [⟨b20, 25, [.int .i64 ((l.getD i fz).kind), .int .i64 ((l.getD i fz).tk), .int .i64 ((l.getD i fz).task), .int .i64 ((l.getD i fz).att), .int .i64 ((l.getD i fz).mom), .int .i64 ((l.getD i fz).rd), .int .i64 ((l.getD i fz).at_), .int .u32 ((l.getD i fz).mask)]⟩], [⟨b24, 5, [byteV ((l.getD i fz).kind.toNat.toUInt8), byteV ((l.getD i fz).tk.toNat.toUInt8)]⟩], rs28, rs31, rs36] := hM34.add hm36
        have hn36 := putI_len (v := (l.getD i fz).rd) (by omega)
        refine m_appE hM36 (i := 0) rfl hs34 rfl rfl (hs36.rd hM36 (i := 5) rfl) (by simp only [List.length_append, List.length_cons, List.length_nil]; omega) (by omega) fun v37 w37 r37 (hs37 : SlE byteV 5 v37 ((((((encL l i) ++ ([(l.getD i fz).kind.toNat.toUInt8, (l.getD i fz).tk.toNat.toUInt8])) ++ (putI ((l.getD i fz).task))) ++ (putI ((l.getD i fz).att))) ++ [(l.getD i fz).mom.toNat.toUInt8]) ++ (putI ((l.getD i fz).rd))) r37) (hM37 : Mem w [] w37 [r37, [⟨b20, 25, [.int .i64 ((l.getD i fz).kind), .int .i64 ((l.getD i fz).tk), .int .i64 ((l.getD i fz).task), .int .i64 ((l.getD i fz).att), .int .i64 ((l.getD i fz).mom), .int .i64 ((l.getD i fz).rd), .int .i64 ((l.getD i fz).at_), .int .u32 ((l.getD i fz).mask)]⟩], [⟨b24, 5, [byteV ((l.getD i fz).kind.toNat.toUInt8), byteV ((l.getD i fz).tk.toNat.toUInt8)]⟩], rs28, rs31, rs36]) => ?_
        refine stp (v := v37) (o_mv rfl) ?_
        refine h35 _ _ ?_
        clear h35
        refine seq fun K38 h38 => ?_
        refine seq fun K39 h39 => ?_
        refine stp (v := .int .i64 0) (o_mv rfl) ?_
        refine h39 _ _ ?_
        clear h39
        refine lp (n := fun _ _ => False) (ι := (Nat) × (Value) × (List Ent)) (fun ⟨k, y5_, r5_⟩ f w' => f 8 = .int .i64 (k : Nat) ∧ f 5 = y5_ ∧ f 0 = x ∧ f 6 = .int .i64 (i : Nat) ∧ f 7 = .pointer (some ⟨b20, 0, none⟩) ∧ Mem w [] w' [r5_, [⟨b20, 25, [.int .i64 ((l.getD i fz).kind), .int .i64 ((l.getD i fz).tk), .int .i64 ((l.getD i fz).task), .int .i64 ((l.getD i fz).att), .int .i64 ((l.getD i fz).mom), .int .i64 ((l.getD i fz).rd), .int .i64 ((l.getD i fz).at_), .int .u32 ((l.getD i fz).mask)]⟩], [⟨b24, 5, [byteV ((l.getD i fz).kind.toNat.toUInt8), byteV ((l.getD i fz).tk.toNat.toUInt8)]⟩], rs28, rs31, rs36] ∧ (k ≤ 8) ∧ (SlE byteV 5 y5_ (encL l i ++ ([(l.getD i fz).kind.toNat.toUInt8, (l.getD i fz).tk.toNat.toUInt8] ++ (putI (l.getD i fz).task ++ (putI (l.getD i fz).att ++ ([(l.getD i fz).mom.toNat.toUInt8] ++ putI (l.getD i fz).rd)))) ++ fixed k ((l.getD i fz).at_ % 18446744073709551616).toNat) r5_)) (fun ⟨k, y5_, r5_⟩ => 8 - k) (0, v37, r37) ?_ ?_
        · exact ⟨by first | rfl | exact v_int (by omega) | exact v_int (by simp) | exact v_int (by simp; omega), rfl, rfl, by first | rfl | exact v_int (by omega) | exact v_int (by simp) | exact v_int (by simp; omega), rfl, hM37, by omega, by simpa [fixed] using hs37⟩
        · rintro ⟨k, y5_, r5_⟩ f w40 ⟨e40_8, e40_5, e40_0, e40_6, e40_7, hM40, hk, hy5_⟩ K41 h41
          obtain ⟨frm, rfl⟩ : ∃ frm, f = (upd (upd (upd (upd (upd frm 8 (.int .i64 (k : Nat))) 5 (y5_)) 0 (x)) 6 (.int .i64 (i : Nat))) 7 (.pointer (some ⟨b20, 0, none⟩))) := ⟨f, by rw [upd_self e40_8, upd_self e40_5, upd_self e40_0, upd_self e40_6, upd_self e40_7]⟩
          clear e40_8 e40_5 e40_0 e40_6 e40_7
          refine seq fun K42 h42 => ?_
          refine seq fun K43 h43 => ?_
          refine stp (v := .int .i64 (k : Nat)) (o_mv rfl) ?_
          refine stp (v := .bool (decide (((k : Nat) : Int) < 8))) (o_bin rfl rfl rfl) ?_
          refine h43 _ _ ?_
          clear h43
          refine cndP rfl (fun c44 => ?_) (fun c44 => ?_)
          ·
            refine h42 _ _ ?_
            clear h42
            refine seq fun K45 h45 => ?_
            refine stp (v := y5_) (o_mv rfl) ?_
            refine stp (v := .pointer (some ⟨b20, 6, none⟩)) (o_fa rfl rfl) ?_
            refine m_ld (v := .int .i64 ((l.getD i fz).at_)) hM40 (i := 1) (j := 0) rfl rfl rfl rfl ?_
            refine stp (v := .int .u64 ((l.getD i fz).at_ % 18446744073709551616)) (o_conv rfl (by rw [wrap_u64])) ?_
            refine stp (v := .int .i64 (k : Nat)) (o_mv rfl) ?_
            refine stp (v := .int .i64 (8 * (k : Nat))) (o_bin rfl rfl (v_mul64 (by constructor <;> omega))) ?_
            refine stp (v := .int .u64 (shrI .u64 ((l.getD i fz).at_ % 18446744073709551616) (8 * (k : Nat)))) (o_shr rfl rfl (by omega) rfl) ?_
            refine stp (v := byteV ((((l.getD i fz).at_ % 18446744073709551616).toNat / 256 ^ k % 256).toUInt8)) (o_conv rfl (shr_byte (by omega) (by omega))) ?_
            refine m_app1 (E := byteV) (q := (((l.getD i fz).at_ % 18446744073709551616).toNat / 256 ^ k % 256).toUInt8) hM40 (i := 0) rfl hy5_ rfl (by simp) (rfl) (by simp only [List.length_append, List.length_cons, List.length_nil, fixed_length]; omega) (by omega) fun v46 w46 r46 u46 (hs46 : SlE byteV 5 v46 ((encL l i ++ ([(l.getD i fz).kind.toNat.toUInt8, (l.getD i fz).tk.toNat.toUInt8] ++ (putI (l.getD i fz).task ++ (putI (l.getD i fz).att ++ ([(l.getD i fz).mom.toNat.toUInt8] ++ putI (l.getD i fz).rd)))) ++ fixed k ((l.getD i fz).at_ % 18446744073709551616).toNat) ++ [(((l.getD i fz).at_ % 18446744073709551616).toNat / 256 ^ k % 256).toUInt8]) r46) (hM46 : Mem w [] w46 [r46, [⟨b20, 25, [.int .i64 ((l.getD i fz).kind), .int .i64 ((l.getD i fz).tk), .int .i64 ((l.getD i fz).task), .int .i64 ((l.getD i fz).att), .int .i64 ((l.getD i fz).mom), .int .i64 ((l.getD i fz).rd), .int .i64 ((l.getD i fz).at_), .int .u32 ((l.getD i fz).mask)]⟩], [⟨b24, 5, [byteV ((l.getD i fz).kind.toNat.toUInt8), byteV ((l.getD i fz).tk.toNat.toUInt8)]⟩], rs28, rs31, rs36]) => ?_
            refine stp (v := v46) (o_mv rfl) ?_
            refine h45 _ _ ?_
            clear h45
            refine stp (v := .int .i64 (k : Nat)) (o_mv rfl) ?_
            refine stp (v := .int .i64 ((k : Nat) + 1)) (o_bin rfl rfl (v_add64 (by constructor <;> omega))) ?_
            refine stp (v := .int .i64 ((k : Nat) + 1)) (o_mv rfl) ?_
            refine h41 (k + 1, v46, r46) _ _ ⟨by first | rfl | exact v_int (by omega) | exact v_int (by simp) | exact v_int (by simp; omega), rfl, rfl, by first | rfl | exact v_int (by omega) | exact v_int (by simp) | exact v_int (by simp; omega), rfl, hM46, by omega, by rw [fixed_succ, ← List.append_assoc]; exact hs46⟩ (by (try dsimp only); omega)
          ·
            refine h38 _ _ ?_
            clear h38
            refine seq fun K47 h47 => ?_
            refine stp (v := .int .i64 0) (o_mv rfl) ?_
            refine h47 _ _ ?_
            clear h47
            refine lp (n := fun _ _ => False) (ι := (Nat) × (Value) × (List Ent)) (fun ⟨k2, y5_, r5_⟩ f w' => f 9 = .int .i64 (k2 : Nat) ∧ f 5 = y5_ ∧ f 0 = x ∧ f 6 = .int .i64 (i : Nat) ∧ f 7 = .pointer (some ⟨b20, 0, none⟩) ∧ Mem w [] w' [r5_, [⟨b20, 25, [.int .i64 ((l.getD i fz).kind), .int .i64 ((l.getD i fz).tk), .int .i64 ((l.getD i fz).task), .int .i64 ((l.getD i fz).att), .int .i64 ((l.getD i fz).mom), .int .i64 ((l.getD i fz).rd), .int .i64 ((l.getD i fz).at_), .int .u32 ((l.getD i fz).mask)]⟩], [⟨b24, 5, [byteV ((l.getD i fz).kind.toNat.toUInt8), byteV ((l.getD i fz).tk.toNat.toUInt8)]⟩], rs28, rs31, rs36] ∧ (k2 ≤ 4) ∧ (SlE byteV 5 y5_ (encL l i ++ ([(l.getD i fz).kind.toNat.toUInt8, (l.getD i fz).tk.toNat.toUInt8] ++ (putI (l.getD i fz).task ++ (putI (l.getD i fz).att ++ ([(l.getD i fz).mom.toNat.toUInt8] ++ putI (l.getD i fz).rd)))) ++ fixed 8 ((l.getD i fz).at_ % 18446744073709551616).toNat ++ fixed k2 (l.getD i fz).mask.toNat) r5_)) (fun ⟨k2, y5_, r5_⟩ => 4 - k2) (0, y5_, r5_) ?_ ?_
            · exact ⟨by first | rfl | exact v_int (by omega) | exact v_int (by simp) | exact v_int (by simp; omega), rfl, rfl, by first | rfl | exact v_int (by omega) | exact v_int (by simp) | exact v_int (by simp; omega), rfl, hM40, by omega, by rw [show k = 8 by omega] at hy5_; simpa [fixed] using hy5_⟩
            · rintro ⟨k2, y5_, r5_⟩ f w48 ⟨e48_9, e48_5, e48_0, e48_6, e48_7, hM48, hk2, hy5_⟩ K49 h49
              obtain ⟨frm, rfl⟩ : ∃ frm, f = (upd (upd (upd (upd (upd frm 9 (.int .i64 (k2 : Nat))) 5 (y5_)) 0 (x)) 6 (.int .i64 (i : Nat))) 7 (.pointer (some ⟨b20, 0, none⟩))) := ⟨f, by rw [upd_self e48_9, upd_self e48_5, upd_self e48_0, upd_self e48_6, upd_self e48_7]⟩
              clear e48_9 e48_5 e48_0 e48_6 e48_7
              refine seq fun K50 h50 => ?_
              refine seq fun K51 h51 => ?_
              refine stp (v := .int .i64 (k2 : Nat)) (o_mv rfl) ?_
              refine stp (v := .bool (decide (((k2 : Nat) : Int) < 4))) (o_bin rfl rfl rfl) ?_
              refine h51 _ _ ?_
              clear h51
              refine cndP rfl (fun c52 => ?_) (fun c52 => ?_)
              ·
                refine h50 _ _ ?_
                clear h50
                refine seq fun K53 h53 => ?_
                refine stp (v := y5_) (o_mv rfl) ?_
                refine stp (v := .pointer (some ⟨b20, 7, none⟩)) (o_fa rfl rfl) ?_
                refine m_ld (v := .int .u32 ((l.getD i fz).mask)) hM48 (i := 1) (j := 0) rfl rfl rfl rfl ?_
                refine stp (v := .int .i64 (k2 : Nat)) (o_mv rfl) ?_
                refine stp (v := .int .i64 (8 * (k2 : Nat))) (o_bin rfl rfl (v_mul64 (by constructor <;> omega))) ?_
                refine stp (v := .int .u32 (shrI .u32 ((l.getD i fz).mask) (8 * (k2 : Nat)))) (o_shr rfl rfl (by omega) rfl) ?_
                refine stp (v := byteV (((l.getD i fz).mask.toNat / 256 ^ k2 % 256).toUInt8)) (o_conv rfl (shr_byte32 (by omega) (by omega) (by omega))) ?_
                refine m_app1 (E := byteV) (q := ((l.getD i fz).mask.toNat / 256 ^ k2 % 256).toUInt8) hM48 (i := 0) rfl hy5_ rfl (by simp) (rfl) (by simp only [List.length_append, List.length_cons, List.length_nil, fixed_length]; omega) (by omega) fun v54 w54 r54 u54 (hs54 : SlE byteV 5 v54 ((encL l i ++ ([(l.getD i fz).kind.toNat.toUInt8, (l.getD i fz).tk.toNat.toUInt8] ++ (putI (l.getD i fz).task ++ (putI (l.getD i fz).att ++ ([(l.getD i fz).mom.toNat.toUInt8] ++ putI (l.getD i fz).rd)))) ++ fixed 8 ((l.getD i fz).at_ % 18446744073709551616).toNat ++ fixed k2 (l.getD i fz).mask.toNat) ++ [((l.getD i fz).mask.toNat / 256 ^ k2 % 256).toUInt8]) r54) (hM54 : Mem w [] w54 [r54, [⟨b20, 25, [.int .i64 ((l.getD i fz).kind), .int .i64 ((l.getD i fz).tk), .int .i64 ((l.getD i fz).task), .int .i64 ((l.getD i fz).att), .int .i64 ((l.getD i fz).mom), .int .i64 ((l.getD i fz).rd), .int .i64 ((l.getD i fz).at_), .int .u32 ((l.getD i fz).mask)]⟩], [⟨b24, 5, [byteV ((l.getD i fz).kind.toNat.toUInt8), byteV ((l.getD i fz).tk.toNat.toUInt8)]⟩], rs28, rs31, rs36]) => ?_
                refine stp (v := v54) (o_mv rfl) ?_
                refine h53 _ _ ?_
                clear h53
                refine stp (v := .int .i64 (k2 : Nat)) (o_mv rfl) ?_
                refine stp (v := .int .i64 ((k2 : Nat) + 1)) (o_bin rfl rfl (v_add64 (by constructor <;> omega))) ?_
                refine stp (v := .int .i64 ((k2 : Nat) + 1)) (o_mv rfl) ?_
                refine h49 (k2 + 1, v54, r54) _ _ ⟨by first | rfl | exact v_int (by omega) | exact v_int (by simp) | exact v_int (by simp; omega), rfl, rfl, by first | rfl | exact v_int (by omega) | exact v_int (by simp) | exact v_int (by simp; omega), rfl, hM54, by omega, by rw [fixed_succ k2, ← List.append_assoc]; exact hs54⟩ (by (try dsimp only); omega)
              ·
                refine h17 _ _ ?_
                clear h17
                refine stp (v := .int .i64 (i : Nat)) (o_mv rfl) ?_
                refine stp (v := .int .i64 ((i : Nat) + 1)) (o_bin rfl rfl (v_add64 (by constructor <;> omega))) ?_
                refine stp (v := .int .i64 ((i : Nat) + 1)) (o_mv rfl) ?_
                refine h13 (i + 1, y5_, r5_) _ _ ⟨by first | rfl | exact v_int (by omega) | exact v_int (by simp) | exact v_int (by simp; omega), rfl, rfl, (hM48.drop 1).keep (by simp), by omega, by rw [encL_succ (by omega), List.length_append]; omega, by rw [encL_succ (by omega), entB_eq hg, fixedI_some (by omega), fixedI_some (by omega)]; rw [show k2 = 4 by omega] at hy5_; simpa using hy5_⟩ (by (try dsimp only); omega)
      ·
        refine h10 _ _ ?_
        clear h10
        refine seq fun K55 h55 => ?_
        refine stp (v := y5_) (o_mv rfl) ?_
        refine stp (v := y5_) (o_mv rfl) ?_
        refine stp (v := .int .i64 0) (o_mv rfl) ?_
        refine h55 _ _ ?_
        clear h55
        refine ⟨(.tuple [y5_, .int .i64 0].toArray), rfl, ?_⟩
        have e := encE_yes (l := l) (i := i) (by omega) (by omega)
        exact ⟨_, _, by rw [e], by rw [e]; exact hy5_, hM12.keep (by simp)⟩
