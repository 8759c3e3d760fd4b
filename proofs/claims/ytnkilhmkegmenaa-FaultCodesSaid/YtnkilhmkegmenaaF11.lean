/- Entries as bytes: the walk. -/
import Derived.Test.YtnkilhmkegmenaaF10
namespace Go.Proofs.Ytnkilhmkegmenaa.E
open Go
theorem fixed_1 {v : Int} (h0 : 0 ≤ v) (h : v < 256) : fixed 1 v.toNat = [v.toNat.toUInt8] := by
  show [(v.toNat / 256 ^ 0 % 256).toUInt8] = _
  rw [Nat.pow_zero, Nat.div_one, Nat.mod_eq_of_lt (by omega)]
theorem good_rng {f : Flt} (hg : goodP f) : 0 ≤ f.kind ∧ f.kind ≤ 2 ∧ 0 ≤ f.tk ∧ f.tk ≤ 1 ∧ 0 ≤ f.mom ∧ f.mom ≤ 2 ∧ 0 ≤ f.task ∧ f.task < 65535 ∧ 1 ≤ f.att ∧ f.att ≤ 16 ∧ 0 ≤ f.rd ∧ f.rd < 65535 := by
  unfold goodP stopP dmgP at hg; omega
theorem entB_eq {f : Flt} (hg : goodP f) : entB f = [f.kind.toNat.toUInt8, f.tk.toNat.toUInt8] ++ (putI f.task ++ (putI f.att ++ ([f.mom.toNat.toUInt8] ++ (putI f.rd ++ (fixedI (f.at_ % 18446744073709551616) 8 ++ fixedI f.mask 4))))) := by
  have r := good_rng hg
  unfold entB
  rw [fixed_1 r.1 (by omega), fixed_1 r.2.2.1 (by omega), fixed_1 r.2.2.2.2.1 (by omega), fixedI_some (by omega), fixedI_some (by omega)]
  rfl
theorem entB_len {f : Flt} (hg : goodP f) : (entB f).length ≤ 64 := by
  have r := good_rng hg
  have p1 := putI_len (v := f.task) (by omega)
  have p2 := putI_len (v := f.att) (by omega)
  have p3 := putI_len (v := f.rd) (by omega)
  have f1 := fixedI_len (v := f.at_ % 18446744073709551616) (n := 8)
  have f2 := fixedI_len (v := f.mask) (n := 4)
  rw [entB_eq hg]
  simp only [List.length_append, List.length_cons, List.length_nil]; omega
def encL (l : List Flt) (i : Nat) : List UInt8 := putI ((l.length : Nat) : Int) ++ (l.take i).flatMap entB
theorem encL_succ {l : List Flt} {i : Nat} (h : i < l.length) : encL l (i + 1) = encL l i ++ entB (l.getD i fz) := by
  unfold encL; rw [takeG fz h, List.flatMap_append, List.append_assoc]; simp
theorem encE_no {l : List Flt} (h : ¬ check l = 0) : encE l = ([], check l) := by unfold encE; rw [if_neg h]
theorem encE_yes {l : List Flt} {i : Nat} (h : check l = 0) (hi : l.length ≤ i) : encE l = (encL l i, 0) := by unfold encE encL; rw [if_pos h, List.take_of_length_le hi]
theorem byte_conv {v : Int} (h0 : 0 ≤ v) (h : v < 256) : Value.int .u8 (IntKind.u8.wrap v) = byteV v.toNat.toUInt8 := by
  rw [wrap_u8, Int.emod_eq_of_lt h0 h]; exact byteV_of h0 h

/-- fault.Encode -/
theorem Encode_ok (x : Value) (l : List Flt) (w : World) (hx : RdS fltC w x l) (hok : ∀ y ∈ l, y.ok) (hl : l.length * 64 ≤ 140737488355328) : Calls Try.prog 31 [x].toArray w (Rt fun r w' => ∃ v rs, r = .tuple #[v, .int .i64 (encE l).2] ∧ SlE byteV 5 v (encE l).1 rs ∧ Mem w [] w' [rs]) := by
  have hM0 : Mem w [] w [] := Mem.nil w []
  refine calls_vc mixed Try.func31 rfl C31 (by simp [Try.ntmps31]) ?_
  refine seq fun K1 h1 => ?_
  refine stp (v := .slice none 0 0) (o_mv rfl) ?_
  refine stp (v := .int .i64 0) (o_mv rfl) ?_
  refine h1 _ _ ?_
  clear h1
  refine seq fun K2 h2 => ?_
  refine seq fun K3 h3 => ?_
  refine stp (v := x) (o_mv rfl) ?_
  refine m_call (Check_ok _ l w (hx.upd hM0.upd) (by first | exact hok | assumption) (by first | omega | (simp; omega))) rfl fun v4 w4 ⟨hr4, hu4⟩ => ?_
  have hM4 : Mem w [] w4 [] := hM0.pure hu4
  subst hr4
  refine stp (v := .int .i64 (check l)) (o_mv rfl) ?_
  refine h3 _ _ ?_
  clear h3
  refine seq fun K5 h5 => ?_
  refine stp (v := .int .i64 (check l)) (o_mv rfl) ?_
  refine stp (v := .bool (decide (¬ (check l) = 0))) (o_bin rfl rfl v_neq) ?_
  refine h5 _ _ ?_
  clear h5
  refine cndP rfl (fun c6 => ?_) (fun c6 => ?_)
  ·
    refine seq fun K7 h7 => ?_
    refine stp (v := .int .i64 (check l)) (o_mv rfl) ?_
    refine stp (v := .slice none 0 0) (o_mv rfl) ?_
    refine stp (v := .int .i64 (check l)) (o_mv rfl) ?_
    refine h7 _ _ ?_
    clear h7
    refine ⟨(.tuple [.slice none 0 0, .int .i64 (check l)].toArray), rfl, ?_⟩
    have e := encE_no (l := l) (by omega)
    exact ⟨_, _, by rw [e], by rw [e]; exact Sl.nil 1 5, (hM4.addNil).keep (by simp)⟩
  ·
    refine h2 _ _ ?_
    clear h2
    refine seq fun K8 h8 => ?_
    refine stp (v := x) (o_mv rfl) ?_
    refine stp (v := .int .i64 (l.length : Nat)) (o_lenR (hx.upd hM4.upd) rfl rfl) ?_
    refine m_call (Put_ok (l.length : Nat) (by simp only [inK]; omega) w4) rfl fun v9 w9 ⟨rs9, hs9, hm9⟩ => ?_
    have hM9 : Mem w [] w9 [rs9] := hM4.add hm9
    have hn9 := putI_len (v := (l.length : Nat)) (by omega)
    refine stp (v := v9) (o_mv rfl) ?_
    refine h8 _ _ ?_
    clear h8
    refine seq fun K10 h10 => ?_
    refine seq fun K11 h11 => ?_
    have hck := check_0 (l := l) (by omega)
    refine stp (v := x) (o_mv rfl) ?_
    refine stp (v := .int .i64 (l.length : Nat)) (o_lenR (hx.upd hM9.upd) rfl rfl) ?_
    refine stp (v := .int .i64 0) (o_mv rfl) ?_
    refine h11 _ _ ?_
    clear h11
    refine lp (n := fun _ _ => False) (ι := (Nat) × (Value) × (List Ent)) (fun ⟨i, y5_, r5_⟩ f w' => f 18 = .int .i64 (i : Nat) ∧ f 5 = y5_ ∧ f 16 = x ∧ f 17 = .int .i64 (l.length : Nat) ∧ Mem w [] w' [r5_] ∧ (i ≤ l.length) ∧ ((encL l i).length ≤ 9 + 64 * i) ∧ (SlE byteV 5 y5_ (encL l i) r5_)) (fun ⟨i, y5_, r5_⟩ => l.length - i) (0, v9, rs9) ?_ ?_
    · exact ⟨by first | rfl | exact v_int (by omega) | exact v_int (by simp) | exact v_int (by simp; omega), rfl, rfl, by first | rfl | exact v_int (by omega) | exact v_int (by simp) | exact v_int (by simp; omega), hM9, by omega, by have := putI_len (v := (l.length : Nat)) (by omega); simpa [encL] using this, by unfold encL; simpa using hs9⟩
    · rintro ⟨i, y5_, r5_⟩ f w12 ⟨e12_18, e12_5, e12_16, e12_17, hM12, hi, hel, hy5_⟩ K13 h13
      obtain ⟨frm, rfl⟩ : ∃ frm, f = (upd (upd (upd (upd frm 18 (.int .i64 (i : Nat))) 5 (y5_)) 16 (x)) 17 (.int .i64 (l.length : Nat))) := ⟨f, by rw [upd_self e12_18, upd_self e12_5, upd_self e12_16, upd_self e12_17]⟩
      clear e12_18 e12_5 e12_16 e12_17
      refine seq fun K14 h14 => ?_
      refine stp (v := .bool (decide (((i : Nat) : Int) < (l.length : Nat)))) (o_bin rfl rfl rfl) ?_
      refine h14 _ _ ?_
      clear h14
      refine seq fun K15 h15 => ?_
      refine cndP rfl (fun c16 => ?_) (fun c16 => ?_)
      ·
        refine h15 _ _ ?_
        clear h15
        refine seq fun K17 h17 => ?_
        refine seq fun K18 h18 => ?_
        have hgm := getD_memG fz (i := i) (l := l) (by omega)
        have hg := fine_good hck.2 _ hgm
        have hrg := good_rng hg
        obtain ⟨_, _, _, _, _, _, hak, hmk0⟩ := hok _ hgm
        simp only [inK] at hak hmk0
        have hmk := hmk0.1
        have hln := entB_len hg
        have hf1 := fixedI_len (v := (l.getD i fz).at_ % 18446744073709551616) (n := 8)
        have hf2 := fixedI_len (v := (l.getD i fz).mask) (n := 4)
        refine m_idxS fz (j := i) (hx.upd hM12.upd) rfl rfl (by omega) fun b19 o19 hp19 => ?_
        refine ldA (cs := [.int .i64 ((l.getD i fz).kind), .int .i64 ((l.getD i fz).tk), .int .i64 ((l.getD i fz).task), .int .i64 ((l.getD i fz).att), .int .i64 ((l.getD i fz).mom), .int .i64 ((l.getD i fz).rd), .int .i64 ((l.getD i fz).at_), .int .u32 ((l.getD i fz).mask)]) rfl rfl (hp19.row (k := 0) rfl rfl) ?_
        refine m_al hM12 fun b20 w21 (hM21 : Mem w [] w21 [r5_, [⟨b20, 25, [.int .i64 0, .int .i64 0, .int .i64 0, .int .i64 0, .int .i64 0, .int .i64 0, .int .i64 0, .int .u32 0]⟩]]) => ?_
        refine m_stA (l := [.int .i64 ((l.getD i fz).kind), .int .i64 ((l.getD i fz).tk), .int .i64 ((l.getD i fz).task), .int .i64 ((l.getD i fz).att), .int .i64 ((l.getD i fz).mom), .int .i64 ((l.getD i fz).rd), .int .i64 ((l.getD i fz).at_), .int .u32 ((l.getD i fz).mask)]) hM21 (i := 1) rfl rfl rfl rfl (by simp [oneCells, Value.oneCell', byteV]) (by simp) fun w22 (hM22 : Mem w [] w22 [r5_, [⟨b20, 25, [.int .i64 ((l.getD i fz).kind), .int .i64 ((l.getD i fz).tk), .int .i64 ((l.getD i fz).task), .int .i64 ((l.getD i fz).att), .int .i64 ((l.getD i fz).mom), .int .i64 ((l.getD i fz).rd), .int .i64 ((l.getD i fz).at_), .int .u32 ((l.getD i fz).mask)]⟩]]) => ?_
        refine h18 _ _ ?_
        clear h18
        refine seq fun K23 h23 => ?_
        refine stp (v := y5_) (o_mv rfl) ?_
        refine stp (v := .pointer (some ⟨b20, 0, none⟩)) (o_fa rfl rfl) ?_
        refine m_ld (v := .int .i64 ((l.getD i fz).kind)) hM22 (i := 1) (j := 0) rfl rfl rfl rfl ?_
        refine stp (v := byteV ((l.getD i fz).kind.toNat.toUInt8)) (o_conv rfl (byte_conv (by omega) (by omega))) ?_
        refine stp (v := .pointer (some ⟨b20, 1, none⟩)) (o_fa rfl rfl) ?_
        refine m_ld (v := .int .i64 ((l.getD i fz).tk)) hM22 (i := 1) (j := 0) rfl rfl rfl rfl ?_
        refine stp (v := byteV ((l.getD i fz).tk.toNat.toUInt8)) (o_conv rfl (byte_conv (by omega) (by omega))) ?_
        refine m_bs hM22 rfl fun b24 w25 (hM25 : Mem w [] w25 [r5_, [⟨b20, 25, [.int .i64 ((l.getD i fz).kind), .int .i64 ((l.getD i fz).tk), .int .i64 ((l.getD i fz).task), .int .i64 ((l.getD i fz).att), .int .i64 ((l.getD i fz).mom), .int .i64 ((l.getD i fz).rd), .int .i64 ((l.getD i fz).at_), .int .u32 ((l.getD i fz).mask)]⟩], [⟨b24, 5, [byteV ((l.getD i fz).kind.toNat.toUInt8), byteV ((l.getD i fz).tk.toNat.toUInt8)]⟩]]) => ?_
        refine m_appE hM25 (i := 0) rfl hy5_ rfl rfl (own_rdE (E := byteV) (l := [(l.getD i fz).kind.toNat.toUInt8, (l.getD i fz).tk.toNat.toUInt8]) (hM25.at (i := 2) (j := 0) rfl rfl) rfl) (by simp only [List.length_append, List.length_cons, List.length_nil]; omega) (by omega) fun v26 w26 r26 (hs26 : SlE byteV 5 v26 ((encL l i) ++ ([(l.getD i fz).kind.toNat.toUInt8, (l.getD i fz).tk.toNat.toUInt8])) r26) (hM26 : Mem w [] w26 [r26, [⟨b20, 25, [.int .i64 ((l.getD i fz).kind), .int .i64 ((l.getD i fz).tk), .int .i64 ((l.getD i fz).task), .int .i64 ((l.getD i fz).att), .int .i64 ((l.getD i fz).mom), .int .i64 ((l.getD i fz).rd), .int .i64 ((l.getD i fz).at_), .int .u32 ((l.getD i fz).mask)]⟩], [⟨b24, 5, [byteV ((l.getD i fz).kind.toNat.toUInt8), byteV ((l.getD i fz).tk.toNat.toUInt8)]⟩]]) => ?_
        refine stp (v := v26) (o_mv rfl) ?_
        refine h23 _ _ ?_
        clear h23
        refine seq fun K27 h27 => ?_
        refine stp (v := v26) (o_mv rfl) ?_
        refine stp (v := .pointer (some ⟨b20, 2, none⟩)) (o_fa rfl rfl) ?_
        refine m_ld (v := .int .i64 ((l.getD i fz).task)) hM26 (i := 1) (j := 0) rfl rfl rfl rfl ?_
        refine m_call (Put_ok ((l.getD i fz).task) (by simp only [inK]; omega) w26) rfl fun v28 w28 ⟨rs28, hs28, hm28⟩ => ?_
        have hM28 : Mem w [] w28 [r26, [⟨b20, 25, [.int .i64 ((l.getD i fz).kind), .int .i64 ((l.getD i fz).tk), .int .i64 ((l.getD i fz).task), .int .i64 ((l.getD i fz).att), .int .i64 ((l.getD i fz).mom), .int .i64 ((l.getD i fz).rd), .int .i64 ((l.getD i fz).at_), .int .u32 ((l.getD i fz).mask)]⟩], [⟨b24, 5, [byteV ((l.getD i fz).kind.toNat.toUInt8), byteV ((l.getD i fz).tk.toNat.toUInt8)]⟩], rs28] := hM26.add hm28
        have hn28 := putI_len (v := (l.getD i fz).task) (by omega)
        refine m_appE hM28 (i := 0) rfl hs26 rfl rfl (hs28.rd hM28 (i := 3) rfl) (by simp only [List.length_append, List.length_cons, List.length_nil]; omega) (by omega) fun v29 w29 r29 (hs29 : SlE byteV 5 v29 (((encL l i) ++ ([(l.getD i fz).kind.toNat.toUInt8, (l.getD i fz).tk.toNat.toUInt8])) ++ (putI ((l.getD i fz).task))) r29) (hM29 : Mem w [] w29 [r29, [⟨b20, 25, [.int .i64 ((l.getD i fz).kind), .int .i64 ((l.getD i fz).tk), .int .i64 ((l.getD i fz).task), .int .i64 ((l.getD i fz).att), .int .i64 ((l.getD i fz).mom), .int .i64 ((l.getD i fz).rd), .int .i64 ((l.getD i fz).at_), .int .u32 ((l.getD i fz).mask)]⟩], [⟨b24, 5, [byteV ((l.getD i fz).kind.toNat.toUInt8), byteV ((l.getD i fz).tk.toNat.toUInt8)]⟩], rs28]) => ?_
        refine stp (v := v29) (o_mv rfl) ?_
        refine h27 _ _ ?_
        clear h27
        refine seq fun K30 h30 => ?_
        refine stp (v := v29) (o_mv rfl) ?_
        refine stp (v := .pointer (some ⟨b20, 3, none⟩)) (o_fa rfl rfl) ?_
        refine m_ld (v := .int .i64 ((l.getD i fz).att)) hM29 (i := 1) (j := 0) rfl rfl rfl rfl ?_
        refine m_call (Put_ok ((l.getD i fz).att) (by simp only [inK]; omega) w29) rfl fun v31 w31 ⟨rs31, hs31, hm31⟩ => ?_
        have hM31 : Mem w [] w31 [r29, [⟨b20, 25, [.int .i64 ((l.getD i fz).kind), .int .i64 ((l.getD i fz).tk), .int .i64 ((l.getD i fz).task), .int .i64 ((l.getD i fz).att), .int .i64 ((l.getD i fz).mom), .int .i64 ((l.getD i fz).rd), .int .i64 ((l.getD i fz).at_), .int .u32 ((l.getD i fz).mask)]⟩], [⟨b24, 5, [byteV ((l.getD i fz).kind.toNat.toUInt8), byteV ((l.getD i fz).tk.toNat.toUInt8)]⟩], rs28, rs31] := hM29.add hm31
        have hn31 := putI_len (v := (l.getD i fz).att) (by omega)
        refine m_appE hM31 (i := 0) rfl hs29 rfl rfl (hs31.rd hM31 (i := 4) rfl) (by simp only [List.length_append, List.length_cons, List.length_nil]; omega) (by omega) fun v32 w32 r32 (hs32 : SlE byteV 5 v32 ((((encL l i) ++ ([(l.getD i fz).kind.toNat.toUInt8, (l.getD i fz).tk.toNat.toUInt8])) ++ (putI ((l.getD i fz).task))) ++ (putI ((l.getD i fz).att))) r32) (hM32 : Mem w [] w32 [r32, [⟨b20, 25, [.int .i64 ((l.getD i fz).kind), .int .i64 ((l.getD i fz).tk), .int .i64 ((l.getD i fz).task), .int .i64 ((l.getD i fz).att), .int .i64 ((l.getD i fz).mom), .int .i64 ((l.getD i fz).rd), .int .i64 ((l.getD i fz).at_), .int .u32 ((l.getD i fz).mask)]⟩], [⟨b24, 5, [byteV ((l.getD i fz).kind.toNat.toUInt8), byteV ((l.getD i fz).tk.toNat.toUInt8)]⟩], rs28, rs31]) => ?_
        refine stp (v := v32) (o_mv rfl) ?_
        refine h30 _ _ ?_
        clear h30
        refine seq fun K33 h33 => ?_
        refine stp (v := v32) (o_mv rfl) ?_
        refine stp (v := .pointer (some ⟨b20, 4, none⟩)) (o_fa rfl rfl) ?_
        refine m_ld (v := .int .i64 ((l.getD i fz).mom)) hM32 (i := 1) (j := 0) rfl rfl rfl rfl ?_
        refine stp (v := byteV ((l.getD i fz).mom.toNat.toUInt8)) (o_conv rfl (byte_conv (by omega) (by omega))) ?_
        refine m_app1 (E := byteV) (q := (l.getD i fz).mom.toNat.toUInt8) hM32 (i := 0) rfl hs32 rfl (by simp) (rfl) (by simp only [List.length_append, List.length_cons, List.length_nil]; omega) (by omega) fun v34 w34 r34 u34 (hs34 : SlE byteV 5 v34 (((((encL l i) ++ ([(l.getD i fz).kind.toNat.toUInt8, (l.getD i fz).tk.toNat.toUInt8])) ++ (putI ((l.getD i fz).task))) ++ (putI ((l.getD i fz).att))) ++ [(l.getD i fz).mom.toNat.toUInt8]) r34) (hM34 : Mem w [] w34 [r34, [⟨b20, 25, [.int .i64 ((l.getD i fz).kind), .int .i64 ((l.getD i fz).tk), .int .i64 ((l.getD i fz).task), .int .i64 ((l.getD i fz).att), .int .i64 ((l.getD i fz).mom), .int .i64 ((l.getD i fz).rd), .int .i64 ((l.getD i fz).at_), .int .u32 ((l.getD i fz).mask)]⟩], [⟨b24, 5, [byteV ((l.getD i fz).kind.toNat.toUInt8), byteV ((l.getD i fz).tk.toNat.toUInt8)]⟩], rs28, rs31]) => ?_
        refine stp (v := v34) (o_mv rfl) ?_
        refine h33 _ _ ?_
        clear h33
        refine seq fun K35 h35 => ?_
        refine stp (v := v34) (o_mv rfl) ?_
        refine stp (v := .pointer (some ⟨b20, 5, none⟩)) (o_fa rfl rfl) ?_
        refine m_ld (v := .int .i64 ((l.getD i fz).rd)) hM34 (i := 1) (j := 0) rfl rfl rfl rfl ?_
        refine m_call (Put_ok ((l.getD i fz).rd) (by simp only [inK]; omega) w34) rfl fun v36 w36 ⟨rs36, hs36, hm36⟩ => ?_
        have hM36 : Mem w [] w36 [r34, [⟨b20, 25, [.int .i64 ((l.getD i fz).kind), .int .i64 ((l.getD i fz).tk), .int .i64 ((l.getD i fz).task), .int .i64 ((l.getD i fz).att), .int .i64 ((l.getD i fz).mom), .int .i64 ((l.getD i fz).rd), .int .i64 ((l.getD i fz).at_), .int .u32 ((l.getD i fz).mask)]⟩], [⟨b24, 5, [byteV ((l.getD i fz).kind.toNat.toUInt8), byteV ((l.getD i fz).tk.toNat.toUInt8)]⟩], rs28, rs31, rs36] := hM34.add hm36
        have hn36 := putI_len (v := (l.getD i fz).rd) (by omega)
        refine m_appE hM36 (i := 0) rfl hs34 rfl rfl (hs36.rd hM36 (i := 5) rfl) (by simp only [List.length_append, List.length_cons, List.length_nil]; omega) (by omega) fun v37 w37 r37 (hs37 : SlE byteV 5 v37 ((((((encL l i) ++ ([(l.getD i fz).kind.toNat.toUInt8, (l.getD i fz).tk.toNat.toUInt8])) ++ (putI ((l.getD i fz).task))) ++ (putI ((l.getD i fz).att))) ++ [(l.getD i fz).mom.toNat.toUInt8]) ++ (putI ((l.getD i fz).rd))) r37) (hM37 : Mem w [] w37 [r37, [⟨b20, 25, [.int .i64 ((l.getD i fz).kind), .int .i64 ((l.getD i fz).tk), .int .i64 ((l.getD i fz).task), .int .i64 ((l.getD i fz).att), .int .i64 ((l.getD i fz).mom), .int .i64 ((l.getD i fz).rd), .int .i64 ((l.getD i fz).at_), .int .u32 ((l.getD i fz).mask)]⟩], [⟨b24, 5, [byteV ((l.getD i fz).kind.toNat.toUInt8), byteV ((l.getD i fz).tk.toNat.toUInt8)]⟩], rs28, rs31, rs36]) => ?_
        refine stp (v := v37) (o_mv rfl) ?_
        refine h35 _ _ ?_
        clear h35
        refine seq fun K38 h38 => ?_
        refine stp (v := v37) (o_mv rfl) ?_
        refine stp (v := .pointer (some ⟨b20, 6, none⟩)) (o_fa rfl rfl) ?_
        refine m_ld (v := .int .i64 ((l.getD i fz).at_)) hM37 (i := 1) (j := 0) rfl rfl rfl rfl ?_
        refine stp (v := .int .u64 ((l.getD i fz).at_ % 18446744073709551616)) (o_conv rfl (by rw [wrap_u64])) ?_
        refine m_call (Fixed_ok ((l.getD i fz).at_ % 18446744073709551616) 8 (by simp only [inK]; omega) (by simp only [inK]; omega) w37) rfl fun v39 w39 ⟨rs39, hs39, hm39⟩ => ?_
        have hM39 : Mem w [] w39 [r37, [⟨b20, 25, [.int .i64 ((l.getD i fz).kind), .int .i64 ((l.getD i fz).tk), .int .i64 ((l.getD i fz).task), .int .i64 ((l.getD i fz).att), .int .i64 ((l.getD i fz).mom), .int .i64 ((l.getD i fz).rd), .int .i64 ((l.getD i fz).at_), .int .u32 ((l.getD i fz).mask)]⟩], [⟨b24, 5, [byteV ((l.getD i fz).kind.toNat.toUInt8), byteV ((l.getD i fz).tk.toNat.toUInt8)]⟩], rs28, rs31, rs36, rs39] := hM37.add hm39
        have hn39 := fixedI_len (v := (l.getD i fz).at_ % 18446744073709551616) (n := 8)
        refine m_appE hM39 (i := 0) rfl hs37 rfl rfl (hs39.rd hM39 (i := 6) rfl) (by simp only [List.length_append, List.length_cons, List.length_nil]; omega) (by omega) fun v40 w40 r40 (hs40 : SlE byteV 5 v40 (((((((encL l i) ++ ([(l.getD i fz).kind.toNat.toUInt8, (l.getD i fz).tk.toNat.toUInt8])) ++ (putI ((l.getD i fz).task))) ++ (putI ((l.getD i fz).att))) ++ [(l.getD i fz).mom.toNat.toUInt8]) ++ (putI ((l.getD i fz).rd))) ++ (fixedI ((l.getD i fz).at_ % 18446744073709551616) 8)) r40) (hM40 : Mem w [] w40 [r40, [⟨b20, 25, [.int .i64 ((l.getD i fz).kind), .int .i64 ((l.getD i fz).tk), .int .i64 ((l.getD i fz).task), .int .i64 ((l.getD i fz).att), .int .i64 ((l.getD i fz).mom), .int .i64 ((l.getD i fz).rd), .int .i64 ((l.getD i fz).at_), .int .u32 ((l.getD i fz).mask)]⟩], [⟨b24, 5, [byteV ((l.getD i fz).kind.toNat.toUInt8), byteV ((l.getD i fz).tk.toNat.toUInt8)]⟩], rs28, rs31, rs36, rs39]) => ?_
        refine stp (v := v40) (o_mv rfl) ?_
        refine h38 _ _ ?_
        clear h38
        refine stp (v := v40) (o_mv rfl) ?_
        refine stp (v := .pointer (some ⟨b20, 7, none⟩)) (o_fa rfl rfl) ?_
        refine m_ld (v := .int .u32 ((l.getD i fz).mask)) hM40 (i := 1) (j := 0) rfl rfl rfl rfl ?_
        refine stp (v := .int .u64 ((l.getD i fz).mask)) (o_conv rfl (v_same (by simp only [inK]; omega))) ?_
        refine m_call (Fixed_ok ((l.getD i fz).mask) 4 (by simp only [inK]; omega) (by simp only [inK]; omega) w40) rfl fun v41 w41 ⟨rs41, hs41, hm41⟩ => ?_
        have hM41 : Mem w [] w41 [r40, [⟨b20, 25, [.int .i64 ((l.getD i fz).kind), .int .i64 ((l.getD i fz).tk), .int .i64 ((l.getD i fz).task), .int .i64 ((l.getD i fz).att), .int .i64 ((l.getD i fz).mom), .int .i64 ((l.getD i fz).rd), .int .i64 ((l.getD i fz).at_), .int .u32 ((l.getD i fz).mask)]⟩], [⟨b24, 5, [byteV ((l.getD i fz).kind.toNat.toUInt8), byteV ((l.getD i fz).tk.toNat.toUInt8)]⟩], rs28, rs31, rs36, rs39, rs41] := hM40.add hm41
        have hn41 := fixedI_len (v := (l.getD i fz).mask) (n := 4)
        refine m_appE hM41 (i := 0) rfl hs40 rfl rfl (hs41.rd hM41 (i := 7) rfl) (by simp only [List.length_append, List.length_cons, List.length_nil]; omega) (by omega) fun v42 w42 r42 (hs42 : SlE byteV 5 v42 ((((((((encL l i) ++ ([(l.getD i fz).kind.toNat.toUInt8, (l.getD i fz).tk.toNat.toUInt8])) ++ (putI ((l.getD i fz).task))) ++ (putI ((l.getD i fz).att))) ++ [(l.getD i fz).mom.toNat.toUInt8]) ++ (putI ((l.getD i fz).rd))) ++ (fixedI ((l.getD i fz).at_ % 18446744073709551616) 8)) ++ (fixedI ((l.getD i fz).mask) 4)) r42) (hM42 : Mem w [] w42 [r42, [⟨b20, 25, [.int .i64 ((l.getD i fz).kind), .int .i64 ((l.getD i fz).tk), .int .i64 ((l.getD i fz).task), .int .i64 ((l.getD i fz).att), .int .i64 ((l.getD i fz).mom), .int .i64 ((l.getD i fz).rd), .int .i64 ((l.getD i fz).at_), .int .u32 ((l.getD i fz).mask)]⟩], [⟨b24, 5, [byteV ((l.getD i fz).kind.toNat.toUInt8), byteV ((l.getD i fz).tk.toNat.toUInt8)]⟩], rs28, rs31, rs36, rs39, rs41]) => ?_
        refine stp (v := v42) (o_mv rfl) ?_
        refine h17 _ _ ?_
        clear h17
        refine stp (v := .int .i64 ((i : Nat) + 1)) (o_bin rfl rfl (v_add64 (by constructor <;> omega))) ?_
        refine stp (v := .int .i64 ((i : Nat) + 1)) (o_mv rfl) ?_
        refine h13 (i + 1, v42, r42) _ _ ⟨by first | rfl | exact v_int (by omega) | exact v_int (by simp) | exact v_int (by simp; omega), rfl, rfl, by first | rfl | exact v_int (by omega) | exact v_int (by simp) | exact v_int (by simp; omega), (hM42.drop 1).keep (by simp), by omega, by rw [encL_succ (by omega), List.length_append]; omega, by rw [encL_succ (by omega), entB_eq hg]; simpa using hs42⟩ (by (try dsimp only); omega)
      ·
        refine h10 _ _ ?_
        clear h10
        refine seq fun K43 h43 => ?_
        refine stp (v := y5_) (o_mv rfl) ?_
        refine stp (v := y5_) (o_mv rfl) ?_
        refine stp (v := .int .i64 0) (o_mv rfl) ?_
        refine h43 _ _ ?_
        clear h43
        refine ⟨(.tuple [y5_, .int .i64 0].toArray), rfl, ?_⟩
        have e := encE_yes (l := l) (i := i) (by omega) (by omega)
        exact ⟨_, _, by rw [e], by rw [e]; exact hy5_, hM12.keep (by simp)⟩
