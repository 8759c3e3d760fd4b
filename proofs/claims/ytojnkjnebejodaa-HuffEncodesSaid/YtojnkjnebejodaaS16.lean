/- Encode of the reference. -/
import Derived.Test.YtojnkjnebejodaaS15
namespace Go.Proofs.Ytojnkjnebejodaa.E
open Go
theorem pk_T0 {l : List UInt8} {n : Nat} (h : n % 8 = 0) : l ++ [0] = pk1 l n 0 := by unfold pk1; rw [if_pos h]; rfl
theorem pk_F0 {l : List UInt8} {n : Nat} (h : ¬ n % 8 = 0) (hl : n / 8 < l.length) : l = pk1 l n 0 := by
  unfold pk1
  rw [if_neg h, Nat.zero_mul, Nat.add_zero]
  have : (l.getD (n / 8) 0).toNat.toUInt8 = l.getD (n / 8) 0 := by
    apply UInt8.toNat_inj.1
    rw [toU8 (l.getD (n / 8) 0).toNat_lt]
  rw [this, List.getD_eq_getElem?_getD, List.getElem?_eq_getElem hl]
  exact (List.set_getElem_self hl).symm
theorem pk_T1 {l : List UInt8} {n : Nat} (h : n % 8 = 0) (hl : l.length = n / 8) : (l ++ [0]).set (n / 8) (((l ++ [0]).getD (n / 8) 0).toNat + 2 ^ (n % 8)).toUInt8 = pk1 l n 1 := by
  unfold pk1
  rw [if_pos h, List.getD_eq_getElem?_getD, List.getElem?_append_right (by omega), List.set_append_right _ _ (by omega), hl, Nat.sub_self, h]
  rfl
theorem pk_F1 {l : List UInt8} {n : Nat} (h : ¬ n % 8 = 0) : l.set (n / 8) ((l.getD (n / 8) 0).toNat + 2 ^ (n % 8)).toUInt8 = pk1 l n 1 := by
  unfold pk1; rw [if_neg h, Nat.one_mul]
theorem shl8 {n : Nat} {z : Int} (hz : z = ((n % 8 : Nat) : Int)) : Value.int .u8 (IntKind.u8.wrap ((1 : Int) * 2 ^ min z.toNat IntKind.u8.bits)) = .int .u8 ((2 ^ (n % 8) : Nat) : Int) := by
  have hp := pow_lt8 (k := n % 8) (by omega)
  have := shlI_nat (k := .u8) (a := 1) (n := n % 8) (by simp only [IntKind.bits]; omega) (by rw [Nat.one_mul]; generalize 2 ^ (n % 8) = p at hp ⊢; simp only [inK]; omega)
  rw [Nat.one_mul] at this
  subst hz
  exact v_int this
theorem add8 {x : UInt8} {p : Nat} (h : x.toNat + p < 256) : binI .add .u8 (x.toNat : Int) (p : Int) = .int .u8 (((x.toNat + p).toUInt8.toNat : Nat) : Int) := by
  have : Value.int .u8 (IntKind.u8.wrap ((x.toNat : Int) + p)) = .int .u8 ((x.toNat : Int) + p) := v_same (by simp only [inK]; omega)
  refine this.trans (v_int ?_)
  rw [toU8 h]; omega
theorem low_room {l : List UInt8} {n : Nat} (h : PkI l n) (hn : ¬ n % 8 = 0) : (l.getD (n / 8) 0).toNat + 2 ^ (n % 8) < 256 := by
  have h1 := h.low hn
  have h2 := pow_lt8 (k := n % 8) (by omega)
  omega
theorem zero_room {l : List UInt8} {n : Nat} (h : n % 8 = 0) (hl : l.length = n / 8) : ((l ++ [0]).getD (n / 8) 0).toNat + 2 ^ (n % 8) < 256 := by
  rw [List.getD_eq_getElem?_getD, List.getElem?_append_right (by omega), hl, Nat.sub_self, h]
  decide

set_option maxHeartbeats 1000000 in
set_option maxRecDepth 100000 in
/-- winnowref4.words -/
theorem words_ok4 (x y : Value) (t : List UInt8) (w : World) (hx : RdE byteV w x t) (hy : RdS codeC w y (codesL (lnF t))) (hl : t.length ≤ 65536) : Calls Try.prog 60 [x, y].toArray w (Rt fun r w' => ∃ rs, SlE byteV 5 r (pkA (bitsF (lnF t) t) (bitsF (lnF t) t).length) rs ∧ Mem w [] w' [rs]) := by
  have hM0 : Mem w [] w [] := Mem.nil w []
  refine calls_vc mixed Try.func60 rfl C60 (by simp [Try.ntmps60]) ?_
  refine seq fun K1 h1 => ?_
  refine stp (v := .slice none 0 0) (o_mv rfl) ?_
  refine h1 _ _ ?_
  clear h1
  refine seq fun K2 h2 => ?_
  refine stp (v := .slice none 0 0) (o_mv rfl) ?_
  refine h2 _ _ ?_
  clear h2
  refine seq fun K3 h3 => ?_
  refine stp (v := .int .i64 0) (o_mv rfl) ?_
  refine h3 _ _ ?_
  clear h3
  refine seq fun K4 h4 => ?_
  refine seq fun K5 h5 => ?_
  refine stp (v := .int .i64 0) (o_mv rfl) ?_
  refine h5 _ _ ?_
  clear h5
  have hM6 : Mem w [] w [[]] := hM0.addNil
  have hs6 : SlE byteV 5 (.slice none 0 0) [] [] := Sl.nil 1 5
  refine lp (n := fun _ _ => False) (ι := (Nat) × (Value) × (List Ent)) (fun ⟨q, y5_, r5_⟩ f w' => f 5 = y5_ ∧ f 6 = .int .i64 ((bitsF (lnF t) (t.take q)).length : Nat) ∧ f 7 = .int .i64 (q : Nat) ∧ f 0 = x ∧ f 1 = y ∧ Mem w [] w' [r5_] ∧ (q ≤ t.length) ∧ (SlE byteV 5 y5_ (pkA (bitsF (lnF t) t) (bitsF (lnF t) (t.take q)).length) r5_)) (fun ⟨q, y5_, r5_⟩ => t.length - q) (0, ((.slice none 0 0)), ([])) ?_ ?_
  · exact ⟨rfl, v_int (by rw [bitsF_zero]; rfl), by first | rfl | exact v_int (by omega) | exact v_int (by simp) | exact v_int (by simp; omega), rfl, rfl, hM6, by omega, by rw [bitsF_zero]; exact hs6⟩
  · rintro ⟨q, y5_, r5_⟩ f w7 ⟨e7_5, e7_6, e7_7, e7_0, e7_1, hM7, hq, hy5_⟩ K8 h8
    obtain ⟨frm, rfl⟩ : ∃ frm, f = (upd (upd (upd (upd (upd frm 5 (y5_)) 6 (.int .i64 ((bitsF (lnF t) (t.take q)).length : Nat))) 7 (.int .i64 (q : Nat))) 0 (x)) 1 (y)) := ⟨f, by rw [upd_self e7_5, upd_self e7_6, upd_self e7_7, upd_self e7_0, upd_self e7_1]⟩
    clear e7_5 e7_6 e7_7 e7_0 e7_1
    refine seq fun K9 h9 => ?_
    refine seq fun K10 h10 => ?_
    refine stp (v := .int .i64 (q : Nat)) (o_mv rfl) ?_
    refine stp (v := x) (o_mv rfl) ?_
    refine stp (v := .int .i64 (t.length : Nat)) (o_lenR (hx.upd hM7.upd) rfl rfl) ?_
    refine stp (v := .bool (decide (((q : Nat) : Int) < (t.length : Nat)))) (o_bin rfl rfl rfl) ?_
    refine h10 _ _ ?_
    clear h10
    refine cndP rfl (fun c11 => ?_) (fun c11 => ?_)
    ·
      refine h9 _ _ ?_
      clear h9
      refine seq fun K12 h12 => ?_
      refine seq fun K13 h13 => ?_
      have hcl : (codesL (lnF t)).length = 256 := by rw [codesL_len, lnF_len]
      have hcx := (t.getD q 0).toNat_lt
      refine stp (v := y) (o_mv rfl) ?_
      refine stp (v := x) (o_mv rfl) ?_
      refine stp (v := .int .i64 (q : Nat)) (o_mv rfl) ?_
      refine m_idxE 0 (j := q) (hx.upd hM7.upd) rfl rfl (by omega) fun b14 o14 hp14 => ?_
      refine ld (v := byteV (t.getD q 0)) rfl (hp14) ?_
      refine m_idxS ((0, 0) : Int × Int) (j := (t.getD q 0).toNat) (hy.upd hM7.upd) rfl rfl (by omega) fun b15 o15 hp15 => ?_
      refine ldA (cs := [.int .i64 (((codesL (lnF t)).getD ((t.getD q 0).toNat) ((0, 0) : Int × Int)).1), .int .u32 (((codesL (lnF t)).getD ((t.getD q 0).toNat) ((0, 0) : Int × Int)).2)]) rfl rfl (hp15.row (k := 0) rfl rfl) ?_
      refine m_al hM7 fun b16 w17 (hM17 : Mem w [] w17 [r5_, [⟨b16, 37, [.int .i64 0, .int .u32 0]⟩]]) => ?_
      refine m_stA (l := [.int .i64 (((codesL (lnF t)).getD ((t.getD q 0).toNat) ((0, 0) : Int × Int)).1), .int .u32 (((codesL (lnF t)).getD ((t.getD q 0).toNat) ((0, 0) : Int × Int)).2)]) hM17 (i := 1) rfl rfl rfl rfl (by simp [oneCells, Value.oneCell', byteV]) (by simp) fun w18 (hM18 : Mem w [] w18 [r5_, [⟨b16, 37, [.int .i64 (((codesL (lnF t)).getD ((t.getD q 0).toNat) ((0, 0) : Int × Int)).1), .int .u32 (((codesL (lnF t)).getD ((t.getD q 0).toNat) ((0, 0) : Int × Int)).2)]⟩]]) => ?_
      refine h13 _ _ ?_
      clear h13
      refine seq fun K19 h19 => ?_
      obtain ⟨dg, W, hcd, hdl, hW⟩ := code_bdE (lnF_inB t) (lnF_codes t).1 (s := (t.getD q 0).toNat) (by rw [lnF_len]; exact (t.getD q 0).toNat_lt)
      have hg1 : ((codesL (lnF t)).getD (t.getD q 0).toNat ((0, 0) : Int × Int)).1 = (dg : Nat) := by rw [codesL_get' (by rw [lnF_len]; exact (t.getD q 0).toNat_lt), hcd]
      have hg2 : ((codesL (lnF t)).getD (t.getD q 0).toNat ((0, 0) : Int × Int)).2 = (W : Nat) := by rw [codesL_get' (by rw [lnF_len]; exact (t.getD q 0).toNat_lt), hcd]
      have hnq := lnF_bits t q (by omega)
      have hnx := bits_next (L := (lnF t)) (t := t) (q := q) (by omega)
      rw [hcd, Int.toNat_natCast] at hnx
      refine stp (v := .pointer (some ⟨b16, 0, none⟩)) (o_fa rfl rfl) ?_
      refine m_ld (v := .int .i64 (((codesL (lnF t)).getD ((t.getD q 0).toNat) ((0, 0) : Int × Int)).1)) hM18 (i := 1) (j := 0) rfl rfl rfl rfl ?_
      refine stp (v := .int .i64 ((((codesL (lnF t)).getD ((t.getD q 0).toNat) ((0, 0) : Int × Int)).1) - 1)) (o_bin rfl rfl (v_sub64 (by constructor <;> omega))) ?_
      refine stp (v := .int .i64 ((((codesL (lnF t)).getD ((t.getD q 0).toNat) ((0, 0) : Int × Int)).1) - 1)) (o_mv rfl) ?_
      refine h19 _ _ ?_
      clear h19
      refine lp (n := fun _ _ => False) (ι := (Nat) × (Value) × (List Ent)) (fun ⟨k, y5_, r5_⟩ f w' => f 5 = y5_ ∧ f 6 = .int .i64 (((bitsF (lnF t) (t.take q)).length + k) : Nat) ∧ f 9 = .int .i64 ((dg : Nat) - 1 - (k : Nat)) ∧ f 0 = x ∧ f 1 = y ∧ f 7 = .int .i64 (q : Nat) ∧ f 8 = .pointer (some ⟨b16, 0, none⟩) ∧ Mem w [] w' [r5_, [⟨b16, 37, [.int .i64 (((codesL (lnF t)).getD ((t.getD q 0).toNat) ((0, 0) : Int × Int)).1), .int .u32 (((codesL (lnF t)).getD ((t.getD q 0).toNat) ((0, 0) : Int × Int)).2)]⟩]] ∧ (k ≤ dg) ∧ (SlE byteV 5 y5_ (pkA (bitsF (lnF t) t) ((bitsF (lnF t) (t.take q)).length + k)) r5_)) (fun ⟨k, y5_, r5_⟩ => dg - k) (0, y5_, r5_) ?_ ?_
      · exact ⟨rfl, by first | rfl | exact v_int (by omega) | exact v_int (by simp) | exact v_int (by simp; omega), by first | rfl | exact v_int (by omega) | exact v_int (by simp) | exact v_int (by simp; omega), rfl, rfl, by first | rfl | exact v_int (by omega) | exact v_int (by simp) | exact v_int (by simp; omega), rfl, hM18, by omega, by first | exact hy5_ | simpa using hy5_⟩
      · rintro ⟨k, y5_, r5_⟩ f w20 ⟨e20_5, e20_6, e20_9, e20_0, e20_1, e20_7, e20_8, hM20, hk, hy5_⟩ K21 h21
        obtain ⟨frm, rfl⟩ : ∃ frm, f = (upd (upd (upd (upd (upd (upd (upd frm 5 (y5_)) 6 (.int .i64 (((bitsF (lnF t) (t.take q)).length + k) : Nat))) 9 (.int .i64 ((dg : Nat) - 1 - (k : Nat)))) 0 (x)) 1 (y)) 7 (.int .i64 (q : Nat))) 8 (.pointer (some ⟨b16, 0, none⟩))) := ⟨f, by rw [upd_self e20_5, upd_self e20_6, upd_self e20_9, upd_self e20_0, upd_self e20_1, upd_self e20_7, upd_self e20_8]⟩
        clear e20_5 e20_6 e20_9 e20_0 e20_1 e20_7 e20_8
        refine seq fun K22 h22 => ?_
        refine seq fun K23 h23 => ?_
        refine stp (v := .int .i64 ((dg : Nat) - 1 - (k : Nat))) (o_mv rfl) ?_
        refine stp (v := .bool (decide ((0 : Int) ≤ ((dg : Nat) - 1 - (k : Nat) : Int)))) (o_bin rfl rfl rfl) ?_
        refine h23 _ _ ?_
        clear h23
        refine cndP rfl (fun c24 => ?_) (fun c24 => ?_)
        ·
          refine h22 _ _ ?_
          clear h22
          refine seq fun K25 h25 => ?_
          refine seq fun K26 h26 => ?_
          refine seq fun K27 h27 => ?_
          have hwk : W / 2 ^ (dg - 1 - k) ≤ W := Nat.div_le_self _ _
          have hbit : (bitsF (lnF t) t).getD ((bitsF (lnF t) (t.take q)).length + k) 0 = W / 2 ^ (dg - 1 - k) % 2 := by
            have e := bits_at (L := (lnF t)) (t := t) (q := q) (k := k) (by omega) (by rw [hcd, Int.toNat_natCast]; omega)
            rw [hcd, Int.toNat_natCast, Int.toNat_natCast] at e
            exact e
          have hpi := pkA_ok (bs := (bitsF (lnF t) t)) bits_le ((bitsF (lnF t) (t.take q)).length + k)
          have hpl := hpi.len
          refine stp (v := .int .i64 (((bitsF (lnF t) (t.take q)).length + k) : Nat)) (o_mv rfl) ?_
          refine stp (v := .int .i64 (((bitsF (lnF t) (t.take q)).length + k) % 8 : Nat)) (o_rem rfl rfl (by omega) ((v_rem (by omega)).trans (v_int (by omega)))) ?_
          refine stp (v := .bool (decide (((((bitsF (lnF t) (t.take q)).length + k) % 8 : Nat) : Int) = 0))) (o_bin rfl rfl rfl) ?_
          refine h27 _ _ ?_
          clear h27
          refine cndP rfl (fun c28 => ?_) (fun c28 => ?_)
          ·
            refine stp (v := y5_) (o_mv rfl) ?_
            refine m_app1 (E := byteV) (q := 0) hM20 (i := 0) rfl hy5_ rfl (by simp) (rfl) (by omega) (by omega) fun v29 w29 r29 u29 (hs29 : SlE byteV 5 v29 ((pkA (bitsF (lnF t) t) ((bitsF (lnF t) (t.take q)).length + k)) ++ [0]) r29) (hM29 : Mem w [] w29 [r29, [⟨b16, 37, [.int .i64 (((codesL (lnF t)).getD ((t.getD q 0).toNat) ((0, 0) : Int × Int)).1), .int .u32 (((codesL (lnF t)).getD ((t.getD q 0).toNat) ((0, 0) : Int × Int)).2)]⟩]]) => ?_
            refine stp (v := v29) (o_mv rfl) ?_
            refine h26 _ _ ?_
            clear h26
            refine seq fun K30 h30 => ?_
            refine seq fun K31 h31 => ?_
            refine stp (v := .pointer (some ⟨b16, 1, none⟩)) (o_fa rfl rfl) ?_
            refine m_ld (v := .int .u32 (((codesL (lnF t)).getD ((t.getD q 0).toNat) ((0, 0) : Int × Int)).2)) hM29 (i := 1) (j := 0) rfl rfl rfl rfl ?_
            refine stp (v := .int .i64 ((dg : Nat) - 1 - (k : Nat))) (o_mv rfl) ?_
            refine stp (v := .int .u32 (W / 2 ^ (dg - 1 - k) : Nat)) (o_shr rfl rfl (by omega) (shr_at hg2 (by omega) (by omega))) ?_
            refine stp (v := .int .u32 (W / 2 ^ (dg - 1 - k) % 2 : Nat)) (o_rem rfl rfl (by omega) ((v_rem (Int.natCast_nonneg _)).trans rfl)) ?_
            refine stp (v := .bool (decide (((W / 2 ^ (dg - 1 - k) % 2 : Nat) : Int) = 1))) (o_bin rfl rfl rfl) ?_
            refine h31 _ _ ?_
            clear h31
            refine cndP rfl (fun c32 => ?_) (fun c32 => ?_)
            ·
              intro wd e1 e2 e3 e4
              have hd := Upd.same e1 e2 e3 e4 []
              have hM33 := hM29.pure hd
              clear e1 e2 e3 e4
              refine ⟨(some []), ?_⟩
              show vd _ _ _ _ _ _ _
              refine dq (v := v29) (o_mv rfl) ?_
              refine dq (v := .int .i64 (((bitsF (lnF t) (t.take q)).length + k) : Nat)) (o_mv rfl) ?_
              refine dq (v := .int .i64 (((bitsF (lnF t) (t.take q)).length + k) / 8 : Nat)) (o_quo rfl rfl (by omega) ((v_quo (by omega) (by omega) (by simp only [inK]; omega)).trans (v_int (by omega)))) ?_
              refine dq (v := v29) (o_mv rfl) ?_
              refine dq (v := .int .i64 (((bitsF (lnF t) (t.take q)).length + k) : Nat)) (o_mv rfl) ?_
              refine dq (v := .int .i64 (((bitsF (lnF t) (t.take q)).length + k) / 8 : Nat)) (o_quo rfl rfl (by omega) ((v_quo (by omega) (by omega) (by simp only [inK]; omega)).trans (v_int (by omega)))) ?_
              refine dqp (m_idxE 0 (j := (((bitsF (lnF t) (t.take q)).length + k) / 8)) (hs29.rd hM33 (i := 0) rfl) rfl (v_int (by omega)) (by rw [List.length_append, List.length_singleton]; omega) fun b34 o34 hp34 => ?_)
              show vd _ _ _ _ _ _ _
              refine dq (v := .int .i64 (((bitsF (lnF t) (t.take q)).length + k) : Nat)) (o_mv rfl) ?_
              refine dq (v := .int .i64 (((bitsF (lnF t) (t.take q)).length + k) % 8 : Nat)) (o_rem rfl rfl (by omega) ((v_rem (by omega)).trans (v_int (by omega)))) ?_
              refine dq (v := .int .u8 (2 ^ (((bitsF (lnF t) (t.take q)).length + k) % 8) : Nat)) (o_shl rfl rfl (by omega) (shl8 rfl)) ?_
              refine dl (ld (v := byteV (((pkA (bitsF (lnF t) t) ((bitsF (lnF t) (t.take q)).length + k)) ++ [0]).getD (((bitsF (lnF t) (t.take q)).length + k) / 8) 0)) rfl (hp34) ?_)
              refine ⟨(fun b hb => by cases hb), ?_⟩
              refine dq (v := .int .u8 ((((((pkA (bitsF (lnF t) t) ((bitsF (lnF t) (t.take q)).length + k)) ++ [0]).getD (((bitsF (lnF t) (t.take q)).length + k) / 8) 0).toNat + 2 ^ (((bitsF (lnF t) (t.take q)).length + k) % 8)).toUInt8.toNat : Nat) : Int)) (o_bin rfl rfl (add8 (zero_room (by omega) (by omega)))) ?_
              refine dset (m_setU (E := byteV) (q := ((((pkA (bitsF (lnF t) t) ((bitsF (lnF t) (t.take q)).length + k)) ++ [0]).getD (((bitsF (lnF t) (t.take q)).length + k) / 8) 0).toNat + 2 ^ (((bitsF (lnF t) (t.take q)).length + k) % 8)).toUInt8) (j := (((bitsF (lnF t) (t.take q)).length + k) / 8)) hM33 (i := 0) rfl hs29 rfl (v_int (by omega)) (by rw [List.length_append, List.length_singleton]; omega) (by simp) (rfl) fun w35 r35 u35 he35 hs35 (hM35 : Mem w [] w35 [r35, [⟨b16, 37, [.int .i64 (((codesL (lnF t)).getD ((t.getD q 0).toNat) ((0, 0) : Int × Int)).1), .int .u32 (((codesL (lnF t)).getD ((t.getD q 0).toNat) ((0, 0) : Int × Int)).2)]⟩]]) hup35 => ?_)
              refine ⟨(fun b hb => by cases hb), ?_⟩
              show vd _ _ _ _ _ _ _
              refine h30 _ _ ?_
              clear h30
              refine stp (v := .int .i64 (((bitsF (lnF t) (t.take q)).length + k) : Nat)) (o_mv rfl) ?_
              refine stp (v := .int .i64 ((bitsF (lnF t) (t.take q)).length + (k + 1) : Nat)) (o_bin rfl rfl ((v_add64 (by omega)).trans (v_int (by omega)))) ?_
              refine stp (v := .int .i64 ((bitsF (lnF t) (t.take q)).length + (k + 1) : Nat)) (o_mv rfl) ?_
              refine h25 _ _ ?_
              clear h25
              refine stp (v := .int .i64 ((dg : Nat) - 1 - (k : Nat))) (o_mv rfl) ?_
              refine stp (v := .int .i64 (((dg : Nat) - 1 - (k : Nat)) - 1)) (o_bin rfl rfl (v_sub64 (by constructor <;> omega))) ?_
              refine stp (v := .int .i64 (((dg : Nat) - 1 - (k : Nat)) - 1)) (o_mv rfl) ?_
              refine h21 (k + 1, v29, r35) _ _ ⟨rfl, by first | rfl | exact v_int (by omega) | exact v_int (by simp) | exact v_int (by simp; omega), by first | rfl | exact v_int (by omega) | exact v_int (by simp) | exact v_int (by simp; omega), rfl, rfl, by first | rfl | exact v_int (by omega) | exact v_int (by simp) | exact v_int (by simp; omega), rfl, hM35, by omega, (by show SlE byteV 5 _ (pk1 (pkA (bitsF (lnF t) t) ((bitsF (lnF t) (t.take q)).length + k)) ((bitsF (lnF t) (t.take q)).length + k) ((bitsF (lnF t) t).getD ((bitsF (lnF t) (t.take q)).length + k) 0)) _; rw [hbit]; rw [show W / 2 ^ (dg - 1 - k) % 2 = 1 by omega, ← pk_T1 (by omega) (by omega)]; exact hs35)⟩ (by (try dsimp only); omega)
            ·
              refine h30 _ _ ?_
              clear h30
              refine stp (v := .int .i64 (((bitsF (lnF t) (t.take q)).length + k) : Nat)) (o_mv rfl) ?_
              refine stp (v := .int .i64 ((bitsF (lnF t) (t.take q)).length + (k + 1) : Nat)) (o_bin rfl rfl ((v_add64 (by omega)).trans (v_int (by omega)))) ?_
              refine stp (v := .int .i64 ((bitsF (lnF t) (t.take q)).length + (k + 1) : Nat)) (o_mv rfl) ?_
              refine h25 _ _ ?_
              clear h25
              refine stp (v := .int .i64 ((dg : Nat) - 1 - (k : Nat))) (o_mv rfl) ?_
              refine stp (v := .int .i64 (((dg : Nat) - 1 - (k : Nat)) - 1)) (o_bin rfl rfl (v_sub64 (by constructor <;> omega))) ?_
              refine stp (v := .int .i64 (((dg : Nat) - 1 - (k : Nat)) - 1)) (o_mv rfl) ?_
              refine h21 (k + 1, v29, r29) _ _ ⟨rfl, by first | rfl | exact v_int (by omega) | exact v_int (by simp) | exact v_int (by simp; omega), by first | rfl | exact v_int (by omega) | exact v_int (by simp) | exact v_int (by simp; omega), rfl, rfl, by first | rfl | exact v_int (by omega) | exact v_int (by simp) | exact v_int (by simp; omega), rfl, hM29, by omega, (by show SlE byteV 5 _ (pk1 (pkA (bitsF (lnF t) t) ((bitsF (lnF t) (t.take q)).length + k)) ((bitsF (lnF t) (t.take q)).length + k) ((bitsF (lnF t) t).getD ((bitsF (lnF t) (t.take q)).length + k) 0)) _; rw [hbit]; rw [show W / 2 ^ (dg - 1 - k) % 2 = 0 by omega, ← pk_T0 (by omega)]; exact hs29)⟩ (by (try dsimp only); omega)
          ·
            refine h26 _ _ ?_
            clear h26
            refine seq fun K36 h36 => ?_
            refine seq fun K37 h37 => ?_
            refine stp (v := .pointer (some ⟨b16, 1, none⟩)) (o_fa rfl rfl) ?_
            refine m_ld (v := .int .u32 (((codesL (lnF t)).getD ((t.getD q 0).toNat) ((0, 0) : Int × Int)).2)) hM20 (i := 1) (j := 0) rfl rfl rfl rfl ?_
            refine stp (v := .int .i64 ((dg : Nat) - 1 - (k : Nat))) (o_mv rfl) ?_
            refine stp (v := .int .u32 (W / 2 ^ (dg - 1 - k) : Nat)) (o_shr rfl rfl (by omega) (shr_at hg2 (by omega) (by omega))) ?_
            refine stp (v := .int .u32 (W / 2 ^ (dg - 1 - k) % 2 : Nat)) (o_rem rfl rfl (by omega) ((v_rem (Int.natCast_nonneg _)).trans rfl)) ?_
            refine stp (v := .bool (decide (((W / 2 ^ (dg - 1 - k) % 2 : Nat) : Int) = 1))) (o_bin rfl rfl rfl) ?_
            refine h37 _ _ ?_
            clear h37
            refine cndP rfl (fun c38 => ?_) (fun c38 => ?_)
            ·
              intro wd e1 e2 e3 e4
              have hd := Upd.same e1 e2 e3 e4 []
              have hM39 := hM20.pure hd
              clear e1 e2 e3 e4
              refine ⟨(some []), ?_⟩
              show vd _ _ _ _ _ _ _
              refine dq (v := y5_) (o_mv rfl) ?_
              refine dq (v := .int .i64 (((bitsF (lnF t) (t.take q)).length + k) : Nat)) (o_mv rfl) ?_
              refine dq (v := .int .i64 (((bitsF (lnF t) (t.take q)).length + k) / 8 : Nat)) (o_quo rfl rfl (by omega) ((v_quo (by omega) (by omega) (by simp only [inK]; omega)).trans (v_int (by omega)))) ?_
              refine dq (v := y5_) (o_mv rfl) ?_
              refine dq (v := .int .i64 (((bitsF (lnF t) (t.take q)).length + k) : Nat)) (o_mv rfl) ?_
              refine dq (v := .int .i64 (((bitsF (lnF t) (t.take q)).length + k) / 8 : Nat)) (o_quo rfl rfl (by omega) ((v_quo (by omega) (by omega) (by simp only [inK]; omega)).trans (v_int (by omega)))) ?_
              refine dqp (m_idxE 0 (j := (((bitsF (lnF t) (t.take q)).length + k) / 8)) (hy5_.rd hM39 (i := 0) rfl) rfl (v_int (by omega)) (by omega) fun b40 o40 hp40 => ?_)
              show vd _ _ _ _ _ _ _
              refine dq (v := .int .i64 (((bitsF (lnF t) (t.take q)).length + k) : Nat)) (o_mv rfl) ?_
              refine dq (v := .int .i64 (((bitsF (lnF t) (t.take q)).length + k) % 8 : Nat)) (o_rem rfl rfl (by omega) ((v_rem (by omega)).trans (v_int (by omega)))) ?_
              refine dq (v := .int .u8 (2 ^ (((bitsF (lnF t) (t.take q)).length + k) % 8) : Nat)) (o_shl rfl rfl (by omega) (shl8 rfl)) ?_
              refine dl (ld (v := byteV ((pkA (bitsF (lnF t) t) ((bitsF (lnF t) (t.take q)).length + k)).getD (((bitsF (lnF t) (t.take q)).length + k) / 8) 0)) rfl (hp40) ?_)
              refine ⟨(fun b hb => by cases hb), ?_⟩
              refine dq (v := .int .u8 (((((pkA (bitsF (lnF t) t) ((bitsF (lnF t) (t.take q)).length + k)).getD (((bitsF (lnF t) (t.take q)).length + k) / 8) 0).toNat + 2 ^ (((bitsF (lnF t) (t.take q)).length + k) % 8)).toUInt8.toNat : Nat) : Int)) (o_bin rfl rfl (add8 (low_room hpi (by omega)))) ?_
              refine dset (m_setU (E := byteV) (q := (((pkA (bitsF (lnF t) t) ((bitsF (lnF t) (t.take q)).length + k)).getD (((bitsF (lnF t) (t.take q)).length + k) / 8) 0).toNat + 2 ^ (((bitsF (lnF t) (t.take q)).length + k) % 8)).toUInt8) (j := (((bitsF (lnF t) (t.take q)).length + k) / 8)) hM39 (i := 0) rfl hy5_ rfl (v_int (by omega)) (by omega) (by simp) (rfl) fun w41 r41 u41 he41 hs41 (hM41 : Mem w [] w41 [r41, [⟨b16, 37, [.int .i64 (((codesL (lnF t)).getD ((t.getD q 0).toNat) ((0, 0) : Int × Int)).1), .int .u32 (((codesL (lnF t)).getD ((t.getD q 0).toNat) ((0, 0) : Int × Int)).2)]⟩]]) hup41 => ?_)
              refine ⟨(fun b hb => by cases hb), ?_⟩
              show vd _ _ _ _ _ _ _
              refine h36 _ _ ?_
              clear h36
              refine stp (v := .int .i64 (((bitsF (lnF t) (t.take q)).length + k) : Nat)) (o_mv rfl) ?_
              refine stp (v := .int .i64 ((bitsF (lnF t) (t.take q)).length + (k + 1) : Nat)) (o_bin rfl rfl ((v_add64 (by omega)).trans (v_int (by omega)))) ?_
              refine stp (v := .int .i64 ((bitsF (lnF t) (t.take q)).length + (k + 1) : Nat)) (o_mv rfl) ?_
              refine h25 _ _ ?_
              clear h25
              refine stp (v := .int .i64 ((dg : Nat) - 1 - (k : Nat))) (o_mv rfl) ?_
              refine stp (v := .int .i64 (((dg : Nat) - 1 - (k : Nat)) - 1)) (o_bin rfl rfl (v_sub64 (by constructor <;> omega))) ?_
              refine stp (v := .int .i64 (((dg : Nat) - 1 - (k : Nat)) - 1)) (o_mv rfl) ?_
              refine h21 (k + 1, y5_, r41) _ _ ⟨rfl, by first | rfl | exact v_int (by omega) | exact v_int (by simp) | exact v_int (by simp; omega), by first | rfl | exact v_int (by omega) | exact v_int (by simp) | exact v_int (by simp; omega), rfl, rfl, by first | rfl | exact v_int (by omega) | exact v_int (by simp) | exact v_int (by simp; omega), rfl, hM41, by omega, (by show SlE byteV 5 _ (pk1 (pkA (bitsF (lnF t) t) ((bitsF (lnF t) (t.take q)).length + k)) ((bitsF (lnF t) (t.take q)).length + k) ((bitsF (lnF t) t).getD ((bitsF (lnF t) (t.take q)).length + k) 0)) _; rw [hbit]; rw [show W / 2 ^ (dg - 1 - k) % 2 = 1 by omega, ← pk_F1 (by omega)]; exact hs41)⟩ (by (try dsimp only); omega)
            ·
              refine h36 _ _ ?_
              clear h36
              refine stp (v := .int .i64 (((bitsF (lnF t) (t.take q)).length + k) : Nat)) (o_mv rfl) ?_
              refine stp (v := .int .i64 ((bitsF (lnF t) (t.take q)).length + (k + 1) : Nat)) (o_bin rfl rfl ((v_add64 (by omega)).trans (v_int (by omega)))) ?_
              refine stp (v := .int .i64 ((bitsF (lnF t) (t.take q)).length + (k + 1) : Nat)) (o_mv rfl) ?_
              refine h25 _ _ ?_
              clear h25
              refine stp (v := .int .i64 ((dg : Nat) - 1 - (k : Nat))) (o_mv rfl) ?_
              refine stp (v := .int .i64 (((dg : Nat) - 1 - (k : Nat)) - 1)) (o_bin rfl rfl (v_sub64 (by constructor <;> omega))) ?_
              refine stp (v := .int .i64 (((dg : Nat) - 1 - (k : Nat)) - 1)) (o_mv rfl) ?_
              refine h21 (k + 1, y5_, r5_) _ _ ⟨rfl, by first | rfl | exact v_int (by omega) | exact v_int (by simp) | exact v_int (by simp; omega), by first | rfl | exact v_int (by omega) | exact v_int (by simp) | exact v_int (by simp; omega), rfl, rfl, by first | rfl | exact v_int (by omega) | exact v_int (by simp) | exact v_int (by simp; omega), rfl, hM20, by omega, (by show SlE byteV 5 _ (pk1 (pkA (bitsF (lnF t) t) ((bitsF (lnF t) (t.take q)).length + k)) ((bitsF (lnF t) (t.take q)).length + k) ((bitsF (lnF t) t).getD ((bitsF (lnF t) (t.take q)).length + k) 0)) _; rw [hbit]; rw [show W / 2 ^ (dg - 1 - k) % 2 = 0 by omega, ← pk_F0 (by omega) (by omega)]; exact hy5_)⟩ (by (try dsimp only); omega)
        ·
          refine h12 _ _ ?_
          clear h12
          refine stp (v := .int .i64 (q : Nat)) (o_mv rfl) ?_
          refine stp (v := .int .i64 ((q : Nat) + 1)) (o_bin rfl rfl (v_add64 (by constructor <;> omega))) ?_
          refine stp (v := .int .i64 ((q : Nat) + 1)) (o_mv rfl) ?_
          refine h8 (q + 1, y5_, r5_) _ _ ⟨rfl, by first | rfl | exact v_int (by omega) | exact v_int (by simp) | exact v_int (by simp; omega), by first | rfl | exact v_int (by omega) | exact v_int (by simp) | exact v_int (by simp; omega), rfl, rfl, hM20.keep (by simp), by omega, by rw [hnx, show dg = k by omega]; exact hy5_⟩ (by (try dsimp only); omega)
    ·
      refine h4 _ _ ?_
      clear h4
      refine seq fun K42 h42 => ?_
      refine stp (v := y5_) (o_mv rfl) ?_
      refine stp (v := y5_) (o_mv rfl) ?_
      refine h42 _ _ ?_
      clear h42
      refine ⟨y5_, rfl, ?_⟩
      exact ⟨_, SlE.eqL (hy5_) (by rw [bits_all (by omega)]), hM7.keep (by simp)⟩

set_option maxHeartbeats 1000000 in
set_option maxRecDepth 100000 in
/-- winnowref4.Encode -/
theorem refEncode_ok (x : Value) (t : List UInt8) (w : World) (hx : RdE byteV w x t) (hl : t.length ≤ 1152921504606846976) : Calls Try.prog 36 [x].toArray w (Rt fun r w' => ∃ v rs, r = .tuple [v, .int .i64 (encR t).2].toArray ∧ SlE byteV 5 v (encR t).1 rs ∧ Mem w [] w' [rs]) := by
  have hM0 : Mem w [] w [] := Mem.nil w []
  refine calls_vc mixed Try.func36 rfl C36 (by simp [Try.ntmps36]) ?_
  refine seq fun K1 h1 => ?_
  refine stp (v := .slice none 0 0) (o_mv rfl) ?_
  refine stp (v := .int .i64 0) (o_mv rfl) ?_
  refine h1 _ _ ?_
  clear h1
  refine seq fun K2 h2 => ?_
  refine seq fun K3 h3 => ?_
  refine stp (v := x) (o_mv rfl) ?_
  refine stp (v := .int .i64 (t.length : Nat)) (o_lenR (hx.upd hM0.upd) rfl rfl) ?_
  refine stp (v := .bool (decide ((65536 : Int) < ((t.length : Nat) : Int)))) (o_bin rfl rfl rfl) ?_
  refine h3 _ _ ?_
  clear h3
  refine cndP rfl (fun c4 => ?_) (fun c4 => ?_)
  ·
    refine seq fun K5 h5 => ?_
    refine stp (v := .slice none 0 0) (o_mv rfl) ?_
    refine stp (v := .int .i64 2) (o_mv rfl) ?_
    refine h5 _ _ ?_
    clear h5
    refine ⟨(.tuple [.slice none 0 0, .int .i64 2].toArray), rfl, ?_⟩
    rw [encR_long (by omega)]
    exact ⟨_, [], rfl, Sl.nil 1 5, hM0.keep (by simp)⟩
  ·
    refine h2 _ _ ?_
    clear h2
    refine seq fun K6 h6 => ?_
    refine m_mksE (E := i64V) (z := 0) (n := 256) (c := 256) rfl hM0 (v_int (by omega)) (v_int (by omega)) (by omega) (by omega) (by omega) fun v7 w7 r7 hs7 (hM7 : Mem w [] w7 [r7]) => ?_
    refine stp (v := v7) (o_mv rfl) ?_
    refine h6 _ _ ?_
    clear h6
    refine seq fun K8 h8 => ?_
    refine seq fun K9 h9 => ?_
    refine stp (v := .int .i64 0) (o_mv rfl) ?_
    refine h9 _ _ ?_
    clear h9
    refine lp (n := fun _ _ => False) (ι := (Nat) × (Value) × (List Ent)) (fun ⟨q, y4_, r4_⟩ f w' => f 5 = .int .i64 (q : Nat) ∧ f 4 = y4_ ∧ f 0 = x ∧ Mem w [] w' [r4_] ∧ (q ≤ t.length) ∧ (SlE i64V 2 y4_ (cntP (t.take q)) r4_)) (fun ⟨q, y4_, r4_⟩ => t.length - q) (0, v7, r7) ?_ ?_
    · exact ⟨by first | rfl | exact v_int (by omega) | exact v_int (by simp) | exact v_int (by simp; omega), rfl, rfl, hM7, by omega, by rw [List.take_zero, ← cntP_zero]; exact hs7⟩
    · rintro ⟨q, y4_, r4_⟩ f w10 ⟨e10_5, e10_4, e10_0, hM10, hq, hy4_⟩ K11 h11
      obtain ⟨frm, rfl⟩ : ∃ frm, f = (upd (upd (upd frm 5 (.int .i64 (q : Nat))) 4 (y4_)) 0 (x)) := ⟨f, by rw [upd_self e10_5, upd_self e10_4, upd_self e10_0]⟩
      clear e10_5 e10_4 e10_0
      refine seq fun K12 h12 => ?_
      refine seq fun K13 h13 => ?_
      refine stp (v := .int .i64 (q : Nat)) (o_mv rfl) ?_
      refine stp (v := x) (o_mv rfl) ?_
      refine stp (v := .int .i64 (t.length : Nat)) (o_lenR (hx.upd hM10.upd) rfl rfl) ?_
      refine stp (v := .bool (decide (((q : Nat) : Int) < (t.length : Nat)))) (o_bin rfl rfl rfl) ?_
      refine h13 _ _ ?_
      clear h13
      refine cndP rfl (fun c14 => ?_) (fun c14 => ?_)
      ·
        refine h12 _ _ ?_
        clear h12
        refine seq fun K15 h15 => ?_
        refine stp (v := y4_) (o_mv rfl) ?_
        refine stp (v := x) (o_mv rfl) ?_
        refine stp (v := .int .i64 (q : Nat)) (o_mv rfl) ?_
        refine m_idxE 0 (j := q) (hx.upd hM10.upd) rfl rfl (by omega) fun b16 o16 hp16 => ?_
        refine ld (v := byteV (t.getD q 0)) rfl (hp16) ?_
        refine m_idxE 0 (j := (t.getD q 0).toNat) (hy4_.rd hM10 (i := 0) rfl) rfl rfl (by rw [cntP_len]; exact (t.getD q 0).toNat_lt) fun b17 o17 hp17 => ?_
        have hcb := cntP_bd (t.take q) (t.getD q 0).toNat
        have htl : (t.take q).length ≤ 65536 := by rw [List.length_take]; omega
        refine ld (v := .int .i64 ((cntP (t.take q)).getD ((t.getD q 0).toNat) 0)) rfl (hp17) ?_
        refine stp (v := .int .i64 (((cntP (t.take q)).getD ((t.getD q 0).toNat) 0) + 1)) (o_bin rfl rfl (v_add64 (by constructor <;> omega))) ?_
        refine m_set (E := i64V) (q := ((cntP (t.take q)).getD ((t.getD q 0).toNat) 0) + 1) (j := (t.getD q 0).toNat) hM10 (i := 0) rfl hy4_ rfl rfl (by rw [cntP_len]; exact (t.getD q 0).toNat_lt) (by simp) (rfl) fun w18 r18 u18 he18 hs18 (hM18 : Mem w [] w18 [r18]) => ?_
        refine h15 _ _ ?_
        clear h15
        refine stp (v := .int .i64 (q : Nat)) (o_mv rfl) ?_
        refine stp (v := .int .i64 ((q : Nat) + 1)) (o_bin rfl rfl (v_add64 (by constructor <;> omega))) ?_
        refine stp (v := .int .i64 ((q : Nat) + 1)) (o_mv rfl) ?_
        refine h11 (q + 1, y4_, r18) _ _ ⟨by first | rfl | exact v_int (by omega) | exact v_int (by simp) | exact v_int (by simp; omega), rfl, rfl, hM18, by omega, by rw [← cntP_step (by omega)]; exact hs18⟩ (by (try dsimp only); omega)
      ·
        refine h8 _ _ ?_
        clear h8
        refine seq fun K19 h19 => ?_
        refine stp (v := y4_) (o_mv rfl) ?_
        refine m_call (refLengths_ok _ (cntP (t.take q)) 15 w10 (hy4_.rd hM10 (i := 0) rfl) (by rw [cntP_len]; omega) (by simp only [inK]; omega)) rfl fun v20 w20 ⟨y20, rs20, hr20, hs20, hm20⟩ => ?_
        have hM20 : Mem w [] w20 [r4_, rs20] := hM10.add hm20
        rw [List.take_of_length_le (by omega), lenF_cnt (by omega)] at hr20 hs20
        dsimp only at hr20 hs20
        subst hr20
        refine stp (v := .tuple [y20, .int .i64 0].toArray) (o_mv rfl) ?_
        refine stp (v := y20) (o_ext rfl rfl) ?_
        refine stp (v := .int .i64 0) (o_ext rfl rfl) ?_
        refine stp (v := y20) (o_mv rfl) ?_
        refine stp (v := .int .i64 0) (o_mv rfl) ?_
        refine h19 _ _ ?_
        clear h19
        refine seq fun K21 h21 => ?_
        refine stp (v := y20) (o_mv rfl) ?_
        refine m_call (refCodes_ok _ (lnF t) w20 (hs20.rd hM20 (i := 1) rfl) (by rw [lnF_len]; omega)) rfl fun v22 w22 ⟨y22, rs22, hr22, hs22, hm22⟩ => ?_
        have hM22 : Mem w [] w22 [r4_, rs20, rs22] := hM20.add hm22
        rw [(lnF_codes t).2] at hr22 hs22
        dsimp only at hr22 hs22
        subst hr22
        refine stp (v := .tuple [y22, .int .i64 0].toArray) (o_mv rfl) ?_
        refine stp (v := y22) (o_ext rfl rfl) ?_
        refine stp (v := .int .i64 0) (o_ext rfl rfl) ?_
        refine stp (v := y22) (o_mv rfl) ?_
        refine stp (v := .int .i64 0) (o_mv rfl) ?_
        refine h21 _ _ ?_
        clear h21
        refine seq fun K23 h23 => ?_
        refine stp (v := y20) (o_mv rfl) ?_
        refine m_call (pairs_ok _ (lnF t) w22 (hs20.rd hM22 (i := 1) rfl) (by rw [lnF_len]; omega) (lnF_inB t)) rfl fun v24 w24 ⟨rs24, hs24, hm24⟩ => ?_
        have hM24 : Mem w [] w24 [r4_, rs20, rs22, rs24] := hM22.add hm24
        refine stp (v := v24) (o_mv rfl) ?_
        refine h23 _ _ ?_
        clear h23
        refine seq fun K25 h25 => ?_
        have hHD : (hdrE (lnF t) 0 ++ [0]).length ≤ 1000000 := by
          have h9 := hdrE_len (lnF t) (by rw [lnF_len]; omega) 256 0 (by rw [lnF_len]; omega)
          rw [lnF_len] at h9
          rw [List.length_append, List.length_singleton]; omega
        have hpk := (pkA_ok (bs := (bitsF (lnF t) t)) bits_le (bitsF (lnF t) t).length).len
        have hbl := lnF_bits t t.length (Nat.le_refl _)
        rw [List.take_length] at hbl
        refine stp (v := v24) (o_mv rfl) ?_
        refine stp (v := x) (o_mv rfl) ?_
        refine stp (v := y22) (o_mv rfl) ?_
        refine m_call (words_ok4 _ _ t w24 (hx.upd hM24.upd) (hs22.rd hM24 (i := 2) rfl) (by omega)) rfl fun v26 w26 ⟨rs26, hs26, hm26⟩ => ?_
        have hM26 : Mem w [] w26 [r4_, rs20, rs22, rs24, rs26] := hM24.add hm26
        refine m_appE hM26 (i := 3) rfl hs24 rfl rfl (hs26.rd hM26 (i := 4) rfl) (by first | omega | (simp; omega)) (by omega) fun v27 w27 r27 (hs27 : SlE byteV 5 v27 ((hdrE (lnF t) 0 ++ [0]) ++ (pkA (bitsF (lnF t) t) (bitsF (lnF t) t).length)) r27) (hM27 : Mem w [] w27 [r4_, rs20, rs22, r27, rs26]) => ?_
        refine stp (v := v27) (o_mv rfl) ?_
        refine stp (v := .int .i64 0) (o_mv rfl) ?_
        refine h25 _ _ ?_
        clear h25
        refine ⟨(.tuple [v27, .int .i64 0].toArray), rfl, ?_⟩
        rw [encR_ok (by omega)]
        exact ⟨_, _, rfl, hs27, hM27.keep (by simp; repeat first | exact List.Sublist.refl _ | exact List.sublist_append_left _ _ | refine List.sublist_append_of_sublist_right ?_)⟩
