/- LzDecodes: the law's walk. -/
import Derived.Test.YteanplpnhlgjeaaT10
namespace Go.Proofs.Yteanplpnhlgjeaa.E
open Go
theorem xor1 (c : UInt8) : xorI .u8 (c.toNat : Int) 1 = ((c ^^^ 1).toNat : Int) := by
  have hc := c.toNat_lt
  have h : c.toNat ^^^ 1 < 2 ^ 8 := Nat.xor_lt_two_pow hc (by decide)
  have := xorI_nat (k := .u8) (a := c.toNat) (b := 1) (by simpa [IntKind.bits] using hc) (by decide) (by simp only [inK]; omega)
  rw [show (1 : Int) = ((1 : Nat) : Int) from rfl, this]
  simp
/-- the first i bytes, the lowest bit of each turned -/
def xorT (l : List UInt8) (i : Nat) : List UInt8 := (l.take i).map (· ^^^ 1) ++ l.drop i
theorem xorT_len {l : List UInt8} {i : Nat} (h : i ≤ l.length) : (xorT l i).length = l.length := by unfold xorT; rw [List.length_append, List.length_map, List.length_take, List.length_drop]; omega
theorem xorT_zero (l : List UInt8) : xorT l 0 = l := by simp [xorT]
theorem xorT_at {l : List UInt8} {i : Nat} (h : i < l.length) : (xorT l i).getD i 0 = l.getD i 0 := by
  unfold xorT
  rw [appG2 0 (by rw [List.length_map, List.length_take]; omega), List.length_map, List.length_take, show i - min i l.length = 0 by omega, dropG 0 h]; rfl
theorem xorT_step {l : List UInt8} {i : Nat} (h : i < l.length) : (xorT l i).set i ((xorT l i).getD i 0 ^^^ 1) = xorT l (i + 1) := by
  rw [xorT_at h]
  unfold xorT
  rw [List.set_append_right _ _ (by rw [List.length_map, List.length_take]; omega), List.length_map, List.length_take, show i - min i l.length = 0 by omega, dropG 0 h, List.set_cons_zero, takeG 0 h, List.map_append, List.append_assoc]; rfl
def turnP (l : List UInt8) : List UInt8 := l.reverse.map (· ^^^ 1)
theorem turnP_len (l : List UInt8) : (turnP l).length = l.length := by simp [turnP]
theorem xorT_all {l : List UInt8} {i : Nat} (h : l.length ≤ i) : xorT l i = l.map (· ^^^ 1) := by unfold xorT; rw [List.take_of_length_le h, List.drop_eq_nil_of_le h, List.append_nil]
theorem bs_tks {us : List Tk} {b : List UInt8} {n : Int} (h : us.map Tk.p = (tksF b n).1) : ∀ t ∈ us, t.bs.length ≤ 65536 := by
  intro t ht
  have hm : t.p ∈ (tksF b n).1 := by rw [← h]; exact List.mem_map.2 ⟨t, ht, rfl⟩
  have := tks_bd.1 _ hm
  simp only at this; omega

/-- winnowlaw3.turned -/
theorem turned_ok (x : Value) (l : List UInt8) (r0 : List Ent) (w : World) (hs0 : SlE byteV 5 x l r0) (hr : Res w r0) (hl : l.length ≤ 140737488355328) : Calls Try.prog 25 [x].toArray w (Rt fun r w' => ∃ r' rs, SlE byteV 5 x (turnP l) r' ∧ SlE byteV 5 r (turnP l) rs ∧ Mem w (ids r0) w' [r', rs]) := by
  have hM0 : Mem w (ids r0) w [r0] := Mem.start hr
  have hlr : l.reverse.length = l.length := List.length_reverse
  refine calls_vc mixed Try.func25 rfl C25 (by simp [Try.ntmps25]) ?_
  refine seq fun K1 h1 => ?_
  refine stp (v := .slice none 0 0) (o_mv rfl) ?_
  refine h1 _ _ ?_
  clear h1
  refine seq fun K2 h2 => ?_
  refine seq fun K3 h3 => ?_
  refine stp (v := .int .i64 0) (o_mv rfl) ?_
  refine h3 _ _ ?_
  clear h3
  refine lp (n := fun _ _ => False) (ι := (Nat) × (List Ent)) (fun ⟨i, r⟩ f w' => f 0 = x ∧ f 3 = .int .i64 (i : Nat) ∧ Mem w (ids r0) w' [r] ∧ (SlE byteV 5 x (revI 0 i l) r) ∧ (i ≤ l.length) ∧ ((revI 0 i l).length = l.length)) (fun ⟨i, r⟩ => l.length - i) (0, r0) ?_ ?_
  · exact ⟨rfl, by first | rfl | exact v_int (by omega) | exact v_int (by simp) | exact v_int (by simp; omega), hM0, by rw [revI_zero]; exact hs0, by omega, by rw [revI_zero]⟩
  · rintro ⟨i, r⟩ f w4 ⟨e4_0, e4_3, hM4, hs, hi, hq⟩ K5 h5
    obtain ⟨frm, rfl⟩ : ∃ frm, f = (upd (upd frm 0 (x)) 3 (.int .i64 (i : Nat))) := ⟨f, by rw [upd_self e4_0, upd_self e4_3]⟩
    clear e4_0 e4_3
    refine seq fun K6 h6 => ?_
    refine seq fun K7 h7 => ?_
    refine stp (v := .int .i64 (i : Nat)) (o_mv rfl) ?_
    refine stp (v := x) (o_mv rfl) ?_
    refine stp (v := .int .i64 ((revI 0 i l).length : Nat)) (o_lenR (hs.rd hM4 (i := 0) rfl) rfl rfl) ?_
    refine stp (v := .int .i64 (((revI 0 i l).length : Nat) / 2)) (o_quo rfl rfl (by omega) (v_quo (by omega) (by omega) (by simp only [inK]; omega))) ?_
    refine stp (v := .bool (decide (((i : Nat) : Int) < (((revI 0 i l).length : Nat) / 2)))) (o_bin rfl rfl rfl) ?_
    refine h7 _ _ ?_
    clear h7
    refine cndP rfl (fun c8 => ?_) (fun c8 => ?_)
    ·
      refine h6 _ _ ?_
      clear h6
      refine seq fun K9 h9 => ?_
      refine seq fun K10 h10 => ?_
      refine stp (v := x) (o_mv rfl) ?_
      refine stp (v := .int .i64 (i : Nat)) (o_mv rfl) ?_
      refine m_idxE 0 (j := i) (hs.rd hM4 (i := 0) rfl) rfl rfl (by omega) fun b11 o11 hp11 => ?_
      refine ld (v := byteV ((revI 0 i l).getD i 0)) rfl (hp11) ?_
      refine stp (v := byteV ((revI 0 i l).getD i 0)) (o_mv rfl) ?_
      refine h10 _ _ ?_
      clear h10
      refine seq fun K12 h12 => ?_
      refine stp (v := x) (o_mv rfl) ?_
      refine stp (v := .int .i64 (i : Nat)) (o_mv rfl) ?_
      refine stp (v := x) (o_mv rfl) ?_
      refine stp (v := x) (o_mv rfl) ?_
      refine stp (v := .int .i64 ((revI 0 i l).length : Nat)) (o_lenR (hs.rd hM4 (i := 0) rfl) rfl rfl) ?_
      refine stp (v := .int .i64 (((revI 0 i l).length : Nat) - 1)) (o_bin rfl rfl (v_sub64 (by constructor <;> omega))) ?_
      refine stp (v := .int .i64 (i : Nat)) (o_mv rfl) ?_
      refine stp (v := .int .i64 ((((revI 0 i l).length : Nat) - 1) - (i : Nat))) (o_bin rfl rfl (v_sub64 (by constructor <;> omega))) ?_
      refine m_idxE 0 (j := (l.length - 1 - i)) (hs.rd hM4 (i := 0) rfl) rfl (v_int (by omega)) (by omega) fun b13 o13 hp13 => ?_
      refine ld (v := byteV ((revI 0 i l).getD (l.length - 1 - i) 0)) rfl (hp13) ?_
      refine m_set (E := byteV) (q := (revI 0 i l).getD (l.length - 1 - i) 0) (j := i) hM4 (i := 0) rfl hs rfl rfl (by omega) (by simp) (rfl) fun w14 r14 u14 he14 hs14 (hM14 : Mem w (ids r0) w14 [r14]) => ?_
      refine h12 _ _ ?_
      clear h12
      have hsl9 : ((revI 0 i l).set i ((revI 0 i l).getD (l.length - 1 - i) 0)).length = (revI 0 i l).length := List.length_set
      refine stp (v := x) (o_mv rfl) ?_
      refine stp (v := x) (o_mv rfl) ?_
      refine stp (v := .int .i64 (((revI 0 i l).set i ((revI 0 i l).getD (l.length - 1 - i) 0)).length : Nat)) (o_lenR (hs14.rd hM14 (i := 0) rfl) rfl rfl) ?_
      refine stp (v := .int .i64 ((((revI 0 i l).set i ((revI 0 i l).getD (l.length - 1 - i) 0)).length : Nat) - 1)) (o_bin rfl rfl (v_sub64 (by constructor <;> omega))) ?_
      refine stp (v := .int .i64 (i : Nat)) (o_mv rfl) ?_
      refine stp (v := .int .i64 (((((revI 0 i l).set i ((revI 0 i l).getD (l.length - 1 - i) 0)).length : Nat) - 1) - (i : Nat))) (o_bin rfl rfl (v_sub64 (by constructor <;> omega))) ?_
      refine stp (v := byteV ((revI 0 i l).getD i 0)) (o_mv rfl) ?_
      refine m_set (E := byteV) (q := (revI 0 i l).getD i 0) (j := (l.length - 1 - i)) hM14 (i := 0) rfl hs14 rfl (v_int (by omega)) (by omega) (by simp) (rfl) fun w15 r15 u15 he15 hs15 (hM15 : Mem w (ids r0) w15 [r15]) => ?_
      refine h9 _ _ ?_
      clear h9
      refine stp (v := .int .i64 (i : Nat)) (o_mv rfl) ?_
      refine stp (v := .int .i64 ((i : Nat) + 1)) (o_bin rfl rfl (v_add64 (by constructor <;> omega))) ?_
      refine stp (v := .int .i64 ((i : Nat) + 1)) (o_mv rfl) ?_
      refine h5 (i + 1, r15) _ _ ⟨rfl, by first | rfl | exact v_int (by omega) | exact v_int (by simp) | exact v_int (by simp; omega), hM15, by rw [← revI_succ 0 (by omega)]; exact back_el 0 hs (by omega) hs15, by omega, by rw [revI_length]⟩ (by dsimp only; omega)
    ·
      refine h2 _ _ ?_
      clear h2
      refine seq fun K16 h16 => ?_
      refine seq fun K17 h17 => ?_
      refine stp (v := .int .i64 0) (o_mv rfl) ?_
      refine h17 _ _ ?_
      clear h17
      refine lp (n := fun _ _ => False) (ι := (Nat) × (List Ent)) (fun ⟨i, r⟩ f w' => f 0 = x ∧ f 5 = .int .i64 (i : Nat) ∧ Mem w (ids r0) w' [r] ∧ (SlE byteV 5 x (xorT l.reverse i) r) ∧ (i ≤ l.reverse.length) ∧ ((xorT l.reverse i).length = l.reverse.length)) (fun ⟨i, r⟩ => l.reverse.length - i) (0, r) ?_ ?_
      · exact ⟨rfl, by first | rfl | exact v_int (by omega) | exact v_int (by simp) | exact v_int (by simp; omega), hM4, by rw [xorT_zero, ← revI_end 0 (i := i) (by omega)]; exact hs, by omega, by rw [xorT_zero]⟩
      · rintro ⟨i, r⟩ f w18 ⟨e18_0, e18_5, hM18, hs, hi, hq⟩ K19 h19
        obtain ⟨frm, rfl⟩ : ∃ frm, f = (upd (upd frm 0 (x)) 5 (.int .i64 (i : Nat))) := ⟨f, by rw [upd_self e18_0, upd_self e18_5]⟩
        clear e18_0 e18_5
        refine seq fun K20 h20 => ?_
        refine seq fun K21 h21 => ?_
        refine stp (v := .int .i64 (i : Nat)) (o_mv rfl) ?_
        refine stp (v := x) (o_mv rfl) ?_
        refine stp (v := .int .i64 ((xorT l.reverse i).length : Nat)) (o_lenR (hs.rd hM18 (i := 0) rfl) rfl rfl) ?_
        refine stp (v := .bool (decide (((i : Nat) : Int) < ((xorT l.reverse i).length : Nat)))) (o_bin rfl rfl rfl) ?_
        refine h21 _ _ ?_
        clear h21
        refine cndP rfl (fun c22 => ?_) (fun c22 => ?_)
        ·
          refine h20 _ _ ?_
          clear h20
          refine seq fun K23 h23 => ?_
          refine stp (v := x) (o_mv rfl) ?_
          refine stp (v := .int .i64 (i : Nat)) (o_mv rfl) ?_
          refine stp (v := x) (o_mv rfl) ?_
          refine stp (v := .int .i64 (i : Nat)) (o_mv rfl) ?_
          refine m_idxE 0 (j := i) (hs.rd hM18 (i := 0) rfl) rfl rfl (by omega) fun b24 o24 hp24 => ?_
          refine ld (v := byteV ((xorT l.reverse i).getD i 0)) rfl (hp24) ?_
          refine stp (v := .int .u8 ((((xorT l.reverse i).getD i 0) ^^^ 1).toNat : Int)) (o_bin rfl rfl (v_int (xor1 _))) ?_
          refine m_set (E := byteV) (q := (xorT l.reverse i).getD i 0 ^^^ 1) (j := i) hM18 (i := 0) rfl hs rfl rfl (by omega) (by simp) (rfl) fun w25 r25 u25 he25 hs25 (hM25 : Mem w (ids r0) w25 [r25]) => ?_
          refine h23 _ _ ?_
          clear h23
          refine stp (v := .int .i64 (i : Nat)) (o_mv rfl) ?_
          refine stp (v := .int .i64 ((i : Nat) + 1)) (o_bin rfl rfl (v_add64 (by constructor <;> omega))) ?_
          refine stp (v := .int .i64 ((i : Nat) + 1)) (o_mv rfl) ?_
          refine h19 (i + 1, r25) _ _ ⟨rfl, by first | rfl | exact v_int (by omega) | exact v_int (by simp) | exact v_int (by simp; omega), hM25, by rw [← xorT_step (by omega)]; exact hs25, by omega, xorT_len (by omega)⟩ (by dsimp only; omega)
        ·
          refine h16 _ _ ?_
          clear h16
          refine seq fun K26 h26 => ?_
          refine m_bs hM18 rfl fun b27 w28 (hM28 : Mem w (ids r0) w28 [r, [⟨b27, 5, []⟩]]) => ?_
          refine stp (v := x) (o_mv rfl) ?_
          have hs29 : SlE byteV 5 (.slice (some ⟨b27, 0, none⟩) 0 0) [] [⟨b27, 5, []⟩] := SlE.lit (l := []) rfl
          refine m_appE hM28 (i := 1) rfl hs29 rfl rfl (hs.rd hM28 (i := 0) rfl) (by first | omega | (simp; omega)) (by omega) fun v30 w30 r30 (hs30 : SlE byteV 5 v30 (xorT l.reverse i) r30) (hM30 : Mem w (ids r0) w30 [r, r30]) => ?_
          refine stp (v := v30) (o_mv rfl) ?_
          refine h26 _ _ ?_
          clear h26
          refine ⟨v30, rfl, ?_⟩
          have he : xorT l.reverse i = turnP l := xorT_all (by omega)
          rw [he] at hs
          exact ⟨_, _, hs, by rw [← he]; exact hs30, hM30.keep (by simp)⟩

set_option maxRecDepth 100000 in
/-- winnowlaw3.LzDecodes -/
theorem LzDecodes_ok (x : Value) (b : List UInt8) (n : Int) (hn : inK .i64 n) (w : World) (hx : RdE byteV w x b) (hl : b.length ≤ 140737488351232) : Calls Try.prog 6 [x, .int .i64 n].toArray w (Rt fun r w' => r = .bool true ∧ Upd [] w w') := by
  have hM0 : Mem w [] w [] := Mem.nil w []
  simp only [inK] at hn
  refine calls_vc mixed Try.func6 rfl C6 (by simp [Try.ntmps6]) ?_
  refine seq fun K1 h1 => ?_
  refine stp (v := .bool false) (o_mv rfl) ?_
  refine h1 _ _ ?_
  clear h1
  refine seq fun K2 h2 => ?_
  refine stp (v := x) (o_mv rfl) ?_
  refine stp (v := .int .i64 n) (o_mv rfl) ?_
  refine m_call (refDecode_ok _ b n w (hx.upd hM0.upd) (by first | omega | (simp; done) | (simp; omega)) (by simp only [inK]; omega)) rfl fun v3 w3 ⟨y3, rs3, hr3, hs3, hm3⟩ => ?_
  have hM3 : Mem w [] w3 [rs3] := hM0.add hm3
  subst hr3
  have hld3 := decF_len b n
  refine stp (v := .tuple [y3, .int .i64 ((decF b n).2)].toArray) (o_mv rfl) ?_
  refine stp (v := y3) (o_ext rfl rfl) ?_
  refine stp (v := .int .i64 ((decF b n).2)) (o_ext rfl rfl) ?_
  refine stp (v := y3) (o_mv rfl) ?_
  refine stp (v := .int .i64 ((decF b n).2)) (o_mv rfl) ?_
  refine h2 _ _ ?_
  clear h2
  refine seq fun K4 h4 => ?_
  refine stp (v := x) (o_mv rfl) ?_
  refine stp (v := .int .i64 n) (o_mv rfl) ?_
  refine m_call (refTokens_ok _ b n w3 (hx.upd hM3.upd) (by first | omega | (simp; done) | (simp; omega)) (by simp only [inK]; omega)) rfl fun v5 w5 ⟨y5, us5, rA5, rB5, hr5, hs5, hn5, hp5, hm5⟩ => ?_
  have hM5 : Mem w [] w5 [rs3, rA5, rB5] := hM3.add2 hm5
  subst hr5
  have hlu5 := len_tks hp5
  refine stp (v := .tuple [y5, .int .i64 ((tksF b n).2)].toArray) (o_mv rfl) ?_
  refine stp (v := y5) (o_ext rfl rfl) ?_
  refine stp (v := .int .i64 ((tksF b n).2)) (o_ext rfl rfl) ?_
  refine stp (v := y5) (o_mv rfl) ?_
  refine stp (v := .int .i64 ((tksF b n).2)) (o_mv rfl) ?_
  refine h4 _ _ ?_
  clear h4
  refine seq fun K6 h6 => ?_
  refine stp (v := x) (o_mv rfl) ?_
  refine m_call (roomy_ok _ b w5 (hx.upd hM5.upd) (by first | omega | (simp; done) | (simp; omega))) rfl fun v7 w7 ⟨bg7, cp7, rs7, hr7, hs7, hcp7, hm7⟩ => ?_
  have hM7 : Mem w [] w7 [rs3, rA5, rB5, rs7] := hM5.add hm7
  subst hr7
  refine stp (v := (.slice (some ⟨bg7, 0, none⟩) b.length cp7)) (o_mv rfl) ?_
  refine h6 _ _ ?_
  clear h6
  refine seq fun K8 h8 => ?_
  refine stp (v := (.slice (some ⟨bg7, 0, none⟩) b.length cp7)) (o_mv rfl) ?_
  refine stp (v := .int .i64 n) (o_mv rfl) ?_
  refine m_call (Decode_ok _ b n w7 (hs7.cutTo.rd hM7 (i := 3) rfl) (by first | omega | (simp; done) | (simp; omega)) (by simp only [inK]; omega)) rfl fun v9 w9 ⟨y9, rs9, hr9, hs9, hm9⟩ => ?_
  have hM9 : Mem w [] w9 [rs3, rA5, rB5, rs7, rs9] := hM7.add hm9
  subst hr9
  have hld9 := decF_len b n
  refine stp (v := .tuple [y9, .int .i64 ((decF b n).2)].toArray) (o_mv rfl) ?_
  refine stp (v := y9) (o_ext rfl rfl) ?_
  refine stp (v := .int .i64 ((decF b n).2)) (o_ext rfl rfl) ?_
  refine stp (v := y9) (o_mv rfl) ?_
  refine stp (v := .int .i64 ((decF b n).2)) (o_mv rfl) ?_
  refine h8 _ _ ?_
  clear h8
  refine seq fun K10 h10 => ?_
  refine stp (v := (.slice (some ⟨bg7, 0, none⟩) b.length cp7)) (o_mv rfl) ?_
  refine stp (v := .int .i64 n) (o_mv rfl) ?_
  refine m_call (Decode_ok _ b n w9 (hs7.cutTo.rd hM9 (i := 3) rfl) (by first | omega | (simp; done) | (simp; omega)) (by simp only [inK]; omega)) rfl fun v11 w11 ⟨y11, rs11, hr11, hs11, hm11⟩ => ?_
  have hM11 : Mem w [] w11 [rs3, rA5, rB5, rs7, rs9, rs11] := hM9.add hm11
  subst hr11
  have hld11 := decF_len b n
  refine stp (v := .tuple [y11, .int .i64 ((decF b n).2)].toArray) (o_mv rfl) ?_
  refine stp (v := y11) (o_ext rfl rfl) ?_
  refine stp (v := .int .i64 ((decF b n).2)) (o_ext rfl rfl) ?_
  refine stp (v := y11) (o_mv rfl) ?_
  refine stp (v := .int .i64 ((decF b n).2)) (o_mv rfl) ?_
  refine h10 _ _ ?_
  clear h10
  refine seq fun K12 h12 => ?_
  refine stp (v := (.slice (some ⟨bg7, 0, none⟩) b.length cp7)) (o_mv rfl) ?_
  refine stp (v := .int .i64 n) (o_mv rfl) ?_
  refine m_call (Tokens_ok _ b n w11 (hs7.cutTo.rd hM11 (i := 3) rfl) (by first | omega | (simp; done) | (simp; omega)) (by simp only [inK]; omega)) rfl fun v13 w13 ⟨y13, us13, rA13, rB13, hr13, hs13, hn13, hp13, hm13⟩ => ?_
  have hM13 : Mem w [] w13 [rs3, rA5, rB5, rs7, rs9, rs11, rA13, rB13] := hM11.add2 hm13
  subst hr13
  have hlu13 := len_tks hp13
  refine stp (v := .tuple [y13, .int .i64 ((tksF b n).2)].toArray) (o_mv rfl) ?_
  refine stp (v := y13) (o_ext rfl rfl) ?_
  refine stp (v := .int .i64 ((tksF b n).2)) (o_ext rfl rfl) ?_
  refine stp (v := y13) (o_mv rfl) ?_
  refine stp (v := .int .i64 ((tksF b n).2)) (o_mv rfl) ?_
  refine h12 _ _ ?_
  clear h12
  refine seq fun K14 h14 => ?_
  refine stp (v := (.slice (some ⟨bg7, 0, none⟩) b.length cp7)) (o_mv rfl) ?_
  refine stp (v := .int .i64 n) (o_mv rfl) ?_
  refine m_call (Tokens_ok _ b n w13 (hs7.cutTo.rd hM13 (i := 3) rfl) (by first | omega | (simp; done) | (simp; omega)) (by simp only [inK]; omega)) rfl fun v15 w15 ⟨y15, us15, rA15, rB15, hr15, hs15, hn15, hp15, hm15⟩ => ?_
  have hM15 : Mem w [] w15 [rs3, rA5, rB5, rs7, rs9, rs11, rA13, rB13, rA15, rB15] := hM13.add2 hm15
  subst hr15
  have hlu15 := len_tks hp15
  refine stp (v := .tuple [y15, .int .i64 ((tksF b n).2)].toArray) (o_mv rfl) ?_
  refine stp (v := y15) (o_ext rfl rfl) ?_
  refine stp (v := .int .i64 ((tksF b n).2)) (o_ext rfl rfl) ?_
  refine stp (v := y15) (o_mv rfl) ?_
  refine stp (v := .int .i64 ((tksF b n).2)) (o_mv rfl) ?_
  refine h14 _ _ ?_
  clear h14
  refine seq fun K16 h16 => ?_
  refine m_bs hM15 rfl fun b17 w18 (hM18 : Mem w [] w18 [rs3, rA5, rB5, rs7, rs9, rs11, rA13, rB13, rA15, rB15, [⟨b17, 5, [.int .u8 1, .int .u8 97, .int .u8 1, .int .u8 1]⟩]]) => ?_
  refine m_call (Decode_ok _ ([1, 97, 1, 1]) 6 w18 (own_rdE (E := byteV) (l := [1, 97, 1, 1]) (hM18.at (i := 10) (j := 0) rfl rfl) rfl) (by first | omega | (simp; done) | (simp; omega)) (by simp only [inK]; omega)) rfl fun v19 w19 ⟨y19, rs19, hr19, hs19, hm19⟩ => ?_
  have hM19 : Mem w [] w19 [rs3, rA5, rB5, rs7, rs9, rs11, rA13, rB13, rA15, rB15, [⟨b17, 5, [.int .u8 1, .int .u8 97, .int .u8 1, .int .u8 1]⟩], rs19] := hM18.add hm19
  subst hr19
  have hld19 := decF_len ([1, 97, 1, 1]) 6
  refine h16 _ _ ?_
  clear h16
  refine seq fun K20 h20 => ?_
  refine m_bs hM19 rfl fun b21 w22 (hM22 : Mem w [] w22 [rs3, rA5, rB5, rs7, rs9, rs11, rA13, rB13, rA15, rB15, [⟨b17, 5, [.int .u8 1, .int .u8 97, .int .u8 1, .int .u8 1]⟩], rs19, [⟨b21, 5, [.int .u8 1, .int .u8 97, .int .u8 1, .int .u8 1]⟩]]) => ?_
  refine m_call (Tokens_ok _ ([1, 97, 1, 1]) 6 w22 (own_rdE (E := byteV) (l := [1, 97, 1, 1]) (hM22.at (i := 12) (j := 0) rfl rfl) rfl) (by first | omega | (simp; done) | (simp; omega)) (by simp only [inK]; omega)) rfl fun v23 w23 ⟨y23, us23, rA23, rB23, hr23, hs23, hn23, hp23, hm23⟩ => ?_
  have hM23 : Mem w [] w23 [rs3, rA5, rB5, rs7, rs9, rs11, rA13, rB13, rA15, rB15, [⟨b17, 5, [.int .u8 1, .int .u8 97, .int .u8 1, .int .u8 1]⟩], rs19, [⟨b21, 5, [.int .u8 1, .int .u8 97, .int .u8 1, .int .u8 1]⟩], rA23, rB23] := hM22.add2 hm23
  subst hr23
  have hlu23 := len_tks hp23
  refine h20 _ _ ?_
  clear h20
  refine seq fun K24 h24 => ?_
  refine stp (v := .int .i64 ((decF b n).2)) (o_mv rfl) ?_
  refine stp (v := .int .i64 ((decF b n).2)) (o_mv rfl) ?_
  refine stp (v := .bool true) (o_bin rfl rfl v_eqT) ?_
  refine stp (v := .bool true) (o_mv rfl) ?_
  refine splitT rfl ?_
  refine stg rfl (v := .int .i64 ((tksF b n).2)) (o_mv rfl) ?_
  refine stg rfl (v := .int .i64 ((tksF b n).2)) (o_mv rfl) ?_
  refine stg rfl (v := .bool true) (o_bin rfl rfl v_eqT) ?_
  refine stp (v := .bool true) (o_pickT rfl rfl) ?_
  refine stp (v := .bool true) (o_mv rfl) ?_
  refine splitT rfl ?_
  refine stg rfl (v := y9) (o_mv rfl) ?_
  refine stg rfl (v := y3) (o_mv rfl) ?_
  refine gyesl rfl ?_
  refine m_call (sameBytes_ok _ _ ((decF b n).1) ((decF b n).1) w23 (hs9.rd hM23 (i := 4) rfl) (hs3.rd hM23 (i := 0) rfl) (by first | omega | (simp; done) | (simp; omega))) rfl fun v25 w25 ⟨hr25, hu25⟩ => ?_
  have hM25 : Mem w [] w25 [rs3, rA5, rB5, rs7, rs9, rs11, rA13, rB13, rA15, rB15, [⟨b17, 5, [.int .u8 1, .int .u8 97, .int .u8 1, .int .u8 1]⟩], rs19, [⟨b21, 5, [.int .u8 1, .int .u8 97, .int .u8 1, .int .u8 1]⟩], rA23, rB23] := hM23.pure hu25
  obtain rfl : v25 = .bool true := hr25.trans (by simp)
  clear hr25
  refine stp (v := .bool true) (o_pickT rfl rfl) ?_
  refine stp (v := .bool true) (o_mv rfl) ?_
  refine splitT rfl ?_
  refine stg rfl (v := y11) (o_mv rfl) ?_
  refine stg rfl (v := y3) (o_mv rfl) ?_
  refine gyesl rfl ?_
  refine m_call (sameBytes_ok _ _ ((decF b n).1) ((decF b n).1) w25 (hs11.rd hM25 (i := 5) rfl) (hs3.rd hM25 (i := 0) rfl) (by first | omega | (simp; done) | (simp; omega))) rfl fun v26 w26 ⟨hr26, hu26⟩ => ?_
  have hM26 : Mem w [] w26 [rs3, rA5, rB5, rs7, rs9, rs11, rA13, rB13, rA15, rB15, [⟨b17, 5, [.int .u8 1, .int .u8 97, .int .u8 1, .int .u8 1]⟩], rs19, [⟨b21, 5, [.int .u8 1, .int .u8 97, .int .u8 1, .int .u8 1]⟩], rA23, rB23] := hM25.pure hu26
  obtain rfl : v26 = .bool true := hr26.trans (by simp)
  clear hr26
  refine stp (v := .bool true) (o_pickT rfl rfl) ?_
  refine stp (v := .bool true) (o_mv rfl) ?_
  refine splitT rfl ?_
  refine stg rfl (v := y13) (o_mv rfl) ?_
  refine stg rfl (v := y5) (o_mv rfl) ?_
  refine gyesl rfl ?_
  refine m_call (same_ok _ _ us13 us5 w26 (hs13.rd hM26 (i := 6) rfl) (hs5.rd hM26 (i := 1) rfl) (fun t ht => (((ok_tks (w := w26) hp13 (hn13.rdE hM26 (i := 7) rfl) : ∀ t ∈ us13, Tk.ok w26 t)) t ht).1) (fun t ht => (((ok_tks (w := w26) hp5 (hn5.rdE hM26 (i := 2) rfl) : ∀ t ∈ us5, Tk.ok w26 t)) t ht).1) (hp13.trans hp5.symm) (by omega) (fun t ht => by have := (((ok_tks (w := w26) hp5 (hn5.rdE hM26 (i := 2) rfl) : ∀ t ∈ us5, Tk.ok w26 t)) t ht).2.2.2; omega)) rfl fun v27 w27 ⟨hr27, hu27⟩ => ?_
  have hM27 : Mem w [] w27 [rs3, rA5, rB5, rs7, rs9, rs11, rA13, rB13, rA15, rB15, [⟨b17, 5, [.int .u8 1, .int .u8 97, .int .u8 1, .int .u8 1]⟩], rs19, [⟨b21, 5, [.int .u8 1, .int .u8 97, .int .u8 1, .int .u8 1]⟩], rA23, rB23] := hM26.pure hu27
  subst hr27
  refine stp (v := .bool true) (o_pickT rfl rfl) ?_
  refine stp (v := .bool true) (o_mv rfl) ?_
  refine splitT rfl ?_
  refine stg rfl (v := y15) (o_mv rfl) ?_
  refine stg rfl (v := y5) (o_mv rfl) ?_
  refine gyesl rfl ?_
  refine m_call (same_ok _ _ us15 us5 w27 (hs15.rd hM27 (i := 8) rfl) (hs5.rd hM27 (i := 1) rfl) (fun t ht => (((ok_tks (w := w27) hp15 (hn15.rdE hM27 (i := 9) rfl) : ∀ t ∈ us15, Tk.ok w27 t)) t ht).1) (fun t ht => (((ok_tks (w := w27) hp5 (hn5.rdE hM27 (i := 2) rfl) : ∀ t ∈ us5, Tk.ok w27 t)) t ht).1) (hp15.trans hp5.symm) (by omega) (fun t ht => by have := (((ok_tks (w := w27) hp5 (hn5.rdE hM27 (i := 2) rfl) : ∀ t ∈ us5, Tk.ok w27 t)) t ht).2.2.2; omega)) rfl fun v28 w28 ⟨hr28, hu28⟩ => ?_
  have hM28 : Mem w [] w28 [rs3, rA5, rB5, rs7, rs9, rs11, rA13, rB13, rA15, rB15, [⟨b17, 5, [.int .u8 1, .int .u8 97, .int .u8 1, .int .u8 1]⟩], rs19, [⟨b21, 5, [.int .u8 1, .int .u8 97, .int .u8 1, .int .u8 1]⟩], rA23, rB23] := hM27.pure hu28
  subst hr28
  refine stp (v := .bool true) (o_pickT rfl rfl) ?_
  refine stp (v := .bool true) (o_mv rfl) ?_
  refine h24 _ _ ?_
  clear h24
  refine seq fun K29 h29 => ?_
  refine stp (v := y13) (o_mv rfl) ?_
  refine m_call (spoilt_ok _ us13 rA13 rB13 w28 hs13 hn13 (hM28.res2 6 7 rfl rfl (by decide)) (by omega) (bs_tks hp13)) rfl fun v30 w30 ⟨N30, hr30, hm30⟩ => ?_
  have hM30 : Mem w [] w30 [rs3, rA5, rB5, rs7, rs9, rs11, rA13, [], rA15, rB15, [⟨b17, 5, [.int .u8 1, .int .u8 97, .int .u8 1, .int .u8 1]⟩], rs19, [⟨b21, 5, [.int .u8 1, .int .u8 97, .int .u8 1, .int .u8 1]⟩], rA23, rB23] := hM28.step2 6 7 rfl rfl (by decide) hm30.addNil
  subst hr30
  refine stp (v := .int .i64 (N30 : Nat)) (o_mv rfl) ?_
  refine h29 _ _ ?_
  clear h29
  refine seq fun K31 h31 => ?_
  refine stp (v := y9) (o_mv rfl) ?_
  refine m_call (full_ok _ ((decF b n).1) rs9 w30 hs9 (hM30.res (i := 4) rfl) (by first | omega | (simp; done) | (simp; omega))) rfl fun v32 w32 ⟨hr32, hm32⟩ => ?_
  have hM32 : Mem w [] w32 [rs3, rA5, rB5, rs7, [], rs11, rA13, [], rA15, rB15, [⟨b17, 5, [.int .u8 1, .int .u8 97, .int .u8 1, .int .u8 1]⟩], rs19, [⟨b21, 5, [.int .u8 1, .int .u8 97, .int .u8 1, .int .u8 1]⟩], rA23, rB23] := hM30.step 4 (r' := []) rfl (hm32.keep (by simp))
  subst hr32
  refine stp (v := .int .i64 (((decF b n).1).length + 64 : Nat)) (o_mv rfl) ?_
  refine h31 _ _ ?_
  clear h31
  refine seq fun K33 h33 => ?_
  refine seq fun K34 h34 => ?_
  refine stp (v := .int .i64 0) (o_mv rfl) ?_
  refine h34 _ _ ?_
  clear h34
  refine lp (n := fun _ _ => False) (ι := (Nat) × (List Tk) × (Value) × (List Ent)) (fun ⟨i, la, y14_, r14_⟩ f w' => f 14 = y14_ ∧ f 21 = .int .i64 (i : Nat) ∧ f 0 = x ∧ f 1 = .int .i64 n ∧ f 5 = y3 ∧ f 7 = y5 ∧ f 9 = (.slice (some ⟨bg7, 0, none⟩) b.length cp7) ∧ f 12 = y11 ∧ f 16 = y15 ∧ f 18 = .bool true ∧ f 19 = .int .i64 (N30 : Nat) ∧ f 20 = .int .i64 (((decF b n).1).length + 64 : Nat) ∧ Mem w [] w' [rs3, rA5, rB5, rs7, [], rs11, r14_, [], rA15, rB15, [⟨b17, 5, [.int .u8 1, .int .u8 97, .int .u8 1, .int .u8 1]⟩], rs19, [⟨b21, 5, [.int .u8 1, .int .u8 97, .int .u8 1, .int .u8 1]⟩], rA23, rB23] ∧ (la.length = us13.length) ∧ (i ≤ la.length) ∧ (SlS tokC 3 31 y14_ (la) r14_)) (fun ⟨i, la, y14_, r14_⟩ => us13.length - i) (0, us13, y13, rA13) ?_ ?_
  · exact ⟨rfl, by first | rfl | exact v_int (by omega) | exact v_int (by simp) | exact v_int (by simp; omega), rfl, by first | rfl | exact v_int (by omega) | exact v_int (by simp) | exact v_int (by simp; omega), rfl, rfl, rfl, rfl, rfl, rfl, by first | rfl | exact v_int (by omega) | exact v_int (by simp) | exact v_int (by simp; omega), by first | rfl | exact v_int (by omega) | exact v_int (by simp) | exact v_int (by simp; omega), hM32, rfl, by omega, by first | exact hs13 | simpa using hs13⟩
  · rintro ⟨i, la, y14_, r14_⟩ f w35 ⟨e35_14, e35_21, e35_0, e35_1, e35_5, e35_7, e35_9, e35_12, e35_16, e35_18, e35_19, e35_20, hM35, hla, hi, hy14_⟩ K36 h36
    obtain ⟨frm, rfl⟩ : ∃ frm, f = (upd (upd (upd (upd (upd (upd (upd (upd (upd (upd (upd (upd frm 14 (y14_)) 21 (.int .i64 (i : Nat))) 0 (x)) 1 (.int .i64 n)) 5 (y3)) 7 (y5)) 9 ((.slice (some ⟨bg7, 0, none⟩) b.length cp7))) 12 (y11)) 16 (y15)) 18 (.bool true)) 19 (.int .i64 (N30 : Nat))) 20 (.int .i64 (((decF b n).1).length + 64 : Nat))) := ⟨f, by rw [upd_self e35_14, upd_self e35_21, upd_self e35_0, upd_self e35_1, upd_self e35_5, upd_self e35_7, upd_self e35_9, upd_self e35_12, upd_self e35_16, upd_self e35_18, upd_self e35_19, upd_self e35_20]⟩
    clear e35_14 e35_21 e35_0 e35_1 e35_5 e35_7 e35_9 e35_12 e35_16 e35_18 e35_19 e35_20
    refine seq fun K37 h37 => ?_
    refine seq fun K38 h38 => ?_
    refine stp (v := .int .i64 (i : Nat)) (o_mv rfl) ?_
    refine stp (v := y14_) (o_mv rfl) ?_
    refine stp (v := .int .i64 (la.length : Nat)) (o_lenR (hy14_.rd hM35 (i := 6) rfl) rfl rfl) ?_
    refine stp (v := .bool (decide (((i : Nat) : Int) < (la.length : Nat)))) (o_bin rfl rfl rfl) ?_
    refine h38 _ _ ?_
    clear h38
    refine cndP rfl (fun c39 => ?_) (fun c39 => ?_)
    ·
      refine h37 _ _ ?_
      clear h37
      refine seq fun K40 h40 => ?_
      refine stp (v := y14_) (o_mv rfl) ?_
      refine stp (v := .int .i64 (i : Nat)) (o_mv rfl) ?_
      refine stp (v := .agg ([.slice none 0 0, .int .i64 (-1), .int .i64 0] : List Value).toArray) (o_bld rfl rfl) ?_
      refine m_setS (enc := tokC) tz (q := (⟨none, 0, 0, [], -1, 0⟩ : Tk)) (j := i) hM35 (i := 6) rfl hy14_ rfl rfl (by omega) (by simp) (rfl) fun w41 r41 u41 he41 hs41 (hM41 : Mem w [] w41 [rs3, rA5, rB5, rs7, [], rs11, r41, [], rA15, rB15, [⟨b17, 5, [.int .u8 1, .int .u8 97, .int .u8 1, .int .u8 1]⟩], rs19, [⟨b21, 5, [.int .u8 1, .int .u8 97, .int .u8 1, .int .u8 1]⟩], rA23, rB23]) => ?_
      refine h40 _ _ ?_
      clear h40
      refine stp (v := .int .i64 (i : Nat)) (o_mv rfl) ?_
      refine stp (v := .int .i64 ((i : Nat) + 1)) (o_bin rfl rfl (v_add64 (by constructor <;> omega))) ?_
      refine stp (v := .int .i64 ((i : Nat) + 1)) (o_mv rfl) ?_
      refine h36 (i + 1, (la.set i (⟨none, 0, 0, [], -1, 0⟩ : Tk)), y14_, r41) _ _ ⟨rfl, by first | rfl | exact v_int (by omega) | exact v_int (by simp) | exact v_int (by simp; omega), rfl, by first | rfl | exact v_int (by omega) | exact v_int (by simp) | exact v_int (by simp; omega), rfl, rfl, rfl, rfl, rfl, rfl, by first | rfl | exact v_int (by omega) | exact v_int (by simp) | exact v_int (by simp; omega), by first | rfl | exact v_int (by omega) | exact v_int (by simp) | exact v_int (by simp; omega), hM41, by rw [List.length_set]; exact hla, by rw [List.length_set]; omega, by first | exact hs41 | simpa using hs41⟩ (by dsimp only; omega)
    ·
      refine h33 _ _ ?_
      clear h33
      refine seq fun K42 h42 => ?_
      refine seq fun K43 h43 => ?_
      refine stp (v := .int .i64 0) (o_mv rfl) ?_
      refine h43 _ _ ?_
      clear h43
      refine lp (n := fun _ _ => False) (ι := (Nat) × (List Tk) × (Value) × (List Ent)) (fun ⟨i, lb, y14_, r14_⟩ f w' => f 14 = y14_ ∧ f 22 = .int .i64 (i : Nat) ∧ f 0 = x ∧ f 1 = .int .i64 n ∧ f 5 = y3 ∧ f 7 = y5 ∧ f 9 = (.slice (some ⟨bg7, 0, none⟩) b.length cp7) ∧ f 12 = y11 ∧ f 16 = y15 ∧ f 18 = .bool true ∧ f 19 = .int .i64 (N30 : Nat) ∧ f 20 = .int .i64 (((decF b n).1).length + 64 : Nat) ∧ Mem w [] w' [rs3, rA5, rB5, rs7, [], rs11, r14_, [], rA15, rB15, [⟨b17, 5, [.int .u8 1, .int .u8 97, .int .u8 1, .int .u8 1]⟩], rs19, [⟨b21, 5, [.int .u8 1, .int .u8 97, .int .u8 1, .int .u8 1]⟩], rA23, rB23] ∧ (lb.length = us13.length + i) ∧ (i ≤ 64) ∧ (SlS tokC 3 31 y14_ (lb) r14_)) (fun ⟨i, lb, y14_, r14_⟩ => 64 - i) (0, la, y14_, r14_) ?_ ?_
      · exact ⟨rfl, by first | rfl | exact v_int (by omega) | exact v_int (by simp) | exact v_int (by simp; omega), rfl, by first | rfl | exact v_int (by omega) | exact v_int (by simp) | exact v_int (by simp; omega), rfl, rfl, rfl, rfl, rfl, rfl, by first | rfl | exact v_int (by omega) | exact v_int (by simp) | exact v_int (by simp; omega), by first | rfl | exact v_int (by omega) | exact v_int (by simp) | exact v_int (by simp; omega), hM35, by omega, by omega, by first | exact hy14_ | simpa using hy14_⟩
      · rintro ⟨i, lb, y14_, r14_⟩ f w44 ⟨e44_14, e44_22, e44_0, e44_1, e44_5, e44_7, e44_9, e44_12, e44_16, e44_18, e44_19, e44_20, hM44, hlb, hi, hy14_⟩ K45 h45
        obtain ⟨frm, rfl⟩ : ∃ frm, f = (upd (upd (upd (upd (upd (upd (upd (upd (upd (upd (upd (upd frm 14 (y14_)) 22 (.int .i64 (i : Nat))) 0 (x)) 1 (.int .i64 n)) 5 (y3)) 7 (y5)) 9 ((.slice (some ⟨bg7, 0, none⟩) b.length cp7))) 12 (y11)) 16 (y15)) 18 (.bool true)) 19 (.int .i64 (N30 : Nat))) 20 (.int .i64 (((decF b n).1).length + 64 : Nat))) := ⟨f, by rw [upd_self e44_14, upd_self e44_22, upd_self e44_0, upd_self e44_1, upd_self e44_5, upd_self e44_7, upd_self e44_9, upd_self e44_12, upd_self e44_16, upd_self e44_18, upd_self e44_19, upd_self e44_20]⟩
        clear e44_14 e44_22 e44_0 e44_1 e44_5 e44_7 e44_9 e44_12 e44_16 e44_18 e44_19 e44_20
        refine seq fun K46 h46 => ?_
        refine seq fun K47 h47 => ?_
        refine stp (v := .int .i64 (i : Nat)) (o_mv rfl) ?_
        refine stp (v := .bool (decide (((i : Nat) : Int) < 64))) (o_bin rfl rfl rfl) ?_
        refine h47 _ _ ?_
        clear h47
        refine cndP rfl (fun c48 => ?_) (fun c48 => ?_)
        ·
          refine h46 _ _ ?_
          clear h46
          refine seq fun K49 h49 => ?_
          refine stp (v := y14_) (o_mv rfl) ?_
          refine stp (v := .agg ([.slice none 0 0, .int .i64 (-2), .int .i64 0] : List Value).toArray) (o_bld rfl rfl) ?_
          refine m_app1S (enc := tokC) (q := (⟨none, 0, 0, [], -2, 0⟩ : Tk)) hM44 (i := 6) rfl hy14_ rfl (by simp) (rfl) rfl (by first | omega | (simp; omega)) (by omega) fun v50 w50 r50 u50 (hs50 : SlS tokC 3 31 v50 (lb ++ [(⟨none, 0, 0, [], -2, 0⟩ : Tk)]) r50) (hM50 : Mem w [] w50 [rs3, rA5, rB5, rs7, [], rs11, r50, [], rA15, rB15, [⟨b17, 5, [.int .u8 1, .int .u8 97, .int .u8 1, .int .u8 1]⟩], rs19, [⟨b21, 5, [.int .u8 1, .int .u8 97, .int .u8 1, .int .u8 1]⟩], rA23, rB23]) => ?_
          refine stp (v := v50) (o_mv rfl) ?_
          refine h49 _ _ ?_
          clear h49
          refine stp (v := .int .i64 (i : Nat)) (o_mv rfl) ?_
          refine stp (v := .int .i64 ((i : Nat) + 1)) (o_bin rfl rfl (v_add64 (by constructor <;> omega))) ?_
          refine stp (v := .int .i64 ((i : Nat) + 1)) (o_mv rfl) ?_
          refine h45 (i + 1, (lb ++ [(⟨none, 0, 0, [], -2, 0⟩ : Tk)]), v50, r50) _ _ ⟨rfl, by first | rfl | exact v_int (by omega) | exact v_int (by simp) | exact v_int (by simp; omega), rfl, by first | rfl | exact v_int (by omega) | exact v_int (by simp) | exact v_int (by simp; omega), rfl, rfl, rfl, rfl, rfl, rfl, by first | rfl | exact v_int (by omega) | exact v_int (by simp) | exact v_int (by simp; omega), by first | rfl | exact v_int (by omega) | exact v_int (by simp) | exact v_int (by simp; omega), hM50, by rw [List.length_append, List.length_singleton]; omega, by omega, by first | exact hs50 | simpa using hs50⟩ (by dsimp only; omega)
        ·
          refine h42 _ _ ?_
          clear h42
          refine seq fun K51 h51 => ?_
          refine stp (v := (.slice (some ⟨bg7, 0, none⟩) b.length cp7)) (o_mv rfl) ?_
          refine stp (v := .int .i64 n) (o_mv rfl) ?_
          refine m_call (Decode_ok _ b n w44 (hs7.cutTo.rd hM44 (i := 3) rfl) (by first | omega | (simp; done) | (simp; omega)) (by simp only [inK]; omega)) rfl fun v52 w52 ⟨y52, rs52, hr52, hs52, hm52⟩ => ?_
          have hM52 : Mem w [] w52 [rs3, rA5, rB5, rs7, [], rs11, r14_, [], rA15, rB15, [⟨b17, 5, [.int .u8 1, .int .u8 97, .int .u8 1, .int .u8 1]⟩], rs19, [⟨b21, 5, [.int .u8 1, .int .u8 97, .int .u8 1, .int .u8 1]⟩], rA23, rB23, rs52] := hM44.add hm52
          subst hr52
          have hld52 := decF_len b n
          refine stp (v := .tuple [y52, .int .i64 ((decF b n).2)].toArray) (o_mv rfl) ?_
          refine stp (v := y52) (o_ext rfl rfl) ?_
          refine stp (v := .int .i64 ((decF b n).2)) (o_ext rfl rfl) ?_
          refine stp (v := y52) (o_mv rfl) ?_
          refine stp (v := .int .i64 ((decF b n).2)) (o_mv rfl) ?_
          refine h51 _ _ ?_
          clear h51
          refine seq fun K53 h53 => ?_
          have hul5 : us13.length = us5.length := len_us (hp13.trans hp5.symm)
          refine stp (v := .bool true) (o_mv rfl) ?_
          refine stp (v := .bool true) (o_mv rfl) ?_
          refine splitT rfl ?_
          refine stg rfl (v := .int .i64 (N30 : Nat)) (o_mv rfl) ?_
          refine stg rfl (v := .bool (decide ((0 : Int) ≤ ((N30 : Nat) : Int)))) (o_bin rfl rfl rfl) ?_
          refine stp (v := .bool (decide ((0 : Int) ≤ ((N30 : Nat) : Int)))) (o_pickT rfl rfl) ?_
          refine stp (v := .bool (decide ((0 : Int) ≤ ((N30 : Nat) : Int)))) (o_mv rfl) ?_
          refine splitP rfl (fun c54 => ?_) (fun c54 => (c54 (by omega)).elim)
          refine stg rfl (v := .int .i64 (((decF b n).1).length + 64 : Nat)) (o_mv rfl) ?_
          refine stg rfl (v := y3) (o_mv rfl) ?_
          refine stg rfl (v := .int .i64 (((decF b n).1).length : Nat)) (o_lenR (hs3.rd hM52 (i := 0) rfl) rfl rfl) ?_
          refine stg rfl (v := .int .i64 ((((decF b n).1).length : Nat) + 64)) (o_bin rfl rfl (v_add64 (by constructor <;> omega))) ?_
          refine stg rfl (v := .bool (decide (((((decF b n).1).length + 64 : Nat) : Int) = ((((decF b n).1).length : Nat) + 64)))) (o_bin rfl rfl rfl) ?_
          refine stp (v := .bool (decide (((((decF b n).1).length + 64 : Nat) : Int) = ((((decF b n).1).length : Nat) + 64)))) (o_pickT rfl rfl) ?_
          refine stp (v := .bool (decide (((((decF b n).1).length + 64 : Nat) : Int) = ((((decF b n).1).length : Nat) + 64)))) (o_mv rfl) ?_
          refine splitP rfl (fun c55 => ?_) (fun c55 => (c55 (by omega)).elim)
          refine stg rfl (v := y14_) (o_mv rfl) ?_
          refine stg rfl (v := .int .i64 (lb.length : Nat)) (o_lenR (hy14_.rd hM52 (i := 6) rfl) rfl rfl) ?_
          refine stg rfl (v := y5) (o_mv rfl) ?_
          refine stg rfl (v := .int .i64 (us5.length : Nat)) (o_lenR (hs5.rd hM52 (i := 1) rfl) rfl rfl) ?_
          refine stg rfl (v := .int .i64 ((us5.length : Nat) + 64)) (o_bin rfl rfl (v_add64 (by constructor <;> omega))) ?_
          refine stg rfl (v := .bool (decide (((lb.length : Nat) : Int) = ((us5.length : Nat) + 64)))) (o_bin rfl rfl rfl) ?_
          refine stp (v := .bool (decide (((lb.length : Nat) : Int) = ((us5.length : Nat) + 64)))) (o_pickT rfl rfl) ?_
          refine stp (v := .bool (decide (((lb.length : Nat) : Int) = ((us5.length : Nat) + 64)))) (o_mv rfl) ?_
          refine splitP rfl (fun c56 => ?_) (fun c56 => (c56 (by omega)).elim)
          refine stg rfl (v := y15) (o_mv rfl) ?_
          refine stg rfl (v := y5) (o_mv rfl) ?_
          refine gyesl rfl ?_
          refine m_call (same_ok _ _ us15 us5 w52 (hs15.rd hM52 (i := 8) rfl) (hs5.rd hM52 (i := 1) rfl) (fun t ht => (((ok_tks (w := w52) hp15 (hn15.rdE hM52 (i := 9) rfl) : ∀ t ∈ us15, Tk.ok w52 t)) t ht).1) (fun t ht => (((ok_tks (w := w52) hp5 (hn5.rdE hM52 (i := 2) rfl) : ∀ t ∈ us5, Tk.ok w52 t)) t ht).1) (hp15.trans hp5.symm) (by omega) (fun t ht => by have := (((ok_tks (w := w52) hp5 (hn5.rdE hM52 (i := 2) rfl) : ∀ t ∈ us5, Tk.ok w52 t)) t ht).2.2.2; omega)) rfl fun v57 w57 ⟨hr57, hu57⟩ => ?_
          have hM57 : Mem w [] w57 [rs3, rA5, rB5, rs7, [], rs11, r14_, [], rA15, rB15, [⟨b17, 5, [.int .u8 1, .int .u8 97, .int .u8 1, .int .u8 1]⟩], rs19, [⟨b21, 5, [.int .u8 1, .int .u8 97, .int .u8 1, .int .u8 1]⟩], rA23, rB23, rs52] := hM52.pure hu57
          subst hr57
          refine stp (v := .bool true) (o_pickT rfl rfl) ?_
          refine stp (v := .bool true) (o_mv rfl) ?_
          refine splitT rfl ?_
          refine stg rfl (v := (.slice (some ⟨bg7, 0, none⟩) b.length cp7)) (o_mv rfl) ?_
          refine stg rfl (v := x) (o_mv rfl) ?_
          refine gyesl rfl ?_
          refine m_call (kept_in bg7 cp7 _ b _ w57 (hs7.rd hM57 (i := 3) rfl) (hs7.cutTo.rd hM57 (i := 3) rfl) hcp7 (hx.upd hM57.upd) rfl (by omega)) rfl fun v58 w58 ⟨hr58, hu58⟩ => ?_
          have hM58 : Mem w [] w58 [rs3, rA5, rB5, rs7, [], rs11, r14_, [], rA15, rB15, [⟨b17, 5, [.int .u8 1, .int .u8 97, .int .u8 1, .int .u8 1]⟩], rs19, [⟨b21, 5, [.int .u8 1, .int .u8 97, .int .u8 1, .int .u8 1]⟩], rA23, rB23, rs52] := hM57.pure hu58
          subst hr58
          refine stp (v := .bool true) (o_pickT rfl rfl) ?_
          refine stp (v := .bool true) (o_mv rfl) ?_
          refine splitT rfl ?_
          refine stg rfl (v := y52) (o_mv rfl) ?_
          refine stg rfl (v := y3) (o_mv rfl) ?_
          refine gyesl rfl ?_
          refine m_call (sameBytes_ok _ _ ((decF b n).1) ((decF b n).1) w58 (hs52.rd hM58 (i := 15) rfl) (hs3.rd hM58 (i := 0) rfl) (by first | omega | (simp; done) | (simp; omega))) rfl fun v59 w59 ⟨hr59, hu59⟩ => ?_
          have hM59 : Mem w [] w59 [rs3, rA5, rB5, rs7, [], rs11, r14_, [], rA15, rB15, [⟨b17, 5, [.int .u8 1, .int .u8 97, .int .u8 1, .int .u8 1]⟩], rs19, [⟨b21, 5, [.int .u8 1, .int .u8 97, .int .u8 1, .int .u8 1]⟩], rA23, rB23, rs52] := hM58.pure hu59
          obtain rfl : v59 = .bool true := hr59.trans (by simp)
          clear hr59
          refine stp (v := .bool true) (o_pickT rfl rfl) ?_
          refine stp (v := .bool true) (o_mv rfl) ?_
          refine splitT rfl ?_
          refine stg rfl (v := y11) (o_mv rfl) ?_
          refine stg rfl (v := y3) (o_mv rfl) ?_
          refine gyesl rfl ?_
          refine m_call (sameBytes_ok _ _ ((decF b n).1) ((decF b n).1) w59 (hs11.rd hM59 (i := 5) rfl) (hs3.rd hM59 (i := 0) rfl) (by first | omega | (simp; done) | (simp; omega))) rfl fun v60 w60 ⟨hr60, hu60⟩ => ?_
          have hM60 : Mem w [] w60 [rs3, rA5, rB5, rs7, [], rs11, r14_, [], rA15, rB15, [⟨b17, 5, [.int .u8 1, .int .u8 97, .int .u8 1, .int .u8 1]⟩], rs19, [⟨b21, 5, [.int .u8 1, .int .u8 97, .int .u8 1, .int .u8 1]⟩], rA23, rB23, rs52] := hM59.pure hu60
          obtain rfl : v60 = .bool true := hr60.trans (by simp)
          clear hr60
          refine stp (v := .bool true) (o_pickT rfl rfl) ?_
          refine stp (v := .bool true) (o_mv rfl) ?_
          refine h53 _ _ ?_
          clear h53
          refine seq fun K61 h61 => ?_
          refine stp (v := (.slice (some ⟨bg7, 0, none⟩) b.length cp7)) (o_mv rfl) ?_
          refine stp (v := .int .i64 n) (o_mv rfl) ?_
          refine m_call (Tokens_ok _ b n w60 (hs7.cutTo.rd hM60 (i := 3) rfl) (by first | omega | (simp; done) | (simp; omega)) (by simp only [inK]; omega)) rfl fun v62 w62 ⟨y62, us62, rA62, rB62, hr62, hs62, hn62, hp62, hm62⟩ => ?_
          have hM62 : Mem w [] w62 [rs3, rA5, rB5, rs7, [], rs11, r14_, [], rA15, rB15, [⟨b17, 5, [.int .u8 1, .int .u8 97, .int .u8 1, .int .u8 1]⟩], rs19, [⟨b21, 5, [.int .u8 1, .int .u8 97, .int .u8 1, .int .u8 1]⟩], rA23, rB23, rs52, rA62, rB62] := hM60.add2 hm62
          subst hr62
          have hlu62 := len_tks hp62
          refine h61 _ _ ?_
          clear h61
          refine seq fun K63 h63 => ?_
          refine stp (v := (.slice (some ⟨bg7, 0, none⟩) b.length cp7)) (o_mv rfl) ?_
          refine stp (v := .int .i64 n) (o_mv rfl) ?_
          refine m_call (Decode_ok _ b n w62 (hs7.cutTo.rd hM62 (i := 3) rfl) (by first | omega | (simp; done) | (simp; omega)) (by simp only [inK]; omega)) rfl fun v64 w64 ⟨y64, rs64, hr64, hs64, hm64⟩ => ?_
          have hM64 : Mem w [] w64 [rs3, rA5, rB5, rs7, [], rs11, r14_, [], rA15, rB15, [⟨b17, 5, [.int .u8 1, .int .u8 97, .int .u8 1, .int .u8 1]⟩], rs19, [⟨b21, 5, [.int .u8 1, .int .u8 97, .int .u8 1, .int .u8 1]⟩], rA23, rB23, rs52, rA62, rB62, rs64] := hM62.add hm64
          subst hr64
          have hld64 := decF_len b n
          refine h63 _ _ ?_
          clear h63
          refine seq fun K65 h65 => ?_
          refine stp (v := (.slice (some ⟨bg7, 0, none⟩) b.length cp7)) (o_mv rfl) ?_
          refine m_call (turned_ok _ b rs7 w64 hs7.cutTo (hM64.res (i := 3) rfl) (by omega)) rfl fun v66 w66 ⟨r'66, rs66, hx66, hs66, hm66⟩ => ?_
          have hM66 : Mem w [] w66 [rs3, rA5, rB5, r'66, [], rs11, r14_, [], rA15, rB15, [⟨b17, 5, [.int .u8 1, .int .u8 97, .int .u8 1, .int .u8 1]⟩], rs19, [⟨b21, 5, [.int .u8 1, .int .u8 97, .int .u8 1, .int .u8 1]⟩], rA23, rB23, rs52, rA62, rB62, rs64, rs66] := hM64.stepAdd 3 rfl hm66
          have hlt66 := turnP_len b
          refine stp (v := v66) (o_mv rfl) ?_
          refine h65 _ _ ?_
          clear h65
          refine seq fun K67 h67 => ?_
          refine stp (v := v66) (o_mv rfl) ?_
          refine stp (v := .int .i64 n) (o_mv rfl) ?_
          refine m_call (refDecode_ok _ (turnP b) n w66 (hs66.rd hM66 (i := 19) rfl) (by first | omega | (simp; done) | (simp; omega)) (by simp only [inK]; omega)) rfl fun v68 w68 ⟨y68, rs68, hr68, hs68, hm68⟩ => ?_
          have hM68 : Mem w [] w68 [rs3, rA5, rB5, r'66, [], rs11, r14_, [], rA15, rB15, [⟨b17, 5, [.int .u8 1, .int .u8 97, .int .u8 1, .int .u8 1]⟩], rs19, [⟨b21, 5, [.int .u8 1, .int .u8 97, .int .u8 1, .int .u8 1]⟩], rA23, rB23, rs52, rA62, rB62, rs64, rs66, rs68] := hM66.add hm68
          subst hr68
          have hld68 := decF_len (turnP b) n
          refine stp (v := .tuple [y68, .int .i64 ((decF (turnP b) n).2)].toArray) (o_mv rfl) ?_
          refine stp (v := y68) (o_ext rfl rfl) ?_
          refine stp (v := .int .i64 ((decF (turnP b) n).2)) (o_ext rfl rfl) ?_
          refine stp (v := y68) (o_mv rfl) ?_
          refine stp (v := .int .i64 ((decF (turnP b) n).2)) (o_mv rfl) ?_
          refine h67 _ _ ?_
          clear h67
          refine seq fun K69 h69 => ?_
          refine stp (v := v66) (o_mv rfl) ?_
          refine stp (v := .int .i64 n) (o_mv rfl) ?_
          refine m_call (refTokens_ok _ (turnP b) n w68 (hs66.rd hM68 (i := 19) rfl) (by first | omega | (simp; done) | (simp; omega)) (by simp only [inK]; omega)) rfl fun v70 w70 ⟨y70, us70, rA70, rB70, hr70, hs70, hn70, hp70, hm70⟩ => ?_
          have hM70 : Mem w [] w70 [rs3, rA5, rB5, r'66, [], rs11, r14_, [], rA15, rB15, [⟨b17, 5, [.int .u8 1, .int .u8 97, .int .u8 1, .int .u8 1]⟩], rs19, [⟨b21, 5, [.int .u8 1, .int .u8 97, .int .u8 1, .int .u8 1]⟩], rA23, rB23, rs52, rA62, rB62, rs64, rs66, rs68, rA70, rB70] := hM68.add2 hm70
          subst hr70
          have hlu70 := len_tks hp70
          refine stp (v := .tuple [y70, .int .i64 ((tksF (turnP b) n).2)].toArray) (o_mv rfl) ?_
          refine stp (v := y70) (o_ext rfl rfl) ?_
          refine stp (v := .int .i64 ((tksF (turnP b) n).2)) (o_ext rfl rfl) ?_
          refine stp (v := y70) (o_mv rfl) ?_
          refine stp (v := .int .i64 ((tksF (turnP b) n).2)) (o_mv rfl) ?_
          refine h69 _ _ ?_
          clear h69
          refine seq fun K71 h71 => ?_
          refine stp (v := (.slice (some ⟨bg7, 0, none⟩) b.length cp7)) (o_mv rfl) ?_
          refine stp (v := .int .i64 n) (o_mv rfl) ?_
          refine m_call (Decode_ok _ (turnP b) n w70 (hx66.rd hM70 (i := 3) rfl) (by first | omega | (simp; done) | (simp; omega)) (by simp only [inK]; omega)) rfl fun v72 w72 ⟨y72, rs72, hr72, hs72, hm72⟩ => ?_
          have hM72 : Mem w [] w72 [rs3, rA5, rB5, r'66, [], rs11, r14_, [], rA15, rB15, [⟨b17, 5, [.int .u8 1, .int .u8 97, .int .u8 1, .int .u8 1]⟩], rs19, [⟨b21, 5, [.int .u8 1, .int .u8 97, .int .u8 1, .int .u8 1]⟩], rA23, rB23, rs52, rA62, rB62, rs64, rs66, rs68, rA70, rB70, rs72] := hM70.add hm72
          subst hr72
          have hld72 := decF_len (turnP b) n
          refine stp (v := .tuple [y72, .int .i64 ((decF (turnP b) n).2)].toArray) (o_mv rfl) ?_
          refine stp (v := y72) (o_ext rfl rfl) ?_
          refine stp (v := .int .i64 ((decF (turnP b) n).2)) (o_ext rfl rfl) ?_
          refine stp (v := y72) (o_mv rfl) ?_
          refine stp (v := .int .i64 ((decF (turnP b) n).2)) (o_mv rfl) ?_
          refine h71 _ _ ?_
          clear h71
          refine seq fun K73 h73 => ?_
          refine stp (v := (.slice (some ⟨bg7, 0, none⟩) b.length cp7)) (o_mv rfl) ?_
          refine stp (v := .int .i64 n) (o_mv rfl) ?_
          refine m_call (Tokens_ok _ (turnP b) n w72 (hx66.rd hM72 (i := 3) rfl) (by first | omega | (simp; done) | (simp; omega)) (by simp only [inK]; omega)) rfl fun v74 w74 ⟨y74, us74, rA74, rB74, hr74, hs74, hn74, hp74, hm74⟩ => ?_
          have hM74 : Mem w [] w74 [rs3, rA5, rB5, r'66, [], rs11, r14_, [], rA15, rB15, [⟨b17, 5, [.int .u8 1, .int .u8 97, .int .u8 1, .int .u8 1]⟩], rs19, [⟨b21, 5, [.int .u8 1, .int .u8 97, .int .u8 1, .int .u8 1]⟩], rA23, rB23, rs52, rA62, rB62, rs64, rs66, rs68, rA70, rB70, rs72, rA74, rB74] := hM72.add2 hm74
          subst hr74
          have hlu74 := len_tks hp74
          refine stp (v := .tuple [y74, .int .i64 ((tksF (turnP b) n).2)].toArray) (o_mv rfl) ?_
          refine stp (v := y74) (o_ext rfl rfl) ?_
          refine stp (v := .int .i64 ((tksF (turnP b) n).2)) (o_ext rfl rfl) ?_
          refine stp (v := y74) (o_mv rfl) ?_
          refine stp (v := .int .i64 ((tksF (turnP b) n).2)) (o_mv rfl) ?_
          refine h73 _ _ ?_
          clear h73
          refine seq fun K75 h75 => ?_
          refine stp (v := .bool true) (o_mv rfl) ?_
          refine stp (v := .bool true) (o_mv rfl) ?_
          refine splitT rfl ?_
          refine stg rfl (v := .int .i64 ((decF (turnP b) n).2)) (o_mv rfl) ?_
          refine stg rfl (v := .int .i64 ((decF (turnP b) n).2)) (o_mv rfl) ?_
          refine stg rfl (v := .bool true) (o_bin rfl rfl v_eqT) ?_
          refine stp (v := .bool true) (o_pickT rfl rfl) ?_
          refine stp (v := .bool true) (o_mv rfl) ?_
          refine splitT rfl ?_
          refine stg rfl (v := .int .i64 ((tksF (turnP b) n).2)) (o_mv rfl) ?_
          refine stg rfl (v := .int .i64 ((tksF (turnP b) n).2)) (o_mv rfl) ?_
          refine stg rfl (v := .bool true) (o_bin rfl rfl v_eqT) ?_
          refine stp (v := .bool true) (o_pickT rfl rfl) ?_
          refine stp (v := .bool true) (o_mv rfl) ?_
          refine splitT rfl ?_
          refine stg rfl (v := y72) (o_mv rfl) ?_
          refine stg rfl (v := y68) (o_mv rfl) ?_
          refine gyesl rfl ?_
          refine m_call (sameBytes_ok _ _ ((decF (turnP b) n).1) ((decF (turnP b) n).1) w74 (hs72.rd hM74 (i := 23) rfl) (hs68.rd hM74 (i := 20) rfl) (by first | omega | (simp; done) | (simp; omega))) rfl fun v76 w76 ⟨hr76, hu76⟩ => ?_
          have hM76 : Mem w [] w76 [rs3, rA5, rB5, r'66, [], rs11, r14_, [], rA15, rB15, [⟨b17, 5, [.int .u8 1, .int .u8 97, .int .u8 1, .int .u8 1]⟩], rs19, [⟨b21, 5, [.int .u8 1, .int .u8 97, .int .u8 1, .int .u8 1]⟩], rA23, rB23, rs52, rA62, rB62, rs64, rs66, rs68, rA70, rB70, rs72, rA74, rB74] := hM74.pure hu76
          obtain rfl : v76 = .bool true := hr76.trans (by simp)
          clear hr76
          refine stp (v := .bool true) (o_pickT rfl rfl) ?_
          refine stp (v := .bool true) (o_mv rfl) ?_
          refine splitT rfl ?_
          refine stg rfl (v := y74) (o_mv rfl) ?_
          refine stg rfl (v := y70) (o_mv rfl) ?_
          refine gyesl rfl ?_
          refine m_call (same_ok _ _ us74 us70 w76 (hs74.rd hM76 (i := 24) rfl) (hs70.rd hM76 (i := 21) rfl) (fun t ht => (((ok_tks (w := w76) hp74 (hn74.rdE hM76 (i := 25) rfl) : ∀ t ∈ us74, Tk.ok w76 t)) t ht).1) (fun t ht => (((ok_tks (w := w76) hp70 (hn70.rdE hM76 (i := 22) rfl) : ∀ t ∈ us70, Tk.ok w76 t)) t ht).1) (hp74.trans hp70.symm) (by omega) (fun t ht => by have := (((ok_tks (w := w76) hp70 (hn70.rdE hM76 (i := 22) rfl) : ∀ t ∈ us70, Tk.ok w76 t)) t ht).2.2.2; omega)) rfl fun v77 w77 ⟨hr77, hu77⟩ => ?_
          have hM77 : Mem w [] w77 [rs3, rA5, rB5, r'66, [], rs11, r14_, [], rA15, rB15, [⟨b17, 5, [.int .u8 1, .int .u8 97, .int .u8 1, .int .u8 1]⟩], rs19, [⟨b21, 5, [.int .u8 1, .int .u8 97, .int .u8 1, .int .u8 1]⟩], rA23, rB23, rs52, rA62, rB62, rs64, rs66, rs68, rA70, rB70, rs72, rA74, rB74] := hM76.pure hu77
          subst hr77
          refine stp (v := .bool true) (o_pickT rfl rfl) ?_
          refine stp (v := .bool true) (o_mv rfl) ?_
          refine h75 _ _ ?_
          clear h75
          refine ⟨(.bool true), rfl, ?_⟩
          exact ⟨by first | rfl | simp, hM77.upd⟩
