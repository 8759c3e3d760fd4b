/- HuffEncodes: the law's walk. -/
import Derived.Test.YtojnkjnebejodaaS16
namespace Go.Proofs.Ytojnkjnebejodaa.E
open Go
theorem pkA_len {bs : List Nat} (hb : ∀ i, bs.getD i 0 ≤ 1) (n : Nat) : (pkA bs n).length = (n + 7) / 8 := (pkA_ok hb n).len
theorem encR_len {t : List UInt8} : (encR t).1.length ≤ 1000000 := by
  unfold encR
  split
  · exact Nat.zero_le _
  · show (encF t).length ≤ _
    have h9 := hdrE_len (lnF t) (by rw [lnF_len]; omega) 256 0 (by rw [lnF_len]; omega)
    have h8 := lnF_bits t t.length (Nat.le_refl _)
    rw [List.take_length] at h8
    rw [lnF_len] at h9
    unfold encF
    rw [List.length_append, List.length_append, List.length_singleton, pkA_len bits_le]; omega

/-- winnowlaw4.roomy -/
theorem roomyS_ok (x : Value) (b : List UInt8) (w : World) (hx : RdE byteV w x b) (hl : b.length ≤ 140737488351232) : Calls Try.prog 23 [x].toArray w (Rt fun r w' => ∃ rs, SlE byteV 5 r (b ++ List.replicate 64 (165 : UInt8)) rs ∧ Mem w [] w' [rs]) := by
  have hM0 : Mem w [] w [] := Mem.nil w []
  refine calls_vc mixed Try.func23 rfl C23 (by simp [Try.ntmps23]) ?_
  refine seq fun K1 h1 => ?_
  refine stp (v := .slice none 0 0) (o_mv rfl) ?_
  refine h1 _ _ ?_
  clear h1
  refine seq fun K2 h2 => ?_
  refine stp (v := x) (o_mv rfl) ?_
  refine stp (v := .int .i64 (b.length : Nat)) (o_lenR (hx.upd hM0.upd) rfl rfl) ?_
  refine stp (v := .int .i64 ((b.length : Nat) + 64)) (o_bin rfl rfl (v_add64 (by constructor <;> omega))) ?_
  refine m_mksE (E := byteV) (z := 0) (n := (b.length + 64)) (c := (b.length + 64)) rfl hM0 (v_int (by omega)) (v_int (by omega)) (by omega) (by omega) (by omega) fun v3 w3 r3 hs3 (hM3 : Mem w [] w3 [r3]) => ?_
  refine stp (v := v3) (o_mv rfl) ?_
  refine h2 _ _ ?_
  clear h2
  refine seq fun K4 h4 => ?_
  refine seq fun K5 h5 => ?_
  refine stp (v := .int .i64 0) (o_mv rfl) ?_
  refine h5 _ _ ?_
  clear h5
  refine lp (n := fun _ _ => False) (ι := (Nat) × (Value) × (List Ent)) (fun ⟨i, g, r⟩ f w' => f 0 = x ∧ f 3 = g ∧ f 4 = .int .i64 (i : Nat) ∧ Mem w [] w' [r] ∧ (SlE byteV 5 g ((b ++ List.replicate 64 (165 : UInt8)).take i ++ List.replicate ((b.length + 64) - i) (0 : UInt8)) r) ∧ (i ≤ (b.length + 64)) ∧ (((b ++ List.replicate 64 (165 : UInt8)).take i ++ List.replicate ((b.length + 64) - i) (0 : UInt8)).length = (b.length + 64))) (fun ⟨i, g, r⟩ => (b.length + 64) - i) (0, v3, r3) ?_ ?_
  · exact ⟨rfl, rfl, by first | rfl | exact v_int (by omega) | exact v_int (by simp) | exact v_int (by simp; omega), hM3, by simpa using hs3, by omega, by simp⟩
  · rintro ⟨i, g, r⟩ f w6 ⟨e6_0, e6_3, e6_4, hM6, hs, hi, hq⟩ K7 h7
    obtain ⟨frm, rfl⟩ : ∃ frm, f = (upd (upd (upd frm 0 (x)) 3 (g)) 4 (.int .i64 (i : Nat))) := ⟨f, by rw [upd_self e6_0, upd_self e6_3, upd_self e6_4]⟩
    clear e6_0 e6_3 e6_4
    refine seq fun K8 h8 => ?_
    refine seq fun K9 h9 => ?_
    refine stp (v := .int .i64 (i : Nat)) (o_mv rfl) ?_
    refine stp (v := g) (o_mv rfl) ?_
    refine stp (v := .int .i64 (((b ++ List.replicate 64 (165 : UInt8)).take i ++ List.replicate ((b.length + 64) - i) (0 : UInt8)).length : Nat)) (o_lenR (hs.rd hM6 (i := 0) rfl) rfl rfl) ?_
    refine stp (v := .bool (decide (((i : Nat) : Int) < (((b ++ List.replicate 64 (165 : UInt8)).take i ++ List.replicate ((b.length + 64) - i) (0 : UInt8)).length : Nat)))) (o_bin rfl rfl rfl) ?_
    refine h9 _ _ ?_
    clear h9
    refine cndP rfl (fun c10 => ?_) (fun c10 => ?_)
    ·
      refine h8 _ _ ?_
      clear h8
      refine seq fun K11 h11 => ?_
      refine seq fun K12 h12 => ?_
      refine stp (v := g) (o_mv rfl) ?_
      refine stp (v := .int .i64 (i : Nat)) (o_mv rfl) ?_
      refine m_set (E := byteV) (q := 165) (j := i) hM6 (i := 0) rfl hs rfl rfl (by omega) (by simp) (rfl) fun w13 r13 u13 he13 hs13 (hM13 : Mem w [] w13 [r13]) => ?_
      refine h12 _ _ ?_
      clear h12
      refine seq fun K14 h14 => ?_
      refine stp (v := .int .i64 (i : Nat)) (o_mv rfl) ?_
      refine stp (v := x) (o_mv rfl) ?_
      refine stp (v := .int .i64 (b.length : Nat)) (o_lenR (hx.upd hM13.upd) rfl rfl) ?_
      refine stp (v := .bool (decide (((i : Nat) : Int) < (b.length : Nat)))) (o_bin rfl rfl rfl) ?_
      refine h14 _ _ ?_
      clear h14
      refine cndP rfl (fun c15 => ?_) (fun c15 => ?_)
      ·
        refine stp (v := g) (o_mv rfl) ?_
        refine stp (v := .int .i64 (i : Nat)) (o_mv rfl) ?_
        refine stp (v := x) (o_mv rfl) ?_
        refine stp (v := .int .i64 (i : Nat)) (o_mv rfl) ?_
        refine m_idxE 0 (j := i) (hx.upd hM13.upd) rfl rfl (by omega) fun b16 o16 hp16 => ?_
        refine ld (v := byteV (b.getD i 0)) rfl (hp16) ?_
        refine m_set (E := byteV) (q := b.getD i 0) (j := i) hM13 (i := 0) rfl hs13 rfl rfl (by simp; omega) (by simp) (rfl) fun w17 r17 u17 he17 hs17 (hM17 : Mem w [] w17 [r17]) => ?_
        refine h11 _ _ ?_
        clear h11
        refine stp (v := .int .i64 (i : Nat)) (o_mv rfl) ?_
        refine stp (v := .int .i64 ((i : Nat) + 1)) (o_bin rfl rfl (v_add64 (by constructor <;> omega))) ?_
        refine stp (v := .int .i64 ((i : Nat) + 1)) (o_mv rfl) ?_
        refine h7 (i + 1, g, r17) _ _ ⟨rfl, rfl, by first | rfl | exact v_int (by omega) | exact v_int (by simp) | exact v_int (by simp; omega), hM17, by rw [← setG 0 rfl (c := b.getD i 0) (by omega) rfl]; simpa [List.set_set] using hs17, by omega, by simp; omega⟩ (by (try dsimp only); omega)
      ·
        refine h11 _ _ ?_
        clear h11
        refine stp (v := .int .i64 (i : Nat)) (o_mv rfl) ?_
        refine stp (v := .int .i64 ((i : Nat) + 1)) (o_bin rfl rfl (v_add64 (by constructor <;> omega))) ?_
        refine stp (v := .int .i64 ((i : Nat) + 1)) (o_mv rfl) ?_
        refine h7 (i + 1, g, r13) _ _ ⟨rfl, rfl, by first | rfl | exact v_int (by omega) | exact v_int (by simp) | exact v_int (by simp; omega), hM13, by rw [← setG2 0 rfl (by omega) (by omega)]; exact hs13, by omega, by simp; omega⟩ (by (try dsimp only); omega)
    ·
      refine h4 _ _ ?_
      clear h4
      refine seq fun K18 h18 => ?_
      refine stp (v := g) (o_mv rfl) ?_
      refine stp (v := g) (o_mv rfl) ?_
      refine h18 _ _ ?_
      clear h18
      refine ⟨g, rfl, ?_⟩
      have e : i = (b.length + 64) := by omega
      subst e
      rw [Nat.sub_self, List.replicate_zero, List.append_nil, List.take_of_length_le (by simp)] at hs
      exact ⟨_, hs, hM6⟩

/-- winnowlaw4.same -/
theorem sameS_ok (x y : Value) (a b : List UInt8) (w : World) (hx : RdE byteV w x a) (hy : RdE byteV w y b) (hla : a.length ≤ 9223372036854775807) : Calls Try.prog 27 [x, y].toArray w (Rt fun r w' => r = .bool (decide (a = b)) ∧ Upd [] w w') := by
  have hM0 : Mem w [] w [] := Mem.nil w []
  refine calls_vc mixed Try.func27 rfl C27 (by simp [Try.ntmps27]) ?_
  refine seq fun K1 h1 => ?_
  refine stp (v := .bool false) (o_mv rfl) ?_
  refine h1 _ _ ?_
  clear h1
  refine seq fun K2 h2 => ?_
  refine seq fun K3 h3 => ?_
  refine stp (v := x) (o_mv rfl) ?_
  refine stp (v := .int .i64 (a.length : Nat)) (o_lenR (hx.upd hM0.upd) rfl rfl) ?_
  refine stp (v := y) (o_mv rfl) ?_
  refine stp (v := .int .i64 (b.length : Nat)) (o_lenR (hy.upd hM0.upd) rfl rfl) ?_
  refine stp (v := .bool (decide (¬ ((a.length : Nat) : Int) = (b.length : Nat)))) (o_bin rfl rfl v_neq) ?_
  refine h3 _ _ ?_
  clear h3
  refine cndP rfl (fun c4 => ?_) (fun c4 => ?_)
  ·
    refine seq fun K5 h5 => ?_
    refine stp (v := .bool false) (o_mv rfl) ?_
    refine h5 _ _ ?_
    clear h5
    refine ⟨(.bool false), rfl, ?_⟩
    exact ⟨by rw [decide_eq_false (fun e => c4 (by rw [e]))], hM0.upd⟩
  ·
    refine h2 _ _ ?_
    clear h2
    refine seq fun K6 h6 => ?_
    refine seq fun K7 h7 => ?_
    refine stp (v := .int .i64 0) (o_mv rfl) ?_
    refine h7 _ _ ?_
    clear h7
    refine lp (n := fun _ _ => False) (ι := (Nat)) (fun i f w' => f 0 = x ∧ f 1 = y ∧ f 5 = .int .i64 (i : Nat) ∧ Mem w [] w' [] ∧ (i ≤ a.length) ∧ (a.take i = b.take i)) (fun i => a.length - i) (0) ?_ ?_
    · exact ⟨rfl, rfl, by first | rfl | exact v_int (by omega) | exact v_int (by simp) | exact v_int (by simp; omega), hM0, by omega, by simp⟩
    · rintro i f w8 ⟨e8_0, e8_1, e8_5, hM8, hi, hp⟩ K9 h9
      obtain ⟨frm, rfl⟩ : ∃ frm, f = (upd (upd (upd frm 0 (x)) 1 (y)) 5 (.int .i64 (i : Nat))) := ⟨f, by rw [upd_self e8_0, upd_self e8_1, upd_self e8_5]⟩
      clear e8_0 e8_1 e8_5
      refine seq fun K10 h10 => ?_
      refine seq fun K11 h11 => ?_
      refine stp (v := .int .i64 (i : Nat)) (o_mv rfl) ?_
      refine stp (v := x) (o_mv rfl) ?_
      refine stp (v := .int .i64 (a.length : Nat)) (o_lenR (hx.upd hM8.upd) rfl rfl) ?_
      refine stp (v := .bool (decide (((i : Nat) : Int) < (a.length : Nat)))) (o_bin rfl rfl rfl) ?_
      refine h11 _ _ ?_
      clear h11
      refine cndP rfl (fun c12 => ?_) (fun c12 => ?_)
      ·
        refine h10 _ _ ?_
        clear h10
        refine seq fun K13 h13 => ?_
        refine seq fun K14 h14 => ?_
        intro wd e1 e2 e3 e4
        have hd := Upd.same e1 e2 e3 e4 []
        have hM15 := hM8.pure hd
        clear e1 e2 e3 e4
        refine ⟨none, ?_⟩
        show vd _ _ _ _ _ _ _
        refine dq (v := x) (o_mv rfl) ?_
        refine dq (v := .int .i64 (i : Nat)) (o_mv rfl) ?_
        refine dqp (m_idxE 0 (j := i) (hx.upd hM15.upd) rfl rfl (by omega) fun b16 o16 hp16 => ?_)
        show vd _ _ _ _ _ _ _
        refine dq (v := y) (o_mv rfl) ?_
        refine dq (v := .int .i64 (i : Nat)) (o_mv rfl) ?_
        refine dqp (m_idxE 0 (j := i) (hy.upd hM15.upd) rfl rfl (by omega) fun b17 o17 hp17 => ?_)
        show vd _ _ _ _ _ _ _
        refine dqld rfl (trivial) (v := byteV (b.getD i 0)) (hp17) ?_
        refine dl (ld (v := byteV (a.getD i 0)) rfl (hp16) ?_)
        refine ⟨rfl, ?_⟩
        refine dq (v := .bool (decide (¬ ((a.getD i 0).toNat : Int) = ((b.getD i 0).toNat : Int)))) (o_bin rfl rfl v_neq) ?_
        refine h14 _ _ ?_
        clear h14
        refine cndP rfl (fun c18 => ?_) (fun c18 => ?_)
        ·
          refine seq fun K19 h19 => ?_
          refine stp (v := .bool false) (o_mv rfl) ?_
          refine h19 _ _ ?_
          clear h19
          refine ⟨(.bool false), rfl, ?_⟩
          exact ⟨by rw [decide_eq_false (ne_atG 0 i (nat_neG (by assumption)))], hM15.upd⟩
        ·
          refine h13 _ _ ?_
          clear h13
          refine stp (v := .int .i64 (i : Nat)) (o_mv rfl) ?_
          refine stp (v := .int .i64 ((i : Nat) + 1)) (o_bin rfl rfl (v_add64 (by constructor <;> omega))) ?_
          refine stp (v := .int .i64 ((i : Nat) + 1)) (o_mv rfl) ?_
          refine h9 (i + 1) _ _ ⟨rfl, rfl, by first | rfl | exact v_int (by omega) | exact v_int (by simp) | exact v_int (by simp; omega), hM15, by omega, take_eqG 0 hp (by omega) (by omega) (u8_eq (by omega))⟩ (by (try dsimp only); omega)
      ·
        refine h6 _ _ ?_
        clear h6
        refine seq fun K20 h20 => ?_
        refine stp (v := .bool true) (o_mv rfl) ?_
        refine h20 _ _ ?_
        clear h20
        refine ⟨(.bool true), rfl, ?_⟩
        exact ⟨by rw [decide_eq_true]; rw [← List.take_of_length_le (l := a) (i := i) (by omega), ← List.take_of_length_le (l := b) (i := i) (by omega), hp], hM8.upd⟩

/-- winnowlaw4.fill -/
theorem fillS_ok (x : Value) (l : List UInt8) (m : UInt8) (r0 : List Ent) (w : World) (hs0 : SlE byteV 5 x l r0) (hr : Res w r0) (hl : l.length ≤ 140737489403904) : Calls Try.prog 25 [x, byteV m].toArray w (Rt fun r w' => r = .int .i64 ((l.length + 64 : Nat) : Int) ∧ Mem w (ids r0) w' []) := by
  have hM0 : Mem w (ids r0) w [r0] := Mem.start hr
  refine calls_vc mixed Try.func25 rfl C25 (by simp [Try.ntmps25]) ?_
  refine seq fun K1 h1 => ?_
  refine stp (v := .int .i64 0) (o_mv rfl) ?_
  refine h1 _ _ ?_
  clear h1
  refine seq fun K2 h2 => ?_
  refine seq fun K3 h3 => ?_
  refine stp (v := .int .i64 0) (o_mv rfl) ?_
  refine h3 _ _ ?_
  clear h3
  refine lp (n := fun _ _ => False) (ι := (Nat) × (List UInt8) × (Value) × (List Ent)) (fun ⟨i, la, y0_, r0_⟩ f w' => f 0 = y0_ ∧ f 5 = .int .i64 (i : Nat) ∧ f 1 = byteV m ∧ Mem w (ids r0) w' [r0_] ∧ (la.length = l.length) ∧ (i ≤ la.length) ∧ (SlE byteV 5 y0_ (la) r0_)) (fun ⟨i, la, y0_, r0_⟩ => l.length - i) (0, l, x, r0) ?_ ?_
  · exact ⟨rfl, by first | rfl | exact v_int (by omega) | exact v_int (by simp) | exact v_int (by simp; omega), by first | rfl | exact v_int (by omega) | exact v_int (by simp) | exact v_int (by simp; omega), hM0, rfl, by omega, by first | exact hs0 | simpa using hs0⟩
  · rintro ⟨i, la, y0_, r0_⟩ f w4 ⟨e4_0, e4_5, e4_1, hM4, hla, hi, hy0_⟩ K5 h5
    obtain ⟨frm, rfl⟩ : ∃ frm, f = (upd (upd (upd frm 0 (y0_)) 5 (.int .i64 (i : Nat))) 1 (byteV m)) := ⟨f, by rw [upd_self e4_0, upd_self e4_5, upd_self e4_1]⟩
    clear e4_0 e4_5 e4_1
    refine seq fun K6 h6 => ?_
    refine seq fun K7 h7 => ?_
    refine stp (v := .int .i64 (i : Nat)) (o_mv rfl) ?_
    refine stp (v := y0_) (o_mv rfl) ?_
    refine stp (v := .int .i64 (la.length : Nat)) (o_lenR (hy0_.rd hM4 (i := 0) rfl) rfl rfl) ?_
    refine stp (v := .bool (decide (((i : Nat) : Int) < (la.length : Nat)))) (o_bin rfl rfl rfl) ?_
    refine h7 _ _ ?_
    clear h7
    refine cndP rfl (fun c8 => ?_) (fun c8 => ?_)
    ·
      refine h6 _ _ ?_
      clear h6
      refine seq fun K9 h9 => ?_
      refine stp (v := y0_) (o_mv rfl) ?_
      refine stp (v := .int .i64 (i : Nat)) (o_mv rfl) ?_
      refine stp (v := byteV m) (o_mv rfl) ?_
      refine m_set (E := byteV) (q := m) (j := i) hM4 (i := 0) rfl hy0_ rfl rfl (by omega) (by simp) (rfl) fun w10 r10 u10 he10 hs10 (hM10 : Mem w (ids r0) w10 [r10]) => ?_
      refine h9 _ _ ?_
      clear h9
      refine stp (v := .int .i64 (i : Nat)) (o_mv rfl) ?_
      refine stp (v := .int .i64 ((i : Nat) + 1)) (o_bin rfl rfl (v_add64 (by constructor <;> omega))) ?_
      refine stp (v := .int .i64 ((i : Nat) + 1)) (o_mv rfl) ?_
      refine h5 (i + 1, la.set i m, y0_, r10) _ _ ⟨rfl, by first | rfl | exact v_int (by omega) | exact v_int (by simp) | exact v_int (by simp; omega), by first | rfl | exact v_int (by omega) | exact v_int (by simp) | exact v_int (by simp; omega), hM10, by simp; omega, by simp; omega, by first | exact hs10 | simpa using hs10⟩ (by (try dsimp only); omega)
    ·
      refine h2 _ _ ?_
      clear h2
      refine seq fun K11 h11 => ?_
      refine seq fun K12 h12 => ?_
      refine stp (v := .int .i64 0) (o_mv rfl) ?_
      refine h12 _ _ ?_
      clear h12
      refine lp (n := fun _ _ => False) (ι := (Nat) × (List UInt8) × (Value) × (List Ent)) (fun ⟨i, lb, y0_, r0_⟩ f w' => f 0 = y0_ ∧ f 6 = .int .i64 (i : Nat) ∧ f 1 = byteV m ∧ Mem w (ids r0) w' [r0_] ∧ (lb.length = l.length + i) ∧ (i ≤ 64) ∧ (SlE byteV 5 y0_ (lb) r0_)) (fun ⟨i, lb, y0_, r0_⟩ => 64 - i) (0, la, y0_, r0_) ?_ ?_
      · exact ⟨rfl, by first | rfl | exact v_int (by omega) | exact v_int (by simp) | exact v_int (by simp; omega), by first | rfl | exact v_int (by omega) | exact v_int (by simp) | exact v_int (by simp; omega), hM4, by omega, by omega, by first | exact hy0_ | simpa using hy0_⟩
      · rintro ⟨i, lb, y0_, r0_⟩ f w13 ⟨e13_0, e13_6, e13_1, hM13, hlb, hi, hy0_⟩ K14 h14
        obtain ⟨frm, rfl⟩ : ∃ frm, f = (upd (upd (upd frm 0 (y0_)) 6 (.int .i64 (i : Nat))) 1 (byteV m)) := ⟨f, by rw [upd_self e13_0, upd_self e13_6, upd_self e13_1]⟩
        clear e13_0 e13_6 e13_1
        refine seq fun K15 h15 => ?_
        refine seq fun K16 h16 => ?_
        refine stp (v := .int .i64 (i : Nat)) (o_mv rfl) ?_
        refine stp (v := .bool (decide (((i : Nat) : Int) < 64))) (o_bin rfl rfl rfl) ?_
        refine h16 _ _ ?_
        clear h16
        refine cndP rfl (fun c17 => ?_) (fun c17 => ?_)
        ·
          refine h15 _ _ ?_
          clear h15
          refine seq fun K18 h18 => ?_
          refine stp (v := y0_) (o_mv rfl) ?_
          refine stp (v := byteV m) (o_mv rfl) ?_
          refine stp (v := .int .u8 (((m.toNat : Int) + 1) % 256)) (o_bin rfl rfl (v_u8 _)) ?_
          refine m_app1 (E := byteV) (q := (((m.toNat : Int) + 1) % 256).toNat.toUInt8) hM13 (i := 0) rfl hy0_ rfl (by simp) (byteV_of (by omega) (by omega)) (by omega) (by omega) fun v19 w19 r19 u19 (hs19 : SlE byteV 5 v19 (lb ++ [(((m.toNat : Int) + 1) % 256).toNat.toUInt8]) r19) (hM19 : Mem w (ids r0) w19 [r19]) => ?_
          refine stp (v := v19) (o_mv rfl) ?_
          refine h18 _ _ ?_
          clear h18
          refine stp (v := .int .i64 (i : Nat)) (o_mv rfl) ?_
          refine stp (v := .int .i64 ((i : Nat) + 1)) (o_bin rfl rfl (v_add64 (by constructor <;> omega))) ?_
          refine stp (v := .int .i64 ((i : Nat) + 1)) (o_mv rfl) ?_
          refine h14 (i + 1, lb ++ [((m.toNat : Int) + 1) % 256 |>.toNat.toUInt8], v19, r19) _ _ ⟨rfl, by first | rfl | exact v_int (by omega) | exact v_int (by simp) | exact v_int (by simp; omega), by first | rfl | exact v_int (by omega) | exact v_int (by simp) | exact v_int (by simp; omega), hM19, by simp; omega, by omega, by first | exact hs19 | simpa using hs19⟩ (by (try dsimp only); omega)
        ·
          refine h11 _ _ ?_
          clear h11
          refine seq fun K20 h20 => ?_
          refine stp (v := y0_) (o_mv rfl) ?_
          refine stp (v := .int .i64 (lb.length : Nat)) (o_lenR (hy0_.rd hM13 (i := 0) rfl) rfl rfl) ?_
          refine stp (v := .int .i64 (lb.length : Nat)) (o_mv rfl) ?_
          refine h20 _ _ ?_
          clear h20
          refine ⟨(.int .i64 (lb.length : Nat)), rfl, ?_⟩
          exact ⟨v_int (by omega), hM13.keep (by simp)⟩

/-- winnowlaw4.back -/
theorem backS_ok (x : Value) (l : List UInt8) (r0 : List Ent) (w : World) (hs0 : SlE byteV 5 x l r0) (hr : Res w r0) (hl : l.length ≤ 1152921504606846976) : Calls Try.prog 37 [x].toArray w (Rt fun r w' => r = x ∧ Mem w (ids r0) w' [upR byteV l.reverse r0]) := by
  have hM0 : Mem w (ids r0) w [r0] := Mem.start hr
  refine calls_vc mixed Try.func37 rfl C37 (by simp [Try.ntmps37]) ?_
  refine seq fun K1 h1 => ?_
  refine stp (v := .slice none 0 0) (o_mv rfl) ?_
  refine h1 _ _ ?_
  clear h1
  refine seq fun K2 h2 => ?_
  refine seq fun K3 h3 => ?_
  refine stp (v := x) (o_mv rfl) ?_
  refine stp (v := .int .i64 (l.length : Nat)) (o_lenR (hs0.rd hM0 (i := 0) rfl) rfl rfl) ?_
  refine stp (v := .int .i64 ((l.length : Nat) - 1)) (o_bin rfl rfl (v_sub64 (by constructor <;> omega))) ?_
  refine stp (v := .int .i64 0) (o_mv rfl) ?_
  refine stp (v := .int .i64 ((l.length : Nat) - 1)) (o_mv rfl) ?_
  refine h3 _ _ ?_
  clear h3
  refine lp (n := fun _ _ => False) (ι := (Nat) × (List Ent)) (fun ⟨i, r⟩ f w' => f 0 = x ∧ f 3 = .int .i64 (i : Nat) ∧ f 4 = .int .i64 ((l.length : Nat) - 1 - (i : Nat)) ∧ Mem w (ids r0) w' [r] ∧ (SlE byteV 5 x (revI 0 i l) r) ∧ (r = upR byteV (revI 0 i l) r0) ∧ (i ≤ l.length) ∧ ((revI 0 i l).length = l.length)) (fun ⟨i, r⟩ => l.length - i) (0, r0) ?_ ?_
  · exact ⟨rfl, by first | rfl | exact v_int (by omega) | exact v_int (by simp) | exact v_int (by simp; omega), by first | rfl | exact v_int (by omega) | exact v_int (by simp) | exact v_int (by simp; omega), hM0, by rw [revI_zero]; exact hs0, by rw [revI_zero, up_self hs0], by omega, by rw [revI_zero]⟩
  · rintro ⟨i, r⟩ f w4 ⟨e4_0, e4_3, e4_4, hM4, hs, he, hi, hq⟩ K5 h5
    obtain ⟨frm, rfl⟩ : ∃ frm, f = (upd (upd (upd frm 0 (x)) 3 (.int .i64 (i : Nat))) 4 (.int .i64 ((l.length : Nat) - 1 - (i : Nat)))) := ⟨f, by rw [upd_self e4_0, upd_self e4_3, upd_self e4_4]⟩
    clear e4_0 e4_3 e4_4
    refine seq fun K6 h6 => ?_
    refine seq fun K7 h7 => ?_
    refine stp (v := .int .i64 (i : Nat)) (o_mv rfl) ?_
    refine stp (v := .int .i64 ((l.length : Nat) - 1 - (i : Nat))) (o_mv rfl) ?_
    refine stp (v := .bool (decide (((i : Nat) : Int) < ((l.length : Nat) - 1 - (i : Nat))))) (o_bin rfl rfl rfl) ?_
    refine h7 _ _ ?_
    clear h7
    refine cndP rfl (fun c8 => ?_) (fun c8 => ?_)
    ·
      refine h6 _ _ ?_
      clear h6
      refine seq fun K9 h9 => ?_
      refine seq fun K10 h10 => ?_
      refine stp (v := x) (o_mv rfl) ?_
      refine stp (v := .int .i64 (i : Nat)) (o_mv rfl) ?_
      refine m_idxE 0 (j := i) (hs.rd hM4 (i := 0) rfl) rfl rfl (by omega) fun b11 o11 hp11 => ?_
      refine ld (v := byteV ((revI 0 i l).getD i 0)) rfl (hp11) ?_
      refine stp (v := byteV ((revI 0 i l).getD i 0)) (o_mv rfl) ?_
      refine h10 _ _ ?_
      clear h10
      refine seq fun K12 h12 => ?_
      refine stp (v := x) (o_mv rfl) ?_
      refine stp (v := .int .i64 (i : Nat)) (o_mv rfl) ?_
      refine stp (v := x) (o_mv rfl) ?_
      refine stp (v := .int .i64 ((l.length : Nat) - 1 - (i : Nat))) (o_mv rfl) ?_
      refine m_idxE 0 (j := (l.length - 1 - i)) (hs.rd hM4 (i := 0) rfl) rfl (v_int (by omega)) (by omega) fun b13 o13 hp13 => ?_
      refine ld (v := byteV ((revI 0 i l).getD (l.length - 1 - i) 0)) rfl (hp13) ?_
      refine m_set (E := byteV) (q := (revI 0 i l).getD (l.length - 1 - i) 0) (j := i) hM4 (i := 0) rfl hs rfl rfl (by omega) (by simp) (rfl) fun w14 r14 u14 he14 hs14 (hM14 : Mem w (ids r0) w14 [r14]) => ?_
      refine h12 _ _ ?_
      clear h12
      refine stp (v := x) (o_mv rfl) ?_
      refine stp (v := .int .i64 ((l.length : Nat) - 1 - (i : Nat))) (o_mv rfl) ?_
      refine stp (v := byteV ((revI 0 i l).getD i 0)) (o_mv rfl) ?_
      refine m_set (E := byteV) (q := (revI 0 i l).getD i 0) (j := (l.length - 1 - i)) hM14 (i := 0) rfl hs14 rfl (v_int (by omega)) (by simp only [List.length_set]; omega) (by simp) (rfl) fun w15 r15 u15 he15 hs15 (hM15 : Mem w (ids r0) w15 [r15]) => ?_
      refine h9 _ _ ?_
      clear h9
      refine stp (v := .int .i64 (i : Nat)) (o_mv rfl) ?_
      refine stp (v := .int .i64 ((i : Nat) + 1)) (o_bin rfl rfl (v_add64 (by constructor <;> omega))) ?_
      refine stp (v := .int .i64 ((l.length : Nat) - 1 - (i : Nat))) (o_mv rfl) ?_
      refine stp (v := .int .i64 (((l.length : Nat) - 1 - (i : Nat)) - 1)) (o_bin rfl rfl (v_sub64 (by constructor <;> omega))) ?_
      refine stp (v := .int .i64 ((i : Nat) + 1)) (o_mv rfl) ?_
      refine stp (v := .int .i64 (((l.length : Nat) - 1 - (i : Nat)) - 1)) (o_mv rfl) ?_
      refine h5 (i + 1, r15) _ _ ⟨rfl, by first | rfl | exact v_int (by omega) | exact v_int (by simp) | exact v_int (by simp; omega), by first | rfl | exact v_int (by omega) | exact v_int (by simp) | exact v_int (by simp; omega), hM15, by rw [← revI_succ 0 (by omega)]; exact back_el 0 hs (by omega) hs15, by rw [← revI_succ 0 (by omega)]; exact back_up 0 (by omega) he (by assumption) (by assumption), by omega, by rw [revI_length]⟩ (by (try dsimp only); omega)
    ·
      refine h2 _ _ ?_
      clear h2
      refine seq fun K16 h16 => ?_
      refine stp (v := x) (o_mv rfl) ?_
      refine stp (v := x) (o_mv rfl) ?_
      refine h16 _ _ ?_
      clear h16
      refine ⟨x, rfl, ?_⟩
      rw [revI_end 0 (by omega)] at he
      subst he
      exact ⟨rfl, hM4⟩

/-- winnowlaw4.HuffEncodes -/
theorem HuffEncodes_ok (x : Value) (t : List UInt8) (w : World) (hx : RdE byteV w x t) (hl : t.length ≤ 140737488351232) : Calls Try.prog 8 [x].toArray w (Rt fun r w' => r = .bool true ∧ Upd [] w w') := by
  have hM0 : Mem w [] w [] := Mem.nil w []
  refine calls_vc mixed Try.func8 rfl C8 (by simp [Try.ntmps8]) ?_
  refine seq fun K1 h1 => ?_
  refine stp (v := .bool false) (o_mv rfl) ?_
  refine h1 _ _ ?_
  clear h1
  refine seq fun K2 h2 => ?_
  refine stp (v := x) (o_mv rfl) ?_
  refine m_call (roomyS_ok _ t w (hx.upd hM0.upd) (by first | omega | (simp; done) | (simp; omega))) rfl fun v3 w3 ⟨rs3, hs3, hm3⟩ => ?_
  have hM3 : Mem w [] w3 [rs3] := hM0.add hm3
  refine stp (v := v3) (o_mv rfl) ?_
  refine h2 _ _ ?_
  clear h2
  refine seq fun K4 h4 => ?_
  refine stp (v := v3) (o_mv rfl) ?_
  refine stp (v := x) (o_mv rfl) ?_
  refine stp (v := .int .i64 (t.length : Nat)) (o_lenR (hx.upd hM3.upd) rfl rfl) ?_
  refine m_slcO t.length (hs3) rfl (by first | omega | (simp; done) | (simp; omega)) (⟨_, rfl⟩) trivial fun u5 hu5 => ?_
  have hu5' := SlE.eqL (m := t) hu5 (by simp)
  refine m_call (Encode_ok _ t w3 (hu5'.rd hM3 (i := 0) rfl) (by first | omega | (simp; done) | (simp; omega))) rfl fun v6 w6 ⟨y6, rs6, hr6, hs6, hm6⟩ => ?_
  have hM6 : Mem w [] w6 [rs3, rs6] := hM3.add hm6
  subst hr6
  have hel6 := encR_len (t := t)
  refine stp (v := .tuple [y6, .int .i64 ((encR t).2)].toArray) (o_mv rfl) ?_
  refine stp (v := y6) (o_ext rfl rfl) ?_
  refine stp (v := .int .i64 ((encR t).2)) (o_ext rfl rfl) ?_
  refine stp (v := y6) (o_mv rfl) ?_
  refine stp (v := .int .i64 ((encR t).2)) (o_mv rfl) ?_
  refine h4 _ _ ?_
  clear h4
  refine seq fun K7 h7 => ?_
  refine stp (v := v3) (o_mv rfl) ?_
  refine stp (v := x) (o_mv rfl) ?_
  refine stp (v := .int .i64 (t.length : Nat)) (o_lenR (hx.upd hM6.upd) rfl rfl) ?_
  refine m_slcO t.length (hs3) rfl (by first | omega | (simp; done) | (simp; omega)) (⟨_, rfl⟩) trivial fun u8 hu8 => ?_
  have hu8' := SlE.eqL (m := t) hu8 (by simp)
  refine m_call (Encode_ok _ t w6 (hu8'.rd hM6 (i := 0) rfl) (by first | omega | (simp; done) | (simp; omega))) rfl fun v9 w9 ⟨y9, rs9, hr9, hs9, hm9⟩ => ?_
  have hM9 : Mem w [] w9 [rs3, rs6, rs9] := hM6.add hm9
  subst hr9
  have hel9 := encR_len (t := t)
  refine stp (v := .tuple [y9, .int .i64 ((encR t).2)].toArray) (o_mv rfl) ?_
  refine stp (v := y9) (o_ext rfl rfl) ?_
  refine stp (v := .int .i64 ((encR t).2)) (o_ext rfl rfl) ?_
  refine stp (v := y9) (o_mv rfl) ?_
  refine stp (v := .int .i64 ((encR t).2)) (o_mv rfl) ?_
  refine h7 _ _ ?_
  clear h7
  refine seq fun K10 h10 => ?_
  refine stp (v := y6) (o_mv rfl) ?_
  refine m_call (fillS_ok _ ((encR t).1) 7 rs6 w9 hs6 (hM9.res (i := 1) rfl) (by first | omega | (simp; done) | (simp; omega))) rfl fun v11 w11 ⟨hr11, hm11⟩ => ?_
  have hM11 : Mem w [] w11 [rs3, [], rs9] := hM9.step 1 (r' := []) rfl (hm11.keep (by simp))
  subst hr11
  refine stp (v := .int .i64 (((encR t).1).length + 64 : Nat)) (o_mv rfl) ?_
  refine h10 _ _ ?_
  clear h10
  refine seq fun K12 h12 => ?_
  refine stp (v := x) (o_mv rfl) ?_
  refine m_call (refEncode_ok _ t w11 (hx.upd hM11.upd) (by first | omega | (simp; done) | (simp; omega))) rfl fun v13 w13 ⟨y13, rs13, hr13, hs13, hm13⟩ => ?_
  have hM13 : Mem w [] w13 [rs3, [], rs9, rs13] := hM11.add hm13
  subst hr13
  have hel13 := encR_len (t := t)
  refine stp (v := .tuple [y13, .int .i64 ((encR t).2)].toArray) (o_mv rfl) ?_
  refine stp (v := y13) (o_ext rfl rfl) ?_
  refine stp (v := .int .i64 ((encR t).2)) (o_ext rfl rfl) ?_
  refine stp (v := y13) (o_mv rfl) ?_
  refine stp (v := .int .i64 ((encR t).2)) (o_mv rfl) ?_
  refine h12 _ _ ?_
  clear h12
  refine seq fun K14 h14 => ?_
  refine seq fun K15 h15 => ?_
  refine stp (v := .int .i64 ((encR t).2)) (o_mv rfl) ?_
  refine stp (v := .int .i64 ((encR t).2)) (o_mv rfl) ?_
  refine stp (v := .bool false) (o_bin rfl rfl v_neF) ?_
  refine stp (v := .bool false) (o_mv rfl) ?_
  refine splitF rfl ?_
  refine stg rfl (v := .int .i64 ((encR t).2)) (o_mv rfl) ?_
  refine stg rfl (v := .int .i64 ((encR t).2)) (o_mv rfl) ?_
  refine stg rfl (v := .bool false) (o_bin rfl rfl v_neF) ?_
  refine stp (v := .bool false) (o_pickF rfl rfl) ?_
  refine stp (v := .bool false) (o_mv rfl) ?_
  refine splitF rfl ?_
  refine stg rfl (v := y9) (o_mv rfl) ?_
  refine stg rfl (v := y13) (o_mv rfl) ?_
  refine gyesl rfl ?_
  refine m_call (sameS_ok _ _ ((encR t).1) ((encR t).1) w13 (hs9.rd hM13 (i := 2) rfl) (hs13.rd hM13 (i := 3) rfl) (by first | omega | (simp; done) | (simp; omega))) rfl fun v16 w16 ⟨hr16, hu16⟩ => ?_
  have hM16 : Mem w [] w16 [rs3, [], rs9, rs13] := hM13.pure hu16
  obtain rfl : v16 = .bool true := hr16.trans (by simp)
  clear hr16
  refine stg rfl (v := .bool false) (o_not rfl rfl) ?_
  refine stp (v := .bool false) (o_pickF rfl rfl) ?_
  refine stp (v := .bool false) (o_mv rfl) ?_
  refine splitF rfl ?_
  refine stg rfl (v := .int .i64 (((encR t).1).length + 64 : Nat)) (o_mv rfl) ?_
  refine stg rfl (v := y13) (o_mv rfl) ?_
  refine stg rfl (v := .int .i64 (((encR t).1).length : Nat)) (o_lenR (hs13.rd hM16 (i := 3) rfl) rfl rfl) ?_
  refine stg rfl (v := .int .i64 ((((encR t).1).length : Nat) + 64)) (o_bin rfl rfl (v_add64 (by constructor <;> omega))) ?_
  refine stg rfl (v := .bool (decide (¬ ((((encR t).1).length + 64 : Nat) : Int) = ((((encR t).1).length : Nat) + 64)))) (o_bin rfl rfl v_neq) ?_
  refine stp (v := .bool (decide (¬ ((((encR t).1).length + 64 : Nat) : Int) = ((((encR t).1).length : Nat) + 64)))) (o_pickF rfl rfl) ?_
  refine stp (v := .bool (decide (¬ ((((encR t).1).length + 64 : Nat) : Int) = ((((encR t).1).length : Nat) + 64)))) (o_mv rfl) ?_
  refine splitP rfl (fun c17 => absurd c17 (by omega)) (fun c17 => ?_)
  refine stg rfl (v := v3) (o_mv rfl) ?_
  refine stg rfl (v := x) (o_mv rfl) ?_
  refine gyesl rfl ?_
  refine m_call (roomyS_ok _ t w16 (hx.upd hM16.upd) (by first | omega | (simp; done) | (simp; omega))) rfl fun v18 w18 ⟨rs18, hs18, hm18⟩ => ?_
  have hM18 : Mem w [] w18 [rs3, [], rs9, rs13, rs18] := hM16.add hm18
  refine gyesl rfl ?_
  refine m_call (sameS_ok _ _ (t ++ List.replicate 64 (165 : UInt8)) (t ++ List.replicate 64 (165 : UInt8)) w18 (hs3.rd hM18 (i := 0) rfl) (hs18.rd hM18 (i := 4) rfl) (by first | omega | (simp; done) | (simp; omega))) rfl fun v19 w19 ⟨hr19, hu19⟩ => ?_
  have hM19 : Mem w [] w19 [rs3, [], rs9, rs13, rs18] := hM18.pure hu19
  obtain rfl : v19 = .bool true := hr19.trans (by simp)
  clear hr19
  refine stg rfl (v := .bool false) (o_not rfl rfl) ?_
  refine stp (v := .bool false) (o_pickF rfl rfl) ?_
  refine h15 _ _ ?_
  clear h15
  refine cndF rfl ?_
  refine h14 _ _ ?_
  clear h14
  refine seq fun K20 h20 => ?_
  refine stp (v := v3) (o_mv rfl) ?_
  refine stp (v := x) (o_mv rfl) ?_
  refine stp (v := .int .i64 (t.length : Nat)) (o_lenR (hx.upd hM19.upd) rfl rfl) ?_
  refine m_slcO t.length (hs3) rfl (by first | omega | (simp; done) | (simp; omega)) (⟨_, rfl⟩) trivial fun u21 hu21 => ?_
  have hu21' := SlE.eqL (m := t) hu21 (by simp)
  refine m_call (backS_ok _ t rs3 w19 hu21' (hM19.res (i := 0) rfl) (by first | omega | (simp; done) | (simp; omega))) rfl fun v22 w22 ⟨hr22, hm22⟩ => ?_
  have hM22 : Mem w [] w22 [upR byteV t.reverse rs3, [], rs9, rs13, rs18] := hM19.step 0 rfl hm22
  rw [hr22]
  clear hr22
  refine m_call (Encode_ok _ t.reverse w22 ((SlE.up (m := t.reverse) hu21' (by simp)).rd hM22 (i := 0) rfl) (by first | omega | (simp; done) | (simp; omega))) rfl fun v23 w23 ⟨y23, rs23, hr23, hs23, hm23⟩ => ?_
  have hM23 : Mem w [] w23 [upR byteV t.reverse rs3, [], rs9, rs13, rs18, rs23] := hM22.add hm23
  subst hr23
  have hel23 := encR_len (t := t.reverse)
  refine stp (v := .tuple [y23, .int .i64 ((encR t.reverse).2)].toArray) (o_mv rfl) ?_
  refine stp (v := y23) (o_ext rfl rfl) ?_
  refine stp (v := .int .i64 ((encR t.reverse).2)) (o_ext rfl rfl) ?_
  refine stp (v := y23) (o_mv rfl) ?_
  refine stp (v := .int .i64 ((encR t.reverse).2)) (o_mv rfl) ?_
  refine h20 _ _ ?_
  clear h20
  refine seq fun K24 h24 => ?_
  refine stp (v := x) (o_mv rfl) ?_
  refine m_call (roomyS_ok _ t w23 (hx.upd hM23.upd) (by first | omega | (simp; done) | (simp; omega))) rfl fun v25 w25 ⟨rs25, hs25, hm25⟩ => ?_
  have hM25 : Mem w [] w25 [upR byteV t.reverse rs3, [], rs9, rs13, rs18, rs23, rs25] := hM23.add hm25
  refine stp (v := x) (o_mv rfl) ?_
  refine stp (v := .int .i64 (t.length : Nat)) (o_lenR (hx.upd hM25.upd) rfl rfl) ?_
  refine m_slcO t.length (hs25) rfl (by first | omega | (simp; done) | (simp; omega)) (⟨_, rfl⟩) trivial fun u26 hu26 => ?_
  have hu26' := SlE.eqL (m := t) hu26 (by simp)
  refine m_call (backS_ok _ t rs25 w25 hu26' (hM25.res (i := 6) rfl) (by first | omega | (simp; done) | (simp; omega))) rfl fun v27 w27 ⟨hr27, hm27⟩ => ?_
  have hM27 : Mem w [] w27 [upR byteV t.reverse rs3, [], rs9, rs13, rs18, rs23, upR byteV t.reverse rs25] := hM25.step 6 rfl hm27
  rw [hr27]
  clear hr27
  refine m_call (refEncode_ok _ t.reverse w27 ((SlE.up (m := t.reverse) hu26' (by simp)).rd hM27 (i := 6) rfl) (by first | omega | (simp; done) | (simp; omega))) rfl fun v28 w28 ⟨y28, rs28, hr28, hs28, hm28⟩ => ?_
  have hM28 : Mem w [] w28 [upR byteV t.reverse rs3, [], rs9, rs13, rs18, rs23, upR byteV t.reverse rs25, rs28] := hM27.add hm28
  subst hr28
  have hel28 := encR_len (t := t.reverse)
  refine stp (v := .tuple [y28, .int .i64 ((encR t.reverse).2)].toArray) (o_mv rfl) ?_
  refine stp (v := y28) (o_ext rfl rfl) ?_
  refine stp (v := .int .i64 ((encR t.reverse).2)) (o_ext rfl rfl) ?_
  refine stp (v := y28) (o_mv rfl) ?_
  refine stp (v := .int .i64 ((encR t.reverse).2)) (o_mv rfl) ?_
  refine h24 _ _ ?_
  clear h24
  refine seq fun K29 h29 => ?_
  refine stp (v := y23) (o_mv rfl) ?_
  refine stp (v := y28) (o_mv rfl) ?_
  refine m_call (sameS_ok _ _ ((encR t.reverse).1) ((encR t.reverse).1) w28 (hs23.rd hM28 (i := 5) rfl) (hs28.rd hM28 (i := 7) rfl) (by first | omega | (simp; done) | (simp; omega))) rfl fun v30 w30 ⟨hr30, hu30⟩ => ?_
  have hM30 : Mem w [] w30 [upR byteV t.reverse rs3, [], rs9, rs13, rs18, rs23, upR byteV t.reverse rs25, rs28] := hM28.pure hu30
  obtain rfl : v30 = .bool true := hr30.trans (by simp)
  clear hr30
  refine stp (v := .bool true) (o_mv rfl) ?_
  refine splitT rfl ?_
  refine stg rfl (v := .int .i64 ((encR t.reverse).2)) (o_mv rfl) ?_
  refine stg rfl (v := .int .i64 ((encR t.reverse).2)) (o_mv rfl) ?_
  refine stg rfl (v := .bool true) (o_bin rfl rfl v_eqT) ?_
  refine stp (v := .bool true) (o_pickT rfl rfl) ?_
  refine stp (v := .bool true) (o_mv rfl) ?_
  refine h29 _ _ ?_
  clear h29
  refine ⟨(.bool true), rfl, ?_⟩
  exact ⟨by first | rfl | simp, hM30.upd⟩
