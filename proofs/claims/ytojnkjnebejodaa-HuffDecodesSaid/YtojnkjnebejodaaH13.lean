/- HuffDecodes: the law's walk. -/
import Derived.Test.YtojnkjnebejodaaH12
namespace Go.Proofs.Ytojnkjnebejodaa.E
open Go
theorem huffD_len (b : List UInt8) (n : Int) : (huffD b n).1.length ≤ 65536 := by
  unfold huffD
  split
  · simp
  · split
    · simp
    · rename_i l a _
      split
      · simp
      · rename_i t h
        have hw : t.length ≤ 65536 := by
          unfold wordsF at h
          split at h
          · cases h
          · split at h
            · cases h
            · rename_i t' e hd
              split at h
              · injection h with h; subst h
                have := decA_bd hd (by omega); omega
              · cases h
        exact hw
theorem cut_set {b R : List UInt8} (h : 0 < b.length) : List.take b.length ((b ++ R).set (b.length - 1) (((((b ++ R).getD (b.length - 1) 0).toNat : Int) + 1) % 256).toNat.toUInt8) = b.set (b.length - 1) ((((b.getD (b.length - 1) 0).toNat : Int) + 1) % 256).toNat.toUInt8 := by
  rw [appG1 0 (by omega), List.set_append_left _ _ (by omega), List.take_left' (by simp)]

/-- winnowlaw4.roomy -/
theorem roomy_ok (x : Value) (b : List UInt8) (w : World) (hx : RdE byteV w x b) (hl : b.length ≤ 140737488351232) : Calls Try.prog 23 [x].toArray w (Rt fun r w' => ∃ rs, SlE byteV 5 r (b ++ List.replicate 64 (165 : UInt8)) rs ∧ Mem w [] w' [rs]) := by
  have hM0 : Mem w [] w [] := Mem.nil w []
  refine calls_vc mixed Try.func23 rfl C23 (by simp [Try.ntmps23]) ?_
  refine seq fun K1 h1 => ?_
  refine stp (v := .slice none 0 0) (o_mv rfl) ?_
  refine h1 _ _ ?_
  clear h1
  refine seq fun K2 h2 => ?_
  refine stp (v := x) (o_mv rfl) ?_
  refine stp (v := .int .i64 (b.length : Nat)) (o_lenR (hx.upd hM0.upd) rfl rfl) ?_
  refine stp (v := .int .i64 ((b.length : Nat) + 64)) (o_bin rfl rfl (v_add64 (by constructor <;> omega))) ?_
  refine m_mksE (E := byteV) (z := 0) (n := (b.length + 64)) (c := (b.length + 64)) rfl hM0 (v_int (by omega)) (v_int (by omega)) (by omega) (by omega) (by omega) fun v3 w3 r3 hs3 (hM3 : Mem w [] w3 [r3]) => ?_
  refine stp (v := v3) (o_mv rfl) ?_
  refine h2 _ _ ?_
  clear h2
  refine seq fun K4 h4 => ?_
  refine seq fun K5 h5 => ?_
  refine stp (v := .int .i64 0) (o_mv rfl) ?_
  refine h5 _ _ ?_
  clear h5
  refine lp (n := fun _ _ => False) (ι := (Nat) × (Value) × (List Ent)) (fun ⟨i, g, r⟩ f w' => f 0 = x ∧ f 3 = g ∧ f 4 = .int .i64 (i : Nat) ∧ Mem w [] w' [r] ∧ (SlE byteV 5 g ((b ++ List.replicate 64 (165 : UInt8)).take i ++ List.replicate ((b.length + 64) - i) (0 : UInt8)) r) ∧ (i ≤ (b.length + 64)) ∧ (((b ++ List.replicate 64 (165 : UInt8)).take i ++ List.replicate ((b.length + 64) - i) (0 : UInt8)).length = (b.length + 64))) (fun ⟨i, g, r⟩ => (b.length + 64) - i) (0, v3, r3) ?_ ?_
  · exact ⟨rfl, rfl, by first | rfl | exact v_int (by omega) | exact v_int (by simp) | exact v_int (by simp; omega), hM3, by simpa using hs3, by omega, by simp⟩
  · rintro ⟨i, g, r⟩ f w6 ⟨e6_0, e6_3, e6_4, hM6, hs, hi, hq⟩ K7 h7
    obtain ⟨frm, rfl⟩ : ∃ frm, f = (upd (upd (upd frm 0 (x)) 3 (g)) 4 (.int .i64 (i : Nat))) := ⟨f, by rw [upd_self e6_0, upd_self e6_3, upd_self e6_4]⟩
    clear e6_0 e6_3 e6_4
    refine seq fun K8 h8 => ?_
    refine seq fun K9 h9 => ?_
    refine stp (v := .int .i64 (i : Nat)) (o_mv rfl) ?_
    refine stp (v := g) (o_mv rfl) ?_
    refine stp (v := .int .i64 (((b ++ List.replicate 64 (165 : UInt8)).take i ++ List.replicate ((b.length + 64) - i) (0 : UInt8)).length : Nat)) (o_lenR (hs.rd hM6 (i := 0) rfl) rfl rfl) ?_
    refine stp (v := .bool (decide (((i : Nat) : Int) < (((b ++ List.replicate 64 (165 : UInt8)).take i ++ List.replicate ((b.length + 64) - i) (0 : UInt8)).length : Nat)))) (o_bin rfl rfl rfl) ?_
    refine h9 _ _ ?_
    clear h9
    refine cndP rfl (fun c10 => ?_) (fun c10 => ?_)
    ·
      refine h8 _ _ ?_
      clear h8
      refine seq fun K11 h11 => ?_
      refine seq fun K12 h12 => ?_
      refine stp (v := g) (o_mv rfl) ?_
      refine stp (v := .int .i64 (i : Nat)) (o_mv rfl) ?_
      refine m_set (E := byteV) (q := 165) (j := i) hM6 (i := 0) rfl hs rfl rfl (by omega) (by simp) (rfl) fun w13 r13 u13 he13 hs13 (hM13 : Mem w [] w13 [r13]) => ?_
      refine h12 _ _ ?_
      clear h12
      refine seq fun K14 h14 => ?_
      refine stp (v := .int .i64 (i : Nat)) (o_mv rfl) ?_
      refine stp (v := x) (o_mv rfl) ?_
      refine stp (v := .int .i64 (b.length : Nat)) (o_lenR (hx.upd hM13.upd) rfl rfl) ?_
      refine stp (v := .bool (decide (((i : Nat) : Int) < (b.length : Nat)))) (o_bin rfl rfl rfl) ?_
      refine h14 _ _ ?_
      clear h14
      refine cndP rfl (fun c15 => ?_) (fun c15 => ?_)
      ·
        refine stp (v := g) (o_mv rfl) ?_
        refine stp (v := .int .i64 (i : Nat)) (o_mv rfl) ?_
        refine stp (v := x) (o_mv rfl) ?_
        refine stp (v := .int .i64 (i : Nat)) (o_mv rfl) ?_
        refine m_idxE 0 (j := i) (hx.upd hM13.upd) rfl rfl (by omega) fun b16 o16 hp16 => ?_
        refine ld (v := byteV (b.getD i 0)) rfl (hp16) ?_
        refine m_set (E := byteV) (q := b.getD i 0) (j := i) hM13 (i := 0) rfl hs13 rfl rfl (by simp; omega) (by simp) (rfl) fun w17 r17 u17 he17 hs17 (hM17 : Mem w [] w17 [r17]) => ?_
        refine h11 _ _ ?_
        clear h11
        refine stp (v := .int .i64 (i : Nat)) (o_mv rfl) ?_
        refine stp (v := .int .i64 ((i : Nat) + 1)) (o_bin rfl rfl (v_add64 (by constructor <;> omega))) ?_
        refine stp (v := .int .i64 ((i : Nat) + 1)) (o_mv rfl) ?_
        refine h7 (i + 1, g, r17) _ _ ⟨rfl, rfl, by first | rfl | exact v_int (by omega) | exact v_int (by simp) | exact v_int (by simp; omega), hM17, by rw [← setG 0 rfl (c := b.getD i 0) (by omega) rfl]; simpa [List.set_set] using hs17, by omega, by simp; omega⟩ (by (try dsimp only); omega)
      ·
        refine h11 _ _ ?_
        clear h11
        refine stp (v := .int .i64 (i : Nat)) (o_mv rfl) ?_
        refine stp (v := .int .i64 ((i : Nat) + 1)) (o_bin rfl rfl (v_add64 (by constructor <;> omega))) ?_
        refine stp (v := .int .i64 ((i : Nat) + 1)) (o_mv rfl) ?_
        refine h7 (i + 1, g, r13) _ _ ⟨rfl, rfl, by first | rfl | exact v_int (by omega) | exact v_int (by simp) | exact v_int (by simp; omega), hM13, by rw [← setG2 0 rfl (by omega) (by omega)]; exact hs13, by omega, by simp; omega⟩ (by (try dsimp only); omega)
    ·
      refine h4 _ _ ?_
      clear h4
      refine seq fun K18 h18 => ?_
      refine stp (v := g) (o_mv rfl) ?_
      refine stp (v := g) (o_mv rfl) ?_
      refine h18 _ _ ?_
      clear h18
      refine ⟨g, rfl, ?_⟩
      have e : i = (b.length + 64) := by omega
      subst e
      rw [Nat.sub_self, List.replicate_zero, List.append_nil, List.take_of_length_le (by simp)] at hs
      exact ⟨_, hs, hM6⟩

/-- winnowlaw4.same -/
theorem same_ok (x y : Value) (a b : List UInt8) (w : World) (hx : RdE byteV w x a) (hy : RdE byteV w y b) (hla : a.length ≤ 9223372036854775807) : Calls Try.prog 27 [x, y].toArray w (Rt fun r w' => r = .bool (decide (a = b)) ∧ Upd [] w w') := by
  have hM0 : Mem w [] w [] := Mem.nil w []
  refine calls_vc mixed Try.func27 rfl C27 (by simp [Try.ntmps27]) ?_
  refine seq fun K1 h1 => ?_
  refine stp (v := .bool false) (o_mv rfl) ?_
  refine h1 _ _ ?_
  clear h1
  refine seq fun K2 h2 => ?_
  refine seq fun K3 h3 => ?_
  refine stp (v := x) (o_mv rfl) ?_
  refine stp (v := .int .i64 (a.length : Nat)) (o_lenR (hx.upd hM0.upd) rfl rfl) ?_
  refine stp (v := y) (o_mv rfl) ?_
  refine stp (v := .int .i64 (b.length : Nat)) (o_lenR (hy.upd hM0.upd) rfl rfl) ?_
  refine stp (v := .bool (decide (¬ ((a.length : Nat) : Int) = (b.length : Nat)))) (o_bin rfl rfl v_neq) ?_
  refine h3 _ _ ?_
  clear h3
  refine cndP rfl (fun c4 => ?_) (fun c4 => ?_)
  ·
    refine seq fun K5 h5 => ?_
    refine stp (v := .bool false) (o_mv rfl) ?_
    refine h5 _ _ ?_
    clear h5
    refine ⟨(.bool false), rfl, ?_⟩
    exact ⟨by rw [decide_eq_false (fun e => c4 (by rw [e]))], hM0.upd⟩
  ·
    refine h2 _ _ ?_
    clear h2
    refine seq fun K6 h6 => ?_
    refine seq fun K7 h7 => ?_
    refine stp (v := .int .i64 0) (o_mv rfl) ?_
    refine h7 _ _ ?_
    clear h7
    refine lp (n := fun _ _ => False) (ι := (Nat)) (fun i f w' => f 0 = x ∧ f 1 = y ∧ f 5 = .int .i64 (i : Nat) ∧ Mem w [] w' [] ∧ (i ≤ a.length) ∧ (a.take i = b.take i)) (fun i => a.length - i) (0) ?_ ?_
    · exact ⟨rfl, rfl, by first | rfl | exact v_int (by omega) | exact v_int (by simp) | exact v_int (by simp; omega), hM0, by omega, by simp⟩
    · rintro i f w8 ⟨e8_0, e8_1, e8_5, hM8, hi, hp⟩ K9 h9
      obtain ⟨frm, rfl⟩ : ∃ frm, f = (upd (upd (upd frm 0 (x)) 1 (y)) 5 (.int .i64 (i : Nat))) := ⟨f, by rw [upd_self e8_0, upd_self e8_1, upd_self e8_5]⟩
      clear e8_0 e8_1 e8_5
      refine seq fun K10 h10 => ?_
      refine seq fun K11 h11 => ?_
      refine stp (v := .int .i64 (i : Nat)) (o_mv rfl) ?_
      refine stp (v := x) (o_mv rfl) ?_
      refine stp (v := .int .i64 (a.length : Nat)) (o_lenR (hx.upd hM8.upd) rfl rfl) ?_
      refine stp (v := .bool (decide (((i : Nat) : Int) < (a.length : Nat)))) (o_bin rfl rfl rfl) ?_
      refine h11 _ _ ?_
      clear h11
      refine cndP rfl (fun c12 => ?_) (fun c12 => ?_)
      ·
        refine h10 _ _ ?_
        clear h10
        refine seq fun K13 h13 => ?_
        refine seq fun K14 h14 => ?_
        intro wd e1 e2 e3 e4
        have hd := Upd.same e1 e2 e3 e4 []
        have hM15 := hM8.pure hd
        clear e1 e2 e3 e4
        refine ⟨none, ?_⟩
        show vd _ _ _ _ _ _ _
        refine dq (v := x) (o_mv rfl) ?_
        refine dq (v := .int .i64 (i : Nat)) (o_mv rfl) ?_
        refine dqp (m_idxE 0 (j := i) (hx.upd hM15.upd) rfl rfl (by omega) fun b16 o16 hp16 => ?_)
        show vd _ _ _ _ _ _ _
        refine dq (v := y) (o_mv rfl) ?_
        refine dq (v := .int .i64 (i : Nat)) (o_mv rfl) ?_
        refine dqp (m_idxE 0 (j := i) (hy.upd hM15.upd) rfl rfl (by omega) fun b17 o17 hp17 => ?_)
        show vd _ _ _ _ _ _ _
        refine dqld rfl (trivial) (v := byteV (b.getD i 0)) (hp17) ?_
        refine dl (ld (v := byteV (a.getD i 0)) rfl (hp16) ?_)
        refine ⟨rfl, ?_⟩
        refine dq (v := .bool (decide (¬ ((a.getD i 0).toNat : Int) = ((b.getD i 0).toNat : Int)))) (o_bin rfl rfl v_neq) ?_
        refine h14 _ _ ?_
        clear h14
        refine cndP rfl (fun c18 => ?_) (fun c18 => ?_)
        ·
          refine seq fun K19 h19 => ?_
          refine stp (v := .bool false) (o_mv rfl) ?_
          refine h19 _ _ ?_
          clear h19
          refine ⟨(.bool false), rfl, ?_⟩
          exact ⟨by rw [decide_eq_false (ne_atG 0 i (nat_neG (by assumption)))], hM15.upd⟩
        ·
          refine h13 _ _ ?_
          clear h13
          refine stp (v := .int .i64 (i : Nat)) (o_mv rfl) ?_
          refine stp (v := .int .i64 ((i : Nat) + 1)) (o_bin rfl rfl (v_add64 (by constructor <;> omega))) ?_
          refine stp (v := .int .i64 ((i : Nat) + 1)) (o_mv rfl) ?_
          refine h9 (i + 1) _ _ ⟨rfl, rfl, by first | rfl | exact v_int (by omega) | exact v_int (by simp) | exact v_int (by simp; omega), hM15, by omega, take_eqG 0 hp (by omega) (by omega) (u8_eq (by omega))⟩ (by (try dsimp only); omega)
      ·
        refine h6 _ _ ?_
        clear h6
        refine seq fun K20 h20 => ?_
        refine stp (v := .bool true) (o_mv rfl) ?_
        refine h20 _ _ ?_
        clear h20
        refine ⟨(.bool true), rfl, ?_⟩
        exact ⟨by rw [decide_eq_true]; rw [← List.take_of_length_le (l := a) (i := i) (by omega), ← List.take_of_length_le (l := b) (i := i) (by omega), hp], hM8.upd⟩

/-- winnowlaw4.fill -/
theorem fill_ok (x : Value) (l : List UInt8) (m : UInt8) (r0 : List Ent) (w : World) (hs0 : SlE byteV 5 x l r0) (hr : Res w r0) (hl : l.length ≤ 140737489403904) : Calls Try.prog 25 [x, byteV m].toArray w (Rt fun r w' => r = .int .i64 ((l.length + 64 : Nat) : Int) ∧ Mem w (ids r0) w' []) := by
  have hM0 : Mem w (ids r0) w [r0] := Mem.start hr
  refine calls_vc mixed Try.func25 rfl C25 (by simp [Try.ntmps25]) ?_
  refine seq fun K1 h1 => ?_
  refine stp (v := .int .i64 0) (o_mv rfl) ?_
  refine h1 _ _ ?_
  clear h1
  refine seq fun K2 h2 => ?_
  refine seq fun K3 h3 => ?_
  refine stp (v := .int .i64 0) (o_mv rfl) ?_
  refine h3 _ _ ?_
  clear h3
  refine lp (n := fun _ _ => False) (ι := (Nat) × (List UInt8) × (Value) × (List Ent)) (fun ⟨i, la, y0_, r0_⟩ f w' => f 0 = y0_ ∧ f 5 = .int .i64 (i : Nat) ∧ f 1 = byteV m ∧ Mem w (ids r0) w' [r0_] ∧ (la.length = l.length) ∧ (i ≤ la.length) ∧ (SlE byteV 5 y0_ (la) r0_)) (fun ⟨i, la, y0_, r0_⟩ => l.length - i) (0, l, x, r0) ?_ ?_
  · exact ⟨rfl, by first | rfl | exact v_int (by omega) | exact v_int (by simp) | exact v_int (by simp; omega), by first | rfl | exact v_int (by omega) | exact v_int (by simp) | exact v_int (by simp; omega), hM0, rfl, by omega, by first | exact hs0 | simpa using hs0⟩
  · rintro ⟨i, la, y0_, r0_⟩ f w4 ⟨e4_0, e4_5, e4_1, hM4, hla, hi, hy0_⟩ K5 h5
    obtain ⟨frm, rfl⟩ : ∃ frm, f = (upd (upd (upd frm 0 (y0_)) 5 (.int .i64 (i : Nat))) 1 (byteV m)) := ⟨f, by rw [upd_self e4_0, upd_self e4_5, upd_self e4_1]⟩
    clear e4_0 e4_5 e4_1
    refine seq fun K6 h6 => ?_
    refine seq fun K7 h7 => ?_
    refine stp (v := .int .i64 (i : Nat)) (o_mv rfl) ?_
    refine stp (v := y0_) (o_mv rfl) ?_
    refine stp (v := .int .i64 (la.length : Nat)) (o_lenR (hy0_.rd hM4 (i := 0) rfl) rfl rfl) ?_
    refine stp (v := .bool (decide (((i : Nat) : Int) < (la.length : Nat)))) (o_bin rfl rfl rfl) ?_
    refine h7 _ _ ?_
    clear h7
    refine cndP rfl (fun c8 => ?_) (fun c8 => ?_)
    ·
      refine h6 _ _ ?_
      clear h6
      refine seq fun K9 h9 => ?_
      refine stp (v := y0_) (o_mv rfl) ?_
      refine stp (v := .int .i64 (i : Nat)) (o_mv rfl) ?_
      refine stp (v := byteV m) (o_mv rfl) ?_
      refine m_set (E := byteV) (q := m) (j := i) hM4 (i := 0) rfl hy0_ rfl rfl (by omega) (by simp) (rfl) fun w10 r10 u10 he10 hs10 (hM10 : Mem w (ids r0) w10 [r10]) => ?_
      refine h9 _ _ ?_
      clear h9
      refine stp (v := .int .i64 (i : Nat)) (o_mv rfl) ?_
      refine stp (v := .int .i64 ((i : Nat) + 1)) (o_bin rfl rfl (v_add64 (by constructor <;> omega))) ?_
      refine stp (v := .int .i64 ((i : Nat) + 1)) (o_mv rfl) ?_
      refine h5 (i + 1, la.set i m, y0_, r10) _ _ ⟨rfl, by first | rfl | exact v_int (by omega) | exact v_int (by simp) | exact v_int (by simp; omega), by first | rfl | exact v_int (by omega) | exact v_int (by simp) | exact v_int (by simp; omega), hM10, by simp; omega, by simp; omega, by first | exact hs10 | simpa using hs10⟩ (by (try dsimp only); omega)
    ·
      refine h2 _ _ ?_
      clear h2
      refine seq fun K11 h11 => ?_
      refine seq fun K12 h12 => ?_
      refine stp (v := .int .i64 0) (o_mv rfl) ?_
      refine h12 _ _ ?_
      clear h12
      refine lp (n := fun _ _ => False) (ι := (Nat) × (List UInt8) × (Value) × (List Ent)) (fun ⟨i, lb, y0_, r0_⟩ f w' => f 0 = y0_ ∧ f 6 = .int .i64 (i : Nat) ∧ f 1 = byteV m ∧ Mem w (ids r0) w' [r0_] ∧ (lb.length = l.length + i) ∧ (i ≤ 64) ∧ (SlE byteV 5 y0_ (lb) r0_)) (fun ⟨i, lb, y0_, r0_⟩ => 64 - i) (0, la, y0_, r0_) ?_ ?_
      · exact ⟨rfl, by first | rfl | exact v_int (by omega) | exact v_int (by simp) | exact v_int (by simp; omega), by first | rfl | exact v_int (by omega) | exact v_int (by simp) | exact v_int (by simp; omega), hM4, by omega, by omega, by first | exact hy0_ | simpa using hy0_⟩
      · rintro ⟨i, lb, y0_, r0_⟩ f w13 ⟨e13_0, e13_6, e13_1, hM13, hlb, hi, hy0_⟩ K14 h14
        obtain ⟨frm, rfl⟩ : ∃ frm, f = (upd (upd (upd frm 0 (y0_)) 6 (.int .i64 (i : Nat))) 1 (byteV m)) := ⟨f, by rw [upd_self e13_0, upd_self e13_6, upd_self e13_1]⟩
        clear e13_0 e13_6 e13_1
        refine seq fun K15 h15 => ?_
        refine seq fun K16 h16 => ?_
        refine stp (v := .int .i64 (i : Nat)) (o_mv rfl) ?_
        refine stp (v := .bool (decide (((i : Nat) : Int) < 64))) (o_bin rfl rfl rfl) ?_
        refine h16 _ _ ?_
        clear h16
        refine cndP rfl (fun c17 => ?_) (fun c17 => ?_)
        ·
          refine h15 _ _ ?_
          clear h15
          refine seq fun K18 h18 => ?_
          refine stp (v := y0_) (o_mv rfl) ?_
          refine stp (v := byteV m) (o_mv rfl) ?_
          refine stp (v := .int .u8 (((m.toNat : Int) + 1) % 256)) (o_bin rfl rfl (v_u8 _)) ?_
          refine m_app1 (E := byteV) (q := (((m.toNat : Int) + 1) % 256).toNat.toUInt8) hM13 (i := 0) rfl hy0_ rfl (by simp) (byteV_of (by omega) (by omega)) (by omega) (by omega) fun v19 w19 r19 u19 (hs19 : SlE byteV 5 v19 (lb ++ [(((m.toNat : Int) + 1) % 256).toNat.toUInt8]) r19) (hM19 : Mem w (ids r0) w19 [r19]) => ?_
          refine stp (v := v19) (o_mv rfl) ?_
          refine h18 _ _ ?_
          clear h18
          refine stp (v := .int .i64 (i : Nat)) (o_mv rfl) ?_
          refine stp (v := .int .i64 ((i : Nat) + 1)) (o_bin rfl rfl (v_add64 (by constructor <;> omega))) ?_
          refine stp (v := .int .i64 ((i : Nat) + 1)) (o_mv rfl) ?_
          refine h14 (i + 1, lb ++ [((m.toNat : Int) + 1) % 256 |>.toNat.toUInt8], v19, r19) _ _ ⟨rfl, by first | rfl | exact v_int (by omega) | exact v_int (by simp) | exact v_int (by simp; omega), by first | rfl | exact v_int (by omega) | exact v_int (by simp) | exact v_int (by simp; omega), hM19, by simp; omega, by omega, by first | exact hs19 | simpa using hs19⟩ (by (try dsimp only); omega)
        ·
          refine h11 _ _ ?_
          clear h11
          refine seq fun K20 h20 => ?_
          refine stp (v := y0_) (o_mv rfl) ?_
          refine stp (v := .int .i64 (lb.length : Nat)) (o_lenR (hy0_.rd hM13 (i := 0) rfl) rfl rfl) ?_
          refine stp (v := .int .i64 (lb.length : Nat)) (o_mv rfl) ?_
          refine h20 _ _ ?_
          clear h20
          refine ⟨(.int .i64 (lb.length : Nat)), rfl, ?_⟩
          exact ⟨v_int (by omega), hM13.keep (by simp)⟩

/-- winnowlaw4.HuffDecodes -/
theorem HuffDecodes_ok (x : Value) (b : List UInt8) (n : Int) (hn : inK .i64 n) (w : World) (hx : RdE byteV w x b) (hl : b.length ≤ 140737488351232) : Calls Try.prog 5 [x, .int .i64 n].toArray w (Rt fun r w' => r = .bool true ∧ Upd [] w w') := by
  have hM0 : Mem w [] w [] := Mem.nil w []
  simp only [inK] at hn
  refine calls_vc mixed Try.func5 rfl C5 (by simp [Try.ntmps5]) ?_
  refine seq fun K1 h1 => ?_
  refine stp (v := .bool false) (o_mv rfl) ?_
  refine h1 _ _ ?_
  clear h1
  refine seq fun K2 h2 => ?_
  refine stp (v := x) (o_mv rfl) ?_
  refine m_call (roomy_ok _ b w (hx.upd hM0.upd) (by first | omega | (simp; done) | (simp; omega))) rfl fun v3 w3 ⟨rs3, hs3, hm3⟩ => ?_
  have hM3 : Mem w [] w3 [rs3] := hM0.add hm3
  refine stp (v := v3) (o_mv rfl) ?_
  refine h2 _ _ ?_
  clear h2
  refine seq fun K4 h4 => ?_
  refine stp (v := v3) (o_mv rfl) ?_
  refine stp (v := x) (o_mv rfl) ?_
  refine stp (v := .int .i64 (b.length : Nat)) (o_lenR (hx.upd hM3.upd) rfl rfl) ?_
  refine m_slcO b.length (hs3) rfl (by first | omega | (simp; done) | (simp; omega)) (⟨_, rfl⟩) trivial fun u5 hu5 => ?_
  have hu5' := SlE.eqL (m := b) hu5 (by simp)
  refine stp (v := .int .i64 n) (o_mv rfl) ?_
  refine m_call (Decode_ok _ b n w3 (hu5'.rd hM3 (i := 0) rfl) (by first | omega | (simp; done) | (simp; omega)) (by simp only [inK]; omega)) rfl fun v6 w6 ⟨y6, rs6, hr6, hs6, hm6⟩ => ?_
  have hM6 : Mem w [] w6 [rs3, rs6] := hM3.add hm6
  subst hr6
  have hcl6 := huffD_len b n
  refine stp (v := .tuple [y6, .int .i64 ((huffD b n).2)].toArray) (o_mv rfl) ?_
  refine stp (v := y6) (o_ext rfl rfl) ?_
  refine stp (v := .int .i64 ((huffD b n).2)) (o_ext rfl rfl) ?_
  refine stp (v := y6) (o_mv rfl) ?_
  refine stp (v := .int .i64 ((huffD b n).2)) (o_mv rfl) ?_
  refine h4 _ _ ?_
  clear h4
  refine seq fun K7 h7 => ?_
  refine stp (v := v3) (o_mv rfl) ?_
  refine stp (v := x) (o_mv rfl) ?_
  refine stp (v := .int .i64 (b.length : Nat)) (o_lenR (hx.upd hM6.upd) rfl rfl) ?_
  refine m_slcO b.length (hs3) rfl (by first | omega | (simp; done) | (simp; omega)) (⟨_, rfl⟩) trivial fun u8 hu8 => ?_
  have hu8' := SlE.eqL (m := b) hu8 (by simp)
  refine stp (v := .int .i64 n) (o_mv rfl) ?_
  refine m_call (Decode_ok _ b n w6 (hu8'.rd hM6 (i := 0) rfl) (by first | omega | (simp; done) | (simp; omega)) (by simp only [inK]; omega)) rfl fun v9 w9 ⟨y9, rs9, hr9, hs9, hm9⟩ => ?_
  have hM9 : Mem w [] w9 [rs3, rs6, rs9] := hM6.add hm9
  subst hr9
  have hcl9 := huffD_len b n
  refine stp (v := .tuple [y9, .int .i64 ((huffD b n).2)].toArray) (o_mv rfl) ?_
  refine stp (v := y9) (o_ext rfl rfl) ?_
  refine stp (v := .int .i64 ((huffD b n).2)) (o_ext rfl rfl) ?_
  refine stp (v := y9) (o_mv rfl) ?_
  refine stp (v := .int .i64 ((huffD b n).2)) (o_mv rfl) ?_
  refine h7 _ _ ?_
  clear h7
  refine seq fun K10 h10 => ?_
  refine stp (v := y6) (o_mv rfl) ?_
  refine m_call (fill_ok _ ((huffD b n).1) 7 rs6 w9 hs6 (hM9.res (i := 1) rfl) (by first | omega | (simp; done) | (simp; omega))) rfl fun v11 w11 ⟨hr11, hm11⟩ => ?_
  have hM11 : Mem w [] w11 [rs3, [], rs9] := hM9.step 1 (r' := []) rfl (hm11.keep (by simp))
  subst hr11
  refine stp (v := .int .i64 (((huffD b n).1).length + 64 : Nat)) (o_mv rfl) ?_
  refine h10 _ _ ?_
  clear h10
  refine seq fun K12 h12 => ?_
  refine stp (v := x) (o_mv rfl) ?_
  refine stp (v := .int .i64 n) (o_mv rfl) ?_
  refine m_call (refDecode_ok _ b n w11 (hx.upd hM11.upd) (by first | omega | (simp; done) | (simp; omega)) (by simp only [inK]; omega)) rfl fun v13 w13 ⟨y13, rs13, hr13, hs13, hm13⟩ => ?_
  have hM13 : Mem w [] w13 [rs3, [], rs9, rs13] := hM11.add hm13
  subst hr13
  have hcl13 := huffD_len b n
  refine stp (v := .tuple [y13, .int .i64 ((huffD b n).2)].toArray) (o_mv rfl) ?_
  refine stp (v := y13) (o_ext rfl rfl) ?_
  refine stp (v := .int .i64 ((huffD b n).2)) (o_ext rfl rfl) ?_
  refine stp (v := y13) (o_mv rfl) ?_
  refine stp (v := .int .i64 ((huffD b n).2)) (o_mv rfl) ?_
  refine h12 _ _ ?_
  clear h12
  refine seq fun K14 h14 => ?_
  refine seq fun K15 h15 => ?_
  refine stp (v := .int .i64 ((huffD b n).2)) (o_mv rfl) ?_
  refine stp (v := .int .i64 ((huffD b n).2)) (o_mv rfl) ?_
  refine stp (v := .bool false) (o_bin rfl rfl v_neF) ?_
  refine stp (v := .bool false) (o_mv rfl) ?_
  refine splitF rfl ?_
  refine stg rfl (v := .int .i64 ((huffD b n).2)) (o_mv rfl) ?_
  refine stg rfl (v := .int .i64 ((huffD b n).2)) (o_mv rfl) ?_
  refine stg rfl (v := .bool false) (o_bin rfl rfl v_neF) ?_
  refine stp (v := .bool false) (o_pickF rfl rfl) ?_
  refine stp (v := .bool false) (o_mv rfl) ?_
  refine splitF rfl ?_
  refine stg rfl (v := y9) (o_mv rfl) ?_
  refine stg rfl (v := y13) (o_mv rfl) ?_
  refine gyesl rfl ?_
  refine m_call (same_ok _ _ ((huffD b n).1) ((huffD b n).1) w13 (hs9.rd hM13 (i := 2) rfl) (hs13.rd hM13 (i := 3) rfl) (by first | omega | (simp; done) | (simp; omega))) rfl fun v16 w16 ⟨hr16, hu16⟩ => ?_
  have hM16 : Mem w [] w16 [rs3, [], rs9, rs13] := hM13.pure hu16
  obtain rfl : v16 = .bool true := hr16.trans (by simp)
  clear hr16
  refine stg rfl (v := .bool false) (o_not rfl rfl) ?_
  refine stp (v := .bool false) (o_pickF rfl rfl) ?_
  refine stp (v := .bool false) (o_mv rfl) ?_
  refine splitF rfl ?_
  refine stg rfl (v := .int .i64 (((huffD b n).1).length + 64 : Nat)) (o_mv rfl) ?_
  refine stg rfl (v := y13) (o_mv rfl) ?_
  refine stg rfl (v := .int .i64 (((huffD b n).1).length : Nat)) (o_lenR (hs13.rd hM16 (i := 3) rfl) rfl rfl) ?_
  refine stg rfl (v := .int .i64 ((((huffD b n).1).length : Nat) + 64)) (o_bin rfl rfl (v_add64 (by constructor <;> omega))) ?_
  refine stg rfl (v := .bool (decide (¬ ((((huffD b n).1).length + 64 : Nat) : Int) = ((((huffD b n).1).length : Nat) + 64)))) (o_bin rfl rfl v_neq) ?_
  refine stp (v := .bool (decide (¬ ((((huffD b n).1).length + 64 : Nat) : Int) = ((((huffD b n).1).length : Nat) + 64)))) (o_pickF rfl rfl) ?_
  refine stp (v := .bool (decide (¬ ((((huffD b n).1).length + 64 : Nat) : Int) = ((((huffD b n).1).length : Nat) + 64)))) (o_mv rfl) ?_
  refine splitP rfl (fun c17 => absurd c17 (by omega)) (fun c17 => ?_)
  refine stg rfl (v := v3) (o_mv rfl) ?_
  refine stg rfl (v := x) (o_mv rfl) ?_
  refine gyesl rfl ?_
  refine m_call (roomy_ok _ b w16 (hx.upd hM16.upd) (by first | omega | (simp; done) | (simp; omega))) rfl fun v18 w18 ⟨rs18, hs18, hm18⟩ => ?_
  have hM18 : Mem w [] w18 [rs3, [], rs9, rs13, rs18] := hM16.add hm18
  refine gyesl rfl ?_
  refine m_call (same_ok _ _ (b ++ List.replicate 64 (165 : UInt8)) (b ++ List.replicate 64 (165 : UInt8)) w18 (hs3.rd hM18 (i := 0) rfl) (hs18.rd hM18 (i := 4) rfl) (by first | omega | (simp; done) | (simp; omega))) rfl fun v19 w19 ⟨hr19, hu19⟩ => ?_
  have hM19 : Mem w [] w19 [rs3, [], rs9, rs13, rs18] := hM18.pure hu19
  obtain rfl : v19 = .bool true := hr19.trans (by simp)
  clear hr19
  refine stg rfl (v := .bool false) (o_not rfl rfl) ?_
  refine stp (v := .bool false) (o_pickF rfl rfl) ?_
  refine h15 _ _ ?_
  clear h15
  refine cndF rfl ?_
  refine h14 _ _ ?_
  clear h14
  refine seq fun K20 h20 => ?_
  refine stp (v := x) (o_mv rfl) ?_
  refine m_call (roomy_ok _ b w19 (hx.upd hM19.upd) (by first | omega | (simp; done) | (simp; omega))) rfl fun v21 w21 ⟨rs21, hs21, hm21⟩ => ?_
  have hM21 : Mem w [] w21 [rs3, [], rs9, rs13, rs18, rs21] := hM19.add hm21
  refine stp (v := x) (o_mv rfl) ?_
  refine stp (v := .int .i64 (b.length : Nat)) (o_lenR (hx.upd hM21.upd) rfl rfl) ?_
  refine m_slcO b.length (hs21) rfl (by first | omega | (simp; done) | (simp; omega)) (⟨_, rfl⟩) trivial fun u22 hu22 => ?_
  have hu22' := SlE.eqL (m := b) hu22 (by simp)
  refine stp (v := u22) (o_mv rfl) ?_
  refine h20 _ _ ?_
  clear h20
  refine seq fun K23 h23 => ?_
  refine seq fun K24 h24 => ?_
  refine stp (v := x) (o_mv rfl) ?_
  refine stp (v := .int .i64 (b.length : Nat)) (o_lenR (hx.upd hM21.upd) rfl rfl) ?_
  refine stp (v := .bool (decide ((0 : Int) < ((b.length : Nat) : Int)))) (o_bin rfl rfl rfl) ?_
  refine h24 _ _ ?_
  clear h24
  refine cndP rfl (fun c25 => ?_) (fun c25 => ?_)
  ·
    refine seq fun K26 h26 => ?_
    refine stp (v := v3) (o_mv rfl) ?_
    refine stp (v := x) (o_mv rfl) ?_
    refine stp (v := .int .i64 (b.length : Nat)) (o_lenR (hx.upd hM21.upd) rfl rfl) ?_
    refine stp (v := .int .i64 ((b.length : Nat) - 1)) (o_bin rfl rfl (v_sub64 (by constructor <;> omega))) ?_
    refine stp (v := v3) (o_mv rfl) ?_
    refine stp (v := x) (o_mv rfl) ?_
    refine stp (v := .int .i64 (b.length : Nat)) (o_lenR (hx.upd hM21.upd) rfl rfl) ?_
    refine stp (v := .int .i64 ((b.length : Nat) - 1)) (o_bin rfl rfl (v_sub64 (by constructor <;> omega))) ?_
    refine m_idxE 0 (j := (b.length - 1)) (hs3.rd hM21 (i := 0) rfl) rfl (v_int (by omega)) (by first | omega | (simp; omega)) fun b27 o27 hp27 => ?_
    refine ld (v := byteV ((b ++ List.replicate 64 (165 : UInt8)).getD (b.length - 1) 0)) rfl (hp27) ?_
    refine stp (v := .int .u8 (((((b ++ List.replicate 64 (165 : UInt8)).getD (b.length - 1) 0).toNat : Int) + 1) % 256)) (o_bin rfl rfl (v_u8 _)) ?_
    refine m_set (E := byteV) (q := (((((b ++ List.replicate 64 (165 : UInt8)).getD (b.length - 1) 0).toNat : Int) + 1) % 256).toNat.toUInt8) (j := (b.length - 1)) hM21 (i := 0) rfl hs3 rfl (v_int (by omega)) (by first | omega | (simp; omega)) (by simp) (byteV_of (by omega) (by omega)) fun w28 r28 u28 he28 hs28 (hM28 : Mem w [] w28 [r28, [], rs9, rs13, rs18, rs21]) => ?_
    refine h26 _ _ ?_
    clear h26
    refine stp (v := u22) (o_mv rfl) ?_
    refine stp (v := x) (o_mv rfl) ?_
    refine stp (v := .int .i64 (b.length : Nat)) (o_lenR (hx.upd hM28.upd) rfl rfl) ?_
    refine stp (v := .int .i64 ((b.length : Nat) - 1)) (o_bin rfl rfl (v_sub64 (by constructor <;> omega))) ?_
    refine stp (v := u22) (o_mv rfl) ?_
    refine stp (v := x) (o_mv rfl) ?_
    refine stp (v := .int .i64 (b.length : Nat)) (o_lenR (hx.upd hM28.upd) rfl rfl) ?_
    refine stp (v := .int .i64 ((b.length : Nat) - 1)) (o_bin rfl rfl (v_sub64 (by constructor <;> omega))) ?_
    refine m_idxE 0 (j := (b.length - 1)) (hu22'.rd hM28 (i := 5) rfl) rfl (v_int (by omega)) (by first | omega | (simp; omega)) fun b29 o29 hp29 => ?_
    refine ld (v := byteV (b.getD (b.length - 1) 0)) rfl (hp29) ?_
    refine stp (v := .int .u8 ((((b.getD (b.length - 1) 0).toNat : Int) + 1) % 256)) (o_bin rfl rfl (v_u8 _)) ?_
    refine m_set (E := byteV) (q := ((((b.getD (b.length - 1) 0).toNat : Int) + 1) % 256).toNat.toUInt8) (j := (b.length - 1)) hM28 (i := 5) rfl hu22' rfl (v_int (by omega)) (by first | omega | (simp; omega)) (by simp) (byteV_of (by omega) (by omega)) fun w30 r30 u30 he30 hs30 (hM30 : Mem w [] w30 [r28, [], rs9, rs13, rs18, r30]) => ?_
    refine h23 _ _ ?_
    clear h23
    refine seq fun K31 h31 => ?_
    refine stp (v := v3) (o_mv rfl) ?_
    refine stp (v := x) (o_mv rfl) ?_
    refine stp (v := .int .i64 (b.length : Nat)) (o_lenR (hx.upd hM30.upd) rfl rfl) ?_
    refine m_slcO b.length (hs28) rfl (by first | omega | (simp; done) | (simp; omega)) (⟨_, rfl⟩) trivial fun u32 hu32 => ?_
    have hu32' := SlE.eqL (m := b.set (b.length - 1) ((((b.getD (b.length - 1) 0).toNat : Int) + 1) % 256).toNat.toUInt8) hu32 (cut_set (by omega))
    refine stp (v := .int .i64 n) (o_mv rfl) ?_
    refine m_call (Decode_ok _ (b.set (b.length - 1) ((((b.getD (b.length - 1) 0).toNat : Int) + 1) % 256).toNat.toUInt8) n w30 (hu32'.rd hM30 (i := 0) rfl) (by first | omega | (simp; done) | (simp; omega)) (by simp only [inK]; omega)) rfl fun v33 w33 ⟨y33, rs33, hr33, hs33, hm33⟩ => ?_
    have hM33 : Mem w [] w33 [r28, [], rs9, rs13, rs18, r30, rs33] := hM30.add hm33
    subst hr33
    have hcl33 := huffD_len (b.set (b.length - 1) ((((b.getD (b.length - 1) 0).toNat : Int) + 1) % 256).toNat.toUInt8) n
    refine stp (v := .tuple [y33, .int .i64 ((huffD (b.set (b.length - 1) ((((b.getD (b.length - 1) 0).toNat : Int) + 1) % 256).toNat.toUInt8) n).2)].toArray) (o_mv rfl) ?_
    refine stp (v := y33) (o_ext rfl rfl) ?_
    refine stp (v := .int .i64 ((huffD (b.set (b.length - 1) ((((b.getD (b.length - 1) 0).toNat : Int) + 1) % 256).toNat.toUInt8) n).2)) (o_ext rfl rfl) ?_
    refine stp (v := y33) (o_mv rfl) ?_
    refine stp (v := .int .i64 ((huffD (b.set (b.length - 1) ((((b.getD (b.length - 1) 0).toNat : Int) + 1) % 256).toNat.toUInt8) n).2)) (o_mv rfl) ?_
    refine h31 _ _ ?_
    clear h31
    refine seq fun K34 h34 => ?_
    refine stp (v := u22) (o_mv rfl) ?_
    refine stp (v := .int .i64 n) (o_mv rfl) ?_
    refine m_call (refDecode_ok _ (b.set (b.length - 1) (((((b.getD (b.length - 1) 0).toNat : Int) + 1) % 256).toNat.toUInt8)) n w33 (hs30.rd hM33 (i := 5) rfl) (by first | omega | (simp; done) | (simp; omega)) (by simp only [inK]; omega)) rfl fun v35 w35 ⟨y35, rs35, hr35, hs35, hm35⟩ => ?_
    have hM35 : Mem w [] w35 [r28, [], rs9, rs13, rs18, r30, rs33, rs35] := hM33.add hm35
    subst hr35
    have hcl35 := huffD_len (b.set (b.length - 1) (((((b.getD (b.length - 1) 0).toNat : Int) + 1) % 256).toNat.toUInt8)) n
    refine stp (v := .tuple [y35, .int .i64 ((huffD (b.set (b.length - 1) (((((b.getD (b.length - 1) 0).toNat : Int) + 1) % 256).toNat.toUInt8)) n).2)].toArray) (o_mv rfl) ?_
    refine stp (v := y35) (o_ext rfl rfl) ?_
    refine stp (v := .int .i64 ((huffD (b.set (b.length - 1) (((((b.getD (b.length - 1) 0).toNat : Int) + 1) % 256).toNat.toUInt8)) n).2)) (o_ext rfl rfl) ?_
    refine stp (v := y35) (o_mv rfl) ?_
    refine stp (v := .int .i64 ((huffD (b.set (b.length - 1) (((((b.getD (b.length - 1) 0).toNat : Int) + 1) % 256).toNat.toUInt8)) n).2)) (o_mv rfl) ?_
    refine h34 _ _ ?_
    clear h34
    refine seq fun K36 h36 => ?_
    refine stp (v := y33) (o_mv rfl) ?_
    refine stp (v := y35) (o_mv rfl) ?_
    refine m_call (same_ok _ _ ((huffD (b.set (b.length - 1) ((((b.getD (b.length - 1) 0).toNat : Int) + 1) % 256).toNat.toUInt8) n).1) ((huffD (b.set (b.length - 1) (((((b.getD (b.length - 1) 0).toNat : Int) + 1) % 256).toNat.toUInt8)) n).1) w35 (hs33.rd hM35 (i := 6) rfl) (hs35.rd hM35 (i := 7) rfl) (by first | omega | (simp; done) | (simp; omega))) rfl fun v37 w37 ⟨hr37, hu37⟩ => ?_
    have hM37 : Mem w [] w37 [r28, [], rs9, rs13, rs18, r30, rs33, rs35] := hM35.pure hu37
    obtain rfl : v37 = .bool true := hr37.trans (by simp)
    clear hr37
    refine stp (v := .bool true) (o_mv rfl) ?_
    refine splitT rfl ?_
    refine stg rfl (v := .int .i64 ((huffD (b.set (b.length - 1) ((((b.getD (b.length - 1) 0).toNat : Int) + 1) % 256).toNat.toUInt8) n).2)) (o_mv rfl) ?_
    refine stg rfl (v := .int .i64 ((huffD (b.set (b.length - 1) (((((b.getD (b.length - 1) 0).toNat : Int) + 1) % 256).toNat.toUInt8)) n).2)) (o_mv rfl) ?_
    refine stg rfl (v := .bool (decide (((huffD (b.set (b.length - 1) ((((b.getD (b.length - 1) 0).toNat : Int) + 1) % 256).toNat.toUInt8) n).2) = ((huffD (b.set (b.length - 1) (((((b.getD (b.length - 1) 0).toNat : Int) + 1) % 256).toNat.toUInt8)) n).2)))) (o_bin rfl rfl rfl) ?_
    refine stp (v := .bool (decide (((huffD (b.set (b.length - 1) ((((b.getD (b.length - 1) 0).toNat : Int) + 1) % 256).toNat.toUInt8) n).2) = ((huffD (b.set (b.length - 1) (((((b.getD (b.length - 1) 0).toNat : Int) + 1) % 256).toNat.toUInt8)) n).2)))) (o_pickT rfl rfl) ?_
    refine stp (v := .bool (decide (((huffD (b.set (b.length - 1) ((((b.getD (b.length - 1) 0).toNat : Int) + 1) % 256).toNat.toUInt8) n).2) = ((huffD (b.set (b.length - 1) (((((b.getD (b.length - 1) 0).toNat : Int) + 1) % 256).toNat.toUInt8)) n).2)))) (o_mv rfl) ?_
    refine h36 _ _ ?_
    clear h36
    refine ⟨(.bool (decide (((huffD (b.set (b.length - 1) ((((b.getD (b.length - 1) 0).toNat : Int) + 1) % 256).toNat.toUInt8) n).2) = ((huffD (b.set (b.length - 1) (((((b.getD (b.length - 1) 0).toNat : Int) + 1) % 256).toNat.toUInt8)) n).2)))), rfl, ?_⟩
    exact ⟨by first | rfl | simp, hM37.upd⟩
  ·
    refine h23 _ _ ?_
    clear h23
    refine seq fun K38 h38 => ?_
    refine stp (v := v3) (o_mv rfl) ?_
    refine stp (v := x) (o_mv rfl) ?_
    refine stp (v := .int .i64 (b.length : Nat)) (o_lenR (hx.upd hM21.upd) rfl rfl) ?_
    refine m_slcO b.length (hs3) rfl (by first | omega | (simp; done) | (simp; omega)) (⟨_, rfl⟩) trivial fun u39 hu39 => ?_
    have hu39' := SlE.eqL (m := b) hu39 (by simp)
    refine stp (v := .int .i64 n) (o_mv rfl) ?_
    refine m_call (Decode_ok _ b n w21 (hu39'.rd hM21 (i := 0) rfl) (by first | omega | (simp; done) | (simp; omega)) (by simp only [inK]; omega)) rfl fun v40 w40 ⟨y40, rs40, hr40, hs40, hm40⟩ => ?_
    have hM40 : Mem w [] w40 [rs3, [], rs9, rs13, rs18, rs21, rs40] := hM21.add hm40
    subst hr40
    have hcl40 := huffD_len b n
    refine stp (v := .tuple [y40, .int .i64 ((huffD b n).2)].toArray) (o_mv rfl) ?_
    refine stp (v := y40) (o_ext rfl rfl) ?_
    refine stp (v := .int .i64 ((huffD b n).2)) (o_ext rfl rfl) ?_
    refine stp (v := y40) (o_mv rfl) ?_
    refine stp (v := .int .i64 ((huffD b n).2)) (o_mv rfl) ?_
    refine h38 _ _ ?_
    clear h38
    refine seq fun K41 h41 => ?_
    refine stp (v := u22) (o_mv rfl) ?_
    refine stp (v := .int .i64 n) (o_mv rfl) ?_
    refine m_call (refDecode_ok _ b n w40 (hu22'.rd hM40 (i := 5) rfl) (by first | omega | (simp; done) | (simp; omega)) (by simp only [inK]; omega)) rfl fun v42 w42 ⟨y42, rs42, hr42, hs42, hm42⟩ => ?_
    have hM42 : Mem w [] w42 [rs3, [], rs9, rs13, rs18, rs21, rs40, rs42] := hM40.add hm42
    subst hr42
    have hcl42 := huffD_len b n
    refine stp (v := .tuple [y42, .int .i64 ((huffD b n).2)].toArray) (o_mv rfl) ?_
    refine stp (v := y42) (o_ext rfl rfl) ?_
    refine stp (v := .int .i64 ((huffD b n).2)) (o_ext rfl rfl) ?_
    refine stp (v := y42) (o_mv rfl) ?_
    refine stp (v := .int .i64 ((huffD b n).2)) (o_mv rfl) ?_
    refine h41 _ _ ?_
    clear h41
    refine seq fun K43 h43 => ?_
    refine stp (v := y40) (o_mv rfl) ?_
    refine stp (v := y42) (o_mv rfl) ?_
    refine m_call (same_ok _ _ ((huffD b n).1) ((huffD b n).1) w42 (hs40.rd hM42 (i := 6) rfl) (hs42.rd hM42 (i := 7) rfl) (by first | omega | (simp; done) | (simp; omega))) rfl fun v44 w44 ⟨hr44, hu44⟩ => ?_
    have hM44 : Mem w [] w44 [rs3, [], rs9, rs13, rs18, rs21, rs40, rs42] := hM42.pure hu44
    obtain rfl : v44 = .bool true := hr44.trans (by simp)
    clear hr44
    refine stp (v := .bool true) (o_mv rfl) ?_
    refine splitT rfl ?_
    refine stg rfl (v := .int .i64 ((huffD b n).2)) (o_mv rfl) ?_
    refine stg rfl (v := .int .i64 ((huffD b n).2)) (o_mv rfl) ?_
    refine stg rfl (v := .bool true) (o_bin rfl rfl v_eqT) ?_
    refine stp (v := .bool true) (o_pickT rfl rfl) ?_
    refine stp (v := .bool true) (o_mv rfl) ?_
    refine h43 _ _ ?_
    clear h43
    refine ⟨(.bool true), rfl, ?_⟩
    exact ⟨by first | rfl | simp, hM44.upd⟩
