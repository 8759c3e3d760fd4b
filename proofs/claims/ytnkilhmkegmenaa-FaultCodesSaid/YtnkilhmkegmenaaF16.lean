/- Entries as bytes, the document's way: Decode. -/
import Derived.Test.YtnkilhmkegmenaaF15
namespace Go.Proofs.Ytnkilhmkegmenaa.E
open Go
def entW (b : List UInt8) (a : Nat) : Flt :=
  ⟨(wrdW b a 1 : Nat), (wrdW b (a + 1) 1 : Nat), (numW b (a + 1 + 1)).1, (numW b (numW b (a + 1 + 1)).2).1, (wrdW b (numW b (numW b (a + 1 + 1)).2).2 1 : Nat), (numW b ((numW b (numW b (a + 1 + 1)).2).2 + 1)).1,
    IntKind.i64.wrap (wrdW b (numW b ((numW b (numW b (a + 1 + 1)).2).2 + 1)).2 8 : Nat), IntKind.u32.wrap (wrdW b ((numW b ((numW b (numW b (a + 1 + 1)).2).2 + 1)).2 + 8) 4 : Nat)⟩
def nxtW (b : List UInt8) (a : Nat) : Nat := (numW b ((numW b (numW b (a + 1 + 1)).2).2 + 1)).2 + 8 + 4
def decW (b : List UInt8) : Nat → Nat → List Flt × Nat
  | 0, a => ([], a)
  | n + 1, a => ((decW b n a).1 ++ [entW b (decW b n a).2], nxtW b (decW b n a).2)
theorem decW_succ (b : List UInt8) (n a : Nat) : (decW b (n + 1) a).1 = (decW b n a).1 ++ [entW b (decW b n a).2] := rfl
theorem decW_succ2 (b : List UInt8) (n a : Nat) : (decW b (n + 1) a).2 = nxtW b (decW b n a).2 := rfl
theorem decW_length (b : List UInt8) (n a : Nat) : (decW b n a).1.length = n := by
  induction n with
  | zero => rfl
  | succ n ih => rw [decW_succ, List.length_append, ih]; rfl
def decWN (b : List UInt8) : Nat := min (numW b 0).1.toNat 257
def decWL (b : List UInt8) : List Flt := (decW b (decWN b) (numW b 0).2).1
theorem numW_at {b rest : List UInt8} {a : Nat} {v : Int} (h0 : 0 ≤ v) (hv : v ≤ 9223372036854775807) (h : b.drop a = putI v ++ rest) : numW b a = (v, a + (putI v).length) ∧ b.drop (a + (putI v).length) = rest := by
  have hg := get_put h0 hv rest
  rw [← h] at hg
  have hp := putI_pos h0
  have hl := congrArg List.length h
  rw [List.length_drop, List.length_append] at hl
  refine ⟨?_, by rw [← List.drop_drop, h, List.drop_left]⟩
  rw [numW_yes (by omega) (by rw [hg]), hg]
  simp only []
  rw [Int.toNat_of_nonneg h0]
theorem wrdW_at {b rest : List UInt8} {a n v : Nat} (h : b.drop a = fixed n v ++ rest) : wrdW b a n = v % 256 ^ n ∧ b.drop (a + n) = rest := by
  refine ⟨?_, by rw [← List.drop_drop, h, List.drop_left' (fixed_length n v)]⟩
  unfold wrdW
  rw [h, List.take_left' (fixed_length n v), le_fixed]
theorem entW_at {b rest : List UInt8} {a : Nat} {f : Flt} (hg : goodP f) (hk : f.ok) (h : b.drop a = entB f ++ rest) : entW b a = f ∧ nxtW b a = a + (entB f).length ∧ b.drop (nxtW b a) = rest := by
  have r1 := good_rng hg
  obtain ⟨_, _, _, _, _, _, ha, hm⟩ := hk
  simp only [inK] at ha hm
  unfold entB at h ⊢
  simp only [List.append_assoc] at h
  have q1 := wrdW_at (n := 1) h
  have q2 := wrdW_at (n := 1) q1.2
  have q3 := numW_at (by omega) (by omega) q2.2
  have q4 := numW_at (by omega) (by omega) q3.2
  have q5 := wrdW_at (n := 1) q4.2
  have q6 := numW_at (by omega) (by omega) q5.2
  have q7 := wrdW_at (n := 8) q6.2
  have q8 := wrdW_at (n := 4) q7.2
  refine ⟨?_, ?_, ?_⟩
  · unfold entW
    rw [q3.1]; dsimp only; rw [q4.1]; dsimp only; rw [q6.1]; dsimp only
    rw [q1.1, q2.1, q5.1, q7.1, q8.1, wrap_i64, wrap_u32]
    obtain ⟨kind, tk, task, att, mom, rd, at_, mask⟩ := f
    simp only [Flt.mk.injEq] at *
    refine ⟨?_, ?_, trivial, trivial, ?_, trivial, ?_, ?_⟩
    · simp only [Nat.pow_one]; omega
    · simp only [Nat.pow_one]; omega
    · simp only [Nat.pow_one]; omega
    · have : (256 : Nat) ^ 8 = 18446744073709551616 := by decide
      rw [this]; split <;> omega
    · have : (256 : Nat) ^ 4 = 4294967296 := by decide
      rw [this]; omega
  · unfold nxtW
    rw [q3.1]; dsimp only; rw [q4.1]; dsimp only; rw [q6.1]
    simp only [List.length_append, fixed_length]; omega
  · unfold nxtW
    rw [q3.1]; dsimp only; rw [q4.1]; dsimp only; rw [q6.1]
    exact q8.2
theorem decW_at {b : List UInt8} {l : List Flt} (hg : ∀ f ∈ l, goodP f ∧ f.ok) : ∀ {n a : Nat} {rest : List UInt8}, n ≤ l.length → b.drop a = (l.take n).flatMap entB ++ rest → (decW b n a).1 = l.take n ∧ b.drop (decW b n a).2 = rest := by
  intro n
  induction n with
  | zero => intro a rest _ h; exact ⟨rfl, by simpa [decW] using h⟩
  | succ n ih =>
    intro a rest hn h
    rw [takeG fz (by omega : n < l.length), List.flatMap_append, List.append_assoc] at h
    have h1 := ih (by omega) h
    have hm := getD_memG fz (i := n) (l := l) (by omega)
    have h2 := entW_at (b := b) (a := (decW b n a).2) (f := l.getD n fz) (rest := rest) (hg _ hm).1 (hg _ hm).2 (by rw [h1.2]; simp)
    refine ⟨?_, ?_⟩
    · rw [decW_succ, h1.1, h2.1, takeG fz (by omega : n < l.length)]
    · rw [decW_succ2]; exact h2.2.2
theorem entW_ok (b : List UInt8) (a : Nat) : (entW b a).ok := by
  have hw : ∀ a, wrdW b a 1 < 256 := fun a => wrdW_lt (n := 1)
  have hn := numW_bd b
  have g1 := hw a
  have g2 := hw (a + 1)
  have g3 := hn (a + 1 + 1)
  have g4 := hn (numW b (a + 1 + 1)).2
  have g5 := hw (numW b (numW b (a + 1 + 1)).2).2
  have g6 := hn ((numW b (numW b (a + 1 + 1)).2).2 + 1)
  unfold entW Flt.ok
  simp only [inK]
  refine ⟨by omega, by omega, by omega, by omega, by omega, by omega, ?_, ?_⟩
  · rw [wrap_i64]; split <;> omega
  · rw [wrap_u32]; omega
theorem decW_ok (b : List UInt8) (n a : Nat) : ∀ f ∈ (decW b n a).1, f.ok := by
  induction n with
  | zero => intro f hf; cases hf
  | succ n ih =>
    intro f hf
    rw [decW_succ] at hf
    rcases List.mem_append.1 hf with h | h
    · exact ih f h
    · rw [List.mem_singleton.1 h]; exact entW_ok _ _
/-- what is read leniently and written gives the bytes again just where Decode tells it -/
theorem decW_eq (b : List UInt8) : decV b = if (encE (decWL b)).2 = 0 ∧ (encE (decWL b)).1 = b then (decWL b, 0) else ([], 160) := by
  by_cases c : (decV b).2 = 0
  · obtain ⟨h1, h2⟩ := enc_dec c
    have hk := decV_ok b
    have hb : b = putI (((decV b).1.length : Nat) : Int) ++ (decV b).1.flatMap entB := by
      have := congrArg Prod.fst h2
      unfold encE at this
      rw [if_pos h1] at this
      exact this.symm
    generalize hm : (decV b).1 = m at *
    obtain ⟨hl, hf⟩ := check_0 h1
    have hg := fine_good hf
    have q := numW_at (b := b) (a := 0) (v := (m.length : Nat)) (rest := m.flatMap entB) (by omega) (by omega) (by rw [List.drop_zero]; exact hb)
    have r := decW_at (b := b) (l := m) (fun f h => ⟨hg f h, hk f h⟩) (n := m.length) (a := 0 + (putI ((m.length : Nat) : Int)).length) (rest := []) (by omega) (by rw [List.take_length, List.append_nil]; exact q.2)
    have hL : decWL b = m := by
      unfold decWL decWN
      rw [q.1]
      dsimp only
      rw [Int.toNat_natCast, Nat.min_eq_left (by omega), r.1, List.take_length]
    rw [hL, if_pos ⟨by rw [h2], by rw [h2]⟩]
    exact Prod.ext hm c
  · rw [decV_no c]
    by_cases k : (encE (decWL b)).2 = 0 ∧ (encE (decWL b)).1 = b
    · exfalso
      have hk : ∀ f ∈ decWL b, f.ok := decW_ok _ _ _
      have hc : check (decWL b) = 0 := by rw [← encE_2]; exact k.1
      have := dec_enc hk hc
      rw [k.2] at this
      rw [this] at c
      exact c rfl
    · rw [if_neg k]

/-- winnowref16.same -/
theorem refsame_ok (x y : Value) (a b : List UInt8) (w : World) (hx : RdE byteV w x a) (hy : RdE byteV w y b) (hla : a.length ≤ 9223372036854775807) : Calls Try.prog 52 [x, y].toArray w (Rt fun r w' => r = .bool (decide (a = b)) ∧ Upd [] w w') := by
  have hM0 : Mem w [] w [] := Mem.nil w []
  refine calls_vc mixed Try.func52 rfl C52 (by simp [Try.ntmps52]) ?_
  refine seq fun K1 h1 => ?_
  refine stp (v := .bool false) (o_mv rfl) ?_
  refine h1 _ _ ?_
  clear h1
  refine seq fun K2 h2 => ?_
  refine seq fun K3 h3 => ?_
  refine stp (v := x) (o_mv rfl) ?_
  refine stp (v := .int .i64 (a.length : Nat)) (o_lenR (hx.upd hM0.upd) rfl rfl) ?_
  refine stp (v := y) (o_mv rfl) ?_
  refine stp (v := .int .i64 (b.length : Nat)) (o_lenR (hy.upd hM0.upd) rfl rfl) ?_
  refine stp (v := .bool (decide (¬ ((a.length : Nat) : Int) = (b.length : Nat)))) (o_bin rfl rfl v_neq) ?_
  refine h3 _ _ ?_
  clear h3
  refine cndP rfl (fun c4 => ?_) (fun c4 => ?_)
  ·
    refine seq fun K5 h5 => ?_
    refine stp (v := .bool false) (o_mv rfl) ?_
    refine h5 _ _ ?_
    clear h5
    refine ⟨(.bool false), rfl, ?_⟩
    exact ⟨by rw [decide_eq_false (fun e => c4 (by rw [e]))], hM0.upd⟩
  ·
    refine h2 _ _ ?_
    clear h2
    refine seq fun K6 h6 => ?_
    refine seq fun K7 h7 => ?_
    refine stp (v := .int .i64 0) (o_mv rfl) ?_
    refine h7 _ _ ?_
    clear h7
    refine lp (n := fun _ _ => False) (ι := (Nat)) (fun i f w' => f 0 = x ∧ f 1 = y ∧ f 5 = .int .i64 (i : Nat) ∧ Mem w [] w' [] ∧ (i ≤ a.length) ∧ (a.take i = b.take i)) (fun i => a.length - i) (0) ?_ ?_
    · exact ⟨rfl, rfl, by first | rfl | exact v_int (by omega) | exact v_int (by simp) | exact v_int (by simp; omega), hM0, by omega, by simp⟩
    · rintro i f w8 ⟨e8_0, e8_1, e8_5, hM8, hi, hp⟩ K9 h9
      obtain ⟨frm, rfl⟩ : ∃ frm, f = (upd (upd (upd frm 0 (x)) 1 (y)) 5 (.int .i64 (i : Nat))) := ⟨f, by rw [upd_self e8_0, upd_self e8_1, upd_self e8_5]⟩
      clear e8_0 e8_1 e8_5
      refine seq fun K10 h10 => ?_
      refine seq fun K11 h11 => ?_
      refine stp (v := .int .i64 (i : Nat)) (o_mv rfl) ?_
      refine stp (v := x) (o_mv rfl) ?_
      refine stp (v := .int .i64 (a.length : Nat)) (o_lenR (hx.upd hM8.upd) rfl rfl) ?_
      refine stp (v := .bool (decide (((i : Nat) : Int) < (a.length : Nat)))) (o_bin rfl rfl rfl) ?_
      refine h11 _ _ ?_
      clear h11
      refine cndP rfl (fun c12 => ?_) (fun c12 => ?_)
      ·
        refine h10 _ _ ?_
        clear h10
        refine seq fun K13 h13 => ?_
        refine seq fun K14 h14 => ?_
        intro wd e1 e2 e3 e4
        have hd := Upd.same e1 e2 e3 e4 []
        have hM15 := hM8.pure hd
        clear e1 e2 e3 e4
        refine ⟨none, ?_⟩
        show vd _ _ _ _ _ _ _
        refine dq (v := x) (o_mv rfl) ?_
        refine dq (v := .int .i64 (i : Nat)) (o_mv rfl) ?_
        refine dqp (m_idxE 0 (j := i) (hx.upd hM15.upd) rfl rfl (by omega) fun b16 o16 hp16 => ?_)
        show vd _ _ _ _ _ _ _
        refine dq (v := y) (o_mv rfl) ?_
        refine dq (v := .int .i64 (i : Nat)) (o_mv rfl) ?_
        refine dqp (m_idxE 0 (j := i) (hy.upd hM15.upd) rfl rfl (by omega) fun b17 o17 hp17 => ?_)
        show vd _ _ _ _ _ _ _
        refine dqld rfl (trivial) (v := byteV (b.getD i 0)) (hp17) ?_
        refine dl (ld (v := byteV (a.getD i 0)) rfl (hp16) ?_)
        refine ⟨rfl, ?_⟩
        refine dq (v := .bool (decide (¬ ((a.getD i 0).toNat : Int) = ((b.getD i 0).toNat : Int)))) (o_bin rfl rfl v_neq) ?_
        refine h14 _ _ ?_
        clear h14
        refine cndP rfl (fun c18 => ?_) (fun c18 => ?_)
        ·
          refine seq fun K19 h19 => ?_
          refine stp (v := .bool false) (o_mv rfl) ?_
          refine h19 _ _ ?_
          clear h19
          refine ⟨(.bool false), rfl, ?_⟩
          exact ⟨by rw [decide_eq_false (ne_atG 0 i (nat_neG (by assumption)))], hM15.upd⟩
        ·
          refine h13 _ _ ?_
          clear h13
          refine stp (v := .int .i64 (i : Nat)) (o_mv rfl) ?_
          refine stp (v := .int .i64 ((i : Nat) + 1)) (o_bin rfl rfl (v_add64 (by constructor <;> omega))) ?_
          refine stp (v := .int .i64 ((i : Nat) + 1)) (o_mv rfl) ?_
          refine h9 (i + 1) _ _ ⟨rfl, rfl, by first | rfl | exact v_int (by omega) | exact v_int (by simp) | exact v_int (by simp; omega), hM15, by omega, take_eqG 0 hp (by omega) (by omega) (u8_eq (by omega))⟩ (by (try dsimp only); omega)
      ·
        refine h6 _ _ ?_
        clear h6
        refine seq fun K20 h20 => ?_
        refine stp (v := .bool true) (o_mv rfl) ?_
        refine h20 _ _ ?_
        clear h20
        refine ⟨(.bool true), rfl, ?_⟩
        exact ⟨by rw [decide_eq_true]; rw [← List.take_of_length_le (l := a) (i := i) (by omega), ← List.take_of_length_le (l := b) (i := i) (by omega), hp], hM8.upd⟩

attribute [local irreducible] vr in
set_option maxHeartbeats 4000000 in
/-- winnowref16.Decode -/
theorem refDecode_ok (x : Value) (b : List UInt8) (w : World) (hx : RdE byteV w x b) (hl : b.length ≤ 140737488355328) : Calls Try.prog 34 [x].toArray w (Rt fun r w' => ∃ v rs, r = .tuple #[v, .int .i64 (decV b).2] ∧ SlS fltC 8 25 v (decV b).1 rs ∧ Mem w [] w' [rs]) := by
  have hM0 : Mem w [] w [] := Mem.nil w []
  refine calls_vc mixed Try.func34 rfl C34 (by simp [Try.ntmps34]) ?_
  refine seq fun K1 h1 => ?_
  refine stp (v := .slice none 0 0) (o_mv rfl) ?_
  refine stp (v := .int .i64 0) (o_mv rfl) ?_
  refine vnil ?_
  refine h1 _ _ ?_
  clear h1
  refine seq fun K2 h2 => ?_
  refine stp (v := x) (o_mv rfl) ?_
  obtain ⟨a3_, n3_, c3_, rfl⟩ := Rd.isSlice (hx.upd hM0.upd)
  refine stp (v := .agg ([(.slice a3_ n3_ c3_), .int .i64 0] : List Value).toArray) (o_bld rfl rfl) ?_
  refine m_bx (v := .agg ([(.slice a3_ n3_ c3_), .int .i64 0] : List Value).toArray) hM0 rfl rfl fun b4 w5 (hM5 : Mem w [] w5 [[⟨b4, 87, [(.slice a3_ n3_ c3_), .int .i64 0]⟩]]) => ?_
  refine stp (v := .pointer (some ⟨b4, 0, none⟩)) (o_mv rfl) ?_
  refine vnil ?_
  refine h2 _ _ ?_
  clear h2
  refine seq fun K6 h6 => ?_
  refine stp (v := .pointer (some ⟨b4, 0, none⟩)) (o_mv rfl) ?_
  refine m_call (number_ok b4 ((.slice a3_ n3_ c3_)) b 0 w5 (hM5.res (i := 0) rfl) (fun w' r' hm => hx.upd (hM5.step 0 rfl hm).upd) hl (by first | omega | (simp; omega))) rfl fun v7 w7 ⟨hr7, r'7, he7, hm7⟩ => ?_
  have hb7 := numW_bd b 0
  obtain ⟨V7, hV7⟩ : ∃ V, V = (numW b 0).1 := ⟨_, rfl⟩
  obtain ⟨z7, hz7⟩ : ∃ z, z = (numW b 0).2 := ⟨_, rfl⟩
  rw [← hV7] at hr7 hb7
  rw [← hz7] at he7 hb7
  subst he7
  have hM7 : Mem w [] w7 [[⟨b4, 87, [(.slice a3_ n3_ c3_), .int .i64 (z7 : Nat)]⟩]] := hM5.step 0 rfl hm7
  subst hr7
  refine stp (v := .int .i64 V7) (o_mv rfl) ?_
  refine vnil ?_
  refine h6 _ _ ?_
  clear h6
  refine seq fun K8 h8 => ?_
  refine stp (v := .slice none 0 0) (o_mv rfl) ?_
  refine vnil ?_
  refine h8 _ _ ?_
  clear h8
  refine seq fun K9 h9 => ?_
  refine seq fun K10 h10 => ?_
  refine stp (v := .int .i64 0) (o_mv rfl) ?_
  refine vnil ?_
  refine h10 _ _ ?_
  clear h10
  have hM11 : Mem w [] w7 [[⟨b4, 87, [(.slice a3_ n3_ c3_), .int .i64 (z7 : Nat)]⟩], []] := hM7.addNil
  have hs11 : SlS fltC 8 25 (.slice none 0 0) [] [] := Sl.nil 8 25
  refine lp (n := fun _ _ => False) (ι := (Nat) × (Value) × (List Ent)) (fun ⟨i, y6_, r6_⟩ f w' => f 6 = y6_ ∧ f 7 = .int .i64 (i : Nat) ∧ f 0 = (.slice a3_ n3_ c3_) ∧ f 4 = .pointer (some ⟨b4, 0, none⟩) ∧ f 5 = .int .i64 V7 ∧ Mem w [] w' [[⟨b4, 87, [(.slice a3_ n3_ c3_), .int .i64 ((decW b i z7).2 : Nat)]⟩], r6_] ∧ ((i : Int) ≤ V7 ∧ i ≤ 257) ∧ ((decW b i z7).2 ≤ b.length + 15 * i) ∧ (SlS fltC 8 25 y6_ ((decW b i z7).1) r6_)) (fun ⟨i, y6_, r6_⟩ => 257 - i) (0, ((.slice none 0 0)), ([])) ?_ ?_
  · exact ⟨rfl, by first | rfl | exact v_int (by omega) | exact v_int (by simp) | exact v_int (by simp; omega), rfl, rfl, by first | rfl | exact v_int (by omega) | exact v_int (by simp) | exact v_int (by simp; omega), hM11, by omega, by show z7 ≤ _; omega, by first | exact hs11 | simpa using hs11⟩
  · rintro ⟨i, y6_, r6_⟩ f w12 ⟨e12_6, e12_7, e12_0, e12_4, e12_5, hM12, hi, hza, hy6_⟩ K13 h13
    obtain ⟨frm, rfl⟩ : ∃ frm, f = (upd (upd (upd (upd (upd frm 6 (y6_)) 7 (.int .i64 (i : Nat))) 0 ((.slice a3_ n3_ c3_))) 4 (.pointer (some ⟨b4, 0, none⟩))) 5 (.int .i64 V7)) := ⟨f, by rw [upd_self e12_6, upd_self e12_7, upd_self e12_0, upd_self e12_4, upd_self e12_5]⟩
    clear e12_6 e12_7 e12_0 e12_4 e12_5
    refine seq fun K14 h14 => ?_
    refine seq fun K15 h15 => ?_
    refine stp (v := .int .i64 (i : Nat)) (o_mv rfl) ?_
    refine stp (v := .int .i64 V7) (o_mv rfl) ?_
    refine stp (v := .bool (decide (((i : Nat) : Int) < V7))) (o_bin rfl rfl rfl) ?_
    refine stp (v := .bool (decide (((i : Nat) : Int) < V7))) (o_mv rfl) ?_
    refine splitP rfl (fun c16 => ?_) (fun c16 => ?_)
    ·
      refine stg rfl (v := .int .i64 (i : Nat)) (o_mv rfl) ?_
      refine stg rfl (v := .bool (decide (((i : Nat) : Int) ≤ 256))) (o_bin rfl rfl rfl) ?_
      refine stp (v := .bool (decide (((i : Nat) : Int) ≤ 256))) (o_pickT rfl rfl) ?_
      refine vnil ?_
      refine h15 _ _ ?_
      clear h15
      refine cndP rfl (fun c17 => ?_) (fun c17 => ?_)
      ·
        refine h14 _ _ ?_
        clear h14
        refine seq fun K18 h18 => ?_
        refine seq fun K19 h19 => ?_
        refine stp (v := .agg ([.int .i64 0, .int .i64 0, .int .i64 0, .int .i64 0, .int .i64 0, .int .i64 0, .int .i64 0, .int .u32 0] : List Value).toArray) (o_bld rfl rfl) ?_
        refine m_al hM12 fun b20 w21 (hM21 : Mem w [] w21 [[⟨b4, 87, [(.slice a3_ n3_ c3_), .int .i64 ((decW b i z7).2 : Nat)]⟩], r6_, [⟨b20, 25, [.int .i64 0, .int .i64 0, .int .i64 0, .int .i64 0, .int .i64 0, .int .i64 0, .int .i64 0, .int .u32 0]⟩]]) => ?_
        refine m_stA (l := [.int .i64 0, .int .i64 0, .int .i64 0, .int .i64 0, .int .i64 0, .int .i64 0, .int .i64 0, .int .u32 0]) hM21 (i := 2) rfl rfl rfl rfl (by simp [oneCells, Value.oneCell', byteV]) (by simp) fun w22 (hM22 : Mem w [] w22 [[⟨b4, 87, [(.slice a3_ n3_ c3_), .int .i64 ((decW b i z7).2 : Nat)]⟩], r6_, [⟨b20, 25, [.int .i64 0, .int .i64 0, .int .i64 0, .int .i64 0, .int .i64 0, .int .i64 0, .int .i64 0, .int .u32 0]⟩]]) => ?_
        refine vnil ?_
        refine h19 _ _ ?_
        clear h19
        refine seq fun K23 h23 => ?_
        refine stp (v := .pointer (some ⟨b4, 0, none⟩)) (o_mv rfl) ?_
        refine m_call (word_ok16 b4 ((.slice a3_ n3_ c3_)) b ((decW b i z7).2) 1 (by omega) w22 (hM22.res (i := 0) rfl) (fun w' r' hm => hx.upd (hM22.step 0 rfl hm).upd) hl (by first | omega | (simp; omega))) rfl fun v24 w24 ⟨hr24, r'24, he24, hm24⟩ => ?_
        have hb24 : wrdW b ((decW b i z7).2) 1 < 256 := wrdW_lt (n := 1)
        obtain ⟨V24, hV24⟩ : ∃ V, V = wrdW b ((decW b i z7).2) 1 := ⟨_, rfl⟩
        obtain ⟨z24, hz24⟩ : ∃ z, z = ((decW b i z7).2) + 1 := ⟨_, rfl⟩
        rw [← hV24] at hr24 hb24
        rw [← hz24] at he24
        subst he24
        have hM24 : Mem w [] w24 [[⟨b4, 87, [(.slice a3_ n3_ c3_), .int .i64 (z24 : Nat)]⟩], r6_, [⟨b20, 25, [.int .i64 0, .int .i64 0, .int .i64 0, .int .i64 0, .int .i64 0, .int .i64 0, .int .i64 0, .int .u32 0]⟩]] := hM22.step 0 rfl hm24
        subst hr24
        refine stp (v := .int .i64 (V24 : Nat)) (o_conv rfl (v_same (by simp only [inK]; omega))) ?_
        refine stp (v := .pointer (some ⟨b20, 0, none⟩)) (o_fa rfl rfl) ?_
        refine m_st (v := .int .i64 (V24 : Nat)) hM24 (i := 2) rfl rfl rfl rfl (by simp) fun w25 (hM25 : Mem w [] w25 [[⟨b4, 87, [(.slice a3_ n3_ c3_), .int .i64 (z24 : Nat)]⟩], r6_, [⟨b20, 25, [.int .i64 (V24 : Nat), .int .i64 0, .int .i64 0, .int .i64 0, .int .i64 0, .int .i64 0, .int .i64 0, .int .u32 0]⟩]]) => ?_
        refine vnil ?_
        refine h23 _ _ ?_
        clear h23
        refine seq fun K26 h26 => ?_
        refine stp (v := .pointer (some ⟨b4, 0, none⟩)) (o_mv rfl) ?_
        refine m_call (word_ok16 b4 ((.slice a3_ n3_ c3_)) b z24 1 (by omega) w25 (hM25.res (i := 0) rfl) (fun w' r' hm => hx.upd (hM25.step 0 rfl hm).upd) hl (by first | omega | (simp; omega))) rfl fun v27 w27 ⟨hr27, r'27, he27, hm27⟩ => ?_
        have hb27 : wrdW b z24 1 < 256 := wrdW_lt (n := 1)
        obtain ⟨V27, hV27⟩ : ∃ V, V = wrdW b z24 1 := ⟨_, rfl⟩
        obtain ⟨z27, hz27⟩ : ∃ z, z = z24 + 1 := ⟨_, rfl⟩
        rw [← hV27] at hr27 hb27
        rw [← hz27] at he27
        subst he27
        have hM27 : Mem w [] w27 [[⟨b4, 87, [(.slice a3_ n3_ c3_), .int .i64 (z27 : Nat)]⟩], r6_, [⟨b20, 25, [.int .i64 (V24 : Nat), .int .i64 0, .int .i64 0, .int .i64 0, .int .i64 0, .int .i64 0, .int .i64 0, .int .u32 0]⟩]] := hM25.step 0 rfl hm27
        subst hr27
        refine stp (v := .int .i64 (V27 : Nat)) (o_conv rfl (v_same (by simp only [inK]; omega))) ?_
        refine stp (v := .pointer (some ⟨b20, 1, none⟩)) (o_fa rfl rfl) ?_
        refine m_st (v := .int .i64 (V27 : Nat)) hM27 (i := 2) rfl rfl rfl rfl (by simp) fun w28 (hM28 : Mem w [] w28 [[⟨b4, 87, [(.slice a3_ n3_ c3_), .int .i64 (z27 : Nat)]⟩], r6_, [⟨b20, 25, [.int .i64 (V24 : Nat), .int .i64 (V27 : Nat), .int .i64 0, .int .i64 0, .int .i64 0, .int .i64 0, .int .i64 0, .int .u32 0]⟩]]) => ?_
        refine vnil ?_
        refine h26 _ _ ?_
        clear h26
        refine seq fun K29 h29 => ?_
        refine stp (v := .pointer (some ⟨b4, 0, none⟩)) (o_mv rfl) ?_
        refine m_call (number_ok b4 ((.slice a3_ n3_ c3_)) b z27 w28 (hM28.res (i := 0) rfl) (fun w' r' hm => hx.upd (hM28.step 0 rfl hm).upd) hl (by first | omega | (simp; omega))) rfl fun v30 w30 ⟨hr30, r'30, he30, hm30⟩ => ?_
        have hb30 := numW_bd b z27
        obtain ⟨V30, hV30⟩ : ∃ V, V = (numW b z27).1 := ⟨_, rfl⟩
        obtain ⟨z30, hz30⟩ : ∃ z, z = (numW b z27).2 := ⟨_, rfl⟩
        rw [← hV30] at hr30 hb30
        rw [← hz30] at he30 hb30
        subst he30
        have hM30 : Mem w [] w30 [[⟨b4, 87, [(.slice a3_ n3_ c3_), .int .i64 (z30 : Nat)]⟩], r6_, [⟨b20, 25, [.int .i64 (V24 : Nat), .int .i64 (V27 : Nat), .int .i64 0, .int .i64 0, .int .i64 0, .int .i64 0, .int .i64 0, .int .u32 0]⟩]] := hM28.step 0 rfl hm30
        subst hr30
        refine stp (v := .pointer (some ⟨b20, 2, none⟩)) (o_fa rfl rfl) ?_
        refine m_st (v := .int .i64 V30) hM30 (i := 2) rfl rfl rfl rfl (by simp) fun w31 (hM31 : Mem w [] w31 [[⟨b4, 87, [(.slice a3_ n3_ c3_), .int .i64 (z30 : Nat)]⟩], r6_, [⟨b20, 25, [.int .i64 (V24 : Nat), .int .i64 (V27 : Nat), .int .i64 V30, .int .i64 0, .int .i64 0, .int .i64 0, .int .i64 0, .int .u32 0]⟩]]) => ?_
        refine vnil ?_
        refine h29 _ _ ?_
        clear h29
        refine seq fun K32 h32 => ?_
        refine stp (v := .pointer (some ⟨b4, 0, none⟩)) (o_mv rfl) ?_
        refine m_call (number_ok b4 ((.slice a3_ n3_ c3_)) b z30 w31 (hM31.res (i := 0) rfl) (fun w' r' hm => hx.upd (hM31.step 0 rfl hm).upd) hl (by first | omega | (simp; omega))) rfl fun v33 w33 ⟨hr33, r'33, he33, hm33⟩ => ?_
        have hb33 := numW_bd b z30
        obtain ⟨V33, hV33⟩ : ∃ V, V = (numW b z30).1 := ⟨_, rfl⟩
        obtain ⟨z33, hz33⟩ : ∃ z, z = (numW b z30).2 := ⟨_, rfl⟩
        rw [← hV33] at hr33 hb33
        rw [← hz33] at he33 hb33
        subst he33
        have hM33 : Mem w [] w33 [[⟨b4, 87, [(.slice a3_ n3_ c3_), .int .i64 (z33 : Nat)]⟩], r6_, [⟨b20, 25, [.int .i64 (V24 : Nat), .int .i64 (V27 : Nat), .int .i64 V30, .int .i64 0, .int .i64 0, .int .i64 0, .int .i64 0, .int .u32 0]⟩]] := hM31.step 0 rfl hm33
        subst hr33
        refine stp (v := .pointer (some ⟨b20, 3, none⟩)) (o_fa rfl rfl) ?_
        refine m_st (v := .int .i64 V33) hM33 (i := 2) rfl rfl rfl rfl (by simp) fun w34 (hM34 : Mem w [] w34 [[⟨b4, 87, [(.slice a3_ n3_ c3_), .int .i64 (z33 : Nat)]⟩], r6_, [⟨b20, 25, [.int .i64 (V24 : Nat), .int .i64 (V27 : Nat), .int .i64 V30, .int .i64 V33, .int .i64 0, .int .i64 0, .int .i64 0, .int .u32 0]⟩]]) => ?_
        refine vnil ?_
        refine h32 _ _ ?_
        clear h32
        refine seq fun K35 h35 => ?_
        refine stp (v := .pointer (some ⟨b4, 0, none⟩)) (o_mv rfl) ?_
        refine m_call (word_ok16 b4 ((.slice a3_ n3_ c3_)) b z33 1 (by omega) w34 (hM34.res (i := 0) rfl) (fun w' r' hm => hx.upd (hM34.step 0 rfl hm).upd) hl (by first | omega | (simp; omega))) rfl fun v36 w36 ⟨hr36, r'36, he36, hm36⟩ => ?_
        have hb36 : wrdW b z33 1 < 256 := wrdW_lt (n := 1)
        obtain ⟨V36, hV36⟩ : ∃ V, V = wrdW b z33 1 := ⟨_, rfl⟩
        obtain ⟨z36, hz36⟩ : ∃ z, z = z33 + 1 := ⟨_, rfl⟩
        rw [← hV36] at hr36 hb36
        rw [← hz36] at he36
        subst he36
        have hM36 : Mem w [] w36 [[⟨b4, 87, [(.slice a3_ n3_ c3_), .int .i64 (z36 : Nat)]⟩], r6_, [⟨b20, 25, [.int .i64 (V24 : Nat), .int .i64 (V27 : Nat), .int .i64 V30, .int .i64 V33, .int .i64 0, .int .i64 0, .int .i64 0, .int .u32 0]⟩]] := hM34.step 0 rfl hm36
        subst hr36
        refine stp (v := .int .i64 (V36 : Nat)) (o_conv rfl (v_same (by simp only [inK]; omega))) ?_
        refine stp (v := .pointer (some ⟨b20, 4, none⟩)) (o_fa rfl rfl) ?_
        refine m_st (v := .int .i64 (V36 : Nat)) hM36 (i := 2) rfl rfl rfl rfl (by simp) fun w37 (hM37 : Mem w [] w37 [[⟨b4, 87, [(.slice a3_ n3_ c3_), .int .i64 (z36 : Nat)]⟩], r6_, [⟨b20, 25, [.int .i64 (V24 : Nat), .int .i64 (V27 : Nat), .int .i64 V30, .int .i64 V33, .int .i64 (V36 : Nat), .int .i64 0, .int .i64 0, .int .u32 0]⟩]]) => ?_
        refine vnil ?_
        refine h35 _ _ ?_
        clear h35
        refine seq fun K38 h38 => ?_
        refine stp (v := .pointer (some ⟨b4, 0, none⟩)) (o_mv rfl) ?_
        refine m_call (number_ok b4 ((.slice a3_ n3_ c3_)) b z36 w37 (hM37.res (i := 0) rfl) (fun w' r' hm => hx.upd (hM37.step 0 rfl hm).upd) hl (by first | omega | (simp; omega))) rfl fun v39 w39 ⟨hr39, r'39, he39, hm39⟩ => ?_
        have hb39 := numW_bd b z36
        obtain ⟨V39, hV39⟩ : ∃ V, V = (numW b z36).1 := ⟨_, rfl⟩
        obtain ⟨z39, hz39⟩ : ∃ z, z = (numW b z36).2 := ⟨_, rfl⟩
        rw [← hV39] at hr39 hb39
        rw [← hz39] at he39 hb39
        subst he39
        have hM39 : Mem w [] w39 [[⟨b4, 87, [(.slice a3_ n3_ c3_), .int .i64 (z39 : Nat)]⟩], r6_, [⟨b20, 25, [.int .i64 (V24 : Nat), .int .i64 (V27 : Nat), .int .i64 V30, .int .i64 V33, .int .i64 (V36 : Nat), .int .i64 0, .int .i64 0, .int .u32 0]⟩]] := hM37.step 0 rfl hm39
        subst hr39
        refine stp (v := .pointer (some ⟨b20, 5, none⟩)) (o_fa rfl rfl) ?_
        refine m_st (v := .int .i64 V39) hM39 (i := 2) rfl rfl rfl rfl (by simp) fun w40 (hM40 : Mem w [] w40 [[⟨b4, 87, [(.slice a3_ n3_ c3_), .int .i64 (z39 : Nat)]⟩], r6_, [⟨b20, 25, [.int .i64 (V24 : Nat), .int .i64 (V27 : Nat), .int .i64 V30, .int .i64 V33, .int .i64 (V36 : Nat), .int .i64 V39, .int .i64 0, .int .u32 0]⟩]]) => ?_
        refine vnil ?_
        refine h38 _ _ ?_
        clear h38
        refine seq fun K41 h41 => ?_
        refine stp (v := .pointer (some ⟨b4, 0, none⟩)) (o_mv rfl) ?_
        refine m_call (word_ok16 b4 ((.slice a3_ n3_ c3_)) b z39 8 (by omega) w40 (hM40.res (i := 0) rfl) (fun w' r' hm => hx.upd (hM40.step 0 rfl hm).upd) hl (by first | omega | (simp; omega))) rfl fun v42 w42 ⟨hr42, r'42, he42, hm42⟩ => ?_
        have hb42 : wrdW b z39 8 < 18446744073709551616 := wrdW_lt (n := 8)
        obtain ⟨V42, hV42⟩ : ∃ V, V = wrdW b z39 8 := ⟨_, rfl⟩
        obtain ⟨z42, hz42⟩ : ∃ z, z = z39 + 8 := ⟨_, rfl⟩
        rw [← hV42] at hr42 hb42
        rw [← hz42] at he42
        subst he42
        have hM42 : Mem w [] w42 [[⟨b4, 87, [(.slice a3_ n3_ c3_), .int .i64 (z42 : Nat)]⟩], r6_, [⟨b20, 25, [.int .i64 (V24 : Nat), .int .i64 (V27 : Nat), .int .i64 V30, .int .i64 V33, .int .i64 (V36 : Nat), .int .i64 V39, .int .i64 0, .int .u32 0]⟩]] := hM40.step 0 rfl hm42
        subst hr42
        refine stp (v := .int .i64 (IntKind.i64.wrap (V42 : Nat))) (o_conv rfl (rfl)) ?_
        refine stp (v := .pointer (some ⟨b20, 6, none⟩)) (o_fa rfl rfl) ?_
        refine m_st (v := .int .i64 (IntKind.i64.wrap (V42 : Nat))) hM42 (i := 2) rfl rfl rfl rfl (by simp) fun w43 (hM43 : Mem w [] w43 [[⟨b4, 87, [(.slice a3_ n3_ c3_), .int .i64 (z42 : Nat)]⟩], r6_, [⟨b20, 25, [.int .i64 (V24 : Nat), .int .i64 (V27 : Nat), .int .i64 V30, .int .i64 V33, .int .i64 (V36 : Nat), .int .i64 V39, .int .i64 (IntKind.i64.wrap (V42 : Nat)), .int .u32 0]⟩]]) => ?_
        refine vnil ?_
        refine h41 _ _ ?_
        clear h41
        refine seq fun K44 h44 => ?_
        refine stp (v := .pointer (some ⟨b4, 0, none⟩)) (o_mv rfl) ?_
        refine m_call (word_ok16 b4 ((.slice a3_ n3_ c3_)) b z42 4 (by omega) w43 (hM43.res (i := 0) rfl) (fun w' r' hm => hx.upd (hM43.step 0 rfl hm).upd) hl (by first | omega | (simp; omega))) rfl fun v45 w45 ⟨hr45, r'45, he45, hm45⟩ => ?_
        have hb45 : wrdW b z42 4 < 4294967296 := wrdW_lt (n := 4)
        obtain ⟨V45, hV45⟩ : ∃ V, V = wrdW b z42 4 := ⟨_, rfl⟩
        obtain ⟨z45, hz45⟩ : ∃ z, z = z42 + 4 := ⟨_, rfl⟩
        rw [← hV45] at hr45 hb45
        rw [← hz45] at he45
        subst he45
        have hM45 : Mem w [] w45 [[⟨b4, 87, [(.slice a3_ n3_ c3_), .int .i64 (z45 : Nat)]⟩], r6_, [⟨b20, 25, [.int .i64 (V24 : Nat), .int .i64 (V27 : Nat), .int .i64 V30, .int .i64 V33, .int .i64 (V36 : Nat), .int .i64 V39, .int .i64 (IntKind.i64.wrap (V42 : Nat)), .int .u32 0]⟩]] := hM43.step 0 rfl hm45
        subst hr45
        refine stp (v := .int .u32 (IntKind.u32.wrap (V45 : Nat))) (o_conv rfl (rfl)) ?_
        refine stp (v := .pointer (some ⟨b20, 7, none⟩)) (o_fa rfl rfl) ?_
        refine m_st (v := .int .u32 (IntKind.u32.wrap (V45 : Nat))) hM45 (i := 2) rfl rfl rfl rfl (by simp) fun w46 (hM46 : Mem w [] w46 [[⟨b4, 87, [(.slice a3_ n3_ c3_), .int .i64 (z45 : Nat)]⟩], r6_, [⟨b20, 25, [.int .i64 (V24 : Nat), .int .i64 (V27 : Nat), .int .i64 V30, .int .i64 V33, .int .i64 (V36 : Nat), .int .i64 V39, .int .i64 (IntKind.i64.wrap (V42 : Nat)), .int .u32 (IntKind.u32.wrap (V45 : Nat))]⟩]]) => ?_
        refine vnil ?_
        refine h44 _ _ ?_
        clear h44
        have hzz : (decW b (i + 1) z7).2 = z45 := by rw [decW_succ2]; unfold nxtW; subst_vars; rfl
        have hdl := decW_length b i z7
        refine stp (v := y6_) (o_mv rfl) ?_
        refine m_ldA (l := [.int .i64 (V24 : Nat), .int .i64 (V27 : Nat), .int .i64 V30, .int .i64 V33, .int .i64 (V36 : Nat), .int .i64 V39, .int .i64 (IntKind.i64.wrap (V42 : Nat)), .int .u32 (IntKind.u32.wrap (V45 : Nat))]) hM46 (i := 2) (j := 0) rfl rfl rfl rfl rfl ?_
        refine m_app1S (enc := fltC) (q := (⟨(V24 : Nat), (V27 : Nat), V30, V33, (V36 : Nat), V39, IntKind.i64.wrap (V42 : Nat), IntKind.u32.wrap (V45 : Nat)⟩ : Flt)) hM46 (i := 1) rfl hy6_ rfl (by simp) (rfl) rfl (by first | omega | (simp; omega)) (by omega) fun v47 w47 r47 u47 (hs47 : SlS fltC 8 25 v47 (((decW b i z7).1) ++ [(⟨(V24 : Nat), (V27 : Nat), V30, V33, (V36 : Nat), V39, IntKind.i64.wrap (V42 : Nat), IntKind.u32.wrap (V45 : Nat)⟩ : Flt)]) r47) (hM47 : Mem w [] w47 [[⟨b4, 87, [(.slice a3_ n3_ c3_), .int .i64 (z45 : Nat)]⟩], r47, [⟨b20, 25, [.int .i64 (V24 : Nat), .int .i64 (V27 : Nat), .int .i64 V30, .int .i64 V33, .int .i64 (V36 : Nat), .int .i64 V39, .int .i64 (IntKind.i64.wrap (V42 : Nat)), .int .u32 (IntKind.u32.wrap (V45 : Nat))]⟩]]) => ?_
        refine stp (v := v47) (o_mv rfl) ?_
        refine vnil ?_
        refine h18 _ _ ?_
        clear h18
        refine stp (v := .int .i64 (i : Nat)) (o_mv rfl) ?_
        refine stp (v := .int .i64 ((i : Nat) + 1)) (o_bin rfl rfl (v_add64 (by constructor <;> omega))) ?_
        refine stp (v := .int .i64 ((i : Nat) + 1)) (o_mv rfl) ?_
        refine vnil ?_
        refine h13 (i + 1, v47, r47) _ _ ⟨rfl, by first | rfl | exact v_int (by omega) | exact v_int (by simp) | exact v_int (by simp; omega), rfl, rfl, by first | rfl | exact v_int (by omega) | exact v_int (by simp) | exact v_int (by simp; omega), by rw [hzz]; exact hM47.keep (by simp), by omega, by rw [hzz]; omega, by subst_vars; rw [decW_succ]; exact hs47⟩ (by (try dsimp only); omega)
      ·
        refine h9 _ _ ?_
        clear h9
        refine seq fun K48 h48 => ?_
        have hdl := decW_length b i z7
        have hLW : (decW b i z7).1 = decWL b := by unfold decWL decWN; rw [← hV7, ← hz7, show min V7.toNat 257 = i by omega]
        refine stp (v := y6_) (o_mv rfl) ?_
        refine m_call (refEncode_ok _ ((decW b i z7).1) w12 (hy6_.rd hM12 (i := 1) rfl) (by first | exact hok | exact decW_ok _ _ _) (by omega)) rfl fun v49 w49 ⟨v49_, rs49, hr49, hs49, hm49⟩ => ?_
        have hM49 : Mem w [] w49 [[⟨b4, 87, [(.slice a3_ n3_ c3_), .int .i64 ((decW b i z7).2 : Nat)]⟩], r6_, rs49] := hM12.add hm49
        subst hr49
        refine stp (v := .tuple [v49_, .int .i64 ((encE ((decW b i z7).1)).2)].toArray) (o_mv rfl) ?_
        refine stp (v := v49_) (o_ext rfl rfl) ?_
        refine stp (v := .int .i64 ((encE ((decW b i z7).1)).2)) (o_ext rfl rfl) ?_
        refine stp (v := v49_) (o_mv rfl) ?_
        refine stp (v := .int .i64 ((encE ((decW b i z7).1)).2)) (o_mv rfl) ?_
        refine vnil ?_
        refine h48 _ _ ?_
        clear h48
        refine seq fun K50 h50 => ?_
        refine seq fun K51 h51 => ?_
        refine stp (v := .int .i64 ((encE ((decW b i z7).1)).2)) (o_mv rfl) ?_
        refine stp (v := .bool (decide (¬ ((encE ((decW b i z7).1)).2) = 0))) (o_bin rfl rfl v_neq) ?_
        refine stp (v := .bool (decide (¬ ((encE ((decW b i z7).1)).2) = 0))) (o_mv rfl) ?_
        refine splitP rfl (fun c52 => ?_) (fun c52 => ?_)
        ·
          refine gno rfl (by simp) ?_
          refine gno rfl (by simp) ?_
          refine gnol rfl (by simp) ?_
          refine gno rfl (by simp) ?_
          refine stp (v := .bool true) (o_pickT rfl rfl) ?_
          refine vnil ?_
          refine h51 _ _ ?_
          clear h51
          refine cndT rfl ?_
          refine seq fun K53 h53 => ?_
          refine stp (v := .slice none 0 0) (o_mv rfl) ?_
          refine stp (v := .int .i64 160) (o_mv rfl) ?_
          refine vnil ?_
          refine h53 _ _ ?_
          clear h53
          refine ⟨(.tuple [.slice none 0 0, .int .i64 160].toArray), rfl, ?_⟩
          have hd := decW_eq b
          rw [← hLW, if_neg (fun k => by first | omega | exact absurd k.2 (by assumption))] at hd
          exact ⟨_, _, by rw [hd], by rw [hd]; exact Sl.nil 8 25, (hM49.addNil).keep (by simp)⟩
        ·
          have hel := encE_len (decW b i z7).1
          refine stg rfl (v := v49_) (o_mv rfl) ?_
          refine stg rfl (v := (.slice a3_ n3_ c3_)) (o_mv rfl) ?_
          refine gyesl rfl ?_
          refine m_call (refsame_ok _ _ ((encE ((decW b i z7).1)).1) b w49 (hs49.rd hM49 (i := 2) rfl) (hx.upd hM49.upd) (by first | omega | (simp; done) | (simp; omega))) rfl fun v54 w54 ⟨hr54, hu54⟩ => ?_
          have hM54 : Mem w [] w54 [[⟨b4, 87, [(.slice a3_ n3_ c3_), .int .i64 ((decW b i z7).2 : Nat)]⟩], r6_, rs49] := hM49.pure hu54
          subst hr54
          refine stg rfl (v := .bool (decide (¬ (((encE ((decW b i z7).1)).1) = b)))) (o_not rfl v_not) ?_
          refine stp (v := .bool (decide (¬ (((encE ((decW b i z7).1)).1) = b)))) (o_pickF rfl rfl) ?_
          refine vnil ?_
          refine h51 _ _ ?_
          clear h51
          refine cndP rfl (fun c55 => ?_) (fun c55 => ?_)
          ·
            refine seq fun K56 h56 => ?_
            refine stp (v := .slice none 0 0) (o_mv rfl) ?_
            refine stp (v := .int .i64 160) (o_mv rfl) ?_
            refine vnil ?_
            refine h56 _ _ ?_
            clear h56
            refine ⟨(.tuple [.slice none 0 0, .int .i64 160].toArray), rfl, ?_⟩
            have hd := decW_eq b
            rw [← hLW, if_neg (fun k => by first | omega | exact absurd k.2 (by assumption))] at hd
            exact ⟨_, _, by rw [hd], by rw [hd]; exact Sl.nil 8 25, (hM54.addNil).keep (by simp)⟩
          ·
            refine h50 _ _ ?_
            clear h50
            refine seq fun K57 h57 => ?_
            refine stp (v := y6_) (o_mv rfl) ?_
            refine stp (v := y6_) (o_mv rfl) ?_
            refine stp (v := .int .i64 0) (o_mv rfl) ?_
            refine vnil ?_
            refine h57 _ _ ?_
            clear h57
            refine ⟨(.tuple [y6_, .int .i64 0].toArray), rfl, ?_⟩
            have hd := decW_eq b
            rw [← hLW, if_pos ⟨by omega, by first | assumption | exact Decidable.not_not.1 (by assumption) | (simp_all; done)⟩] at hd
            exact ⟨_, _, by rw [hd], by rw [hd]; exact hy6_, hM54.keep (by simp)⟩
    ·
      refine gno rfl (by simp) ?_
      refine gno rfl (by simp) ?_
      refine stp (v := .bool false) (o_pickF rfl rfl) ?_
      refine vnil ?_
      refine h15 _ _ ?_
      clear h15
      refine cndF rfl ?_
      refine h9 _ _ ?_
      clear h9
      refine seq fun K58 h58 => ?_
      have hdl := decW_length b i z7
      have hLW : (decW b i z7).1 = decWL b := by unfold decWL decWN; rw [← hV7, ← hz7, show min V7.toNat 257 = i by omega]
      refine stp (v := y6_) (o_mv rfl) ?_
      refine m_call (refEncode_ok _ ((decW b i z7).1) w12 (hy6_.rd hM12 (i := 1) rfl) (by first | exact hok | exact decW_ok _ _ _) (by omega)) rfl fun v59 w59 ⟨v59_, rs59, hr59, hs59, hm59⟩ => ?_
      have hM59 : Mem w [] w59 [[⟨b4, 87, [(.slice a3_ n3_ c3_), .int .i64 ((decW b i z7).2 : Nat)]⟩], r6_, rs59] := hM12.add hm59
      subst hr59
      refine stp (v := .tuple [v59_, .int .i64 ((encE ((decW b i z7).1)).2)].toArray) (o_mv rfl) ?_
      refine stp (v := v59_) (o_ext rfl rfl) ?_
      refine stp (v := .int .i64 ((encE ((decW b i z7).1)).2)) (o_ext rfl rfl) ?_
      refine stp (v := v59_) (o_mv rfl) ?_
      refine stp (v := .int .i64 ((encE ((decW b i z7).1)).2)) (o_mv rfl) ?_
      refine vnil ?_
      refine h58 _ _ ?_
      clear h58
      refine seq fun K60 h60 => ?_
      refine seq fun K61 h61 => ?_
      refine stp (v := .int .i64 ((encE ((decW b i z7).1)).2)) (o_mv rfl) ?_
      refine stp (v := .bool (decide (¬ ((encE ((decW b i z7).1)).2) = 0))) (o_bin rfl rfl v_neq) ?_
      refine stp (v := .bool (decide (¬ ((encE ((decW b i z7).1)).2) = 0))) (o_mv rfl) ?_
      refine splitP rfl (fun c62 => ?_) (fun c62 => ?_)
      ·
        refine gno rfl (by simp) ?_
        refine gno rfl (by simp) ?_
        refine gnol rfl (by simp) ?_
        refine gno rfl (by simp) ?_
        refine stp (v := .bool true) (o_pickT rfl rfl) ?_
        refine vnil ?_
        refine h61 _ _ ?_
        clear h61
        refine cndT rfl ?_
        refine seq fun K63 h63 => ?_
        refine stp (v := .slice none 0 0) (o_mv rfl) ?_
        refine stp (v := .int .i64 160) (o_mv rfl) ?_
        refine vnil ?_
        refine h63 _ _ ?_
        clear h63
        refine ⟨(.tuple [.slice none 0 0, .int .i64 160].toArray), rfl, ?_⟩
        have hd := decW_eq b
        rw [← hLW, if_neg (fun k => by first | omega | exact absurd k.2 (by assumption))] at hd
        exact ⟨_, _, by rw [hd], by rw [hd]; exact Sl.nil 8 25, (hM59.addNil).keep (by simp)⟩
      ·
        have hel := encE_len (decW b i z7).1
        refine stg rfl (v := v59_) (o_mv rfl) ?_
        refine stg rfl (v := (.slice a3_ n3_ c3_)) (o_mv rfl) ?_
        refine gyesl rfl ?_
        refine m_call (refsame_ok _ _ ((encE ((decW b i z7).1)).1) b w59 (hs59.rd hM59 (i := 2) rfl) (hx.upd hM59.upd) (by first | omega | (simp; done) | (simp; omega))) rfl fun v64 w64 ⟨hr64, hu64⟩ => ?_
        have hM64 : Mem w [] w64 [[⟨b4, 87, [(.slice a3_ n3_ c3_), .int .i64 ((decW b i z7).2 : Nat)]⟩], r6_, rs59] := hM59.pure hu64
        subst hr64
        refine stg rfl (v := .bool (decide (¬ (((encE ((decW b i z7).1)).1) = b)))) (o_not rfl v_not) ?_
        refine stp (v := .bool (decide (¬ (((encE ((decW b i z7).1)).1) = b)))) (o_pickF rfl rfl) ?_
        refine vnil ?_
        refine h61 _ _ ?_
        clear h61
        refine cndP rfl (fun c65 => ?_) (fun c65 => ?_)
        ·
          refine seq fun K66 h66 => ?_
          refine stp (v := .slice none 0 0) (o_mv rfl) ?_
          refine stp (v := .int .i64 160) (o_mv rfl) ?_
          refine vnil ?_
          refine h66 _ _ ?_
          clear h66
          refine ⟨(.tuple [.slice none 0 0, .int .i64 160].toArray), rfl, ?_⟩
          have hd := decW_eq b
          rw [← hLW, if_neg (fun k => by first | omega | exact absurd k.2 (by assumption))] at hd
          exact ⟨_, _, by rw [hd], by rw [hd]; exact Sl.nil 8 25, (hM64.addNil).keep (by simp)⟩
        ·
          refine h60 _ _ ?_
          clear h60
          refine seq fun K67 h67 => ?_
          refine stp (v := y6_) (o_mv rfl) ?_
          refine stp (v := y6_) (o_mv rfl) ?_
          refine stp (v := .int .i64 0) (o_mv rfl) ?_
          refine vnil ?_
          refine h67 _ _ ?_
          clear h67
          refine ⟨(.tuple [y6_, .int .i64 0].toArray), rfl, ?_⟩
          have hd := decW_eq b
          rw [← hLW, if_pos ⟨by omega, by first | assumption | exact Decidable.not_not.1 (by assumption) | (simp_all; done)⟩] at hd
          exact ⟨_, _, by rw [hd], by rw [hd]; exact hy6_, hM64.keep (by simp)⟩
