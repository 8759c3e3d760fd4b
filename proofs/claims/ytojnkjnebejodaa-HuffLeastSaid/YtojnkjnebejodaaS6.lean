/- The next row: the program's walk. -/
import Derived.Test.YtojnkjnebejodaaS5
namespace Go.Proofs.Ytojnkjnebejodaa.E
open Go
def oftC (t : Th) : List Value := (List.range 256).map fun i => .int .u8 ((t.f i : Nat) : Int)
theorem oft_len (t : Th) : (oftC t).length = 256 := by simp [oftC]
theorem thC_oft (t : Th) : ∀ i, i < (oftC t).length → (thC t)[1 + i]? = (oftC t)[i]? := fun i _ => by
  rw [Nat.add_comm]; rfl
theorem oft_get {t : Th} {i : Nat} (h : i < 256) : (oftC t)[i]? = some (.int .u8 ((t.f i : Nat) : Int)) := by
  unfold oftC; rw [List.getElem?_map, List.getElem?_range h]; rfl
theorem o_idxv {f : Fr} {n : Nat} {x i : Operand} {cs : List Value} {k : IntKind} {j : Nat} {v : Value} (hx : ev f x = .agg cs.toArray) (hi : ev f i = .int k (j : Nat)) (hj : j < n) (hv : cs[j]? = some v) : PeV (.idxv n 1 false x i) f v := fun K h => by
  show kagg (ev f x) _; rw [hx]; show anyint (ev f i) _; rw [hi]
  refine ⟨by omega, ?_⟩
  show match cs.toArray[((j : Nat) : Int).toNat * 1]? with | some v => K v | none => False
  rw [Int.toNat_natCast, Nat.mul_one, List.getElem?_toArray, hv]; exact h
/-- the first i symbols gathered -/
def accT (a b : Th) (i : Nat) : Th := ⟨a.w + b.w, fun k => if k < i then a.f k + b.f k else a.f k, 0⟩
theorem thC_ext {t u : Th} (h : t.w = u.w) (h2 : ∀ k, k < 256 → t.f k = u.f k) : thC t = thC u := by
  unfold thC
  rw [h]
  congr 1
  apply List.map_congr_left
  intro k hk
  rw [h2 k (List.mem_range.1 hk)]
theorem acc_zero {a b : Th} : (thC a).set 0 (.int .i64 (a.w + b.w)) = thC (accT a b 0) := by
  show thC ⟨a.w + b.w, a.f, 0⟩ = _
  exact thC_ext rfl fun k _ => by simp [accT]
theorem acc_cell {a b : Th} {i : Nat} (h : i < 256) : (thC (accT a b i))[1 + i]? = some (.int .u8 ((a.f i : Nat) : Int)) := by
  rw [thC_cell h]; simp [accT]
theorem acc_set {a b : Th} {i : Nat} (h : i < 256) : (thC (accT a b i)).set (1 + i) (.int .u8 ((a.f i + b.f i : Nat) : Int)) = thC (accT a b (i + 1)) := by
  rw [thC_set (r := 0) h]
  refine thC_ext rfl fun k _ => ?_
  show (if k = i then a.f i + b.f i else if k < i then a.f k + b.f k else a.f k) = if k < i + 1 then a.f k + b.f k else a.f k
  by_cases c : k = i
  · subst c; simp
  · rw [if_neg c]
    by_cases c2 : k < i
    · rw [if_pos c2, if_pos (by omega)]
    · rw [if_neg c2, if_neg (by omega)]
theorem acc_end {a b : Th} : thC (accT a b 256) = thC (bothT a b) := thC_ext rfl fun k hk => by
  show (if k < 256 then _ else _) = _
  rw [if_pos hk]; rfl
theorem merge_T {fs ps : List Th} {p : Th} (h0 : 0 < fs.length) (h : (fs.getD 0 th0).w ≤ p.w) : mergeL fs (p :: ps) = fs.getD 0 th0 :: mergeL (fs.drop 1) (p :: ps) := by
  cases fs with
  | nil => simp at h0
  | cons f fs => exact mergeL_le h
theorem merge_F {fs ps : List Th} {p : Th} (h : fs.length = 0 ∨ ¬ (fs.getD 0 th0).w ≤ p.w) : mergeL fs (p :: ps) = p :: mergeL fs ps := by
  cases fs with
  | nil => rw [mergeL_nilL, mergeL_nilL]
  | cons f fs =>
    rcases h with h | h
    · simp at h
    · exact mergeL_gt h

section
variable {P : Program} {r : List MI} {f : Fr} {w w0 : World} {S : List Nat} {R : List (List Ent)} {K : Fr → World → Prop} {d : Nat}
theorem m_alU {t : TypeId} {cs : List Value} (hM : Mem w0 S w R) (h : ∀ b w', Upd [] w w' → Mem w0 S w' (R ++ [[⟨b, t, cs⟩]]) → vr P r (upd f d (.pointer (some ⟨b, 0, none⟩))) w' K) : vr P (.l none (some d) (.al t cs) :: r) f w K :=
  m_al (Mem.nil w []) fun b w' hM' => h b w' hM'.upd (hM.add hM')
end
theorem m_idxE3 {α : Type} {E : α → Value} (z : α) {P : Program} {r : List MI} {f : Fr} {w wr : World} {K : Fr → World → Prop} {d : Nat} {x i : Operand} {u : Value} {l : List α} {j : Nat} {k : IntKind} (h : RdE E w u l) (h0 : RdE E wr u l) (hx : ev f x = u) (hi : ev f i = .int k j) (hj : j < l.length)
    (hk : ∀ b o, wr.cell? ⟨b, o, none⟩ = some (E (l.getD j z)) → b = blkV u → vr P r (upd f d (.pointer (some ⟨b, o, none⟩))) w K) : vr P (.p none d (.idx 1 x i) :: r) f w K := by
  show pe (.idx 1 x i) f (fun v => vr P r (upd f d v) w K)
  obtain ⟨a, c, rfl, h2, h3, h4⟩ := h.form
  obtain ⟨a0, c0, e, h20, h30, h40⟩ := h0.form
  cases e
  show kslice (ev f x) _; rw [hx]; show anyint (ev f i) _; rw [hi]; refine ⟨⟨by omega, by omega⟩, ?_⟩
  cases a with
  | none => have := h4 rfl; omega
  | some a =>
    obtain ⟨b, o, m⟩ := a
    cases m with
    | some m => simp only [Row] at h3; have := congrArg List.length h3; simp at this; subst this; simp at hj
    | none =>
      refine hk _ _ ?_ rfl
      have h5 := h30 j (by simpa using hj)
      rw [Int.toNat_natCast, Nat.mul_one, h5, List.getElem?_map, List.getElem?_eq_getElem hj, List.getD_eq_getElem?_getD, List.getElem?_eq_getElem hj]; rfl
theorem SlE.blk_apart {α : Type} {E : α → Value} {t : TypeId} {v : Value} {l : List α} {r rk : List Ent} {w0 w : World} {S : List Nat} {R : List (List Ent)} {i k : Nat} (h : SlE E t v l r) (hM : Mem w0 S w R) (hi : R[i]? = some r) (hk : R[k]? = some rk) (hn : i ≠ k) (hl : 0 < l.length) : blkV v ∉ ids rk := by
  rcases h.form with ⟨_, h, _⟩ | ⟨b, c, tl, h, h2, _, _⟩
  · rw [h] at hl; simp at hl
  · subst h h2
    exact hM.apart (i := i) (j := 0) (k := k) hi rfl hk hn

set_option maxHeartbeats 2000000 in
set_option maxRecDepth 100000 in
/-- huff.both -/
theorem both_ok (a b : Th) (w : World) (hf : ∀ k, k < 256 → a.f k + b.f k ≤ 255) (hw : -4611686018427387904 ≤ a.w + b.w ∧ a.w + b.w ≤ 4611686018427387904) : Calls Try.prog 69 [.agg (thC a).toArray, .agg (thC b).toArray].toArray w (Rt fun r w' => r = .agg (thC (bothT a b)).toArray ∧ Upd [] w w') := by
  have hM0 : Mem w [] w [] := Mem.nil w []
  refine calls_vc mixed Try.func69 rfl C69 (by simp [Try.ntmps69]) ?_
  refine seq fun K1 h1 => ?_
  refine m_bx (v := .agg ((thC a).toArray)) hM0 rfl rfl fun b2 w3 (hM3 : Mem w [] w3 [[⟨b2, 81, (thC a)⟩]]) => ?_
  refine m_bx (v := .agg ((thC b).toArray)) hM3 rfl rfl fun b4 w5 (hM5 : Mem w [] w5 [[⟨b2, 81, (thC a)⟩], [⟨b4, 81, (thC b)⟩]]) => ?_
  refine m_al hM5 fun b6 w7 (hM7 : Mem w [] w7 [[⟨b2, 81, (thC a)⟩], [⟨b4, 81, (thC b)⟩], [⟨b6, 81, (zcOf Try.t81)⟩]]) => ?_
  refine h1 _ _ ?_
  clear h1
  refine seq fun K8 h8 => ?_
  refine stp (v := .pointer (some ⟨b2, 0, none⟩)) (o_fa rfl rfl) ?_
  refine m_ld (v := .int .i64 a.w) hM7 (i := 0) (j := 0) rfl rfl rfl rfl ?_
  refine stp (v := .pointer (some ⟨b4, 0, none⟩)) (o_fa rfl rfl) ?_
  refine m_ld (v := .int .i64 b.w) hM7 (i := 1) (j := 0) rfl rfl rfl rfl ?_
  refine stp (v := .int .i64 (a.w + b.w)) (o_bin rfl rfl (v_add64 (by constructor <;> omega))) ?_
  refine stp (v := .pointer (some ⟨b2, 0, none⟩)) (o_fa rfl rfl) ?_
  refine m_st (v := .int .i64 (a.w + b.w)) hM7 (i := 0) rfl rfl rfl rfl (by simp) fun w9 hm9 => ?_
  have hM9 : Mem w [] w9 [[⟨b2, 81, (thC (accT a b 0))⟩], [⟨b4, 81, (thC b)⟩], [⟨b6, 81, (zcOf Try.t81)⟩]] := by
    have e : (thC a).set 0 (.int .i64 (a.w + b.w)) = (thC (accT a b 0)) := acc_zero
    rw [← e]; exact hm9
  refine h8 _ _ ?_
  clear h8
  refine seq fun K10 h10 => ?_
  refine seq fun K11 h11 => ?_
  refine stp (v := .pointer (some ⟨b4, 1, none⟩)) (o_fa rfl rfl) ?_
  refine ldA (cs := (oftC b)) rfl (by first | rfl | (first | exact oft_len _ | exact thC_len _)) ((hM9.at (i := 1) (j := 0) rfl rfl).row (l := oftC b) (thC_oft b)) ?_
  refine stp (v := .int .i64 0) (o_mv rfl) ?_
  refine h11 _ _ ?_
  clear h11
  refine lp (n := fun _ _ => False) (ι := (Nat)) (fun i f w' => f 15 = .int .i64 (i : Nat) ∧ f 2 = .pointer (some ⟨b2, 0, none⟩) ∧ f 4 = .pointer (some ⟨b6, 0, none⟩) ∧ f 14 = .agg ((oftC b).toArray) ∧ Mem w [] w' [[⟨b2, 81, (thC (accT a b i))⟩], [⟨b4, 81, (thC b)⟩], [⟨b6, 81, (zcOf Try.t81)⟩]] ∧ (i ≤ 256)) (fun i => 256 - i) (0) ?_ ?_
  · exact ⟨by first | rfl | exact v_int (by omega) | exact v_int (by simp) | exact v_int (by simp; omega), rfl, rfl, by first | rfl | simp [upd], hM9, by omega⟩
  · rintro i f w12 ⟨e12_15, e12_2, e12_4, e12_14, hM12, hi⟩ K13 h13
    obtain ⟨frm, rfl⟩ : ∃ frm, f = (upd (upd (upd (upd frm 15 (.int .i64 (i : Nat))) 2 (.pointer (some ⟨b2, 0, none⟩))) 4 (.pointer (some ⟨b6, 0, none⟩))) 14 (.agg ((oftC b).toArray))) := ⟨f, by rw [upd_self e12_15, upd_self e12_2, upd_self e12_4, upd_self e12_14]⟩
    clear e12_15 e12_2 e12_4 e12_14
    refine seq fun K14 h14 => ?_
    refine stp (v := .bool (decide (((i : Nat) : Int) < 256))) (o_bin rfl rfl rfl) ?_
    refine h14 _ _ ?_
    clear h14
    refine seq fun K15 h15 => ?_
    refine cndP rfl (fun c16 => ?_) (fun c16 => ?_)
    ·
      refine h15 _ _ ?_
      clear h15
      refine seq fun K17 h17 => ?_
      refine seq fun K18 h18 => ?_
      refine stp (v := .int .i64 (i : Nat)) (o_mv rfl) ?_
      refine stp (v := .int .u8 (b.f i : Nat)) (o_idxv (cs := oftC b) rfl rfl (by omega) (oft_get (by omega))) ?_
      refine stp (v := .int .i64 (i : Nat)) (o_mv rfl) ?_
      refine stp (v := .int .u8 (b.f i : Nat)) (o_mv rfl) ?_
      refine h18 _ _ ?_
      clear h18
      refine stp (v := .int .i64 (i : Nat)) (o_mv rfl) ?_
      refine stp (v := .pointer (some ⟨b2, 1, none⟩)) (o_fa rfl rfl) ?_
      refine stp (v := .pointer (some ⟨b2, 1 + i, none⟩)) (o_idxa rfl rfl (by omega) (v_ptr (by first | (rw [Int.toNat_natCast, Nat.mul_one]; done) | (simp; done) | omega))) ?_
      refine ld (v := .int .u8 (a.f i : Nat)) rfl (((hM12.at (i := 0) (j := 0) rfl rfl).cell _).trans (acc_cell (by omega))) ?_
      refine stp (v := .int .u8 (b.f i : Nat)) (o_mv rfl) ?_
      have hfi := hf i (by omega)
      refine stp (v := .int .u8 (a.f i + b.f i : Nat)) (o_bin rfl rfl ((v_same (by simp only [inK]; omega)).trans (v_int (by omega)))) ?_
      refine stp (v := .pointer (some ⟨b2, 1, none⟩)) (o_fa rfl rfl) ?_
      refine stp (v := .pointer (some ⟨b2, 1 + i, none⟩)) (o_idxa rfl rfl (by omega) (v_ptr (by first | (rw [Int.toNat_natCast, Nat.mul_one]; done) | (simp; done) | omega))) ?_
      refine m_st (v := .int .u8 (a.f i + b.f i : Nat)) hM12 (i := 0) rfl rfl rfl rfl (by rw [thC_len]; omega) fun w19 hm19 => ?_
      have hM19 : Mem w [] w19 [[⟨b2, 81, (thC (accT a b (i + 1)))⟩], [⟨b4, 81, (thC b)⟩], [⟨b6, 81, (zcOf Try.t81)⟩]] := by
        have e : (thC (accT a b i)).set (1 + i) (.int .u8 (a.f i + b.f i : Nat)) = (thC (accT a b (i + 1))) := acc_set (by omega)
        rw [← e]; exact hm19
      refine h17 _ _ ?_
      clear h17
      refine stp (v := .int .i64 ((i : Nat) + 1)) (o_bin rfl rfl (v_add64 (by constructor <;> omega))) ?_
      refine stp (v := .int .i64 ((i : Nat) + 1)) (o_mv rfl) ?_
      refine h13 (i + 1) _ _ ⟨by first | rfl | exact v_int (by omega) | exact v_int (by simp) | exact v_int (by simp; omega), rfl, rfl, by first | rfl | simp [upd], hM19, by omega⟩ (by (try dsimp only); omega)
    ·
      refine h10 _ _ ?_
      clear h10
      refine seq fun K20 h20 => ?_
      have hie : i = 256 := by omega
      refine ldA (cs := (thC (accT a b i))) rfl (thC_len _) (hM12.at (i := 0) (j := 0) rfl rfl).all ?_
      refine m_stA (l := (thC (accT a b i))) hM12 (i := 2) rfl rfl rfl (by simp) (thC_one _) (by simp) fun w21 hm21 => ?_
      have hM21 : Mem w [] w21 [[⟨b2, 81, (thC (accT a b i))⟩], [⟨b4, 81, (thC b)⟩], [⟨b6, 81, (thC (accT a b i))⟩]] := by
        have e : splice (zcOf Try.t81) 0 (thC (accT a b i)) = (thC (accT a b i)) := splice_full (by simp; first | done | (simp) | omega)
        first | (rw [e] at hm21; exact hm21) | (rw [← e]; exact hm21)
      refine h20 _ _ ?_
      clear h20
      show resV _ _ _ _ _
      refine res_cell (s := some 257) (by kernel_rfl) ?_
      refine vl_ldA (cs := (thC (accT a b i))) rfl (by (first | exact oft_len _ | exact thC_len _)) (hM21.at (i := 2) (j := 0) rfl rfl).all ?_
      refine ⟨(.agg (((thC (accT a b i))).toArray)), rfl, ?_⟩
      exact ⟨by rw [hie, acc_end], hM21.upd⟩

set_option maxHeartbeats 1000000 in
set_option maxRecDepth 100000 in
/-- huff.next -/
theorem next_ok (x y : Value) (fs row : List Th) (W : Int) (w : World) (hx : RdS thC w x fs) (hy : RdS thC w y row) (hfl : fs.length ≤ 256) (hrl : row.length ≤ 512) (hW : W ≤ 1152921504606846976) (hw : wB W row) (ht : ∀ k, k < 256 → tot k row ≤ 255) : Calls Try.prog 53 [x, y].toArray w (Rt fun r w' => ∃ rs, SlS thC 257 81 r (mergeL fs (pairsL row)) rs ∧ Mem w [] w' [rs]) := by
  have hM0 : Mem w [] w [] := Mem.nil w []
  refine calls_vc mixed Try.func53 rfl C53 (by simp [Try.ntmps53]) ?_
  refine seq fun K1 h1 => ?_
  refine stp (v := .slice none 0 0) (o_mv rfl) ?_
  refine h1 _ _ ?_
  clear h1
  refine seq fun K2 h2 => ?_
  refine stp (v := x) (o_mv rfl) ?_
  refine stp (v := .int .i64 (fs.length : Nat)) (o_lenR (hx.upd hM0.upd) rfl rfl) ?_
  refine stp (v := y) (o_mv rfl) ?_
  refine stp (v := .int .i64 (row.length : Nat)) (o_lenR (hy.upd hM0.upd) rfl rfl) ?_
  refine stp (v := .int .i64 (row.length / 2 : Nat)) (o_quo rfl rfl (by omega) ((v_quo (by omega) (by omega) (by simp only [inK]; omega)).trans (v_int (by omega)))) ?_
  refine stp (v := .int .i64 ((fs.length : Nat) + (row.length / 2 : Nat))) (o_bin rfl rfl (v_add64 (by constructor <;> omega))) ?_
  refine m_mksS (enc := thC) (z := th0) (n := 0) (c := (fs.length + row.length / 2)) (zcTh) hM0 (v_int (by omega)) (v_int (by omega)) (by omega) (by omega) (by omega) fun v3 w3 r3 hs3 (hM3 : Mem w [] w3 [r3]) => ?_
  refine stp (v := v3) (o_mv rfl) ?_
  refine h2 _ _ ?_
  clear h2
  refine seq fun K4 h4 => ?_
  refine seq fun K5 h5 => ?_
  refine stp (v := .int .i64 0) (o_mv rfl) ?_
  refine h5 _ _ ?_
  clear h5
  refine lp (n := fun _ _ => False) (ι := (Nat) × (List Th) × (Value) × (List Th) × (Value) × (List Ent)) (fun ⟨i, lo, x1, f1, y5_, r5_⟩ f w' => f 0 = x1 ∧ f 5 = y5_ ∧ f 6 = .int .i64 (i : Nat) ∧ f 1 = y ∧ Mem w [] w' [r5_] ∧ (RdS thC w x1 f1) ∧ (i ≤ row.length + 1) ∧ (f1.length ≤ fs.length) ∧ (lo.length ≤ fs.length - f1.length + i) ∧ (lo ++ mergeL f1 (pairsL (row.drop i)) = mergeL fs (pairsL row)) ∧ (SlS thC 257 81 y5_ (lo) r5_)) (fun ⟨i, lo, x1, f1, y5_, r5_⟩ => row.length + 1 - i) (0, [], x, fs, v3, r3) ?_ ?_
  · exact ⟨rfl, rfl, by first | rfl | exact v_int (by omega) | exact v_int (by simp) | exact v_int (by simp; omega), rfl, hM3, hx, by omega, by omega, by simp, by rw [List.drop_zero, List.nil_append], by first | exact hs3 | simpa using hs3⟩
  · rintro ⟨i, lo, x1, f1, y5_, r5_⟩ f w6 ⟨e6_0, e6_5, e6_6, e6_1, hM6, hx1, hi, hf1, hlo, hL, hy5_⟩ K7 h7
    obtain ⟨frm, rfl⟩ : ∃ frm, f = (upd (upd (upd (upd frm 0 (x1)) 5 (y5_)) 6 (.int .i64 (i : Nat))) 1 (y)) := ⟨f, by rw [upd_self e6_0, upd_self e6_5, upd_self e6_6, upd_self e6_1]⟩
    clear e6_0 e6_5 e6_6 e6_1
    refine seq fun K8 h8 => ?_
    refine seq fun K9 h9 => ?_
    refine stp (v := .int .i64 (i : Nat)) (o_mv rfl) ?_
    refine stp (v := .int .i64 ((i : Nat) + 1)) (o_bin rfl rfl (v_add64 (by constructor <;> omega))) ?_
    refine stp (v := y) (o_mv rfl) ?_
    refine stp (v := .int .i64 (row.length : Nat)) (o_lenR (hy.upd hM6.upd) rfl rfl) ?_
    refine stp (v := .bool (decide (((i : Nat) + 1 : Int) < (row.length : Nat)))) (o_bin rfl rfl rfl) ?_
    refine h9 _ _ ?_
    clear h9
    refine cndP rfl (fun c10 => ?_) (fun c10 => ?_)
    ·
      refine h8 _ _ ?_
      clear h8
      refine seq fun K11 h11 => ?_
      refine seq fun K12 h12 => ?_
      intro wd e1 e2 e3 e4
      have hd := Upd.same e1 e2 e3 e4 []
      have hM13 := hM6.pure hd
      clear e1 e2 e3 e4
      refine ⟨(some [(blkV y)]), ?_⟩
      show vd _ _ _ _ _ _ _
      have hw1 := hw _ (getD_memG th0 (l := row) (i := i) (by omega))
      have hw2 := hw _ (getD_memG th0 (l := row) (i := i + 1) (by omega))
      refine dq (v := y) (o_mv rfl) ?_
      refine dq (v := .int .i64 (i : Nat)) (o_mv rfl) ?_
      refine dqp (m_idxS3 th0 (j := i) (hy.upd hM13.upd) (hy.upd hM13.upd) rfl rfl (by omega) fun b14 o14 hp14 hbb14 => ?_)
      show vd _ _ _ _ _ _ _
      subst hbb14
      refine dq (v := y) (o_mv rfl) ?_
      refine dq (v := .int .i64 (i : Nat)) (o_mv rfl) ?_
      refine dq (v := .int .i64 ((i : Nat) + 1)) (o_bin rfl rfl (v_add64 (by constructor <;> omega))) ?_
      refine dqp (m_idxS3 th0 (j := (i + 1)) (hy.upd hM13.upd) (hy.upd hM13.upd) rfl (v_int (by omega)) (by omega) fun b15 o15 hp15 hbb15 => ?_)
      show vd _ _ _ _ _ _ _
      subst hbb15
      refine dqldA (cs := thC (row.getD (i + 1) th0)) rfl (by simp [isHeld]) (thC_len _) (hp15.all) ?_
      refine dqldA (cs := thC (row.getD i th0)) rfl (by simp [isHeld]) (thC_len _) (hp14.all) ?_
      show _ ∧ _
      refine ⟨?_, ?_⟩
      ·
        show vd _ _ _ _ _ _ _
        refine dl (m_call (both_ok (row.getD i th0) (row.getD (i + 1) th0) wd (fun k hk => Nat.le_trans (two_tot (by omega) k) (ht k hk)) (by omega)) rfl fun v16 w16 ⟨hr16, hu16⟩ => ?_)
        have hM16 : Mem w [] w16 [r5_] := hM13.pure hu16
        subst hr16
        have hh16 := held_upd (wr := wd) (bs := [(blkV y)]) hu16 (fun b hb => by
          simp only [List.mem_cons, List.not_mem_nil, or_false] at hb
          rw [hb]; exact ⟨Rd.blkV_ltS (hy.upd hM13.upd) (by omega), by simp⟩) (fun b hb => rfl)
        refine ⟨hh16, ?_⟩
        refine dl (m_alU hM16 fun b17 w18 hup18 (hM18 : Mem w [] w18 [r5_, [⟨b17, 81, (zcOf Try.t81)⟩]]) => ?_)
        have hh18 := held_upd (wr := wd) (bs := [(blkV y)]) hup18 (fun b hb => by
          simp only [List.mem_cons, List.not_mem_nil, or_false] at hb
          rw [hb]; exact ⟨Rd.blkV_ltS (hy.upd hM16.upd) (by omega), by simp⟩) hh16
        refine ⟨hh18, ?_⟩
        refine dl (m_stAU (l := (thC (bothT (row.getD i th0) (row.getD (i + 1) th0)))) hM18 (i := 1) rfl rfl rfl (by simp) (thC_one _) (by simp) fun w19 hup19 hm19 => ?_)
        have hh19 := held_upd (wr := wd) (bs := [(blkV y)]) hup19 (fun b hb => by
          simp only [List.mem_cons, List.not_mem_nil, or_false] at hb
          rw [hb]; exact ⟨Rd.blkV_ltS (hy.upd hM18.upd) (by omega), hM18.old (i := 1) rfl (Rd.blkV_ltS hy (by omega))⟩) hh18
        refine ⟨hh19, ?_⟩
        have hM19 : Mem w [] w19 [r5_, [⟨b17, 81, (thC (bothT (row.getD i th0) (row.getD (i + 1) th0)))⟩]] := by
          have e : splice (zcOf Try.t81) 0 (thC (bothT (row.getD i th0) (row.getD (i + 1) th0))) = (thC (bothT (row.getD i th0) (row.getD (i + 1) th0))) := splice_full (by simp; first | done | (simp) | omega)
          first | (rw [e] at hm19; exact hm19) | (rw [← e]; exact hm19)
        refine h12 _ _ ?_
        clear h12
        refine seq fun K20 h20 => ?_
        refine lp (n := fun _ _ => False) (ι := (List Th) × (Value) × (List Th) × (Value) × (List Ent)) (fun ⟨l2, x2, f2, y5_, r5_⟩ f w' => f 0 = x2 ∧ f 5 = y5_ ∧ f 1 = y ∧ f 6 = .int .i64 (i : Nat) ∧ f 7 = .pointer (some ⟨b17, 0, none⟩) ∧ Mem w [] w' [r5_, [⟨b17, 81, (thC (bothT (row.getD i th0) (row.getD (i + 1) th0)))⟩]] ∧ (RdS thC w x2 f2) ∧ (f2.length ≤ fs.length) ∧ (l2.length ≤ fs.length - f2.length + i) ∧ (l2 ++ mergeL f2 ((bothT (row.getD i th0) (row.getD (i + 1) th0)) :: pairsL (row.drop (i + 2))) = mergeL fs (pairsL row)) ∧ (SlS thC 257 81 y5_ (l2) r5_)) (fun ⟨l2, x2, f2, y5_, r5_⟩ => f2.length) (lo, x1, f1, y5_, r5_) ?_ ?_
        · exact ⟨rfl, rfl, rfl, by first | rfl | exact v_int (by omega) | exact v_int (by simp) | exact v_int (by simp; omega), rfl, hM19, hx1, by omega, by omega, by rw [← pairs_drop (by omega)]; exact hL, by first | exact hy5_ | simpa using hy5_⟩
        · rintro ⟨l2, x2, f2, y5_, r5_⟩ f w21 ⟨e21_0, e21_5, e21_1, e21_6, e21_7, hM21, hx2, hf2, hl2, hL2, hy5_⟩ K22 h22
          obtain ⟨frm, rfl⟩ : ∃ frm, f = (upd (upd (upd (upd (upd frm 0 (x2)) 5 (y5_)) 1 (y)) 6 (.int .i64 (i : Nat))) 7 (.pointer (some ⟨b17, 0, none⟩))) := ⟨f, by rw [upd_self e21_0, upd_self e21_5, upd_self e21_1, upd_self e21_6, upd_self e21_7]⟩
          clear e21_0 e21_5 e21_1 e21_6 e21_7
          refine seq fun K23 h23 => ?_
          refine seq fun K24 h24 => ?_
          intro wd e1 e2 e3 e4
          have hd := Upd.same e1 e2 e3 e4 []
          have hM25 := hM21.pure hd
          clear e1 e2 e3 e4
          refine ⟨none, ?_⟩
          show vd _ _ _ _ _ _ _
          refine dq (v := x2) (o_mv rfl) ?_
          refine dq (v := .int .i64 (f2.length : Nat)) (o_lenR (hx2.upd hM25.upd) rfl rfl) ?_
          refine dq (v := .bool (decide ((0 : Int) < ((f2.length : Nat) : Int)))) (o_bin rfl rfl rfl) ?_
          refine dq (v := .bool (decide ((0 : Int) < ((f2.length : Nat) : Int)))) (o_mv rfl) ?_
          refine dsplitP rfl (fun c26 => ?_) (fun c26 => ?_)
          ·
            refine dqg rfl (v := x2) (o_mv rfl) ?_
            refine dgyes rfl rfl (dqp (m_idxS th0 (j := 0) (hx2.upd hM25.upd) rfl rfl (by omega) fun b27 o27 hp27 => ?_))
            show vd _ _ _ _ _ _ _
            refine dqg rfl (v := .pointer (some ⟨b27, o27, none⟩)) (o_fa rfl rfl) ?_
            refine dqg rfl (v := .pointer (some ⟨b17, 0, none⟩)) (o_fa rfl rfl) ?_
            refine dqgyes rfl rfl ?_
            refine dqld rfl (trivial) (v := .int .i64 ((bothT (row.getD i th0) (row.getD (i + 1) th0)).w)) ((hM25.at (i := 1) (j := 0) rfl rfl).cell 0) ?_
            refine dgyesl rfl ?_
            refine dl (ld (v := .int .i64 ((f2.getD 0 th0).w)) rfl (hp27.get 0 rfl) ?_)
            refine ⟨rfl, ?_⟩
            refine dqg rfl (v := .bool (decide (((f2.getD 0 th0).w) ≤ ((bothT (row.getD i th0) (row.getD (i + 1) th0)).w)))) (o_bin rfl rfl rfl) ?_
            refine dq (v := .bool (decide (((f2.getD 0 th0).w) ≤ ((bothT (row.getD i th0) (row.getD (i + 1) th0)).w)))) (o_pickT rfl rfl) ?_
            refine h24 _ _ ?_
            clear h24
            refine cndP rfl (fun c28 => ?_) (fun c28 => ?_)
            ·
              refine h23 _ _ ?_
              clear h23
              refine seq fun K29 h29 => ?_
              refine stp (v := y5_) (o_mv rfl) ?_
              refine stp (v := x2) (o_mv rfl) ?_
              refine m_idxS th0 (j := 0) (hx2.upd hM25.upd) rfl rfl (by omega) fun b30 o30 hp30 => ?_
              refine ldA (cs := thC (f2.getD 0 th0)) rfl (thC_len _) (hp30.all) ?_
              refine m_app1S (enc := thC) (q := f2.getD 0 th0) hM25 (i := 0) rfl hy5_ rfl (by simp) (fill_big (zcTh_len) (thC_len _)) (zcTh_len) (by first | omega | (simp; omega)) (by omega) fun v31 w31 r31 u31 (hs31 : SlS thC 257 81 v31 (l2 ++ [f2.getD 0 th0]) r31) (hM31 : Mem w [] w31 [r31, [⟨b17, 81, (thC (bothT (row.getD i th0) (row.getD (i + 1) th0)))⟩]]) => ?_
              refine stp (v := v31) (o_mv rfl) ?_
              refine h29 _ _ ?_
              clear h29
              refine stp (v := x2) (o_mv rfl) ?_
              refine m_slcES (enc := thC) 1 f2.length (hx2) rfl (by first | omega | (simp; done) | (simp; omega)) (by first | omega | (simp; done) | (simp; omega)) rfl ⟨_, rfl⟩ fun u32 hu32 => ?_
              refine stp (v := u32) (o_mv rfl) ?_
              refine h22 (l2 ++ [f2.getD 0 th0], u32, f2.drop 1, v31, r31) _ _ ⟨rfl, rfl, rfl, by first | rfl | exact v_int (by omega) | exact v_int (by simp) | exact v_int (by simp; omega), rfl, hM31.keep (by simp), by have h9 := hu32; rw [List.take_length] at h9; exact h9, by rw [List.length_drop]; omega, by rw [List.length_append, List.length_drop]; simp only [List.length_cons, List.length_nil]; omega, by rw [List.append_assoc, List.singleton_append, ← merge_T (by omega) (by assumption)]; exact hL2, by first | exact hs31 | simpa using hs31⟩ (by (try dsimp only); rw [List.length_drop]; omega)
            ·
              refine h20 _ _ ?_
              clear h20
              refine stp (v := y5_) (o_mv rfl) ?_
              refine ldA (cs := (thC (bothT (row.getD i th0) (row.getD (i + 1) th0)))) rfl (thC_len _) (hM25.at (i := 1) (j := 0) rfl rfl).all ?_
              refine m_app1S (enc := thC) (q := (bothT (row.getD i th0) (row.getD (i + 1) th0))) hM25 (i := 0) rfl hy5_ rfl (by simp) (fill_big (zcTh_len) (thC_len _)) (zcTh_len) (by first | omega | (simp; omega)) (by omega) fun v33 w33 r33 u33 (hs33 : SlS thC 257 81 v33 (l2 ++ [(bothT (row.getD i th0) (row.getD (i + 1) th0))]) r33) (hM33 : Mem w [] w33 [r33, [⟨b17, 81, (thC (bothT (row.getD i th0) (row.getD (i + 1) th0)))⟩]]) => ?_
              refine stp (v := v33) (o_mv rfl) ?_
              refine h11 _ _ ?_
              clear h11
              refine stp (v := .int .i64 (i : Nat)) (o_mv rfl) ?_
              refine stp (v := .int .i64 ((i : Nat) + 2)) (o_bin rfl rfl (v_add64 (by constructor <;> omega))) ?_
              refine stp (v := .int .i64 ((i : Nat) + 2)) (o_mv rfl) ?_
              refine h7 (i + 2, l2 ++ [(bothT (row.getD i th0) (row.getD (i + 1) th0))], x2, f2, v33, r33) _ _ ⟨rfl, rfl, by first | rfl | exact v_int (by omega) | exact v_int (by simp) | exact v_int (by simp; omega), rfl, hM33.keep (by simp), hx2, by omega, by omega, by rw [List.length_append]; simp only [List.length_cons, List.length_nil]; omega, by rw [List.append_assoc, List.singleton_append, ← merge_F (.inr (by assumption))]; exact hL2, by first | exact hs33 | simpa using hs33⟩ (by (try dsimp only); omega)
          ·
            refine dgno rfl (by simp) ?_
            refine dgno rfl (by simp) ?_
            refine dgno rfl (by simp) ?_
            refine dgno rfl (by simp) ?_
            refine dqgno rfl (by simp) ?_
            refine dgnol rfl (by simp) ?_
            refine dgno rfl (by simp) ?_
            refine dq (v := .bool false) (o_pickF rfl rfl) ?_
            refine h24 _ _ ?_
            clear h24
            refine cndF rfl ?_
            refine h20 _ _ ?_
            clear h20
            refine stp (v := y5_) (o_mv rfl) ?_
            refine ldA (cs := (thC (bothT (row.getD i th0) (row.getD (i + 1) th0)))) rfl (thC_len _) (hM25.at (i := 1) (j := 0) rfl rfl).all ?_
            refine m_app1S (enc := thC) (q := (bothT (row.getD i th0) (row.getD (i + 1) th0))) hM25 (i := 0) rfl hy5_ rfl (by simp) (fill_big (zcTh_len) (thC_len _)) (zcTh_len) (by first | omega | (simp; omega)) (by omega) fun v34 w34 r34 u34 (hs34 : SlS thC 257 81 v34 (l2 ++ [(bothT (row.getD i th0) (row.getD (i + 1) th0))]) r34) (hM34 : Mem w [] w34 [r34, [⟨b17, 81, (thC (bothT (row.getD i th0) (row.getD (i + 1) th0)))⟩]]) => ?_
            refine stp (v := v34) (o_mv rfl) ?_
            refine h11 _ _ ?_
            clear h11
            refine stp (v := .int .i64 (i : Nat)) (o_mv rfl) ?_
            refine stp (v := .int .i64 ((i : Nat) + 2)) (o_bin rfl rfl (v_add64 (by constructor <;> omega))) ?_
            refine stp (v := .int .i64 ((i : Nat) + 2)) (o_mv rfl) ?_
            refine h7 (i + 2, l2 ++ [(bothT (row.getD i th0) (row.getD (i + 1) th0))], x2, f2, v34, r34) _ _ ⟨rfl, rfl, by first | rfl | exact v_int (by omega) | exact v_int (by simp) | exact v_int (by simp; omega), rfl, hM34.keep (by simp), hx2, by omega, by omega, by rw [List.length_append]; simp only [List.length_cons, List.length_nil]; omega, by rw [List.append_assoc, List.singleton_append, ← merge_F (.inl (by omega))]; exact hL2, by first | exact hs34 | simpa using hs34⟩ (by (try dsimp only); omega)
      ·
        show vd _ _ _ _ _ _ _
        refine dl (m_alU hM13 fun b35 w36 hup36 (hM36 : Mem w [] w36 [r5_, [⟨b35, 81, (zcOf Try.t81)⟩]]) => ?_)
        have hh36 := held_upd (wr := wd) (bs := [(blkV y)]) hup36 (fun b hb => by
          simp only [List.mem_cons, List.not_mem_nil, or_false] at hb
          rw [hb]; exact ⟨Rd.blkV_ltS (hy.upd hM13.upd) (by omega), by simp⟩) (fun b hb => rfl)
        refine ⟨hh36, ?_⟩
        refine dl (m_call (both_ok (row.getD i th0) (row.getD (i + 1) th0) w36 (fun k hk => Nat.le_trans (two_tot (by omega) k) (ht k hk)) (by omega)) rfl fun v37 w37 ⟨hr37, hu37⟩ => ?_)
        have hM37 : Mem w [] w37 [r5_, [⟨b35, 81, (zcOf Try.t81)⟩]] := hM36.pure hu37
        subst hr37
        have hh37 := held_upd (wr := wd) (bs := [(blkV y)]) hu37 (fun b hb => by
          simp only [List.mem_cons, List.not_mem_nil, or_false] at hb
          rw [hb]; exact ⟨Rd.blkV_ltS (hy.upd hM36.upd) (by omega), by simp⟩) hh36
        refine ⟨hh37, ?_⟩
        refine dl (m_stAU (l := (thC (bothT (row.getD i th0) (row.getD (i + 1) th0)))) hM37 (i := 1) rfl rfl rfl (by simp) (thC_one _) (by simp) fun w38 hup38 hm38 => ?_)
        have hh38 := held_upd (wr := wd) (bs := [(blkV y)]) hup38 (fun b hb => by
          simp only [List.mem_cons, List.not_mem_nil, or_false] at hb
          rw [hb]; exact ⟨Rd.blkV_ltS (hy.upd hM37.upd) (by omega), hM37.old (i := 1) rfl (Rd.blkV_ltS hy (by omega))⟩) hh37
        refine ⟨hh38, ?_⟩
        have hM38 : Mem w [] w38 [r5_, [⟨b35, 81, (thC (bothT (row.getD i th0) (row.getD (i + 1) th0)))⟩]] := by
          have e : splice (zcOf Try.t81) 0 (thC (bothT (row.getD i th0) (row.getD (i + 1) th0))) = (thC (bothT (row.getD i th0) (row.getD (i + 1) th0))) := splice_full (by simp; first | done | (simp) | omega)
          first | (rw [e] at hm38; exact hm38) | (rw [← e]; exact hm38)
        refine h12 _ _ ?_
        clear h12
        refine seq fun K39 h39 => ?_
        refine lp (n := fun _ _ => False) (ι := (List Th) × (Value) × (List Th) × (Value) × (List Ent)) (fun ⟨l2, x2, f2, y5_, r5_⟩ f w' => f 0 = x2 ∧ f 5 = y5_ ∧ f 1 = y ∧ f 6 = .int .i64 (i : Nat) ∧ f 7 = .pointer (some ⟨b35, 0, none⟩) ∧ Mem w [] w' [r5_, [⟨b35, 81, (thC (bothT (row.getD i th0) (row.getD (i + 1) th0)))⟩]] ∧ (RdS thC w x2 f2) ∧ (f2.length ≤ fs.length) ∧ (l2.length ≤ fs.length - f2.length + i) ∧ (l2 ++ mergeL f2 ((bothT (row.getD i th0) (row.getD (i + 1) th0)) :: pairsL (row.drop (i + 2))) = mergeL fs (pairsL row)) ∧ (SlS thC 257 81 y5_ (l2) r5_)) (fun ⟨l2, x2, f2, y5_, r5_⟩ => f2.length) (lo, x1, f1, y5_, r5_) ?_ ?_
        · exact ⟨rfl, rfl, rfl, by first | rfl | exact v_int (by omega) | exact v_int (by simp) | exact v_int (by simp; omega), rfl, hM38, hx1, by omega, by omega, by rw [← pairs_drop (by omega)]; exact hL, by first | exact hy5_ | simpa using hy5_⟩
        · rintro ⟨l2, x2, f2, y5_, r5_⟩ f w40 ⟨e40_0, e40_5, e40_1, e40_6, e40_7, hM40, hx2, hf2, hl2, hL2, hy5_⟩ K41 h41
          obtain ⟨frm, rfl⟩ : ∃ frm, f = (upd (upd (upd (upd (upd frm 0 (x2)) 5 (y5_)) 1 (y)) 6 (.int .i64 (i : Nat))) 7 (.pointer (some ⟨b35, 0, none⟩))) := ⟨f, by rw [upd_self e40_0, upd_self e40_5, upd_self e40_1, upd_self e40_6, upd_self e40_7]⟩
          clear e40_0 e40_5 e40_1 e40_6 e40_7
          refine seq fun K42 h42 => ?_
          refine seq fun K43 h43 => ?_
          intro wd e1 e2 e3 e4
          have hd := Upd.same e1 e2 e3 e4 []
          have hM44 := hM40.pure hd
          clear e1 e2 e3 e4
          refine ⟨none, ?_⟩
          show vd _ _ _ _ _ _ _
          refine dq (v := x2) (o_mv rfl) ?_
          refine dq (v := .int .i64 (f2.length : Nat)) (o_lenR (hx2.upd hM44.upd) rfl rfl) ?_
          refine dq (v := .bool (decide ((0 : Int) < ((f2.length : Nat) : Int)))) (o_bin rfl rfl rfl) ?_
          refine dq (v := .bool (decide ((0 : Int) < ((f2.length : Nat) : Int)))) (o_mv rfl) ?_
          refine dsplitP rfl (fun c45 => ?_) (fun c45 => ?_)
          ·
            refine dqg rfl (v := x2) (o_mv rfl) ?_
            refine dgyes rfl rfl (dqp (m_idxS th0 (j := 0) (hx2.upd hM44.upd) rfl rfl (by omega) fun b46 o46 hp46 => ?_))
            show vd _ _ _ _ _ _ _
            refine dqg rfl (v := .pointer (some ⟨b46, o46, none⟩)) (o_fa rfl rfl) ?_
            refine dqg rfl (v := .pointer (some ⟨b35, 0, none⟩)) (o_fa rfl rfl) ?_
            refine dqgyes rfl rfl ?_
            refine dqld rfl (trivial) (v := .int .i64 ((bothT (row.getD i th0) (row.getD (i + 1) th0)).w)) ((hM44.at (i := 1) (j := 0) rfl rfl).cell 0) ?_
            refine dgyesl rfl ?_
            refine dl (ld (v := .int .i64 ((f2.getD 0 th0).w)) rfl (hp46.get 0 rfl) ?_)
            refine ⟨rfl, ?_⟩
            refine dqg rfl (v := .bool (decide (((f2.getD 0 th0).w) ≤ ((bothT (row.getD i th0) (row.getD (i + 1) th0)).w)))) (o_bin rfl rfl rfl) ?_
            refine dq (v := .bool (decide (((f2.getD 0 th0).w) ≤ ((bothT (row.getD i th0) (row.getD (i + 1) th0)).w)))) (o_pickT rfl rfl) ?_
            refine h43 _ _ ?_
            clear h43
            refine cndP rfl (fun c47 => ?_) (fun c47 => ?_)
            ·
              refine h42 _ _ ?_
              clear h42
              refine seq fun K48 h48 => ?_
              refine stp (v := y5_) (o_mv rfl) ?_
              refine stp (v := x2) (o_mv rfl) ?_
              refine m_idxS th0 (j := 0) (hx2.upd hM44.upd) rfl rfl (by omega) fun b49 o49 hp49 => ?_
              refine ldA (cs := thC (f2.getD 0 th0)) rfl (thC_len _) (hp49.all) ?_
              refine m_app1S (enc := thC) (q := f2.getD 0 th0) hM44 (i := 0) rfl hy5_ rfl (by simp) (fill_big (zcTh_len) (thC_len _)) (zcTh_len) (by first | omega | (simp; omega)) (by omega) fun v50 w50 r50 u50 (hs50 : SlS thC 257 81 v50 (l2 ++ [f2.getD 0 th0]) r50) (hM50 : Mem w [] w50 [r50, [⟨b35, 81, (thC (bothT (row.getD i th0) (row.getD (i + 1) th0)))⟩]]) => ?_
              refine stp (v := v50) (o_mv rfl) ?_
              refine h48 _ _ ?_
              clear h48
              refine stp (v := x2) (o_mv rfl) ?_
              refine m_slcES (enc := thC) 1 f2.length (hx2) rfl (by first | omega | (simp; done) | (simp; omega)) (by first | omega | (simp; done) | (simp; omega)) rfl ⟨_, rfl⟩ fun u51 hu51 => ?_
              refine stp (v := u51) (o_mv rfl) ?_
              refine h41 (l2 ++ [f2.getD 0 th0], u51, f2.drop 1, v50, r50) _ _ ⟨rfl, rfl, rfl, by first | rfl | exact v_int (by omega) | exact v_int (by simp) | exact v_int (by simp; omega), rfl, hM50.keep (by simp), by have h9 := hu51; rw [List.take_length] at h9; exact h9, by rw [List.length_drop]; omega, by rw [List.length_append, List.length_drop]; simp only [List.length_cons, List.length_nil]; omega, by rw [List.append_assoc, List.singleton_append, ← merge_T (by omega) (by assumption)]; exact hL2, by first | exact hs50 | simpa using hs50⟩ (by (try dsimp only); rw [List.length_drop]; omega)
            ·
              refine h39 _ _ ?_
              clear h39
              refine stp (v := y5_) (o_mv rfl) ?_
              refine ldA (cs := (thC (bothT (row.getD i th0) (row.getD (i + 1) th0)))) rfl (thC_len _) (hM44.at (i := 1) (j := 0) rfl rfl).all ?_
              refine m_app1S (enc := thC) (q := (bothT (row.getD i th0) (row.getD (i + 1) th0))) hM44 (i := 0) rfl hy5_ rfl (by simp) (fill_big (zcTh_len) (thC_len _)) (zcTh_len) (by first | omega | (simp; omega)) (by omega) fun v52 w52 r52 u52 (hs52 : SlS thC 257 81 v52 (l2 ++ [(bothT (row.getD i th0) (row.getD (i + 1) th0))]) r52) (hM52 : Mem w [] w52 [r52, [⟨b35, 81, (thC (bothT (row.getD i th0) (row.getD (i + 1) th0)))⟩]]) => ?_
              refine stp (v := v52) (o_mv rfl) ?_
              refine h11 _ _ ?_
              clear h11
              refine stp (v := .int .i64 (i : Nat)) (o_mv rfl) ?_
              refine stp (v := .int .i64 ((i : Nat) + 2)) (o_bin rfl rfl (v_add64 (by constructor <;> omega))) ?_
              refine stp (v := .int .i64 ((i : Nat) + 2)) (o_mv rfl) ?_
              refine h7 (i + 2, l2 ++ [(bothT (row.getD i th0) (row.getD (i + 1) th0))], x2, f2, v52, r52) _ _ ⟨rfl, rfl, by first | rfl | exact v_int (by omega) | exact v_int (by simp) | exact v_int (by simp; omega), rfl, hM52.keep (by simp), hx2, by omega, by omega, by rw [List.length_append]; simp only [List.length_cons, List.length_nil]; omega, by rw [List.append_assoc, List.singleton_append, ← merge_F (.inr (by assumption))]; exact hL2, by first | exact hs52 | simpa using hs52⟩ (by (try dsimp only); omega)
          ·
            refine dgno rfl (by simp) ?_
            refine dgno rfl (by simp) ?_
            refine dgno rfl (by simp) ?_
            refine dgno rfl (by simp) ?_
            refine dqgno rfl (by simp) ?_
            refine dgnol rfl (by simp) ?_
            refine dgno rfl (by simp) ?_
            refine dq (v := .bool false) (o_pickF rfl rfl) ?_
            refine h43 _ _ ?_
            clear h43
            refine cndF rfl ?_
            refine h39 _ _ ?_
            clear h39
            refine stp (v := y5_) (o_mv rfl) ?_
            refine ldA (cs := (thC (bothT (row.getD i th0) (row.getD (i + 1) th0)))) rfl (thC_len _) (hM44.at (i := 1) (j := 0) rfl rfl).all ?_
            refine m_app1S (enc := thC) (q := (bothT (row.getD i th0) (row.getD (i + 1) th0))) hM44 (i := 0) rfl hy5_ rfl (by simp) (fill_big (zcTh_len) (thC_len _)) (zcTh_len) (by first | omega | (simp; omega)) (by omega) fun v53 w53 r53 u53 (hs53 : SlS thC 257 81 v53 (l2 ++ [(bothT (row.getD i th0) (row.getD (i + 1) th0))]) r53) (hM53 : Mem w [] w53 [r53, [⟨b35, 81, (thC (bothT (row.getD i th0) (row.getD (i + 1) th0)))⟩]]) => ?_
            refine stp (v := v53) (o_mv rfl) ?_
            refine h11 _ _ ?_
            clear h11
            refine stp (v := .int .i64 (i : Nat)) (o_mv rfl) ?_
            refine stp (v := .int .i64 ((i : Nat) + 2)) (o_bin rfl rfl (v_add64 (by constructor <;> omega))) ?_
            refine stp (v := .int .i64 ((i : Nat) + 2)) (o_mv rfl) ?_
            refine h7 (i + 2, l2 ++ [(bothT (row.getD i th0) (row.getD (i + 1) th0))], x2, f2, v53, r53) _ _ ⟨rfl, rfl, by first | rfl | exact v_int (by omega) | exact v_int (by simp) | exact v_int (by simp; omega), rfl, hM53.keep (by simp), hx2, by omega, by omega, by rw [List.length_append]; simp only [List.length_cons, List.length_nil]; omega, by rw [List.append_assoc, List.singleton_append, ← merge_F (.inl (by omega))]; exact hL2, by first | exact hs53 | simpa using hs53⟩ (by (try dsimp only); omega)
    ·
      refine h4 _ _ ?_
      clear h4
      refine seq fun K54 h54 => ?_
      refine stp (v := y5_) (o_mv rfl) ?_
      refine stp (v := x1) (o_mv rfl) ?_
      refine m_appS' (enc := thC) hM6 (i := 0) rfl hy5_ rfl rfl (hx1.upd hM6.upd) (zcTh_len) (by first | omega | (simp; omega)) (by omega) fun v55 w55 r55 (hs55 : SlS thC 257 81 v55 (lo ++ f1) r55) (hM55 : Mem w [] w55 [r55]) => ?_
      refine stp (v := v55) (o_mv rfl) ?_
      refine h54 _ _ ?_
      clear h54
      refine ⟨v55, rfl, ?_⟩
      rw [pairs_end (by omega), mergeL_nilR] at hL
      exact ⟨_, by rw [← hL]; exact hs55, hM55.keep (by simp)⟩
