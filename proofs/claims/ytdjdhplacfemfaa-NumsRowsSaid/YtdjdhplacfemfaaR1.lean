/- Rows of items: what is laid down. -/
import Derived.Test.YtdjdhplacfemfaaK3
namespace Go.Proofs.Ytdjdhplacfemfaa.E
open Go
structure Itm where
  kind : Int
  v : Int
  n : Int
  s : List UInt8
def itmC (x : Itm) : List Value := [.int .i64 x.kind, .int .i64 x.v, .int .i64 x.n, .string (str x.s)]
instance : Enc itmC 4 := ⟨fun _ => rfl, by omega, fun c => by intro v hv; simp only [itmC, List.mem_cons, List.not_mem_nil, or_false] at hv; rcases hv with rfl | rfl | rfl | rfl <;> rfl⟩
def Itm.ok (x : Itm) : Prop := inK .i64 x.kind ∧ inK .i64 x.v ∧ inK .i64 x.n ∧ x.s.length ≤ 140737488351232
def laidB (x : Itm) : List UInt8 := if x.kind = 0 then putI x.v else if x.kind = 1 then fixedI (x.v % 18446744073709551616) x.n else if x.kind = 2 then x.s else putI (x.s.length : Nat) ++ x.s
theorem laid_0 {x : Itm} (h : x.kind = 0) : laidB x = putI x.v := by unfold laidB; rw [if_pos h]
theorem laid_1 {x : Itm} (h : x.kind = 1) : laidB x = fixedI (x.v % 18446744073709551616) x.n := by unfold laidB; rw [if_neg (by omega), if_pos h]
theorem laid_2 {x : Itm} (h : x.kind = 2) : laidB x = x.s := by unfold laidB; rw [if_neg (by omega), if_neg (by omega), if_pos h]
theorem laid_3 {x : Itm} (h : ¬ x.kind = 0) (h1 : ¬ x.kind = 1) (h2 : ¬ x.kind = 2) : laidB x = putI (x.s.length : Nat) ++ x.s := by unfold laidB; rw [if_neg h, if_neg h1, if_neg h2]

/-- winnowlaw2.laid -/
theorem laid_ok (x : Itm) (w : World) (hk : x.ok) : Calls Try.prog 38 [.agg (itmC x).toArray].toArray w (Rt fun r w' => ∃ rs, SlE byteV 5 r (laidB x) rs ∧ Mem w [] w' [rs]) := by
  have hM0 : Mem w [] w [] := Mem.nil w []
  obtain ⟨hk1, hk2, hk3, hk4⟩ := hk
  simp only [inK] at hk1 hk2 hk3
  refine calls_vc mixed Try.func38 rfl C38 (by simp [Try.ntmps38]) ?_
  refine seq fun K1 h1 => ?_
  refine m_bx (v := .agg ([.int .i64 x.kind, .int .i64 x.v, .int .i64 x.n, .string (str x.s)] : List Value).toArray) hM0 rfl rfl fun b2 w3 (hM3 : Mem w [] w3 [[⟨b2, 65, [.int .i64 x.kind, .int .i64 x.v, .int .i64 x.n, .string (str x.s)]⟩]]) => ?_
  refine stp (v := .slice none 0 0) (o_mv rfl) ?_
  refine h1 _ _ ?_
  clear h1
  refine seq fun K4 h4 => ?_
  refine seq fun K5 h5 => ?_
  refine stp (v := .pointer (some ⟨b2, 0, none⟩)) (o_fa rfl rfl) ?_
  refine m_ld (v := .int .i64 x.kind) hM3 (i := 0) (j := 0) rfl rfl rfl rfl ?_
  refine h5 _ _ ?_
  clear h5
  refine seq fun K6 h6 => ?_
  refine stp (v := .bool (decide (x.kind = 0))) (o_bin rfl rfl rfl) ?_
  refine stp (v := .bool (decide (x.kind = 0))) (o_mv rfl) ?_
  refine h6 _ _ ?_
  clear h6
  refine cndP rfl (fun c7 => ?_) (fun c7 => ?_)
  ·
    refine seq fun K8 h8 => ?_
    refine stp (v := .pointer (some ⟨b2, 1, none⟩)) (o_fa rfl rfl) ?_
    refine m_ld (v := .int .i64 x.v) hM3 (i := 0) (j := 0) rfl rfl rfl rfl ?_
    refine m_call (Put_ok x.v (by simp only [inK]; omega) w3) rfl fun v9 w9 ⟨rs9, hs9, hm9⟩ => ?_
    have hM9 : Mem w [] w9 [[⟨b2, 65, [.int .i64 x.kind, .int .i64 x.v, .int .i64 x.n, .string (str x.s)]⟩], rs9] := hM3.add hm9
    have hn9 := putI_len (v := x.v) (by omega)
    refine stp (v := v9) (o_mv rfl) ?_
    refine h8 _ _ ?_
    clear h8
    refine ⟨v9, rfl, ?_⟩
    exact ⟨_, by rw [laid_0 (by omega)]; exact hs9, (hM9.drop 0).keep (by simp)⟩
  ·
    refine seq fun K10 h10 => ?_
    refine stp (v := .bool (decide (x.kind = 1))) (o_bin rfl rfl rfl) ?_
    refine stp (v := .bool (decide (x.kind = 1))) (o_mv rfl) ?_
    refine h10 _ _ ?_
    clear h10
    refine cndP rfl (fun c11 => ?_) (fun c11 => ?_)
    ·
      refine seq fun K12 h12 => ?_
      refine stp (v := .pointer (some ⟨b2, 1, none⟩)) (o_fa rfl rfl) ?_
      refine m_ld (v := .int .i64 x.v) hM3 (i := 0) (j := 0) rfl rfl rfl rfl ?_
      refine stp (v := .int .u64 (x.v % 18446744073709551616)) (o_conv rfl (by rw [wrap_u64])) ?_
      refine stp (v := .pointer (some ⟨b2, 2, none⟩)) (o_fa rfl rfl) ?_
      refine m_ld (v := .int .i64 x.n) hM3 (i := 0) (j := 0) rfl rfl rfl rfl ?_
      refine m_call (Fixed_ok (x.v % 18446744073709551616) x.n (by simp only [inK]; omega) (by simp only [inK]; omega) w3) rfl fun v13 w13 ⟨rs13, hs13, hm13⟩ => ?_
      have hM13 : Mem w [] w13 [[⟨b2, 65, [.int .i64 x.kind, .int .i64 x.v, .int .i64 x.n, .string (str x.s)]⟩], rs13] := hM3.add hm13
      have hn13 := fixedI_len (v := x.v % 18446744073709551616) (n := x.n)
      refine stp (v := v13) (o_mv rfl) ?_
      refine h12 _ _ ?_
      clear h12
      refine ⟨v13, rfl, ?_⟩
      exact ⟨_, by rw [laid_1 (by omega)]; exact hs13, (hM13.drop 0).keep (by simp)⟩
    ·
      refine seq fun K14 h14 => ?_
      refine stp (v := .bool (decide (x.kind = 2))) (o_bin rfl rfl rfl) ?_
      refine stp (v := .bool (decide (x.kind = 2))) (o_mv rfl) ?_
      refine h14 _ _ ?_
      clear h14
      refine cndP rfl (fun c15 => ?_) (fun c15 => ?_)
      ·
        refine seq fun K16 h16 => ?_
        refine stp (v := .pointer (some ⟨b2, 3, none⟩)) (o_fa rfl rfl) ?_
        refine m_ld (v := .string (str x.s)) hM3 (i := 0) (j := 0) rfl rfl rfl rfl ?_
        refine m_s2b hM3 rfl fun v17 w17 r17 hs17 (hM17 : Mem w [] w17 [[⟨b2, 65, [.int .i64 x.kind, .int .i64 x.v, .int .i64 x.n, .string (str x.s)]⟩], r17]) => ?_
        refine stp (v := v17) (o_mv rfl) ?_
        refine h16 _ _ ?_
        clear h16
        refine ⟨v17, rfl, ?_⟩
        exact ⟨_, by rw [laid_2 (by omega)]; exact hs17, (hM17.drop 0).keep (by simp)⟩
      ·
        refine h4 _ _ ?_
        clear h4
        refine seq fun K18 h18 => ?_
        refine m_bs hM3 rfl fun b19 w20 (hM20 : Mem w [] w20 [[⟨b2, 65, [.int .i64 x.kind, .int .i64 x.v, .int .i64 x.n, .string (str x.s)]⟩], [⟨b19, 5, []⟩]]) => ?_
        refine stp (v := .pointer (some ⟨b2, 3, none⟩)) (o_fa rfl rfl) ?_
        refine m_ld (v := .string (str x.s)) hM20 (i := 0) (j := 0) rfl rfl rfl rfl ?_
        refine stp (v := .int .i64 (x.s.length : Nat)) (o_lens rfl rfl) ?_
        refine m_call (Put_ok (x.s.length : Nat) (by simp only [inK]; omega) w20) rfl fun v21 w21 ⟨rs21, hs21, hm21⟩ => ?_
        have hM21 : Mem w [] w21 [[⟨b2, 65, [.int .i64 x.kind, .int .i64 x.v, .int .i64 x.n, .string (str x.s)]⟩], [⟨b19, 5, []⟩], rs21] := hM20.add hm21
        have hn21 := putI_len (v := (x.s.length : Nat)) (by omega)
        have hs22 : SlE byteV 5 (.slice (some ⟨b19, 0, none⟩) 0 0) [] [⟨b19, 5, []⟩] := SlE.lit (l := []) rfl
        refine m_appE hM21 (i := 1) rfl hs22 rfl rfl (hs21.rd hM21 (i := 2) rfl) (by first | omega | (simp; omega)) (by omega) fun v23 w23 r23 (hs23 : SlE byteV 5 v23 (putI (x.s.length : Nat)) r23) (hM23 : Mem w [] w23 [[⟨b2, 65, [.int .i64 x.kind, .int .i64 x.v, .int .i64 x.n, .string (str x.s)]⟩], r23, rs21]) => ?_
        refine stp (v := v23) (o_mv rfl) ?_
        refine h18 _ _ ?_
        clear h18
        refine seq fun K24 h24 => ?_
        refine stp (v := v23) (o_mv rfl) ?_
        refine stp (v := .pointer (some ⟨b2, 3, none⟩)) (o_fa rfl rfl) ?_
        refine m_ld (v := .string (str x.s)) hM23 (i := 0) (j := 0) rfl rfl rfl rfl ?_
        refine m_appS hM23 (i := 1) rfl hs23 rfl rfl (by first | omega | (simp; omega)) fun v25 w25 r25 (hs25 : SlE byteV 5 v25 ((putI (x.s.length : Nat)) ++ x.s) r25) (hM25 : Mem w [] w25 [[⟨b2, 65, [.int .i64 x.kind, .int .i64 x.v, .int .i64 x.n, .string (str x.s)]⟩], r25, rs21]) => ?_
        refine stp (v := v25) (o_mv rfl) ?_
        refine h24 _ _ ?_
        clear h24
        refine ⟨v25, rfl, ?_⟩
        exact ⟨_, by rw [laid_3 (by omega) (by omega) (by omega)]; exact (by simpa using hs25), (hM25.drop 0).keep (by simp)⟩

/-- the items that are laid down: what Kind may be, and what goes with it -/
def goodI (x : Itm) : Prop := ¬ (x.kind < 0 ∨ x.kind > 3) ∧ ¬ (x.kind = 0 ∧ x.v < 0) ∧ ¬ (x.kind = 1 ∧ (x.n < 1 ∨ x.n > 8))
theorem getD_memG {α : Type} (z : α) {l : List α} {i : Nat} (h : i < l.length) : l.getD i z ∈ l := by
  rw [List.getD_eq_getElem?_getD, List.getElem?_eq_getElem h]; exact List.getElem_mem h
def iz : Itm := ⟨0, 0, 0, []⟩
def sumI (l : List Itm) (i : Nat) : Nat := i + ((l.take i).map fun x => x.s.length).sum
theorem sumI_zero (l : List Itm) : sumI l 0 = 0 := rfl
theorem sumI_succ {l : List Itm} {i : Nat} (h : i < l.length) : sumI l (i + 1) = sumI l i + 1 + (l.getD i iz).s.length := by
  unfold sumI; rw [takeG iz h, List.map_append, List.sum_append]; simp; omega

/-- winnowlaw2.beyond -/
theorem beyond_ok (x : Value) (l : List Itm) (w : World) (hx : RdS itmC w x l) (hok : ∀ y ∈ l, y.ok) (hl : l.length * 40 ≤ 140737488351232) : Calls Try.prog 37 [x].toArray w (Rt fun r w' => ∃ b, r = .bool b ∧ (b = false → sumI l l.length ≤ 2147483647) ∧ Upd [] w w') := by
  have hM0 : Mem w [] w [] := Mem.nil w []
  refine calls_vc mixed Try.func37 rfl C37 (by simp [Try.ntmps37]) ?_
  refine seq fun K1 h1 => ?_
  refine stp (v := .bool false) (o_mv rfl) ?_
  refine h1 _ _ ?_
  clear h1
  refine seq fun K2 h2 => ?_
  refine stp (v := .int .i64 0) (o_mv rfl) ?_
  refine h2 _ _ ?_
  clear h2
  refine seq fun K3 h3 => ?_
  refine seq fun K4 h4 => ?_
  refine stp (v := .int .i64 0) (o_mv rfl) ?_
  refine h4 _ _ ?_
  clear h4
  refine lp (n := fun _ _ => False) (ι := (Nat)) (fun i f w' => f 3 = .int .i64 (sumI l i : Nat) ∧ f 4 = .int .i64 (i : Nat) ∧ f 0 = x ∧ Mem w [] w' [] ∧ (i ≤ l.length) ∧ (sumI l i ≤ 2147483647)) (fun i => l.length - i) (0) ?_ ?_
  · exact ⟨by first | rfl | exact v_int (by omega) | exact v_int (by simp) | exact v_int (by simp; omega), by first | rfl | exact v_int (by omega) | exact v_int (by simp) | exact v_int (by simp; omega), rfl, hM0, by omega, by rw [sumI_zero]; omega⟩
  · rintro i f w5 ⟨e5_3, e5_4, e5_0, hM5, hi, hs⟩ K6 h6
    obtain ⟨frm, rfl⟩ : ∃ frm, f = (upd (upd (upd frm 3 (.int .i64 (sumI l i : Nat))) 4 (.int .i64 (i : Nat))) 0 (x)) := ⟨f, by rw [upd_self e5_3, upd_self e5_4, upd_self e5_0]⟩
    clear e5_3 e5_4 e5_0
    refine seq fun K7 h7 => ?_
    refine seq fun K8 h8 => ?_
    refine stp (v := .int .i64 (i : Nat)) (o_mv rfl) ?_
    refine stp (v := x) (o_mv rfl) ?_
    refine stp (v := .int .i64 (l.length : Nat)) (o_lenR (hx.upd hM5.upd) rfl rfl) ?_
    refine stp (v := .bool (decide (((i : Nat) : Int) < (l.length : Nat)))) (o_bin rfl rfl rfl) ?_
    refine h8 _ _ ?_
    clear h8
    refine cndP rfl (fun c9 => ?_) (fun c9 => ?_)
    ·
      refine h7 _ _ ?_
      clear h7
      refine seq fun K10 h10 => ?_
      refine seq fun K11 h11 => ?_
      have hsu := sumI_succ (l := l) (i := i) (by omega)
      have hob := (hok _ (getD_memG iz (i := i) (l := l) (by omega))).2.2.2
      refine stp (v := .int .i64 (sumI l i : Nat)) (o_mv rfl) ?_
      refine stp (v := .int .i64 ((sumI l i : Nat) + 1)) (o_bin rfl rfl (v_add64 (by constructor <;> omega))) ?_
      refine stp (v := x) (o_mv rfl) ?_
      refine stp (v := .int .i64 (i : Nat)) (o_mv rfl) ?_
      refine m_idxS iz (j := i) (hx.upd hM5.upd) rfl rfl (by omega) fun b12 o12 hp12 => ?_
      refine stp (v := .pointer (some ⟨b12, o12 + 3, none⟩)) (o_fa rfl rfl) ?_
      refine ld (v := .string (str ((l.getD i iz).s))) rfl (hp12.get 3 rfl) ?_
      refine stp (v := .int .i64 (((l.getD i iz).s).length : Nat)) (o_lens rfl rfl) ?_
      refine stp (v := .int .i64 (sumI l (i + 1) : Nat)) (o_bin rfl rfl ((v_add64 (by constructor <;> omega)).trans (v_int (by rw [hsu]; omega)))) ?_
      refine stp (v := .int .i64 (sumI l (i + 1) : Nat)) (o_mv rfl) ?_
      refine h11 _ _ ?_
      clear h11
      refine seq fun K13 h13 => ?_
      refine stp (v := .int .i64 (sumI l (i + 1) : Nat)) (o_mv rfl) ?_
      refine stp (v := .bool (decide ((2147483647 : Int) < ((sumI l (i + 1) : Nat) : Int)))) (o_bin rfl rfl rfl) ?_
      refine h13 _ _ ?_
      clear h13
      refine cndP rfl (fun c14 => ?_) (fun c14 => ?_)
      ·
        refine seq fun K15 h15 => ?_
        refine stp (v := .bool true) (o_mv rfl) ?_
        refine h15 _ _ ?_
        clear h15
        refine ⟨(.bool true), rfl, ?_⟩
        exact ⟨true, rfl, (fun h => by cases h), hM5.upd⟩
      ·
        refine h10 _ _ ?_
        clear h10
        refine stp (v := .int .i64 (i : Nat)) (o_mv rfl) ?_
        refine stp (v := .int .i64 ((i : Nat) + 1)) (o_bin rfl rfl (v_add64 (by constructor <;> omega))) ?_
        refine stp (v := .int .i64 ((i : Nat) + 1)) (o_mv rfl) ?_
        refine h6 (i + 1) _ _ ⟨by first | rfl | exact v_int (by omega) | exact v_int (by simp) | exact v_int (by simp; omega), by first | rfl | exact v_int (by omega) | exact v_int (by simp) | exact v_int (by simp; omega), rfl, hM5, by omega, by rw [hsu]; omega⟩ (by (try dsimp only); omega)
    ·
      refine h3 _ _ ?_
      clear h3
      refine seq fun K16 h16 => ?_
      refine stp (v := .bool false) (o_mv rfl) ?_
      refine h16 _ _ ?_
      clear h16
      refine ⟨(.bool false), rfl, ?_⟩
      obtain rfl : i = l.length := by omega
      exact ⟨false, rfl, (fun _ => hs), hM5.upd⟩

def wI (x : Itm) : Int := if x.n < 8 then x.v % 18446744073709551616 % ((2 ^ (8 * x.n.toNat) : Nat) : Int) else x.v % 18446744073709551616
def fndV (b : List UInt8) (a : Nat) (e : Int) (x : Itm) : Bool := if x.kind = 0 then decide (cNum b a e x.v = x.v) else if x.kind = 1 then decide (((cFix b a e x.n : Nat) : Int) = wI x) else if x.kind = 2 then decide (cTk b a e (x.s.length : Nat) = x.s) else decide (cTx b a e (x.s.length : Nat) = x.s)
def fndS (b : List UInt8) (a : Nat) (e : Int) (x : Itm) : Nat × Int := if x.kind = 0 then (cNumA b a e x.v, cNumE b a e x.v) else if x.kind = 1 then (cFixA b a e x.n, cFixE b a e x.n) else if x.kind = 2 then (cTkA b a e (x.s.length : Nat), cTkE b a e (x.s.length : Nat)) else (cTxA b a e (x.s.length : Nat), cTxE b a e (x.s.length : Nat))

theorem shl_u64 {n : Nat} {z : Int} (hz : z = ((8 * n : Nat) : Int)) (hn : n ≤ 7) : Value.int .u64 (IntKind.u64.wrap (1 * 2 ^ min z.toNat IntKind.u64.bits)) = .int .u64 ((2 ^ (8 * n) : Nat) : Int) := by
  subst hz
  have h2 : 2 ^ (8 * n) ≤ 72057594037927936 := by
    calc 2 ^ (8 * n) ≤ 2 ^ 56 := Nat.pow_le_pow_right (by omega) (by omega)
      _ = 72057594037927936 := by decide
  have := shlI_nat (k := .u64) (a := 1) (n := 8 * n) (by simp only [IntKind.bits]; omega) (by rw [Nat.one_mul]; simp only [inK]; generalize 2 ^ (8 * n) = q at *; omega)
  rw [Nat.one_mul] at this
  exact v_int this

/-- winnowlaw2.found -/
theorem found_ok (bc : Nat) (b : List UInt8) (a : Nat) (e : Int) (x : Itm) (r0 : List Ent) (w : World) (hc : CurS bc b a e r0) (hr : Res w r0) (hl : b.length ≤ 140737488355328) (hk : x.ok) (hg : goodI x) : Calls Try.prog 39 [.pointer (some ⟨bc, 0, none⟩), .agg (itmC x).toArray].toArray w (Rt fun r w' => r = .bool (fndV b a e x) ∧ ∃ r', CurS bc b (fndS b a e x).1 (fndS b a e x).2 r' ∧ Mem w (ids r0) w' [r']) := by
  have hM0 : Mem w (ids r0) w [r0] := Mem.start hr
  obtain ⟨hk1, hk2, hk3, hk4⟩ := hk
  simp only [inK] at hk1 hk2 hk3
  unfold goodI at hg
  refine calls_vc mixed Try.func39 rfl C39 (by simp [Try.ntmps39]) ?_
  refine seq fun K1 h1 => ?_
  refine m_bx (v := .agg ([.int .i64 x.kind, .int .i64 x.v, .int .i64 x.n, .string (str x.s)] : List Value).toArray) hM0 rfl rfl fun b2 w3 (hM3 : Mem w (ids r0) w3 [r0, [⟨b2, 65, [.int .i64 x.kind, .int .i64 x.v, .int .i64 x.n, .string (str x.s)]⟩]]) => ?_
  refine stp (v := .bool false) (o_mv rfl) ?_
  refine h1 _ _ ?_
  clear h1
  refine seq fun K4 h4 => ?_
  refine seq fun K5 h5 => ?_
  refine stp (v := .pointer (some ⟨b2, 0, none⟩)) (o_fa rfl rfl) ?_
  refine m_ld (v := .int .i64 x.kind) hM3 (i := 1) (j := 0) rfl rfl rfl rfl ?_
  refine h5 _ _ ?_
  clear h5
  refine seq fun K6 h6 => ?_
  refine stp (v := .bool (decide (x.kind = 0))) (o_bin rfl rfl rfl) ?_
  refine stp (v := .bool (decide (x.kind = 0))) (o_mv rfl) ?_
  refine h6 _ _ ?_
  clear h6
  refine cndP rfl (fun c7 => ?_) (fun c7 => ?_)
  ·
    refine seq fun K8 h8 => ?_
    intro wd e1 e2 e3 e4
    have hd := Upd.same e1 e2 e3 e4 []
    have hM9 := hM3.pure hd
    clear e1 e2 e3 e4
    refine ⟨(some [b2]), ?_⟩
    show vd _ _ _ _ _ _ _
    refine dq (v := .pointer (some ⟨bc, 0, none⟩)) (o_mv rfl) ?_
    refine dq (v := .pointer (some ⟨b2, 1, none⟩)) (o_fa rfl rfl) ?_
    refine dq (v := .pointer (some ⟨b2, 1, none⟩)) (o_fa rfl rfl) ?_
    refine dqld rfl (by simp [isHeld]) (v := .int .i64 x.v) ((hM9.at (i := 1) (j := 0) rfl rfl).cell 1) ?_
    refine dl (m_ld (v := .int .i64 x.v) hM9 (i := 1) (j := 0) rfl rfl rfl rfl ?_)
    refine ⟨(fun b hb => rfl), ?_⟩
    refine dl (m_call (Num_ok _ b a e x.v r0 wd hc (hM9.res (i := 0) rfl) (by first | omega | (simp; done) | (simp; omega))) rfl fun v10 w10 ⟨hr10, r'10, hc10, hm10⟩ => ?_)
    have hM10 : Mem w (ids r0) w10 [r'10, [⟨b2, 65, [.int .i64 x.kind, .int .i64 x.v, .int .i64 x.n, .string (str x.s)]⟩]] := hM9.step 0 rfl hm10
    subst hr10
    have hh10 := held_upd (wr := wd) (bs := [b2]) hm10.upd (fun b hb => by
      simp only [List.mem_cons, List.not_mem_nil, or_false] at hb
      rw [hb]; exact ⟨(hM9.at (i := 1) (j := 0) rfl rfl).lt, hM9.apart (i := 1) (j := 0) (k := 0) rfl rfl rfl (by decide)⟩) (fun b hb => rfl)
    refine ⟨hh10, ?_⟩
    refine dq (v := .bool (decide ((cNum b a e x.v) = x.v))) (o_bin rfl rfl rfl) ?_
    refine dq (v := .bool (decide ((cNum b a e x.v) = x.v))) (o_mv rfl) ?_
    refine h8 _ _ ?_
    clear h8
    refine ⟨(.bool (decide ((cNum b a e x.v) = x.v))), rfl, ?_⟩
    exact ⟨by unfold fndV; rw [if_pos (show x.kind = 0 by omega)], _, by unfold fndS; rw [if_pos (show x.kind = 0 by omega)]; assumption, (hM10.drop 1).keep (by simp)⟩
  ·
    refine seq fun K11 h11 => ?_
    refine stp (v := .bool (decide (x.kind = 1))) (o_bin rfl rfl rfl) ?_
    refine stp (v := .bool (decide (x.kind = 1))) (o_mv rfl) ?_
    refine h11 _ _ ?_
    clear h11
    refine cndP rfl (fun c12 => ?_) (fun c12 => ?_)
    ·
      refine seq fun K13 h13 => ?_
      refine stp (v := .pointer (some ⟨b2, 1, none⟩)) (o_fa rfl rfl) ?_
      refine m_ld (v := .int .i64 x.v) hM3 (i := 1) (j := 0) rfl rfl rfl rfl ?_
      refine stp (v := .int .u64 (x.v % 18446744073709551616)) (o_conv rfl (by rw [wrap_u64])) ?_
      refine stp (v := .int .u64 (x.v % 18446744073709551616)) (o_mv rfl) ?_
      refine h13 _ _ ?_
      clear h13
      refine seq fun K14 h14 => ?_
      refine seq fun K15 h15 => ?_
      refine stp (v := .pointer (some ⟨b2, 2, none⟩)) (o_fa rfl rfl) ?_
      refine m_ld (v := .int .i64 x.n) hM3 (i := 1) (j := 0) rfl rfl rfl rfl ?_
      refine stp (v := .bool (decide (x.n < 8))) (o_bin rfl rfl rfl) ?_
      refine h15 _ _ ?_
      clear h15
      refine cndP rfl (fun c16 => ?_) (fun c16 => ?_)
      ·
        refine stp (v := .int .u64 (x.v % 18446744073709551616)) (o_mv rfl) ?_
        refine stp (v := .pointer (some ⟨b2, 2, none⟩)) (o_fa rfl rfl) ?_
        refine m_ld (v := .int .i64 x.n) hM3 (i := 1) (j := 0) rfl rfl rfl rfl ?_
        refine stp (v := .int .i64 (8 * x.n)) (o_bin rfl rfl (v_mul64 (by constructor <;> omega))) ?_
        refine stp (v := .int .u64 (8 * x.n.toNat : Nat)) (o_conv rfl (by rw [wrap_u64]; exact v_int (by omega))) ?_
        refine stp (v := .int .u64 (2 ^ (8 * x.n.toNat) : Nat)) (o_shl rfl rfl (by omega) (shl_u64 (n := x.n.toNat) rfl (by omega))) ?_
        have hp2 : 0 < 2 ^ (8 * x.n.toNat) := Nat.pow_pos (by omega)
        refine stp (v := .int .u64 ((x.v % 18446744073709551616) % (2 ^ (8 * x.n.toNat) : Nat))) (o_rem rfl rfl (by omega) (v_rem (by omega))) ?_
        refine stp (v := .int .u64 ((x.v % 18446744073709551616) % (2 ^ (8 * x.n.toNat) : Nat))) (o_mv rfl) ?_
        refine h14 _ _ ?_
        clear h14
        refine seq fun K17 h17 => ?_
        refine stp (v := .pointer (some ⟨bc, 0, none⟩)) (o_mv rfl) ?_
        refine stp (v := .pointer (some ⟨b2, 2, none⟩)) (o_fa rfl rfl) ?_
        refine m_ld (v := .int .i64 x.n) hM3 (i := 1) (j := 0) rfl rfl rfl rfl ?_
        refine m_call (cFixed_ok _ b a e x.n r0 w3 hc (hM3.res (i := 0) rfl) (by first | omega | (simp; done) | (simp; omega))) rfl fun v18 w18 ⟨hr18, r'18, hc18, hm18⟩ => ?_
        have hM18 : Mem w (ids r0) w18 [r'18, [⟨b2, 65, [.int .i64 x.kind, .int .i64 x.v, .int .i64 x.n, .string (str x.s)]⟩]] := hM3.step 0 rfl hm18
        subst hr18
        refine stp (v := .int .u64 ((x.v % 18446744073709551616) % (2 ^ (8 * x.n.toNat) : Nat))) (o_mv rfl) ?_
        refine stp (v := .bool (decide (((cFix b a e x.n : Nat) : Int) = ((x.v % 18446744073709551616) % (2 ^ (8 * x.n.toNat) : Nat))))) (o_bin rfl rfl rfl) ?_
        refine stp (v := .bool (decide (((cFix b a e x.n : Nat) : Int) = ((x.v % 18446744073709551616) % (2 ^ (8 * x.n.toNat) : Nat))))) (o_mv rfl) ?_
        refine h17 _ _ ?_
        clear h17
        refine ⟨(.bool (decide (((cFix b a e x.n : Nat) : Int) = ((x.v % 18446744073709551616) % (2 ^ (8 * x.n.toNat) : Nat))))), rfl, ?_⟩
        exact ⟨by unfold fndV wI; rw [if_neg (show ¬ x.kind = 0 by omega), if_pos (show x.kind = 1 by omega), if_pos (show x.n < 8 by omega)], _, by unfold fndS; rw [if_neg (show ¬ x.kind = 0 by omega), if_pos (show x.kind = 1 by omega)]; assumption, (hM18.drop 1).keep (by simp)⟩
      ·
        refine h14 _ _ ?_
        clear h14
        refine seq fun K19 h19 => ?_
        refine stp (v := .pointer (some ⟨bc, 0, none⟩)) (o_mv rfl) ?_
        refine stp (v := .pointer (some ⟨b2, 2, none⟩)) (o_fa rfl rfl) ?_
        refine m_ld (v := .int .i64 x.n) hM3 (i := 1) (j := 0) rfl rfl rfl rfl ?_
        refine m_call (cFixed_ok _ b a e x.n r0 w3 hc (hM3.res (i := 0) rfl) (by first | omega | (simp; done) | (simp; omega))) rfl fun v20 w20 ⟨hr20, r'20, hc20, hm20⟩ => ?_
        have hM20 : Mem w (ids r0) w20 [r'20, [⟨b2, 65, [.int .i64 x.kind, .int .i64 x.v, .int .i64 x.n, .string (str x.s)]⟩]] := hM3.step 0 rfl hm20
        subst hr20
        refine stp (v := .int .u64 (x.v % 18446744073709551616)) (o_mv rfl) ?_
        refine stp (v := .bool (decide (((cFix b a e x.n : Nat) : Int) = (x.v % 18446744073709551616)))) (o_bin rfl rfl rfl) ?_
        refine stp (v := .bool (decide (((cFix b a e x.n : Nat) : Int) = (x.v % 18446744073709551616)))) (o_mv rfl) ?_
        refine h19 _ _ ?_
        clear h19
        refine ⟨(.bool (decide (((cFix b a e x.n : Nat) : Int) = (x.v % 18446744073709551616)))), rfl, ?_⟩
        exact ⟨by unfold fndV wI; rw [if_neg (show ¬ x.kind = 0 by omega), if_pos (show x.kind = 1 by omega), if_neg (show ¬ x.n < 8 by omega)], _, by unfold fndS; rw [if_neg (show ¬ x.kind = 0 by omega), if_pos (show x.kind = 1 by omega)]; assumption, (hM20.drop 1).keep (by simp)⟩
    ·
      refine seq fun K21 h21 => ?_
      refine stp (v := .bool (decide (x.kind = 2))) (o_bin rfl rfl rfl) ?_
      refine stp (v := .bool (decide (x.kind = 2))) (o_mv rfl) ?_
      refine h21 _ _ ?_
      clear h21
      refine cndP rfl (fun c22 => ?_) (fun c22 => ?_)
      ·
        refine seq fun K23 h23 => ?_
        intro wd e1 e2 e3 e4
        have hd := Upd.same e1 e2 e3 e4 []
        have hM24 := hM3.pure hd
        clear e1 e2 e3 e4
        refine ⟨(some [b2]), ?_⟩
        show vd _ _ _ _ _ _ _
        refine dq (v := .pointer (some ⟨bc, 0, none⟩)) (o_mv rfl) ?_
        refine dq (v := .pointer (some ⟨b2, 3, none⟩)) (o_fa rfl rfl) ?_
        refine dq (v := .pointer (some ⟨b2, 3, none⟩)) (o_fa rfl rfl) ?_
        refine dqld rfl (by simp [isHeld]) (v := .string (str x.s)) ((hM24.at (i := 1) (j := 0) rfl rfl).cell 3) ?_
        refine dl (m_ld (v := .string (str x.s)) hM24 (i := 1) (j := 0) rfl rfl rfl rfl ?_)
        refine ⟨(fun b hb => rfl), ?_⟩
        refine dq (v := .int .i64 (x.s.length : Nat)) (o_lens rfl rfl) ?_
        refine dl (m_call (Take_ok _ b a e (x.s.length : Nat) r0 wd hc (hM24.res (i := 0) rfl) (by first | omega | (simp; done) | (simp; omega))) rfl fun v25 w25 ⟨r'25, rs25, hc25, hs25, hm25⟩ => ?_)
        have hM25 : Mem w (ids r0) w25 [r'25, [⟨b2, 65, [.int .i64 x.kind, .int .i64 x.v, .int .i64 x.n, .string (str x.s)]⟩], rs25] := hM24.stepAdd 0 rfl hm25
        have hh25 := held_upd (wr := wd) (bs := [b2]) hm25.upd (fun b hb => by
          simp only [List.mem_cons, List.not_mem_nil, or_false] at hb
          rw [hb]; exact ⟨(hM24.at (i := 1) (j := 0) rfl rfl).lt, hM24.apart (i := 1) (j := 0) (k := 0) rfl rfl rfl (by decide)⟩) (fun b hb => rfl)
        refine ⟨hh25, ?_⟩
        refine dl (m_b2s rfl (hs25.rd hM25 (i := 2) rfl) ?_)
        refine ⟨hh25, ?_⟩
        refine dq (v := .bool (decide ((cTk b a e (x.s.length : Nat)) = x.s))) (o_seq rfl rfl rfl) ?_
        refine dq (v := .bool (decide ((cTk b a e (x.s.length : Nat)) = x.s))) (o_mv rfl) ?_
        refine h23 _ _ ?_
        clear h23
        refine ⟨(.bool (decide ((cTk b a e (x.s.length : Nat)) = x.s))), rfl, ?_⟩
        exact ⟨by unfold fndV; rw [if_neg (show ¬ x.kind = 0 by omega), if_neg (show ¬ x.kind = 1 by omega), if_pos (show x.kind = 2 by omega)], _, by unfold fndS; rw [if_neg (show ¬ x.kind = 0 by omega), if_neg (show ¬ x.kind = 1 by omega), if_pos (show x.kind = 2 by omega)]; assumption, (hM25.drop 1).keep (by simp)⟩
      ·
        refine h4 _ _ ?_
        clear h4
        refine seq fun K26 h26 => ?_
        intro wd e1 e2 e3 e4
        have hd := Upd.same e1 e2 e3 e4 []
        have hM27 := hM3.pure hd
        clear e1 e2 e3 e4
        refine ⟨(some [b2]), ?_⟩
        show vd _ _ _ _ _ _ _
        refine dq (v := .pointer (some ⟨bc, 0, none⟩)) (o_mv rfl) ?_
        refine dq (v := .pointer (some ⟨b2, 3, none⟩)) (o_fa rfl rfl) ?_
        refine dq (v := .pointer (some ⟨b2, 3, none⟩)) (o_fa rfl rfl) ?_
        refine dqld rfl (by simp [isHeld]) (v := .string (str x.s)) ((hM27.at (i := 1) (j := 0) rfl rfl).cell 3) ?_
        refine dl (m_ld (v := .string (str x.s)) hM27 (i := 1) (j := 0) rfl rfl rfl rfl ?_)
        refine ⟨(fun b hb => rfl), ?_⟩
        refine dq (v := .int .i64 (x.s.length : Nat)) (o_lens rfl rfl) ?_
        refine dl (m_call (Text_ok _ b a e (x.s.length : Nat) r0 wd hc (hM27.res (i := 0) rfl) (by first | omega | (simp; done) | (simp; omega))) rfl fun v28 w28 ⟨hr28, r'28, hc28, hm28⟩ => ?_)
        have hM28 : Mem w (ids r0) w28 [r'28, [⟨b2, 65, [.int .i64 x.kind, .int .i64 x.v, .int .i64 x.n, .string (str x.s)]⟩]] := hM27.step 0 rfl hm28
        subst hr28
        have hh28 := held_upd (wr := wd) (bs := [b2]) hm28.upd (fun b hb => by
          simp only [List.mem_cons, List.not_mem_nil, or_false] at hb
          rw [hb]; exact ⟨(hM27.at (i := 1) (j := 0) rfl rfl).lt, hM27.apart (i := 1) (j := 0) (k := 0) rfl rfl rfl (by decide)⟩) (fun b hb => rfl)
        refine ⟨hh28, ?_⟩
        refine dq (v := .bool (decide ((cTx b a e (x.s.length : Nat)) = x.s))) (o_seq rfl rfl rfl) ?_
        refine dq (v := .bool (decide ((cTx b a e (x.s.length : Nat)) = x.s))) (o_mv rfl) ?_
        refine h26 _ _ ?_
        clear h26
        refine ⟨(.bool (decide ((cTx b a e (x.s.length : Nat)) = x.s))), rfl, ?_⟩
        exact ⟨by unfold fndV; rw [if_neg (show ¬ x.kind = 0 by omega), if_neg (show ¬ x.kind = 1 by omega), if_neg (show ¬ x.kind = 2 by omega)], _, by unfold fndS; rw [if_neg (show ¬ x.kind = 0 by omega), if_neg (show ¬ x.kind = 1 by omega), if_neg (show ¬ x.kind = 2 by omega)]; assumption, (hM28.drop 1).keep (by simp)⟩
