/- Filters of keys: the law. -/
import Derived.Test.YtjockanmmfmidaaG4
namespace Go.Proofs.Ytjockanmmfmidaa.E
open Go
def alikeF (a : Bool) (h : Int) (d : List UInt8) (b : Bool) (k : Int) (e : List UInt8) : Bool := (a == b) && (decide (h = k) && decide (d = e))
theorem alikeF_self (a : Bool) (h : Int) (d : List UInt8) : alikeF a h d a h d = true := by simp [alikeF]
theorem buildF_len {l : List (List UInt8)} {p : Int} : (buildF l p).2.2.1.length ≤ 4096 := by
  unfold buildF; split
  · simp
  · split
    · simp
    · split
      · simp
      · rw [fillK_length, List.length_replicate]; unfold byN; omega
theorem buildF_hs {l : List (List UInt8)} {p : Int} : inK .i64 (buildF l p).2.1 := by
  have := hsN_bd p
  unfold buildF; simp only [inK]; split
  · simp
  · split
    · simp
    · split
      · simp
      · simp only []; omega
theorem let_len {l : List (List UInt8)} (h : ∀ k ∈ l, k.length ≤ 140737488351232) : ∀ k ∈ l.map (· ++ [122]), k.length ≤ 9223372036854775000 := by
  intro k hk
  obtain ⟨m, hm, rfl⟩ := List.mem_map.1 hk
  have := h m hm
  simp; omega
theorem len_w {l : List (List UInt8)} (h : ∀ k ∈ l, k.length ≤ 140737488351232) : ∀ k ∈ l, k.length ≤ 9223372036854775000 := fun k hk => by have := h k hk; omega

/-- winnowlaw7.sameTexts -/
theorem sameTexts_ok (x y : Value) (a b : List (List UInt8)) (w : World) (hx : RdE strV w x a) (hy : RdE strV w y b) (hla : a.length ≤ 9223372036854775807) : Calls Try.prog 16 [x, y].toArray w (Rt fun r w' => r = .bool (decide (a = b)) ∧ Upd [] w w') := by
  have hM0 : Mem w [] w [] := Mem.nil w []
  refine calls_vc mixed Try.func16 rfl C16 (by simp [Try.ntmps16]) ?_
  refine seq fun K1 h1 => ?_
  refine stp (v := .bool false) (o_mv rfl) ?_
  refine h1 _ _ ?_
  clear h1
  refine seq fun K2 h2 => ?_
  refine seq fun K3 h3 => ?_
  refine stp (v := x) (o_mv rfl) ?_
  refine stp (v := .int .i64 (a.length : Nat)) (o_lenR (hx.upd hM0.upd) rfl rfl) ?_
  refine stp (v := y) (o_mv rfl) ?_
  refine stp (v := .int .i64 (b.length : Nat)) (o_lenR (hy.upd hM0.upd) rfl rfl) ?_
  refine stp (v := .bool (decide (¬ ((a.length : Nat) : Int) = (b.length : Nat)))) (o_bin rfl rfl v_neq) ?_
  refine h3 _ _ ?_
  clear h3
  refine cndP rfl (fun c4 => ?_) (fun c4 => ?_)
  ·
    refine seq fun K5 h5 => ?_
    refine stp (v := .bool false) (o_mv rfl) ?_
    refine h5 _ _ ?_
    clear h5
    refine ⟨(.bool false), rfl, ?_⟩
    exact ⟨by rw [decide_eq_false (fun e => c4 (by rw [e]))], hM0.upd⟩
  ·
    refine h2 _ _ ?_
    clear h2
    refine seq fun K6 h6 => ?_
    refine seq fun K7 h7 => ?_
    refine stp (v := .int .i64 0) (o_mv rfl) ?_
    refine h7 _ _ ?_
    clear h7
    refine lp (n := fun _ _ => False) (ι := (Nat)) (fun i f w' => f 0 = x ∧ f 1 = y ∧ f 5 = .int .i64 (i : Nat) ∧ Mem w [] w' [] ∧ (i ≤ a.length) ∧ (a.take i = b.take i)) (fun i => a.length - i) (0) ?_ ?_
    · exact ⟨rfl, rfl, by first | rfl | exact v_int (by omega) | exact v_int (by simp) | exact v_int (by simp; omega), hM0, by omega, by simp⟩
    · rintro i f w8 ⟨e8_0, e8_1, e8_5, hM8, hi, hp⟩ K9 h9
      obtain ⟨frm, rfl⟩ : ∃ frm, f = (upd (upd (upd frm 0 (x)) 1 (y)) 5 (.int .i64 (i : Nat))) := ⟨f, by rw [upd_self e8_0, upd_self e8_1, upd_self e8_5]⟩
      clear e8_0 e8_1 e8_5
      refine seq fun K10 h10 => ?_
      refine seq fun K11 h11 => ?_
      refine stp (v := .int .i64 (i : Nat)) (o_mv rfl) ?_
      refine stp (v := x) (o_mv rfl) ?_
      refine stp (v := .int .i64 (a.length : Nat)) (o_lenR (hx.upd hM8.upd) rfl rfl) ?_
      refine stp (v := .bool (decide (((i : Nat) : Int) < (a.length : Nat)))) (o_bin rfl rfl rfl) ?_
      refine h11 _ _ ?_
      clear h11
      refine cndP rfl (fun c12 => ?_) (fun c12 => ?_)
      ·
        refine h10 _ _ ?_
        clear h10
        refine seq fun K13 h13 => ?_
        refine seq fun K14 h14 => ?_
        intro wd e1 e2 e3 e4
        have hd := Upd.same e1 e2 e3 e4 []
        have hM15 := hM8.pure hd
        clear e1 e2 e3 e4
        refine ⟨none, ?_⟩
        show vd _ _ _ _ _ _ _
        refine dq (v := x) (o_mv rfl) ?_
        refine dq (v := .int .i64 (i : Nat)) (o_mv rfl) ?_
        refine dqp (m_idxE [] (j := i) (hx.upd hM15.upd) rfl rfl (by omega) fun b16 o16 hp16 => ?_)
        show vd _ _ _ _ _ _ _
        refine dq (v := y) (o_mv rfl) ?_
        refine dq (v := .int .i64 (i : Nat)) (o_mv rfl) ?_
        refine dqp (m_idxE [] (j := i) (hy.upd hM15.upd) rfl rfl (by omega) fun b17 o17 hp17 => ?_)
        show vd _ _ _ _ _ _ _
        refine dqld rfl (trivial) (v := .string (str (b.getD i []))) (hp17) ?_
        refine dl (ld (v := .string (str (a.getD i []))) rfl (hp16) ?_)
        refine ⟨rfl, ?_⟩
        refine dq (v := .bool (decide (¬ (a.getD i []) = (b.getD i [])))) (o_sne rfl rfl rfl) ?_
        refine h14 _ _ ?_
        clear h14
        refine cndP rfl (fun c18 => ?_) (fun c18 => ?_)
        ·
          refine seq fun K19 h19 => ?_
          refine stp (v := .bool false) (o_mv rfl) ?_
          refine h19 _ _ ?_
          clear h19
          refine ⟨(.bool false), rfl, ?_⟩
          exact ⟨by rw [decide_eq_false (ne_atG [] i (by assumption))], hM15.upd⟩
        ·
          refine h13 _ _ ?_
          clear h13
          refine stp (v := .int .i64 (i : Nat)) (o_mv rfl) ?_
          refine stp (v := .int .i64 ((i : Nat) + 1)) (o_bin rfl rfl (v_add64 (by constructor <;> omega))) ?_
          refine stp (v := .int .i64 ((i : Nat) + 1)) (o_mv rfl) ?_
          refine h9 (i + 1) _ _ ⟨rfl, rfl, by first | rfl | exact v_int (by omega) | exact v_int (by simp) | exact v_int (by simp; omega), hM15, by omega, take_eqG [] hp (by omega) (by omega) (Decidable.not_not.1 (by assumption))⟩ (by (try dsimp only); omega)
      ·
        refine h6 _ _ ?_
        clear h6
        refine seq fun K20 h20 => ?_
        refine stp (v := .bool true) (o_mv rfl) ?_
        refine h20 _ _ ?_
        clear h20
        refine ⟨(.bool true), rfl, ?_⟩
        exact ⟨by rw [decide_eq_true]; rw [← List.take_of_length_le (l := a) (i := i) (by omega), ← List.take_of_length_le (l := b) (i := i) (by omega), hp], hM8.upd⟩

/-- winnowlaw7.alike -/
theorem alike_ok (a b : Bool) (h k : Int) (x y : Value) (d e : List UInt8) (w : World) (hx : RdE byteV w x d) (hy : RdE byteV w y e) (hl : d.length ≤ 9223372036854775807) : Calls Try.prog 15 [.agg #[.bool a, .int .i64 h, x], .agg #[.bool b, .int .i64 k, y]].toArray w (Rt fun r w' => r = .bool (alikeF a h d b k e) ∧ Upd [] w w') := by
  have hM0 : Mem w [] w [] := Mem.nil w []
  refine calls_vc mixed Try.func15 rfl C15 (by simp [Try.ntmps15]) ?_
  refine seq fun K1 h1 => ?_
  refine m_bx (v := .agg ([.bool a, .int .i64 h, x] : List Value).toArray) hM0 rfl rfl fun b2 w3 (hM3 : Mem w [] w3 [[⟨b2, 30, [.bool a, .int .i64 h, x]⟩]]) => ?_
  refine m_bx (v := .agg ([.bool b, .int .i64 k, y] : List Value).toArray) hM3 rfl rfl fun b4 w5 (hM5 : Mem w [] w5 [[⟨b2, 30, [.bool a, .int .i64 h, x]⟩], [⟨b4, 30, [.bool b, .int .i64 k, y]⟩]]) => ?_
  refine stp (v := .bool false) (o_mv rfl) ?_
  refine h1 _ _ ?_
  clear h1
  refine seq fun K6 h6 => ?_
  refine stp (v := .pointer (some ⟨b2, 0, none⟩)) (o_fa rfl rfl) ?_
  refine m_ld (v := .bool a) hM5 (i := 0) (j := 0) rfl rfl rfl rfl ?_
  refine stp (v := .pointer (some ⟨b4, 0, none⟩)) (o_fa rfl rfl) ?_
  refine m_ld (v := .bool b) hM5 (i := 1) (j := 0) rfl rfl rfl rfl ?_
  refine stp (v := .bool (decide ((a) = (b : Bool)))) (o_beq rfl rfl (rfl)) ?_
  refine stp (v := .bool (decide ((a) = (b : Bool)))) (o_mv rfl) ?_
  refine splitP rfl (fun c7 => ?_) (fun c7 => ?_)
  ·
    refine stg rfl (v := .pointer (some ⟨b2, 1, none⟩)) (o_fa rfl rfl) ?_
    refine gyesl rfl ?_
    refine m_ld (v := .int .i64 h) hM5 (i := 0) (j := 0) rfl rfl rfl rfl ?_
    refine stg rfl (v := .pointer (some ⟨b4, 1, none⟩)) (o_fa rfl rfl) ?_
    refine gyesl rfl ?_
    refine m_ld (v := .int .i64 k) hM5 (i := 1) (j := 0) rfl rfl rfl rfl ?_
    refine stg rfl (v := .bool (decide (h = k))) (o_bin rfl rfl rfl) ?_
    refine stp (v := .bool (decide (h = k))) (o_pickT rfl rfl) ?_
    refine stp (v := .bool (decide (h = k))) (o_mv rfl) ?_
    refine splitP rfl (fun c8 => ?_) (fun c8 => ?_)
    ·
      refine stg rfl (v := .pointer (some ⟨b2, 2, none⟩)) (o_fa rfl rfl) ?_
      refine gyesl rfl ?_
      refine m_ld (v := x) hM5 (i := 0) (j := 0) rfl rfl rfl rfl ?_
      refine stg rfl (v := .pointer (some ⟨b4, 2, none⟩)) (o_fa rfl rfl) ?_
      refine gyesl rfl ?_
      refine m_ld (v := y) hM5 (i := 1) (j := 0) rfl rfl rfl rfl ?_
      refine gyesl rfl ?_
      refine m_call (same_ok _ _ d e w5 (hx.upd hM5.upd) (hy.upd hM5.upd) (by first | omega | (simp; done) | (simp; omega))) rfl fun v9 w9 ⟨hr9, hu9⟩ => ?_
      have hM9 : Mem w [] w9 [[⟨b2, 30, [.bool a, .int .i64 h, x]⟩], [⟨b4, 30, [.bool b, .int .i64 k, y]⟩]] := hM5.pure hu9
      subst hr9
      refine stp (v := .bool (decide (d = e))) (o_pickT rfl rfl) ?_
      refine stp (v := .bool (decide (d = e))) (o_mv rfl) ?_
      refine h6 _ _ ?_
      clear h6
      refine ⟨(.bool (decide (d = e))), rfl, ?_⟩
      exact ⟨by unfold alikeF; simp_all, hM9.upd⟩
    ·
      refine gno rfl (by simp) ?_
      refine gnol rfl (by simp) ?_
      refine gno rfl (by simp) ?_
      refine gnol rfl (by simp) ?_
      refine gnol rfl (by simp) ?_
      refine stp (v := .bool false) (o_pickF rfl rfl) ?_
      refine stp (v := .bool false) (o_mv rfl) ?_
      refine h6 _ _ ?_
      clear h6
      refine ⟨(.bool false), rfl, ?_⟩
      exact ⟨by unfold alikeF; simp_all, hM5.upd⟩
  ·
    refine gno rfl (by simp) ?_
    refine gnol rfl (by simp) ?_
    refine gno rfl (by simp) ?_
    refine gnol rfl (by simp) ?_
    refine gno rfl (by simp) ?_
    refine stp (v := .bool false) (o_pickF rfl rfl) ?_
    refine stp (v := .bool false) (o_mv rfl) ?_
    refine splitF rfl ?_
    refine gno rfl (by simp) ?_
    refine gnol rfl (by simp) ?_
    refine gno rfl (by simp) ?_
    refine gnol rfl (by simp) ?_
    refine gnol rfl (by simp) ?_
    refine stp (v := .bool false) (o_pickF rfl rfl) ?_
    refine stp (v := .bool false) (o_mv rfl) ?_
    refine h6 _ _ ?_
    clear h6
    refine ⟨(.bool false), rfl, ?_⟩
    exact ⟨by unfold alikeF; simp_all, hM5.upd⟩

/-- winnowlaw7.FilterBuilds -/
theorem FilterBuilds_ok (x : Value) (l : List (List UInt8)) (p : Int) (y : Value) (lo : List (List UInt8)) (hp : inK .i64 p) (w : World) (hx : RdE strV w x l) (hk0 : ∀ k ∈ l, k.length ≤ 140737488351232) (hl : l.length * 16 ≤ 140737488351232) (hy : RdE strV w y lo) (hko : ∀ k ∈ lo, k.length ≤ 140737488351232) (hlo : lo.length * 16 ≤ 140737488351232) : Calls Try.prog 4 [x, .int .i64 p, y].toArray w (Rt fun r w' => r = .bool true ∧ Upd [] w w') := by
  have hM0 : Mem w [] w [] := Mem.nil w []
  have hk1 := len_w hk0
  have hk2 := let_len hk0
  have hb1 := buildF_len (l := l) (p := p)
  have hb2 := buildF_hs (l := l) (p := p)
  have hb3 := buildF_len (l := l.map (· ++ [122])) (p := p)
  refine calls_vc mixed Try.func4 rfl C4 (by simp [Try.ntmps4]) ?_
  refine seq fun K1 h1 => ?_
  refine stp (v := .bool false) (o_mv rfl) ?_
  refine h1 _ _ ?_
  clear h1
  refine seq fun K2 h2 => ?_
  refine stp (v := x) (o_mv rfl) ?_
  refine m_call (texts_ok _ l w (hx.upd hM0.upd) (by first | omega | (simp; done) | (simp; omega))) rfl fun v3 w3 ⟨rs3, hs3, hm3⟩ => ?_
  have hM3 : Mem w [] w3 [rs3] := hM0.add hm3
  refine stp (v := v3) (o_mv rfl) ?_
  refine h2 _ _ ?_
  clear h2
  refine seq fun K4 h4 => ?_
  refine stp (v := v3) (o_mv rfl) ?_
  refine stp (v := x) (o_mv rfl) ?_
  refine stp (v := .int .i64 (l.length : Nat)) (o_lenR (hx.upd hM3.upd) rfl rfl) ?_
  refine m_slcO l.length (hs3) rfl (by first | omega | (simp; done) | (simp; omega)) (⟨_, rfl⟩) trivial fun u5 hu5 => ?_
  have hu5' := SlE.eqL (m := l) hu5 (by simp)
  refine stp (v := .int .i64 p) (o_mv rfl) ?_
  refine m_call (Build_ok _ l p w3 (hu5'.rd hM3 (i := 0) rfl) (by first | exact hk1 | exact hk2) (by first | omega | (simp; omega)) hp) rfl fun v6 w6 ⟨vd6, rs6, hr6, hs6, hm6⟩ => ?_
  have hM6 : Mem w [] w6 [rs3, rs6] := hM3.add hm6
  obtain ⟨av6, lv6, cv6, rfl⟩ := hs6.isSlice
  subst hr6
  refine stp (v := .tuple [.agg ([.bool ((buildF l p).1), .int .i64 ((buildF l p).2.1), (.slice av6 lv6 cv6)] : List Value).toArray, .int .i64 ((buildF l p).2.2.2)].toArray) (o_mv rfl) ?_
  refine stp (v := .agg ([.bool ((buildF l p).1), .int .i64 ((buildF l p).2.1), (.slice av6 lv6 cv6)] : List Value).toArray) (o_ext rfl rfl) ?_
  refine stp (v := .int .i64 ((buildF l p).2.2.2)) (o_ext rfl rfl) ?_
  refine m_al hM6 fun b7 w8 (hM8 : Mem w [] w8 [rs3, rs6, [⟨b7, 30, [.bool false, .int .i64 0, .slice none 0 0]⟩]]) => ?_
  refine m_stA (l := [.bool ((buildF l p).1), .int .i64 ((buildF l p).2.1), (.slice av6 lv6 cv6)]) hM8 (i := 2) rfl rfl rfl rfl (by simp [oneCells, Value.oneCell', byteV]) (by simp) fun w9 (hM9 : Mem w [] w9 [rs3, rs6, [⟨b7, 30, [.bool ((buildF l p).1), .int .i64 ((buildF l p).2.1), (.slice av6 lv6 cv6)]⟩]]) => ?_
  refine stp (v := .int .i64 ((buildF l p).2.2.2)) (o_mv rfl) ?_
  refine h4 _ _ ?_
  clear h4
  refine seq fun K10 h10 => ?_
  refine stp (v := v3) (o_mv rfl) ?_
  refine stp (v := x) (o_mv rfl) ?_
  refine stp (v := .int .i64 (l.length : Nat)) (o_lenR (hx.upd hM9.upd) rfl rfl) ?_
  refine m_slcO l.length (hs3) rfl (by first | omega | (simp; done) | (simp; omega)) (⟨_, rfl⟩) trivial fun u11 hu11 => ?_
  have hu11' := SlE.eqL (m := l) hu11 (by simp)
  refine stp (v := .int .i64 p) (o_mv rfl) ?_
  refine m_call (Build_ok _ l p w9 (hu11'.rd hM9 (i := 0) rfl) (by first | exact hk1 | exact hk2) (by first | omega | (simp; omega)) hp) rfl fun v12 w12 ⟨vd12, rs12, hr12, hs12, hm12⟩ => ?_
  have hM12 : Mem w [] w12 [rs3, rs6, [⟨b7, 30, [.bool ((buildF l p).1), .int .i64 ((buildF l p).2.1), (.slice av6 lv6 cv6)]⟩], rs12] := hM9.add hm12
  obtain ⟨av12, lv12, cv12, rfl⟩ := hs12.isSlice
  subst hr12
  refine stp (v := .tuple [.agg ([.bool ((buildF l p).1), .int .i64 ((buildF l p).2.1), (.slice av12 lv12 cv12)] : List Value).toArray, .int .i64 ((buildF l p).2.2.2)].toArray) (o_mv rfl) ?_
  refine stp (v := .agg ([.bool ((buildF l p).1), .int .i64 ((buildF l p).2.1), (.slice av12 lv12 cv12)] : List Value).toArray) (o_ext rfl rfl) ?_
  refine stp (v := .int .i64 ((buildF l p).2.2.2)) (o_ext rfl rfl) ?_
  refine m_al hM12 fun b13 w14 (hM14 : Mem w [] w14 [rs3, rs6, [⟨b7, 30, [.bool ((buildF l p).1), .int .i64 ((buildF l p).2.1), (.slice av6 lv6 cv6)]⟩], rs12, [⟨b13, 30, [.bool false, .int .i64 0, .slice none 0 0]⟩]]) => ?_
  refine m_stA (l := [.bool ((buildF l p).1), .int .i64 ((buildF l p).2.1), (.slice av12 lv12 cv12)]) hM14 (i := 4) rfl rfl rfl rfl (by simp [oneCells, Value.oneCell', byteV]) (by simp) fun w15 (hM15 : Mem w [] w15 [rs3, rs6, [⟨b7, 30, [.bool ((buildF l p).1), .int .i64 ((buildF l p).2.1), (.slice av6 lv6 cv6)]⟩], rs12, [⟨b13, 30, [.bool ((buildF l p).1), .int .i64 ((buildF l p).2.1), (.slice av12 lv12 cv12)]⟩]]) => ?_
  refine stp (v := .int .i64 ((buildF l p).2.2.2)) (o_mv rfl) ?_
  refine h10 _ _ ?_
  clear h10
  refine seq fun K16 h16 => ?_
  refine stp (v := .pointer (some ⟨b7, 2, none⟩)) (o_fa rfl rfl) ?_
  refine m_ld (v := (.slice av6 lv6 cv6)) hM15 (i := 2) (j := 0) rfl rfl rfl rfl ?_
  refine m_call (fill_ok _ ((buildF l p).2.2.1) 7 rs6 w15 hs6 (hM15.res (i := 1) rfl) (by first | omega | (simp; done) | (simp; omega))) rfl fun v17 w17 ⟨hr17, hm17⟩ => ?_
  have hM17 : Mem w [] w17 [rs3, [], [⟨b7, 30, [.bool ((buildF l p).1), .int .i64 ((buildF l p).2.1), (.slice av6 lv6 cv6)]⟩], rs12, [⟨b13, 30, [.bool ((buildF l p).1), .int .i64 ((buildF l p).2.1), (.slice av12 lv12 cv12)]⟩]] := hM15.step 1 (r' := []) rfl (hm17.keep (by simp))
  subst hr17
  refine stp (v := .int .i64 (((buildF l p).2.2.1).length + 64 : Nat)) (o_mv rfl) ?_
  refine h16 _ _ ?_
  clear h16
  refine seq fun K18 h18 => ?_
  refine stp (v := x) (o_mv rfl) ?_
  refine stp (v := .int .i64 p) (o_mv rfl) ?_
  refine m_call (refBuild_ok _ l p w17 (hx.upd hM17.upd) (by first | exact hk1 | exact hk2) (by first | omega | (simp; omega)) hp) rfl fun v19 w19 ⟨vd19, rs19, hr19, hs19, hm19⟩ => ?_
  have hM19 : Mem w [] w19 [rs3, [], [⟨b7, 30, [.bool ((buildF l p).1), .int .i64 ((buildF l p).2.1), (.slice av6 lv6 cv6)]⟩], rs12, [⟨b13, 30, [.bool ((buildF l p).1), .int .i64 ((buildF l p).2.1), (.slice av12 lv12 cv12)]⟩], rs19] := hM17.add hm19
  obtain ⟨av19, lv19, cv19, rfl⟩ := hs19.isSlice
  subst hr19
  refine stp (v := .tuple [.agg ([.bool ((buildF l p).1), .int .i64 ((buildF l p).2.1), (.slice av19 lv19 cv19)] : List Value).toArray, .int .i64 ((buildF l p).2.2.2)].toArray) (o_mv rfl) ?_
  refine stp (v := .agg ([.bool ((buildF l p).1), .int .i64 ((buildF l p).2.1), (.slice av19 lv19 cv19)] : List Value).toArray) (o_ext rfl rfl) ?_
  refine stp (v := .int .i64 ((buildF l p).2.2.2)) (o_ext rfl rfl) ?_
  refine m_al hM19 fun b20 w21 (hM21 : Mem w [] w21 [rs3, [], [⟨b7, 30, [.bool ((buildF l p).1), .int .i64 ((buildF l p).2.1), (.slice av6 lv6 cv6)]⟩], rs12, [⟨b13, 30, [.bool ((buildF l p).1), .int .i64 ((buildF l p).2.1), (.slice av12 lv12 cv12)]⟩], rs19, [⟨b20, 30, [.bool false, .int .i64 0, .slice none 0 0]⟩]]) => ?_
  refine m_stA (l := [.bool ((buildF l p).1), .int .i64 ((buildF l p).2.1), (.slice av19 lv19 cv19)]) hM21 (i := 6) rfl rfl rfl rfl (by simp [oneCells, Value.oneCell', byteV]) (by simp) fun w22 (hM22 : Mem w [] w22 [rs3, [], [⟨b7, 30, [.bool ((buildF l p).1), .int .i64 ((buildF l p).2.1), (.slice av6 lv6 cv6)]⟩], rs12, [⟨b13, 30, [.bool ((buildF l p).1), .int .i64 ((buildF l p).2.1), (.slice av12 lv12 cv12)]⟩], rs19, [⟨b20, 30, [.bool ((buildF l p).1), .int .i64 ((buildF l p).2.1), (.slice av19 lv19 cv19)]⟩]]) => ?_
  refine stp (v := .int .i64 ((buildF l p).2.2.2)) (o_mv rfl) ?_
  refine h18 _ _ ?_
  clear h18
  refine seq fun K23 h23 => ?_
  refine seq fun K24 h24 => ?_
  refine stp (v := .int .i64 0) (o_mv rfl) ?_
  refine h24 _ _ ?_
  clear h24
  refine lp (n := fun _ _ => False) (ι := (Nat)) (fun i f w' => f 15 = .int .i64 (i : Nat) ∧ f 0 = x ∧ f 1 = .int .i64 p ∧ f 2 = y ∧ f 7 = v3 ∧ f 9 = .int .i64 ((buildF l p).2.2.2) ∧ f 10 = .pointer (some ⟨b13, 0, none⟩) ∧ f 11 = .int .i64 ((buildF l p).2.2.2) ∧ f 12 = .int .i64 (((buildF l p).2.2.1).length + 64 : Nat) ∧ f 13 = .pointer (some ⟨b20, 0, none⟩) ∧ f 14 = .int .i64 ((buildF l p).2.2.2) ∧ Mem w [] w' [rs3, [], [⟨b7, 30, [.bool ((buildF l p).1), .int .i64 ((buildF l p).2.1), (.slice av6 lv6 cv6)]⟩], rs12, [⟨b13, 30, [.bool ((buildF l p).1), .int .i64 ((buildF l p).2.1), (.slice av12 lv12 cv12)]⟩], rs19, [⟨b20, 30, [.bool ((buildF l p).1), .int .i64 ((buildF l p).2.1), (.slice av19 lv19 cv19)]⟩]] ∧ (i ≤ lo.length)) (fun i => lo.length - i) (0) ?_ ?_
  · exact ⟨by first | rfl | exact v_int (by omega) | exact v_int (by simp) | exact v_int (by simp; omega), rfl, by first | rfl | exact v_int (by omega) | exact v_int (by simp) | exact v_int (by simp; omega), rfl, rfl, by first | rfl | exact v_int (by omega) | exact v_int (by simp) | exact v_int (by simp; omega), rfl, by first | rfl | exact v_int (by omega) | exact v_int (by simp) | exact v_int (by simp; omega), by first | rfl | exact v_int (by omega) | exact v_int (by simp) | exact v_int (by simp; omega), rfl, by first | rfl | exact v_int (by omega) | exact v_int (by simp) | exact v_int (by simp; omega), hM22, by omega⟩
  · rintro i f w25 ⟨e25_15, e25_0, e25_1, e25_2, e25_7, e25_9, e25_10, e25_11, e25_12, e25_13, e25_14, hM25, hi⟩ K26 h26
    obtain ⟨frm, rfl⟩ : ∃ frm, f = (upd (upd (upd (upd (upd (upd (upd (upd (upd (upd (upd frm 15 (.int .i64 (i : Nat))) 0 (x)) 1 (.int .i64 p)) 2 (y)) 7 (v3)) 9 (.int .i64 ((buildF l p).2.2.2))) 10 (.pointer (some ⟨b13, 0, none⟩))) 11 (.int .i64 ((buildF l p).2.2.2))) 12 (.int .i64 (((buildF l p).2.2.1).length + 64 : Nat))) 13 (.pointer (some ⟨b20, 0, none⟩))) 14 (.int .i64 ((buildF l p).2.2.2))) := ⟨f, by rw [upd_self e25_15, upd_self e25_0, upd_self e25_1, upd_self e25_2, upd_self e25_7, upd_self e25_9, upd_self e25_10, upd_self e25_11, upd_self e25_12, upd_self e25_13, upd_self e25_14]⟩
    clear e25_15 e25_0 e25_1 e25_2 e25_7 e25_9 e25_10 e25_11 e25_12 e25_13 e25_14
    refine seq fun K27 h27 => ?_
    refine seq fun K28 h28 => ?_
    refine stp (v := .int .i64 (i : Nat)) (o_mv rfl) ?_
    refine stp (v := y) (o_mv rfl) ?_
    refine stp (v := .int .i64 (lo.length : Nat)) (o_lenR (hy.upd hM25.upd) rfl rfl) ?_
    refine stp (v := .bool (decide (((i : Nat) : Int) < (lo.length : Nat)))) (o_bin rfl rfl rfl) ?_
    refine h28 _ _ ?_
    clear h28
    refine cndP rfl (fun c29 => ?_) (fun c29 => ?_)
    ·
      refine h27 _ _ ?_
      clear h27
      refine seq fun K30 h30 => ?_
      refine seq fun K31 h31 => ?_
      intro wd e1 e2 e3 e4
      have hd := Upd.same e1 e2 e3 e4 []
      have hM32 := hM25.pure hd
      clear e1 e2 e3 e4
      refine ⟨(some [b20, b13, (blkV y)]), ?_⟩
      show vd _ _ _ _ _ _ _
      refine dq (v := y) (o_mv rfl) ?_
      refine dq (v := .int .i64 (i : Nat)) (o_mv rfl) ?_
      refine dqp (m_idxE2 [] (j := i) (hy.upd hM32.upd) rfl rfl (by omega) fun b33 o33 hp33 hbb33 => ?_)
      show vd _ _ _ _ _ _ _
      subst hbb33
      refine dq (v := y) (o_mv rfl) ?_
      refine dq (v := .int .i64 (i : Nat)) (o_mv rfl) ?_
      refine dqp (m_idxE2 [] (j := i) (hy.upd hM32.upd) rfl rfl (by omega) fun b34 o34 hp34 hbb34 => ?_)
      show vd _ _ _ _ _ _ _
      subst hbb34
      refine dqldA (cs := [.bool ((buildF l p).1), .int .i64 ((buildF l p).2.1), (.slice av19 lv19 cv19)]) rfl (by simp [isHeld]) rfl ((hM32.at (i := 6) (j := 0) rfl rfl).agg rfl rfl) ?_
      refine dqldA (cs := [.bool ((buildF l p).1), .int .i64 ((buildF l p).2.1), (.slice av12 lv12 cv12)]) rfl (by simp [isHeld]) rfl ((hM32.at (i := 4) (j := 0) rfl rfl).agg rfl rfl) ?_
      refine dqld rfl (by simp [isHeld]) (v := .string (str (lo.getD i []))) (hp34) ?_
      refine dl (ld (v := .string (str (lo.getD i []))) rfl (hp33) ?_)
      refine ⟨(fun b hb => rfl), ?_⟩
      refine dl (m_call (Has_ok (buildF l p).1 ((buildF l p).2.1) _ ((buildF l p).2.2.1) (lo.getD i []) wd (hs12.rd hM32 (i := 3) rfl) (by first | omega | (simp; done) | (simp; omega)) (by have := hko _ (getD_memG [] (i := i) (l := lo) (by omega)); omega) (by first | assumption | omega)) rfl fun v35 w35 ⟨hr35, hu35⟩ => ?_)
      have hM35 : Mem w [] w35 [rs3, [], [⟨b7, 30, [.bool ((buildF l p).1), .int .i64 ((buildF l p).2.1), (.slice av6 lv6 cv6)]⟩], rs12, [⟨b13, 30, [.bool ((buildF l p).1), .int .i64 ((buildF l p).2.1), (.slice av12 lv12 cv12)]⟩], rs19, [⟨b20, 30, [.bool ((buildF l p).1), .int .i64 ((buildF l p).2.1), (.slice av19 lv19 cv19)]⟩]] := hM32.pure hu35
      subst hr35
      have hh35 := held_upd (wr := wd) (bs := [b20, b13, (blkV y)]) hu35 (fun b hb => by
        simp only [List.mem_cons, List.not_mem_nil, or_false] at hb
        rcases hb with h | h | h
        · rw [h]; exact ⟨(hM32.at (i := 6) (j := 0) rfl rfl).lt, by simp⟩
        · rw [h]; exact ⟨(hM32.at (i := 4) (j := 0) rfl rfl).lt, by simp⟩
        · rw [h]; exact ⟨Rd.blkV_lt (hy.upd hM32.upd) (by omega), by simp⟩) (fun b hb => rfl)
      refine ⟨hh35, ?_⟩
      refine dl (m_call (refHas_ok (buildF l p).1 ((buildF l p).2.1) _ ((buildF l p).2.2.1) (lo.getD i []) w35 (hs19.rd hM35 (i := 5) rfl) (by first | omega | (simp; done) | (simp; omega)) (by have := hko _ (getD_memG [] (i := i) (l := lo) (by omega)); omega) (by first | assumption | omega)) rfl fun v36 w36 ⟨hr36, hu36⟩ => ?_)
      have hM36 : Mem w [] w36 [rs3, [], [⟨b7, 30, [.bool ((buildF l p).1), .int .i64 ((buildF l p).2.1), (.slice av6 lv6 cv6)]⟩], rs12, [⟨b13, 30, [.bool ((buildF l p).1), .int .i64 ((buildF l p).2.1), (.slice av12 lv12 cv12)]⟩], rs19, [⟨b20, 30, [.bool ((buildF l p).1), .int .i64 ((buildF l p).2.1), (.slice av19 lv19 cv19)]⟩]] := hM35.pure hu36
      subst hr36
      have hh36 := held_upd (wr := wd) (bs := [b20, b13, (blkV y)]) hu36 (fun b hb => by
        simp only [List.mem_cons, List.not_mem_nil, or_false] at hb
        rcases hb with h | h | h
        · rw [h]; exact ⟨(hM35.at (i := 6) (j := 0) rfl rfl).lt, by simp⟩
        · rw [h]; exact ⟨(hM35.at (i := 4) (j := 0) rfl rfl).lt, by simp⟩
        · rw [h]; exact ⟨Rd.blkV_lt (hy.upd hM35.upd) (by omega), by simp⟩) hh35
      refine ⟨hh36, ?_⟩
      refine dq (v := .bool false) (o_beq rfl rfl (by simp)) ?_
      refine h31 _ _ ?_
      clear h31
      refine cndF rfl ?_
      refine h30 _ _ ?_
      clear h30
      refine stp (v := .int .i64 (i : Nat)) (o_mv rfl) ?_
      refine stp (v := .int .i64 ((i : Nat) + 1)) (o_bin rfl rfl (v_add64 (by constructor <;> omega))) ?_
      refine stp (v := .int .i64 ((i : Nat) + 1)) (o_mv rfl) ?_
      refine h26 (i + 1) _ _ ⟨by first | rfl | exact v_int (by omega) | exact v_int (by simp) | exact v_int (by simp; omega), rfl, by first | rfl | exact v_int (by omega) | exact v_int (by simp) | exact v_int (by simp; omega), rfl, rfl, by first | rfl | exact v_int (by omega) | exact v_int (by simp) | exact v_int (by simp; omega), rfl, by first | rfl | exact v_int (by omega) | exact v_int (by simp) | exact v_int (by simp; omega), by first | rfl | exact v_int (by omega) | exact v_int (by simp) | exact v_int (by simp; omega), rfl, by first | rfl | exact v_int (by omega) | exact v_int (by simp) | exact v_int (by simp; omega), hM36, by omega⟩ (by (try dsimp only); omega)
    ·
      refine h23 _ _ ?_
      clear h23
      refine seq fun K37 h37 => ?_
      refine seq fun K38 h38 => ?_
      refine stp (v := .int .i64 ((buildF l p).2.2.2)) (o_mv rfl) ?_
      refine stp (v := .int .i64 ((buildF l p).2.2.2)) (o_mv rfl) ?_
      refine stp (v := .bool false) (o_bin rfl rfl v_neF) ?_
      refine stp (v := .bool false) (o_mv rfl) ?_
      refine splitF rfl ?_
      refine stg rfl (v := .int .i64 ((buildF l p).2.2.2)) (o_mv rfl) ?_
      refine stg rfl (v := .int .i64 ((buildF l p).2.2.2)) (o_mv rfl) ?_
      refine stg rfl (v := .bool false) (o_bin rfl rfl v_neF) ?_
      refine stp (v := .bool false) (o_pickF rfl rfl) ?_
      refine stp (v := .bool false) (o_mv rfl) ?_
      refine splitF rfl ?_
      refine gyesl rfl ?_
      refine m_ldA (l := [.bool ((buildF l p).1), .int .i64 ((buildF l p).2.1), (.slice av12 lv12 cv12)]) hM25 (i := 4) (j := 0) rfl rfl rfl rfl rfl ?_
      refine gyesl rfl ?_
      refine m_ldA (l := [.bool ((buildF l p).1), .int .i64 ((buildF l p).2.1), (.slice av19 lv19 cv19)]) hM25 (i := 6) (j := 0) rfl rfl rfl rfl rfl ?_
      refine gyesl rfl ?_
      refine m_call (alike_ok ((buildF l p).1) ((buildF l p).1) ((buildF l p).2.1) ((buildF l p).2.1) _ _ ((buildF l p).2.2.1) ((buildF l p).2.2.1) w25 (hs12.rd hM25 (i := 3) rfl) (hs19.rd hM25 (i := 5) rfl) (by first | omega | (simp; done) | (simp; omega))) rfl fun v39 w39 ⟨hr39, hu39⟩ => ?_
      have hM39 : Mem w [] w39 [rs3, [], [⟨b7, 30, [.bool ((buildF l p).1), .int .i64 ((buildF l p).2.1), (.slice av6 lv6 cv6)]⟩], rs12, [⟨b13, 30, [.bool ((buildF l p).1), .int .i64 ((buildF l p).2.1), (.slice av12 lv12 cv12)]⟩], rs19, [⟨b20, 30, [.bool ((buildF l p).1), .int .i64 ((buildF l p).2.1), (.slice av19 lv19 cv19)]⟩]] := hM25.pure hu39
      obtain rfl : v39 = .bool true := hr39.trans (by rw [alikeF_self])
      refine stg rfl (v := .bool false) (o_not rfl rfl) ?_
      refine stp (v := .bool false) (o_pickF rfl rfl) ?_
      refine stp (v := .bool false) (o_mv rfl) ?_
      refine splitF rfl ?_
      refine stg rfl (v := .int .i64 (((buildF l p).2.2.1).length + 64 : Nat)) (o_mv rfl) ?_
      refine stg rfl (v := .pointer (some ⟨b20, 2, none⟩)) (o_fa rfl rfl) ?_
      refine gyesl rfl ?_
      refine m_ld (v := (.slice av19 lv19 cv19)) hM39 (i := 6) (j := 0) rfl rfl rfl rfl ?_
      refine stg rfl (v := .int .i64 (((buildF l p).2.2.1).length : Nat)) (o_lenR (hs19.rd hM39 (i := 5) rfl) rfl rfl) ?_
      refine stg rfl (v := .int .i64 ((((buildF l p).2.2.1).length : Nat) + 64)) (o_bin rfl rfl (v_add64 (by constructor <;> omega))) ?_
      refine stg rfl (v := .bool (decide (¬ ((((buildF l p).2.2.1).length + 64 : Nat) : Int) = ((((buildF l p).2.2.1).length : Nat) + 64)))) (o_bin rfl rfl v_neq) ?_
      refine stp (v := .bool (decide (¬ ((((buildF l p).2.2.1).length + 64 : Nat) : Int) = ((((buildF l p).2.2.1).length : Nat) + 64)))) (o_pickF rfl rfl) ?_
      refine stp (v := .bool (decide (¬ ((((buildF l p).2.2.1).length + 64 : Nat) : Int) = ((((buildF l p).2.2.1).length : Nat) + 64)))) (o_mv rfl) ?_
      refine splitP rfl (fun c40 => absurd c40 (by omega)) (fun c40 => ?_)
      refine stg rfl (v := v3) (o_mv rfl) ?_
      refine stg rfl (v := x) (o_mv rfl) ?_
      refine gyesl rfl ?_
      refine m_call (texts_ok _ l w39 (hx.upd hM39.upd) (by first | omega | (simp; done) | (simp; omega))) rfl fun v41 w41 ⟨rs41, hs41, hm41⟩ => ?_
      have hM41 : Mem w [] w41 [rs3, [], [⟨b7, 30, [.bool ((buildF l p).1), .int .i64 ((buildF l p).2.1), (.slice av6 lv6 cv6)]⟩], rs12, [⟨b13, 30, [.bool ((buildF l p).1), .int .i64 ((buildF l p).2.1), (.slice av12 lv12 cv12)]⟩], rs19, [⟨b20, 30, [.bool ((buildF l p).1), .int .i64 ((buildF l p).2.1), (.slice av19 lv19 cv19)]⟩], rs41] := hM39.add hm41
      refine gyesl rfl ?_
      refine m_call (sameTexts_ok _ _ (l ++ List.replicate 64 ([109, 97, 114, 107] : (List UInt8))) (l ++ List.replicate 64 ([109, 97, 114, 107] : (List UInt8))) w41 (hs3.rd hM41 (i := 0) rfl) (hs41.rd hM41 (i := 7) rfl) (by first | omega | (simp; done) | (simp; omega))) rfl fun v42 w42 ⟨hr42, hu42⟩ => ?_
      have hM42 : Mem w [] w42 [rs3, [], [⟨b7, 30, [.bool ((buildF l p).1), .int .i64 ((buildF l p).2.1), (.slice av6 lv6 cv6)]⟩], rs12, [⟨b13, 30, [.bool ((buildF l p).1), .int .i64 ((buildF l p).2.1), (.slice av12 lv12 cv12)]⟩], rs19, [⟨b20, 30, [.bool ((buildF l p).1), .int .i64 ((buildF l p).2.1), (.slice av19 lv19 cv19)]⟩], rs41] := hM41.pure hu42
      obtain rfl : v42 = .bool true := hr42.trans (by simp)
      clear hr42
      refine stg rfl (v := .bool false) (o_not rfl rfl) ?_
      refine stp (v := .bool false) (o_pickF rfl rfl) ?_
      refine h38 _ _ ?_
      clear h38
      refine cndF rfl ?_
      refine h37 _ _ ?_
      clear h37
      refine seq fun K43 h43 => ?_
      refine stp (v := v3) (o_mv rfl) ?_
      refine stp (v := x) (o_mv rfl) ?_
      refine stp (v := .int .i64 (l.length : Nat)) (o_lenR (hx.upd hM42.upd) rfl rfl) ?_
      refine m_slcO l.length (hs3) rfl (by first | omega | (simp; done) | (simp; omega)) (⟨_, rfl⟩) trivial fun u44 hu44 => ?_
      have hu44' := SlE.eqL (m := l) hu44 (by simp)
      refine m_call (lettered_ok _ l rs3 w42 hu44' (hM42.res (i := 0) rfl) (by first | omega | (simp; done) | (simp; omega)) hk1) rfl fun v45 w45 ⟨hr45, hm45⟩ => ?_
      have hM45 : Mem w [] w45 [upR strV (l.map (· ++ [122])) rs3, [], [⟨b7, 30, [.bool ((buildF l p).1), .int .i64 ((buildF l p).2.1), (.slice av6 lv6 cv6)]⟩], rs12, [⟨b13, 30, [.bool ((buildF l p).1), .int .i64 ((buildF l p).2.1), (.slice av12 lv12 cv12)]⟩], rs19, [⟨b20, 30, [.bool ((buildF l p).1), .int .i64 ((buildF l p).2.1), (.slice av19 lv19 cv19)]⟩], rs41] := hM42.step 0 rfl hm45
      subst hr45
      refine stp (v := .int .i64 p) (o_mv rfl) ?_
      refine m_call (Build_ok _ (l.map (· ++ [122])) p w45 ((SlE.up (m := (l.map (· ++ [122]))) hu44' (by simp)).rd hM45 (i := 0) rfl) (by first | exact hk1 | exact hk2) (by first | omega | (simp; omega)) hp) rfl fun v46 w46 ⟨vd46, rs46, hr46, hs46, hm46⟩ => ?_
      have hM46 : Mem w [] w46 [upR strV (l.map (· ++ [122])) rs3, [], [⟨b7, 30, [.bool ((buildF l p).1), .int .i64 ((buildF l p).2.1), (.slice av6 lv6 cv6)]⟩], rs12, [⟨b13, 30, [.bool ((buildF l p).1), .int .i64 ((buildF l p).2.1), (.slice av12 lv12 cv12)]⟩], rs19, [⟨b20, 30, [.bool ((buildF l p).1), .int .i64 ((buildF l p).2.1), (.slice av19 lv19 cv19)]⟩], rs41, rs46] := hM45.add hm46
      obtain ⟨av46, lv46, cv46, rfl⟩ := hs46.isSlice
      subst hr46
      refine stp (v := .tuple [.agg ([.bool ((buildF (l.map (· ++ [122])) p).1), .int .i64 ((buildF (l.map (· ++ [122])) p).2.1), (.slice av46 lv46 cv46)] : List Value).toArray, .int .i64 ((buildF (l.map (· ++ [122])) p).2.2.2)].toArray) (o_mv rfl) ?_
      refine stp (v := .agg ([.bool ((buildF (l.map (· ++ [122])) p).1), .int .i64 ((buildF (l.map (· ++ [122])) p).2.1), (.slice av46 lv46 cv46)] : List Value).toArray) (o_ext rfl rfl) ?_
      refine stp (v := .int .i64 ((buildF (l.map (· ++ [122])) p).2.2.2)) (o_ext rfl rfl) ?_
      refine m_al hM46 fun b47 w48 (hM48 : Mem w [] w48 [upR strV (l.map (· ++ [122])) rs3, [], [⟨b7, 30, [.bool ((buildF l p).1), .int .i64 ((buildF l p).2.1), (.slice av6 lv6 cv6)]⟩], rs12, [⟨b13, 30, [.bool ((buildF l p).1), .int .i64 ((buildF l p).2.1), (.slice av12 lv12 cv12)]⟩], rs19, [⟨b20, 30, [.bool ((buildF l p).1), .int .i64 ((buildF l p).2.1), (.slice av19 lv19 cv19)]⟩], rs41, rs46, [⟨b47, 30, [.bool false, .int .i64 0, .slice none 0 0]⟩]]) => ?_
      refine m_stA (l := [.bool ((buildF (l.map (· ++ [122])) p).1), .int .i64 ((buildF (l.map (· ++ [122])) p).2.1), (.slice av46 lv46 cv46)]) hM48 (i := 9) rfl rfl rfl rfl (by simp [oneCells, Value.oneCell', byteV]) (by simp) fun w49 (hM49 : Mem w [] w49 [upR strV (l.map (· ++ [122])) rs3, [], [⟨b7, 30, [.bool ((buildF l p).1), .int .i64 ((buildF l p).2.1), (.slice av6 lv6 cv6)]⟩], rs12, [⟨b13, 30, [.bool ((buildF l p).1), .int .i64 ((buildF l p).2.1), (.slice av12 lv12 cv12)]⟩], rs19, [⟨b20, 30, [.bool ((buildF l p).1), .int .i64 ((buildF l p).2.1), (.slice av19 lv19 cv19)]⟩], rs41, rs46, [⟨b47, 30, [.bool ((buildF (l.map (· ++ [122])) p).1), .int .i64 ((buildF (l.map (· ++ [122])) p).2.1), (.slice av46 lv46 cv46)]⟩]]) => ?_
      refine stp (v := .int .i64 ((buildF (l.map (· ++ [122])) p).2.2.2)) (o_mv rfl) ?_
      refine h43 _ _ ?_
      clear h43
      refine seq fun K50 h50 => ?_
      refine stp (v := x) (o_mv rfl) ?_
      refine m_call (texts_ok _ l w49 (hx.upd hM49.upd) (by first | omega | (simp; done) | (simp; omega))) rfl fun v51 w51 ⟨rs51, hs51, hm51⟩ => ?_
      have hM51 : Mem w [] w51 [upR strV (l.map (· ++ [122])) rs3, [], [⟨b7, 30, [.bool ((buildF l p).1), .int .i64 ((buildF l p).2.1), (.slice av6 lv6 cv6)]⟩], rs12, [⟨b13, 30, [.bool ((buildF l p).1), .int .i64 ((buildF l p).2.1), (.slice av12 lv12 cv12)]⟩], rs19, [⟨b20, 30, [.bool ((buildF l p).1), .int .i64 ((buildF l p).2.1), (.slice av19 lv19 cv19)]⟩], rs41, rs46, [⟨b47, 30, [.bool ((buildF (l.map (· ++ [122])) p).1), .int .i64 ((buildF (l.map (· ++ [122])) p).2.1), (.slice av46 lv46 cv46)]⟩], rs51] := hM49.add hm51
      refine stp (v := x) (o_mv rfl) ?_
      refine stp (v := .int .i64 (l.length : Nat)) (o_lenR (hx.upd hM51.upd) rfl rfl) ?_
      refine m_slcO l.length (hs51) rfl (by first | omega | (simp; done) | (simp; omega)) (⟨_, rfl⟩) trivial fun u52 hu52 => ?_
      have hu52' := SlE.eqL (m := l) hu52 (by simp)
      refine m_call (lettered_ok _ l rs51 w51 hu52' (hM51.res (i := 10) rfl) (by first | omega | (simp; done) | (simp; omega)) hk1) rfl fun v53 w53 ⟨hr53, hm53⟩ => ?_
      have hM53 : Mem w [] w53 [upR strV (l.map (· ++ [122])) rs3, [], [⟨b7, 30, [.bool ((buildF l p).1), .int .i64 ((buildF l p).2.1), (.slice av6 lv6 cv6)]⟩], rs12, [⟨b13, 30, [.bool ((buildF l p).1), .int .i64 ((buildF l p).2.1), (.slice av12 lv12 cv12)]⟩], rs19, [⟨b20, 30, [.bool ((buildF l p).1), .int .i64 ((buildF l p).2.1), (.slice av19 lv19 cv19)]⟩], rs41, rs46, [⟨b47, 30, [.bool ((buildF (l.map (· ++ [122])) p).1), .int .i64 ((buildF (l.map (· ++ [122])) p).2.1), (.slice av46 lv46 cv46)]⟩], upR strV (l.map (· ++ [122])) rs51] := hM51.step 10 rfl hm53
      subst hr53
      refine stp (v := .int .i64 p) (o_mv rfl) ?_
      refine m_call (refBuild_ok _ (l.map (· ++ [122])) p w53 ((SlE.up (m := (l.map (· ++ [122]))) hu52' (by simp)).rd hM53 (i := 10) rfl) (by first | exact hk1 | exact hk2) (by first | omega | (simp; omega)) hp) rfl fun v54 w54 ⟨vd54, rs54, hr54, hs54, hm54⟩ => ?_
      have hM54 : Mem w [] w54 [upR strV (l.map (· ++ [122])) rs3, [], [⟨b7, 30, [.bool ((buildF l p).1), .int .i64 ((buildF l p).2.1), (.slice av6 lv6 cv6)]⟩], rs12, [⟨b13, 30, [.bool ((buildF l p).1), .int .i64 ((buildF l p).2.1), (.slice av12 lv12 cv12)]⟩], rs19, [⟨b20, 30, [.bool ((buildF l p).1), .int .i64 ((buildF l p).2.1), (.slice av19 lv19 cv19)]⟩], rs41, rs46, [⟨b47, 30, [.bool ((buildF (l.map (· ++ [122])) p).1), .int .i64 ((buildF (l.map (· ++ [122])) p).2.1), (.slice av46 lv46 cv46)]⟩], upR strV (l.map (· ++ [122])) rs51, rs54] := hM53.add hm54
      obtain ⟨av54, lv54, cv54, rfl⟩ := hs54.isSlice
      subst hr54
      refine stp (v := .tuple [.agg ([.bool ((buildF (l.map (· ++ [122])) p).1), .int .i64 ((buildF (l.map (· ++ [122])) p).2.1), (.slice av54 lv54 cv54)] : List Value).toArray, .int .i64 ((buildF (l.map (· ++ [122])) p).2.2.2)].toArray) (o_mv rfl) ?_
      refine stp (v := .agg ([.bool ((buildF (l.map (· ++ [122])) p).1), .int .i64 ((buildF (l.map (· ++ [122])) p).2.1), (.slice av54 lv54 cv54)] : List Value).toArray) (o_ext rfl rfl) ?_
      refine stp (v := .int .i64 ((buildF (l.map (· ++ [122])) p).2.2.2)) (o_ext rfl rfl) ?_
      refine m_al hM54 fun b55 w56 (hM56 : Mem w [] w56 [upR strV (l.map (· ++ [122])) rs3, [], [⟨b7, 30, [.bool ((buildF l p).1), .int .i64 ((buildF l p).2.1), (.slice av6 lv6 cv6)]⟩], rs12, [⟨b13, 30, [.bool ((buildF l p).1), .int .i64 ((buildF l p).2.1), (.slice av12 lv12 cv12)]⟩], rs19, [⟨b20, 30, [.bool ((buildF l p).1), .int .i64 ((buildF l p).2.1), (.slice av19 lv19 cv19)]⟩], rs41, rs46, [⟨b47, 30, [.bool ((buildF (l.map (· ++ [122])) p).1), .int .i64 ((buildF (l.map (· ++ [122])) p).2.1), (.slice av46 lv46 cv46)]⟩], upR strV (l.map (· ++ [122])) rs51, rs54, [⟨b55, 30, [.bool false, .int .i64 0, .slice none 0 0]⟩]]) => ?_
      refine m_stA (l := [.bool ((buildF (l.map (· ++ [122])) p).1), .int .i64 ((buildF (l.map (· ++ [122])) p).2.1), (.slice av54 lv54 cv54)]) hM56 (i := 12) rfl rfl rfl rfl (by simp [oneCells, Value.oneCell', byteV]) (by simp) fun w57 (hM57 : Mem w [] w57 [upR strV (l.map (· ++ [122])) rs3, [], [⟨b7, 30, [.bool ((buildF l p).1), .int .i64 ((buildF l p).2.1), (.slice av6 lv6 cv6)]⟩], rs12, [⟨b13, 30, [.bool ((buildF l p).1), .int .i64 ((buildF l p).2.1), (.slice av12 lv12 cv12)]⟩], rs19, [⟨b20, 30, [.bool ((buildF l p).1), .int .i64 ((buildF l p).2.1), (.slice av19 lv19 cv19)]⟩], rs41, rs46, [⟨b47, 30, [.bool ((buildF (l.map (· ++ [122])) p).1), .int .i64 ((buildF (l.map (· ++ [122])) p).2.1), (.slice av46 lv46 cv46)]⟩], upR strV (l.map (· ++ [122])) rs51, rs54, [⟨b55, 30, [.bool ((buildF (l.map (· ++ [122])) p).1), .int .i64 ((buildF (l.map (· ++ [122])) p).2.1), (.slice av54 lv54 cv54)]⟩]]) => ?_
      refine stp (v := .int .i64 ((buildF (l.map (· ++ [122])) p).2.2.2)) (o_mv rfl) ?_
      refine h50 _ _ ?_
      clear h50
      refine seq fun K58 h58 => ?_
      refine m_ldA (l := [.bool ((buildF l p).1), .int .i64 ((buildF l p).2.1), (.slice av12 lv12 cv12)]) hM57 (i := 4) (j := 0) rfl rfl rfl rfl rfl ?_
      refine m_ldA (l := [.bool ((buildF l p).1), .int .i64 ((buildF l p).2.1), (.slice av19 lv19 cv19)]) hM57 (i := 6) (j := 0) rfl rfl rfl rfl rfl ?_
      refine m_call (alike_ok ((buildF l p).1) ((buildF l p).1) ((buildF l p).2.1) ((buildF l p).2.1) _ _ ((buildF l p).2.2.1) ((buildF l p).2.2.1) w57 (hs12.rd hM57 (i := 3) rfl) (hs19.rd hM57 (i := 5) rfl) (by first | omega | (simp; done) | (simp; omega))) rfl fun v59 w59 ⟨hr59, hu59⟩ => ?_
      have hM59 : Mem w [] w59 [upR strV (l.map (· ++ [122])) rs3, [], [⟨b7, 30, [.bool ((buildF l p).1), .int .i64 ((buildF l p).2.1), (.slice av6 lv6 cv6)]⟩], rs12, [⟨b13, 30, [.bool ((buildF l p).1), .int .i64 ((buildF l p).2.1), (.slice av12 lv12 cv12)]⟩], rs19, [⟨b20, 30, [.bool ((buildF l p).1), .int .i64 ((buildF l p).2.1), (.slice av19 lv19 cv19)]⟩], rs41, rs46, [⟨b47, 30, [.bool ((buildF (l.map (· ++ [122])) p).1), .int .i64 ((buildF (l.map (· ++ [122])) p).2.1), (.slice av46 lv46 cv46)]⟩], upR strV (l.map (· ++ [122])) rs51, rs54, [⟨b55, 30, [.bool ((buildF (l.map (· ++ [122])) p).1), .int .i64 ((buildF (l.map (· ++ [122])) p).2.1), (.slice av54 lv54 cv54)]⟩]] := hM57.pure hu59
      obtain rfl : v59 = .bool true := hr59.trans (by rw [alikeF_self])
      refine stp (v := .bool true) (o_mv rfl) ?_
      refine splitT rfl ?_
      refine gyesl rfl ?_
      refine m_ldA (l := [.bool ((buildF (l.map (· ++ [122])) p).1), .int .i64 ((buildF (l.map (· ++ [122])) p).2.1), (.slice av46 lv46 cv46)]) hM59 (i := 9) (j := 0) rfl rfl rfl rfl rfl ?_
      refine gyesl rfl ?_
      refine m_ldA (l := [.bool ((buildF (l.map (· ++ [122])) p).1), .int .i64 ((buildF (l.map (· ++ [122])) p).2.1), (.slice av54 lv54 cv54)]) hM59 (i := 12) (j := 0) rfl rfl rfl rfl rfl ?_
      refine gyesl rfl ?_
      refine m_call (alike_ok ((buildF (l.map (· ++ [122])) p).1) ((buildF (l.map (· ++ [122])) p).1) ((buildF (l.map (· ++ [122])) p).2.1) ((buildF (l.map (· ++ [122])) p).2.1) _ _ ((buildF (l.map (· ++ [122])) p).2.2.1) ((buildF (l.map (· ++ [122])) p).2.2.1) w59 (hs46.rd hM59 (i := 8) rfl) (hs54.rd hM59 (i := 11) rfl) (by first | omega | (simp; done) | (simp; omega))) rfl fun v60 w60 ⟨hr60, hu60⟩ => ?_
      have hM60 : Mem w [] w60 [upR strV (l.map (· ++ [122])) rs3, [], [⟨b7, 30, [.bool ((buildF l p).1), .int .i64 ((buildF l p).2.1), (.slice av6 lv6 cv6)]⟩], rs12, [⟨b13, 30, [.bool ((buildF l p).1), .int .i64 ((buildF l p).2.1), (.slice av12 lv12 cv12)]⟩], rs19, [⟨b20, 30, [.bool ((buildF l p).1), .int .i64 ((buildF l p).2.1), (.slice av19 lv19 cv19)]⟩], rs41, rs46, [⟨b47, 30, [.bool ((buildF (l.map (· ++ [122])) p).1), .int .i64 ((buildF (l.map (· ++ [122])) p).2.1), (.slice av46 lv46 cv46)]⟩], upR strV (l.map (· ++ [122])) rs51, rs54, [⟨b55, 30, [.bool ((buildF (l.map (· ++ [122])) p).1), .int .i64 ((buildF (l.map (· ++ [122])) p).2.1), (.slice av54 lv54 cv54)]⟩]] := hM59.pure hu60
      obtain rfl : v60 = .bool true := hr60.trans (by rw [alikeF_self])
      refine stp (v := .bool true) (o_pickT rfl rfl) ?_
      refine stp (v := .bool true) (o_mv rfl) ?_
      refine splitT rfl ?_
      refine stg rfl (v := .int .i64 ((buildF (l.map (· ++ [122])) p).2.2.2)) (o_mv rfl) ?_
      refine stg rfl (v := .int .i64 ((buildF (l.map (· ++ [122])) p).2.2.2)) (o_mv rfl) ?_
      refine stg rfl (v := .bool true) (o_bin rfl rfl v_eqT) ?_
      refine stp (v := .bool true) (o_pickT rfl rfl) ?_
      refine stp (v := .bool true) (o_mv rfl) ?_
      refine h58 _ _ ?_
      clear h58
      refine ⟨(.bool true), rfl, ?_⟩
      exact ⟨rfl, hM60.upd⟩
