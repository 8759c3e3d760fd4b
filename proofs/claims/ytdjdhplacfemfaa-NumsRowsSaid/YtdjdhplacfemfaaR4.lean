/- Rows of items: the law. -/
import Derived.Test.YtdjdhplacfemfaaR3
namespace Go.Proofs.Ytdjdhplacfemfaa.E
open Go
instance : DecidablePred goodI := fun x => by unfold goodI; infer_instance
def gds (l : List Itm) (i : Nat) : List Itm := (l.take i).filter (fun x => decide (goodI x))
def laidsB (l : List Itm) : List UInt8 := l.flatMap laidB
def offs (l : List Itm) (i : Nat) : Nat := (laidsB (l.take i)).length
def ats (l : List Itm) : List Int := (List.range l.length).map fun j => ((offs l j : Nat) : Int)
theorem gds_zero (l : List Itm) : gds l 0 = [] := rfl
theorem gds_in {l : List Itm} {i : Nat} (h : i < l.length) (hg : goodI (l.getD i iz)) : gds l (i + 1) = gds l i ++ [l.getD i iz] := by
  unfold gds; rw [takeG iz h, List.filter_append, List.filter_cons_of_pos (by exact decide_eq_true hg), List.filter_nil]
theorem gds_skip {l : List Itm} {i : Nat} (h : i < l.length) (hg : ¬ goodI (l.getD i iz)) : gds l (i + 1) = gds l i := by
  unfold gds; rw [takeG iz h, List.filter_append, List.filter_cons_of_neg (by simpa using hg), List.filter_nil, List.append_nil]
theorem laidsB_app (l : List Itm) (x : Itm) : laidsB (l ++ [x]) = laidsB l ++ laidB x := by
  unfold laidsB; rw [List.flatMap_append]; simp
theorem ats_app (l : List Itm) (x : Itm) : ats (l ++ [x]) = ats l ++ [(((laidsB l).length : Nat) : Int)] := by
  unfold ats offs
  rw [List.length_append, List.length_singleton, List.range_succ, List.map_append]
  congr 1
  · apply List.map_congr_left
    intro j hj
    rw [List.take_append_of_le_length (by have := List.mem_range.1 hj; omega)]
  · simp
theorem laid_len {x : Itm} (hk : x.ok) (hg : goodI x) : (laidB x).length ≤ 9 + x.s.length := by
  obtain ⟨_, k2, _, k4⟩ := hk
  simp only [inK] at k2
  unfold goodI at hg
  by_cases c0 : x.kind = 0
  · rw [laid_0 c0]; have := putI_len (v := x.v) (by omega); omega
  · by_cases c1 : x.kind = 1
    · rw [laid_1 c1, fixedI_some (by omega), fixed_length]; omega
    · by_cases c2 : x.kind = 2
      · rw [laid_2 c2]; omega
      · rw [laid_3 c0 c1 c2, List.length_append]; have := putI_len (v := (x.s.length : Nat)) (by omega); omega
theorem gds_good {l : List Itm} {i : Nat} : ∀ x ∈ gds l i, goodI x := fun x hx => of_decide_eq_true (List.mem_filter.1 hx).2
theorem gds_ok {l : List Itm} {i : Nat} (hok : ∀ y ∈ l, y.ok) : ∀ x ∈ gds l i, x.ok := fun x hx => hok x (List.mem_of_mem_take (List.mem_filter.1 hx).1)
theorem gds_len (l : List Itm) (i : Nat) : (gds l i).length ≤ i := by
  unfold gds; have := List.length_filter_le (fun x => decide (goodI x)) (l.take i); simp only [List.length_take] at this; omega
theorem gds_bytes {l : List Itm} (hok : ∀ y ∈ l, y.ok) : ∀ {i : Nat}, i ≤ l.length → (laidsB (gds l i)).length ≤ 9 * sumI l i
  | 0, _ => by simp [gds_zero, laidsB]
  | i + 1, h => by
    have ih := gds_bytes hok (i := i) (by omega)
    rw [sumI_succ (by omega)]
    by_cases c : goodI (l.getD i iz)
    · rw [gds_in (by omega) c, laidsB_app, List.length_append]
      have := laid_len (hok _ (getD_memG iz (i := i) (l := l) (by omega))) c
      omega
    · rw [gds_skip (by omega) c]; omega
theorem sumI_mono (l : List Itm) {i : Nat} : ∀ {j : Nat}, i ≤ j → j ≤ l.length → sumI l i ≤ sumI l j
  | 0, h, _ => by obtain rfl : i = 0 := by omega
                  exact Nat.le_refl _
  | j + 1, h, h2 => by
    by_cases e : i = j + 1
    · subst e; exact Nat.le_refl _
    · have := sumI_mono l (i := i) (j := j) (by omega) (by omega)
      rw [sumI_succ (by omega)]; omega
theorem sumI_ge (l : List Itm) (i : Nat) : i ≤ sumI l i := by unfold sumI; omega
theorem offs_zero (l : List Itm) : offs l 0 = 0 := rfl
theorem offs_succ {l : List Itm} {i : Nat} (h : i < l.length) : offs l (i + 1) = offs l i + (laidB (l.getD i iz)).length := by
  unfold offs; rw [takeG iz h, laidsB_app, List.length_append]
theorem offs_all (l : List Itm) : offs l l.length = (laidsB l).length := by unfold offs; rw [List.take_length]
theorem offs_le (l : List Itm) (i : Nat) : offs l i ≤ (laidsB l).length := by
  unfold offs
  have e : laidsB l = laidsB (l.take i) ++ laidsB (l.drop i) := by unfold laidsB; rw [← List.flatMap_append, List.take_append_drop]
  rw [e, List.length_append]; omega
theorem drop_iz {l : List Itm} {i : Nat} (h : i < l.length) : l.drop i = l.getD i iz :: l.drop (i + 1) := by
  rw [List.drop_eq_getElem_cons h, List.getD_eq_getElem?_getD, List.getElem?_eq_getElem h]; rfl
theorem at_drop {l : List Itm} {i : Nat} (h : i < l.length) (r : List UInt8) : (laidsB l ++ r).drop (offs l i) = laidB (l.getD i iz) ++ (laidsB (l.drop (i + 1)) ++ r) := by
  have e : laidsB l = laidsB (l.take i) ++ (laidB (l.getD i iz) ++ laidsB (l.drop (i + 1))) := by
    have e2 : laidB (l.getD i iz) ++ laidsB (l.drop (i + 1)) = laidsB (l.drop i) := by rw [drop_iz h]; rfl
    rw [e2]; unfold laidsB; rw [← List.flatMap_append, List.take_append_drop]
  unfold offs; rw [e, List.append_assoc, List.drop_left, List.append_assoc]
theorem ats_getD {l : List Itm} {i : Nat} (h : i < l.length) : (ats l).getD i 0 = ((offs l i : Nat) : Int) := by
  unfold ats; rw [List.getD_eq_getElem?_getD, List.getElem?_map, List.getElem?_range h]; rfl
theorem ats_len (l : List Itm) : (ats l).length = l.length := by unfold ats; simp
theorem found_in {l : List Itm} {i : Nat} (hg : ∀ x ∈ l, goodI x) (hk : ∀ x ∈ l, x.ok) (h : i < l.length) (r : List UInt8) : fndV (laidsB l ++ r) (offs l i) 0 (l.getD i iz) = true ∧ fndS (laidsB l ++ r) (offs l i) 0 (l.getD i iz) = (offs l (i + 1), 0) := by
  have hm := getD_memG iz h
  have := found_at (hg _ hm) (hk _ hm) (at_drop h r)
  rw [offs_succ h]; exact this
theorem found_in0 {l : List Itm} {i : Nat} (hg : ∀ x ∈ l, goodI x) (hk : ∀ x ∈ l, x.ok) (h : i < l.length) : fndV (laidsB l) (offs l i) 0 (l.getD i iz) = true ∧ fndS (laidsB l) (offs l i) 0 (l.getD i iz) = (offs l (i + 1), 0) := by
  have := found_in hg hk h []
  rwa [List.append_nil] at this
theorem much_in {l : List Itm} {i : Nat} (hk : ∀ x ∈ l, x.ok) (h : i < l.length) (h0 : (l.getD i iz).kind = 0) (hv : 0 < (l.getD i iz).v) :
    cNum (laidsB l) (offs l i) 0 ((l.getD i iz).v - 1) = 0 ∧ cNumA (laidsB l) (offs l i) 0 ((l.getD i iz).v - 1) = offs l i ∧ cNumE (laidsB l) (offs l i) 0 ((l.getD i iz).v - 1) = 23 := by
  have hb := at_drop h []
  rw [List.append_nil, laid_0 h0] at hb
  have k2 := (hk _ (getD_memG iz h)).2.1
  simp only [inK] at k2
  have hg := get_put (v := (l.getD i iz).v) (by omega) (by omega) (laidsB (l.drop (i + 1)) ++ [])
  rw [← hb] at hg
  have hm := num_much (l := (laidsB l).drop (offs l i)) (m := (l.getD i iz).v - 1) (by rw [hg]) (by rw [hg]; simp only []; omega)
  refine ⟨?_, ?_, ?_⟩
  · unfold cNum; rw [if_pos rfl, hm.2]
  · unfold cNumA; rw [if_neg (fun h => by omega)]
  · unfold cNumE; rw [if_pos rfl, hm.1]
theorem end_0 {b : List UInt8} {a : Nat} (h : a = b.length) : endE b a 0 = 0 ∧ endA b a 0 = 0 := by
  unfold endE endA; rw [if_neg (by omega), if_neg (by omega), if_neg (by omega), if_neg (by omega)]; exact ⟨rfl, rfl⟩
theorem end_left {b : List UInt8} {a : Nat} (h : a < b.length) : endE b a 0 = 22 ∧ endA b a 0 = a := by
  unfold endE endA; rw [if_neg (by omega), if_pos h, if_neg (by omega), if_pos h]; exact ⟨rfl, rfl⟩
theorem end_err {b : List UInt8} {a : Nat} {e : Int} (h : ¬ e = 0) : endE b a e = e ∧ endA b a e = a := by
  unfold endE endA; rw [if_pos h, if_pos h]; exact ⟨rfl, rfl⟩

theorem m_idxE3 {α : Type} {E : α → Value} (z : α) {P : Program} {r : List MI} {f : Fr} {w wr : World} {K : Fr → World → Prop} {d : Nat} {x i : Operand} {u : Value} {l : List α} {j : Nat} {k : IntKind} (h : RdE E w u l) (h0 : RdE E wr u l) (hx : ev f x = u) (hi : ev f i = .int k j) (hj : j < l.length)
    (hk : ∀ b o, wr.cell? ⟨b, o, none⟩ = some (E (l.getD j z)) → b = blkV u → vr P r (upd f d (.pointer (some ⟨b, o, none⟩))) w K) : vr P (.p none d (.idx 1 x i) :: r) f w K := by
  show pe (.idx 1 x i) f (fun v => vr P r (upd f d v) w K)
  obtain ⟨a, c, rfl, h2, h3, h4⟩ := h.form
  obtain ⟨a0, c0, e, h20, h30, h40⟩ := h0.form
  cases e
  show kslice (ev f x) _; rw [hx]; show anyint (ev f i) _; rw [hi]; refine ⟨⟨by omega, by omega⟩, ?_⟩
  cases a with
  | none => have := h4 rfl; omega
  | some a =>
    obtain ⟨b, o, m⟩ := a
    cases m with
    | some m => simp only [Row] at h3; have := congrArg List.length h3; simp at this; subst this; simp at hj
    | none =>
      refine hk _ _ ?_ rfl
      have h5 := h30 j (by simpa using hj)
      rw [Int.toNat_natCast, Nat.mul_one, h5, List.getElem?_map, List.getElem?_eq_getElem hj, List.getD_eq_getElem?_getD, List.getElem?_eq_getElem hj]; rfl
theorem SlE.blk_apart {α : Type} {E : α → Value} {t : TypeId} {v : Value} {l : List α} {r rk : List Ent} {w0 w : World} {S : List Nat} {R : List (List Ent)} {i k : Nat} (h : SlE E t v l r) (hM : Mem w0 S w R) (hi : R[i]? = some r) (hk : R[k]? = some rk) (hn : i ≠ k) (hl : 0 < l.length) : blkV v ∉ ids rk := by
  rcases h.form with ⟨_, h, _⟩ | ⟨b, c, tl, h, h2, _, _⟩
  · rw [h] at hl; simp at hl
  · subst h h2
    exact hM.apart (i := i) (j := 0) (k := k) hi rfl hk hn

set_option maxRecDepth 100000 in
/-- winnowlaw2.NumsRows -/
theorem NumsRows_ok (x : Value) (l : List Itm) (w : World) (hx : RdS itmC w x l) (hok : ∀ y ∈ l, y.ok) (hl : l.length * 40 ≤ 140737488351232) : Calls Try.prog 10 [x].toArray w (Rt fun r w' => r = .bool true ∧ Upd [] w w') := by
  have hM0 : Mem w [] w [] := Mem.nil w []
  refine calls_vc mixed Try.func10 rfl C10 (by simp [Try.ntmps10]) ?_
  refine seq fun K1 h1 => ?_
  refine stp (v := .bool false) (o_mv rfl) ?_
  refine h1 _ _ ?_
  clear h1
  refine seq fun K2 h2 => ?_
  refine seq fun K3 h3 => ?_
  refine stp (v := x) (o_mv rfl) ?_
  refine m_call (beyond_ok _ l w (hx.upd hM0.upd) hok hl) rfl fun v4 w4 ⟨bb4, hr4, hbb, hu4⟩ => ?_
  have hM4 : Mem w [] w4 [] := hM0.pure hu4
  subst hr4
  refine h3 _ _ ?_
  clear h3
  refine cnd rfl (fun hbT => ?_) (fun hbF => ?_)
  ·
    refine seq fun K6 h6 => ?_
    refine m_call (head_ok w4) rfl fun v7 w7 ⟨hr7, hu7⟩ => ?_
    have hM7 : Mem w [] w7 [] := hM4.pure hu7
    subst hr7
    refine stp (v := .bool true) (o_mv rfl) ?_
    refine h6 _ _ ?_
    clear h6
    refine ⟨(.bool true), rfl, ?_⟩
    exact ⟨rfl, hM7.upd⟩
  ·
    refine h2 _ _ ?_
    clear h2
    refine seq fun K8 h8 => ?_
    refine stp (v := .slice none 0 0) (o_mv rfl) ?_
    refine h8 _ _ ?_
    clear h8
    refine seq fun K9 h9 => ?_
    refine stp (v := .slice none 0 0) (o_mv rfl) ?_
    refine h9 _ _ ?_
    clear h9
    refine seq fun K10 h10 => ?_
    refine stp (v := .slice none 0 0) (o_mv rfl) ?_
    refine h10 _ _ ?_
    clear h10
    refine seq fun K11 h11 => ?_
    refine seq fun K12 h12 => ?_
    refine stp (v := .int .i64 0) (o_mv rfl) ?_
    refine h12 _ _ ?_
    clear h12
    have hM13 : Mem w [] w4 [[]] := hM4.addNil
    have hs13 : SlS itmC 4 65 (.slice none 0 0) [] [] := Sl.nil 4 65
    have hM14 : Mem w [] w4 [[], []] := hM13.addNil
    have hs14 : SlE byteV 5 (.slice none 0 0) [] [] := Sl.nil 1 5
    have hM15 : Mem w [] w4 [[], [], []] := hM14.addNil
    have hs15 : SlE i64V 3 (.slice none 0 0) [] [] := Sl.nil 1 3
    refine lp (n := fun _ _ => False) (ι := (Nat) × (Value) × (List Ent) × (Value) × (List Ent) × (Value) × (List Ent)) (fun ⟨i, y3_, r3_, y4_, r4_, y5_, r5_⟩ f w' => f 3 = y3_ ∧ f 4 = y4_ ∧ f 5 = y5_ ∧ f 6 = .int .i64 (i : Nat) ∧ f 0 = x ∧ Mem w [] w' [r3_, r4_, r5_] ∧ (i ≤ l.length) ∧ (SlS itmC 4 65 y3_ (gds l i) r3_) ∧ (SlE byteV 5 y4_ (laidsB (gds l i)) r4_) ∧ (SlE i64V 3 y5_ (ats (gds l i)) r5_)) (fun ⟨i, y3_, r3_, y4_, r4_, y5_, r5_⟩ => l.length - i) (0, ((.slice none 0 0)), ([]), ((.slice none 0 0)), ([]), ((.slice none 0 0)), ([])) ?_ ?_
    · exact ⟨rfl, rfl, rfl, by first | rfl | exact v_int (by omega) | exact v_int (by simp) | exact v_int (by simp; omega), rfl, hM15, by omega, by first | exact hs13 | simpa using hs13, by first | exact hs14 | simpa using hs14, by first | exact hs15 | simpa using hs15⟩
    · rintro ⟨i, y3_, r3_, y4_, r4_, y5_, r5_⟩ f w16 ⟨e16_3, e16_4, e16_5, e16_6, e16_0, hM16, hi, hy3_, hy4_, hy5_⟩ K17 h17
      obtain ⟨frm, rfl⟩ : ∃ frm, f = (upd (upd (upd (upd (upd frm 3 (y3_)) 4 (y4_)) 5 (y5_)) 6 (.int .i64 (i : Nat))) 0 (x)) := ⟨f, by rw [upd_self e16_3, upd_self e16_4, upd_self e16_5, upd_self e16_6, upd_self e16_0]⟩
      clear e16_3 e16_4 e16_5 e16_6 e16_0
      refine seq fun K18 h18 => ?_
      refine seq fun K19 h19 => ?_
      refine stp (v := .int .i64 (i : Nat)) (o_mv rfl) ?_
      refine stp (v := x) (o_mv rfl) ?_
      refine stp (v := .int .i64 (l.length : Nat)) (o_lenR (hx.upd hM16.upd) rfl rfl) ?_
      refine stp (v := .bool (decide (((i : Nat) : Int) < (l.length : Nat)))) (o_bin rfl rfl rfl) ?_
      refine h19 _ _ ?_
      clear h19
      refine cndP rfl (fun c20 => ?_) (fun c20 => ?_)
      ·
        refine h18 _ _ ?_
        clear h18
        refine seq fun K21 h21 => ?_
        refine seq fun K22 h22 => ?_
        refine stp (v := x) (o_mv rfl) ?_
        refine stp (v := .int .i64 (i : Nat)) (o_mv rfl) ?_
        refine m_idxS iz (j := i) (hx.upd hM16.upd) rfl rfl (by omega) fun b23 o23 hp23 => ?_
        refine ldA (cs := [.int .i64 ((l.getD i iz).kind), .int .i64 ((l.getD i iz).v), .int .i64 ((l.getD i iz).n), .string (str ((l.getD i iz).s))]) rfl rfl (hp23.row (k := 0) rfl rfl) ?_
        refine m_al hM16 fun b24 w25 (hM25 : Mem w [] w25 [r3_, r4_, r5_, [⟨b24, 65, [.int .i64 0, .int .i64 0, .int .i64 0, .string (str ([]))]⟩]]) => ?_
        refine m_stA (l := [.int .i64 ((l.getD i iz).kind), .int .i64 ((l.getD i iz).v), .int .i64 ((l.getD i iz).n), .string (str ((l.getD i iz).s))]) hM25 (i := 3) rfl rfl rfl rfl (by simp [oneCells, Value.oneCell', byteV]) (by simp) fun w26 (hM26 : Mem w [] w26 [r3_, r4_, r5_, [⟨b24, 65, [.int .i64 ((l.getD i iz).kind), .int .i64 ((l.getD i iz).v), .int .i64 ((l.getD i iz).n), .string (str ((l.getD i iz).s))]⟩]]) => ?_
        refine h22 _ _ ?_
        clear h22
        refine seq fun K27 h27 => ?_
        refine seq fun K28 h28 => ?_
        have hgl := gds_len l i
        have hga := ats_len (gds l i)
        have hgb := gds_bytes hok (i := i) (by omega)
        have hmo := sumI_mono l (i := i) (j := l.length) (by omega) (by omega)
        have hge := sumI_ge l l.length
        have hbc := hbb (by simpa using hbF)
        have hgn := gds_len l (i + 1)
        refine stp (v := .pointer (some ⟨b24, 0, none⟩)) (o_fa rfl rfl) ?_
        refine m_ld (v := .int .i64 ((l.getD i iz).kind)) hM26 (i := 3) (j := 0) rfl rfl rfl rfl ?_
        refine stp (v := .bool (decide (((l.getD i iz).kind) < 0))) (o_bin rfl rfl rfl) ?_
        refine stp (v := .bool (decide (((l.getD i iz).kind) < 0))) (o_mv rfl) ?_
        refine splitP rfl (fun c29 => ?_) (fun c29 => ?_)
        ·
          refine gno rfl (by simp) ?_
          refine gnol rfl (by simp) ?_
          refine gno rfl (by simp) ?_
          refine stp (v := .bool true) (o_pickT rfl rfl) ?_
          refine stp (v := .bool true) (o_mv rfl) ?_
          refine splitT rfl ?_
          refine gno rfl (by simp) ?_
          refine gnol rfl (by simp) ?_
          refine gno rfl (by simp) ?_
          refine gno rfl (by simp) ?_
          refine splitU rfl ?_
          refine gnou rfl ?_
          refine gnolu rfl ?_
          refine gnou rfl ?_
          refine gno rfl (by simp) ?_
          refine stp (v := .bool true) (o_pickT rfl rfl) ?_
          refine stp (v := .bool true) (o_mv rfl) ?_
          refine splitT rfl ?_
          refine gno rfl (by simp) ?_
          refine gnol rfl (by simp) ?_
          refine gno rfl (by simp) ?_
          refine gno rfl (by simp) ?_
          refine splitU rfl ?_
          refine gnou rfl ?_
          refine gnolu rfl ?_
          refine gnou rfl ?_
          refine gnou rfl ?_
          refine splitU rfl ?_
          refine gnou rfl ?_
          refine gnolu rfl ?_
          refine gnou rfl ?_
          refine gnou rfl ?_
          refine gno rfl (by simp) ?_
          refine stp (v := .bool true) (o_pickT rfl rfl) ?_
          refine h28 _ _ ?_
          clear h28
          refine cndT rfl ?_
          refine h21 _ _ ?_
          clear h21
          refine stp (v := .int .i64 (i : Nat)) (o_mv rfl) ?_
          refine stp (v := .int .i64 ((i : Nat) + 1)) (o_bin rfl rfl (v_add64 (by constructor <;> omega))) ?_
          refine stp (v := .int .i64 ((i : Nat) + 1)) (o_mv rfl) ?_
          refine h17 (i + 1, y3_, r3_, y4_, r4_, y5_, r5_) _ _ ⟨rfl, rfl, rfl, by first | rfl | exact v_int (by omega) | exact v_int (by simp) | exact v_int (by simp; omega), rfl, hM26.keep (by simp), by omega, by first | (rw [gds_skip (by omega) (by unfold goodI; omega)]; exact hy3_) | (rw [gds_in (by omega) (by unfold goodI; omega)]; exact hy3_), by first | (rw [gds_skip (by omega) (by unfold goodI; omega)]; exact hy4_) | (rw [gds_in (by omega) (by unfold goodI; omega), laidsB_app]; exact hy4_), by first | (rw [gds_skip (by omega) (by unfold goodI; omega)]; exact hy5_) | (rw [gds_in (by omega) (by unfold goodI; omega), ats_app]; exact hy5_)⟩ (by (try dsimp only); omega)
        ·
          refine stg rfl (v := .pointer (some ⟨b24, 0, none⟩)) (o_fa rfl rfl) ?_
          refine gyesl rfl ?_
          refine m_ld (v := .int .i64 ((l.getD i iz).kind)) hM26 (i := 3) (j := 0) rfl rfl rfl rfl ?_
          refine stg rfl (v := .bool (decide ((3 : Int) < ((l.getD i iz).kind)))) (o_bin rfl rfl rfl) ?_
          refine stp (v := .bool (decide ((3 : Int) < ((l.getD i iz).kind)))) (o_pickF rfl rfl) ?_
          refine stp (v := .bool (decide ((3 : Int) < ((l.getD i iz).kind)))) (o_mv rfl) ?_
          refine splitP rfl (fun c30 => ?_) (fun c30 => ?_)
          ·
            refine gno rfl (by simp) ?_
            refine gnol rfl (by simp) ?_
            refine gno rfl (by simp) ?_
            refine gno rfl (by simp) ?_
            refine splitU rfl ?_
            refine gnou rfl ?_
            refine gnolu rfl ?_
            refine gnou rfl ?_
            refine gno rfl (by simp) ?_
            refine stp (v := .bool true) (o_pickT rfl rfl) ?_
            refine stp (v := .bool true) (o_mv rfl) ?_
            refine splitT rfl ?_
            refine gno rfl (by simp) ?_
            refine gnol rfl (by simp) ?_
            refine gno rfl (by simp) ?_
            refine gno rfl (by simp) ?_
            refine splitU rfl ?_
            refine gnou rfl ?_
            refine gnolu rfl ?_
            refine gnou rfl ?_
            refine gnou rfl ?_
            refine splitU rfl ?_
            refine gnou rfl ?_
            refine gnolu rfl ?_
            refine gnou rfl ?_
            refine gnou rfl ?_
            refine gno rfl (by simp) ?_
            refine stp (v := .bool true) (o_pickT rfl rfl) ?_
            refine h28 _ _ ?_
            clear h28
            refine cndT rfl ?_
            refine h21 _ _ ?_
            clear h21
            refine stp (v := .int .i64 (i : Nat)) (o_mv rfl) ?_
            refine stp (v := .int .i64 ((i : Nat) + 1)) (o_bin rfl rfl (v_add64 (by constructor <;> omega))) ?_
            refine stp (v := .int .i64 ((i : Nat) + 1)) (o_mv rfl) ?_
            refine h17 (i + 1, y3_, r3_, y4_, r4_, y5_, r5_) _ _ ⟨rfl, rfl, rfl, by first | rfl | exact v_int (by omega) | exact v_int (by simp) | exact v_int (by simp; omega), rfl, hM26.keep (by simp), by omega, by first | (rw [gds_skip (by omega) (by unfold goodI; omega)]; exact hy3_) | (rw [gds_in (by omega) (by unfold goodI; omega)]; exact hy3_), by first | (rw [gds_skip (by omega) (by unfold goodI; omega)]; exact hy4_) | (rw [gds_in (by omega) (by unfold goodI; omega), laidsB_app]; exact hy4_), by first | (rw [gds_skip (by omega) (by unfold goodI; omega)]; exact hy5_) | (rw [gds_in (by omega) (by unfold goodI; omega), ats_app]; exact hy5_)⟩ (by (try dsimp only); omega)
          ·
            refine stg rfl (v := .pointer (some ⟨b24, 0, none⟩)) (o_fa rfl rfl) ?_
            refine gyesl rfl ?_
            refine m_ld (v := .int .i64 ((l.getD i iz).kind)) hM26 (i := 3) (j := 0) rfl rfl rfl rfl ?_
            refine stg rfl (v := .bool (decide (((l.getD i iz).kind) = 0))) (o_bin rfl rfl rfl) ?_
            refine stg rfl (v := .bool (decide (((l.getD i iz).kind) = 0))) (o_mv rfl) ?_
            refine splitP rfl (fun c31 => ?_) (fun c31 => ?_)
            ·
              refine stg rfl (v := .pointer (some ⟨b24, 1, none⟩)) (o_fa rfl rfl) ?_
              refine gyesl rfl ?_
              refine m_ld (v := .int .i64 ((l.getD i iz).v)) hM26 (i := 3) (j := 0) rfl rfl rfl rfl ?_
              refine stg rfl (v := .bool (decide (((l.getD i iz).v) < 0))) (o_bin rfl rfl rfl) ?_
              refine stg rfl (v := .bool (decide (((l.getD i iz).v) < 0))) (o_pickT rfl rfl) ?_
              refine stp (v := .bool (decide (((l.getD i iz).v) < 0))) (o_pickF rfl rfl) ?_
              refine stp (v := .bool (decide (((l.getD i iz).v) < 0))) (o_mv rfl) ?_
              refine splitP rfl (fun c32 => ?_) (fun c32 => ?_)
              ·
                refine gno rfl (by simp) ?_
                refine gnol rfl (by simp) ?_
                refine gno rfl (by simp) ?_
                refine gno rfl (by simp) ?_
                refine splitU rfl ?_
                refine gnou rfl ?_
                refine gnolu rfl ?_
                refine gnou rfl ?_
                refine gnou rfl ?_
                refine splitU rfl ?_
                refine gnou rfl ?_
                refine gnolu rfl ?_
                refine gnou rfl ?_
                refine gnou rfl ?_
                refine gno rfl (by simp) ?_
                refine stp (v := .bool true) (o_pickT rfl rfl) ?_
                refine h28 _ _ ?_
                clear h28
                refine cndT rfl ?_
                refine h21 _ _ ?_
                clear h21
                refine stp (v := .int .i64 (i : Nat)) (o_mv rfl) ?_
                refine stp (v := .int .i64 ((i : Nat) + 1)) (o_bin rfl rfl (v_add64 (by constructor <;> omega))) ?_
                refine stp (v := .int .i64 ((i : Nat) + 1)) (o_mv rfl) ?_
                refine h17 (i + 1, y3_, r3_, y4_, r4_, y5_, r5_) _ _ ⟨rfl, rfl, rfl, by first | rfl | exact v_int (by omega) | exact v_int (by simp) | exact v_int (by simp; omega), rfl, hM26.keep (by simp), by omega, by first | (rw [gds_skip (by omega) (by unfold goodI; omega)]; exact hy3_) | (rw [gds_in (by omega) (by unfold goodI; omega)]; exact hy3_), by first | (rw [gds_skip (by omega) (by unfold goodI; omega)]; exact hy4_) | (rw [gds_in (by omega) (by unfold goodI; omega), laidsB_app]; exact hy4_), by first | (rw [gds_skip (by omega) (by unfold goodI; omega)]; exact hy5_) | (rw [gds_in (by omega) (by unfold goodI; omega), ats_app]; exact hy5_)⟩ (by (try dsimp only); omega)
              ·
                refine stg rfl (v := .pointer (some ⟨b24, 0, none⟩)) (o_fa rfl rfl) ?_
                refine gyesl rfl ?_
                refine m_ld (v := .int .i64 ((l.getD i iz).kind)) hM26 (i := 3) (j := 0) rfl rfl rfl rfl ?_
                refine stg rfl (v := .bool (decide (((l.getD i iz).kind) = 1))) (o_bin rfl rfl rfl) ?_
                refine stg rfl (v := .bool (decide (((l.getD i iz).kind) = 1))) (o_mv rfl) ?_
                refine splitP rfl (fun c33 => ?_) (fun c33 => ?_)
                ·
                  refine stg rfl (v := .pointer (some ⟨b24, 2, none⟩)) (o_fa rfl rfl) ?_
                  refine gyesl rfl ?_
                  refine m_ld (v := .int .i64 ((l.getD i iz).n)) hM26 (i := 3) (j := 0) rfl rfl rfl rfl ?_
                  refine stg rfl (v := .bool (decide (((l.getD i iz).n) < 1))) (o_bin rfl rfl rfl) ?_
                  refine stg rfl (v := .bool (decide (((l.getD i iz).n) < 1))) (o_mv rfl) ?_
                  refine splitP rfl (fun c34 => ?_) (fun c34 => ?_)
                  ·
                    refine gno rfl (by simp) ?_
                    refine gnol rfl (by simp) ?_
                    refine gno rfl (by simp) ?_
                    refine stg rfl (v := .bool true) (o_pickT rfl rfl) ?_
                    refine stg rfl (v := .bool true) (o_pickT rfl rfl) ?_
                    refine stp (v := .bool true) (o_pickF rfl rfl) ?_
                    refine h28 _ _ ?_
                    clear h28
                    refine cndT rfl ?_
                    refine h21 _ _ ?_
                    clear h21
                    refine stp (v := .int .i64 (i : Nat)) (o_mv rfl) ?_
                    refine stp (v := .int .i64 ((i : Nat) + 1)) (o_bin rfl rfl (v_add64 (by constructor <;> omega))) ?_
                    refine stp (v := .int .i64 ((i : Nat) + 1)) (o_mv rfl) ?_
                    refine h17 (i + 1, y3_, r3_, y4_, r4_, y5_, r5_) _ _ ⟨rfl, rfl, rfl, by first | rfl | exact v_int (by omega) | exact v_int (by simp) | exact v_int (by simp; omega), rfl, hM26.keep (by simp), by omega, by first | (rw [gds_skip (by omega) (by unfold goodI; omega)]; exact hy3_) | (rw [gds_in (by omega) (by unfold goodI; omega)]; exact hy3_), by first | (rw [gds_skip (by omega) (by unfold goodI; omega)]; exact hy4_) | (rw [gds_in (by omega) (by unfold goodI; omega), laidsB_app]; exact hy4_), by first | (rw [gds_skip (by omega) (by unfold goodI; omega)]; exact hy5_) | (rw [gds_in (by omega) (by unfold goodI; omega), ats_app]; exact hy5_)⟩ (by (try dsimp only); omega)
                  ·
                    refine stg rfl (v := .pointer (some ⟨b24, 2, none⟩)) (o_fa rfl rfl) ?_
                    refine gyesl rfl ?_
                    refine m_ld (v := .int .i64 ((l.getD i iz).n)) hM26 (i := 3) (j := 0) rfl rfl rfl rfl ?_
                    refine stg rfl (v := .bool (decide ((8 : Int) < ((l.getD i iz).n)))) (o_bin rfl rfl rfl) ?_
                    refine stg rfl (v := .bool (decide ((8 : Int) < ((l.getD i iz).n)))) (o_pickF rfl rfl) ?_
                    refine stg rfl (v := .bool (decide ((8 : Int) < ((l.getD i iz).n)))) (o_pickT rfl rfl) ?_
                    refine stp (v := .bool (decide ((8 : Int) < ((l.getD i iz).n)))) (o_pickF rfl rfl) ?_
                    refine h28 _ _ ?_
                    clear h28
                    refine cndP rfl (fun c35 => ?_) (fun c35 => ?_)
                    ·
                      refine h21 _ _ ?_
                      clear h21
                      refine stp (v := .int .i64 (i : Nat)) (o_mv rfl) ?_
                      refine stp (v := .int .i64 ((i : Nat) + 1)) (o_bin rfl rfl (v_add64 (by constructor <;> omega))) ?_
                      refine stp (v := .int .i64 ((i : Nat) + 1)) (o_mv rfl) ?_
                      refine h17 (i + 1, y3_, r3_, y4_, r4_, y5_, r5_) _ _ ⟨rfl, rfl, rfl, by first | rfl | exact v_int (by omega) | exact v_int (by simp) | exact v_int (by simp; omega), rfl, hM26.keep (by simp), by omega, by first | (rw [gds_skip (by omega) (by unfold goodI; omega)]; exact hy3_) | (rw [gds_in (by omega) (by unfold goodI; omega)]; exact hy3_), by first | (rw [gds_skip (by omega) (by unfold goodI; omega)]; exact hy4_) | (rw [gds_in (by omega) (by unfold goodI; omega), laidsB_app]; exact hy4_), by first | (rw [gds_skip (by omega) (by unfold goodI; omega)]; exact hy5_) | (rw [gds_in (by omega) (by unfold goodI; omega), ats_app]; exact hy5_)⟩ (by (try dsimp only); omega)
                    ·
                      refine h27 _ _ ?_
                      clear h27
                      refine seq fun K36 h36 => ?_
                      refine stp (v := y3_) (o_mv rfl) ?_
                      refine m_ldA (l := [.int .i64 ((l.getD i iz).kind), .int .i64 ((l.getD i iz).v), .int .i64 ((l.getD i iz).n), .string (str ((l.getD i iz).s))]) hM26 (i := 3) (j := 0) rfl rfl rfl rfl rfl ?_
                      refine m_app1S (enc := itmC) (q := (l.getD i iz)) hM26 (i := 0) rfl hy3_ rfl (by simp) (rfl) rfl (by first | omega | (simp; omega)) (by omega) fun v37 w37 r37 u37 (hs37 : SlS itmC 4 65 v37 ((gds l i) ++ [(l.getD i iz)]) r37) (hM37 : Mem w [] w37 [r37, r4_, r5_, [⟨b24, 65, [.int .i64 ((l.getD i iz).kind), .int .i64 ((l.getD i iz).v), .int .i64 ((l.getD i iz).n), .string (str ((l.getD i iz).s))]⟩]]) => ?_
                      refine stp (v := v37) (o_mv rfl) ?_
                      refine h36 _ _ ?_
                      clear h36
                      refine seq fun K38 h38 => ?_
                      refine stp (v := y5_) (o_mv rfl) ?_
                      refine stp (v := y4_) (o_mv rfl) ?_
                      refine stp (v := .int .i64 ((laidsB (gds l i)).length : Nat)) (o_lenR (hy4_.rd hM37 (i := 1) rfl) rfl rfl) ?_
                      refine m_app1 (E := i64V) (q := (((laidsB (gds l i)).length : Nat) : Int)) hM37 (i := 2) rfl hy5_ rfl (by simp) (rfl) (by omega) (by omega) fun v39 w39 r39 u39 (hs39 : SlE i64V 3 v39 ((ats (gds l i)) ++ [(((laidsB (gds l i)).length : Nat) : Int)]) r39) (hM39 : Mem w [] w39 [r37, r4_, r39, [⟨b24, 65, [.int .i64 ((l.getD i iz).kind), .int .i64 ((l.getD i iz).v), .int .i64 ((l.getD i iz).n), .string (str ((l.getD i iz).s))]⟩]]) => ?_
                      refine stp (v := v39) (o_mv rfl) ?_
                      refine h38 _ _ ?_
                      clear h38
                      refine seq fun K40 h40 => ?_
                      refine m_ldA (l := [.int .i64 ((l.getD i iz).kind), .int .i64 ((l.getD i iz).v), .int .i64 ((l.getD i iz).n), .string (str ((l.getD i iz).s))]) hM39 (i := 3) (j := 0) rfl rfl rfl rfl rfl ?_
                      refine m_call (laid_ok (l.getD i iz) w39 (hok _ (getD_memG iz (by omega)))) rfl fun v41 w41 ⟨rs41, hs41, hm41⟩ => ?_
                      have hM41 : Mem w [] w41 [r37, r4_, r39, [⟨b24, 65, [.int .i64 ((l.getD i iz).kind), .int .i64 ((l.getD i iz).v), .int .i64 ((l.getD i iz).n), .string (str ((l.getD i iz).s))]⟩], rs41] := hM39.add hm41
                      refine stp (v := v41) (o_mv rfl) ?_
                      refine h40 _ _ ?_
                      clear h40
                      refine stp (v := y4_) (o_mv rfl) ?_
                      refine stp (v := v41) (o_mv rfl) ?_
                      refine m_appE hM41 (i := 1) rfl hy4_ rfl rfl (hs41.rd hM41 (i := 4) rfl) (by have h1 := laid_len (hok _ (getD_memG iz (i := i) (l := l) (by omega))) (by unfold goodI; omega); have h2 := (hok _ (getD_memG iz (i := i) (l := l) (by omega))).2.2.2; omega) (by omega) fun v42 w42 r42 (hs42 : SlE byteV 5 v42 ((laidsB (gds l i)) ++ (laidB (l.getD i iz))) r42) (hM42 : Mem w [] w42 [r37, r42, r39, [⟨b24, 65, [.int .i64 ((l.getD i iz).kind), .int .i64 ((l.getD i iz).v), .int .i64 ((l.getD i iz).n), .string (str ((l.getD i iz).s))]⟩], rs41]) => ?_
                      refine stp (v := v42) (o_mv rfl) ?_
                      refine h21 _ _ ?_
                      clear h21
                      refine stp (v := .int .i64 (i : Nat)) (o_mv rfl) ?_
                      refine stp (v := .int .i64 ((i : Nat) + 1)) (o_bin rfl rfl (v_add64 (by constructor <;> omega))) ?_
                      refine stp (v := .int .i64 ((i : Nat) + 1)) (o_mv rfl) ?_
                      refine h17 (i + 1, v37, r37, v42, r42, v39, r39) _ _ ⟨rfl, rfl, rfl, by first | rfl | exact v_int (by omega) | exact v_int (by simp) | exact v_int (by simp; omega), rfl, hM42.keep (by simp), by omega, by first | (rw [gds_skip (by omega) (by unfold goodI; omega)]; exact hs37) | (rw [gds_in (by omega) (by unfold goodI; omega)]; exact hs37), by first | (rw [gds_skip (by omega) (by unfold goodI; omega)]; exact hs42) | (rw [gds_in (by omega) (by unfold goodI; omega), laidsB_app]; exact hs42), by first | (rw [gds_skip (by omega) (by unfold goodI; omega)]; exact hs39) | (rw [gds_in (by omega) (by unfold goodI; omega), ats_app]; exact hs39)⟩ (by (try dsimp only); omega)
                ·
                  refine gno rfl (by simp) ?_
                  refine gnol rfl (by simp) ?_
                  refine gno rfl (by simp) ?_
                  refine gno rfl (by simp) ?_
                  refine splitU rfl ?_
                  refine gnou rfl ?_
                  refine gnolu rfl ?_
                  refine gnou rfl ?_
                  refine gno rfl (by simp) ?_
                  refine stg rfl (v := .bool false) (o_pickF rfl rfl) ?_
                  refine stp (v := .bool false) (o_pickF rfl rfl) ?_
                  refine h28 _ _ ?_
                  clear h28
                  refine cndF rfl ?_
                  refine h27 _ _ ?_
                  clear h27
                  refine seq fun K43 h43 => ?_
                  refine stp (v := y3_) (o_mv rfl) ?_
                  refine m_ldA (l := [.int .i64 ((l.getD i iz).kind), .int .i64 ((l.getD i iz).v), .int .i64 ((l.getD i iz).n), .string (str ((l.getD i iz).s))]) hM26 (i := 3) (j := 0) rfl rfl rfl rfl rfl ?_
                  refine m_app1S (enc := itmC) (q := (l.getD i iz)) hM26 (i := 0) rfl hy3_ rfl (by simp) (rfl) rfl (by first | omega | (simp; omega)) (by omega) fun v44 w44 r44 u44 (hs44 : SlS itmC 4 65 v44 ((gds l i) ++ [(l.getD i iz)]) r44) (hM44 : Mem w [] w44 [r44, r4_, r5_, [⟨b24, 65, [.int .i64 ((l.getD i iz).kind), .int .i64 ((l.getD i iz).v), .int .i64 ((l.getD i iz).n), .string (str ((l.getD i iz).s))]⟩]]) => ?_
                  refine stp (v := v44) (o_mv rfl) ?_
                  refine h43 _ _ ?_
                  clear h43
                  refine seq fun K45 h45 => ?_
                  refine stp (v := y5_) (o_mv rfl) ?_
                  refine stp (v := y4_) (o_mv rfl) ?_
                  refine stp (v := .int .i64 ((laidsB (gds l i)).length : Nat)) (o_lenR (hy4_.rd hM44 (i := 1) rfl) rfl rfl) ?_
                  refine m_app1 (E := i64V) (q := (((laidsB (gds l i)).length : Nat) : Int)) hM44 (i := 2) rfl hy5_ rfl (by simp) (rfl) (by omega) (by omega) fun v46 w46 r46 u46 (hs46 : SlE i64V 3 v46 ((ats (gds l i)) ++ [(((laidsB (gds l i)).length : Nat) : Int)]) r46) (hM46 : Mem w [] w46 [r44, r4_, r46, [⟨b24, 65, [.int .i64 ((l.getD i iz).kind), .int .i64 ((l.getD i iz).v), .int .i64 ((l.getD i iz).n), .string (str ((l.getD i iz).s))]⟩]]) => ?_
                  refine stp (v := v46) (o_mv rfl) ?_
                  refine h45 _ _ ?_
                  clear h45
                  refine seq fun K47 h47 => ?_
                  refine m_ldA (l := [.int .i64 ((l.getD i iz).kind), .int .i64 ((l.getD i iz).v), .int .i64 ((l.getD i iz).n), .string (str ((l.getD i iz).s))]) hM46 (i := 3) (j := 0) rfl rfl rfl rfl rfl ?_
                  refine m_call (laid_ok (l.getD i iz) w46 (hok _ (getD_memG iz (by omega)))) rfl fun v48 w48 ⟨rs48, hs48, hm48⟩ => ?_
                  have hM48 : Mem w [] w48 [r44, r4_, r46, [⟨b24, 65, [.int .i64 ((l.getD i iz).kind), .int .i64 ((l.getD i iz).v), .int .i64 ((l.getD i iz).n), .string (str ((l.getD i iz).s))]⟩], rs48] := hM46.add hm48
                  refine stp (v := v48) (o_mv rfl) ?_
                  refine h47 _ _ ?_
                  clear h47
                  refine stp (v := y4_) (o_mv rfl) ?_
                  refine stp (v := v48) (o_mv rfl) ?_
                  refine m_appE hM48 (i := 1) rfl hy4_ rfl rfl (hs48.rd hM48 (i := 4) rfl) (by have h1 := laid_len (hok _ (getD_memG iz (i := i) (l := l) (by omega))) (by unfold goodI; omega); have h2 := (hok _ (getD_memG iz (i := i) (l := l) (by omega))).2.2.2; omega) (by omega) fun v49 w49 r49 (hs49 : SlE byteV 5 v49 ((laidsB (gds l i)) ++ (laidB (l.getD i iz))) r49) (hM49 : Mem w [] w49 [r44, r49, r46, [⟨b24, 65, [.int .i64 ((l.getD i iz).kind), .int .i64 ((l.getD i iz).v), .int .i64 ((l.getD i iz).n), .string (str ((l.getD i iz).s))]⟩], rs48]) => ?_
                  refine stp (v := v49) (o_mv rfl) ?_
                  refine h21 _ _ ?_
                  clear h21
                  refine stp (v := .int .i64 (i : Nat)) (o_mv rfl) ?_
                  refine stp (v := .int .i64 ((i : Nat) + 1)) (o_bin rfl rfl (v_add64 (by constructor <;> omega))) ?_
                  refine stp (v := .int .i64 ((i : Nat) + 1)) (o_mv rfl) ?_
                  refine h17 (i + 1, v44, r44, v49, r49, v46, r46) _ _ ⟨rfl, rfl, rfl, by first | rfl | exact v_int (by omega) | exact v_int (by simp) | exact v_int (by simp; omega), rfl, hM49.keep (by simp), by omega, by first | (rw [gds_skip (by omega) (by unfold goodI; omega)]; exact hs44) | (rw [gds_in (by omega) (by unfold goodI; omega)]; exact hs44), by first | (rw [gds_skip (by omega) (by unfold goodI; omega)]; exact hs49) | (rw [gds_in (by omega) (by unfold goodI; omega), laidsB_app]; exact hs49), by first | (rw [gds_skip (by omega) (by unfold goodI; omega)]; exact hs46) | (rw [gds_in (by omega) (by unfold goodI; omega), ats_app]; exact hs46)⟩ (by (try dsimp only); omega)
            ·
              refine gno rfl (by simp) ?_
              refine gnol rfl (by simp) ?_
              refine gno rfl (by simp) ?_
              refine stg rfl (v := .bool false) (o_pickF rfl rfl) ?_
              refine stp (v := .bool false) (o_pickF rfl rfl) ?_
              refine stp (v := .bool false) (o_mv rfl) ?_
              refine splitF rfl ?_
              refine stg rfl (v := .pointer (some ⟨b24, 0, none⟩)) (o_fa rfl rfl) ?_
              refine gyesl rfl ?_
              refine m_ld (v := .int .i64 ((l.getD i iz).kind)) hM26 (i := 3) (j := 0) rfl rfl rfl rfl ?_
              refine stg rfl (v := .bool (decide (((l.getD i iz).kind) = 1))) (o_bin rfl rfl rfl) ?_
              refine stg rfl (v := .bool (decide (((l.getD i iz).kind) = 1))) (o_mv rfl) ?_
              refine splitP rfl (fun c50 => ?_) (fun c50 => ?_)
              ·
                refine stg rfl (v := .pointer (some ⟨b24, 2, none⟩)) (o_fa rfl rfl) ?_
                refine gyesl rfl ?_
                refine m_ld (v := .int .i64 ((l.getD i iz).n)) hM26 (i := 3) (j := 0) rfl rfl rfl rfl ?_
                refine stg rfl (v := .bool (decide (((l.getD i iz).n) < 1))) (o_bin rfl rfl rfl) ?_
                refine stg rfl (v := .bool (decide (((l.getD i iz).n) < 1))) (o_mv rfl) ?_
                refine splitP rfl (fun c51 => ?_) (fun c51 => ?_)
                ·
                  refine gno rfl (by simp) ?_
                  refine gnol rfl (by simp) ?_
                  refine gno rfl (by simp) ?_
                  refine stg rfl (v := .bool true) (o_pickT rfl rfl) ?_
                  refine stg rfl (v := .bool true) (o_pickT rfl rfl) ?_
                  refine stp (v := .bool true) (o_pickF rfl rfl) ?_
                  refine h28 _ _ ?_
                  clear h28
                  refine cndT rfl ?_
                  refine h21 _ _ ?_
                  clear h21
                  refine stp (v := .int .i64 (i : Nat)) (o_mv rfl) ?_
                  refine stp (v := .int .i64 ((i : Nat) + 1)) (o_bin rfl rfl (v_add64 (by constructor <;> omega))) ?_
                  refine stp (v := .int .i64 ((i : Nat) + 1)) (o_mv rfl) ?_
                  refine h17 (i + 1, y3_, r3_, y4_, r4_, y5_, r5_) _ _ ⟨rfl, rfl, rfl, by first | rfl | exact v_int (by omega) | exact v_int (by simp) | exact v_int (by simp; omega), rfl, hM26.keep (by simp), by omega, by first | (rw [gds_skip (by omega) (by unfold goodI; omega)]; exact hy3_) | (rw [gds_in (by omega) (by unfold goodI; omega)]; exact hy3_), by first | (rw [gds_skip (by omega) (by unfold goodI; omega)]; exact hy4_) | (rw [gds_in (by omega) (by unfold goodI; omega), laidsB_app]; exact hy4_), by first | (rw [gds_skip (by omega) (by unfold goodI; omega)]; exact hy5_) | (rw [gds_in (by omega) (by unfold goodI; omega), ats_app]; exact hy5_)⟩ (by (try dsimp only); omega)
                ·
                  refine stg rfl (v := .pointer (some ⟨b24, 2, none⟩)) (o_fa rfl rfl) ?_
                  refine gyesl rfl ?_
                  refine m_ld (v := .int .i64 ((l.getD i iz).n)) hM26 (i := 3) (j := 0) rfl rfl rfl rfl ?_
                  refine stg rfl (v := .bool (decide ((8 : Int) < ((l.getD i iz).n)))) (o_bin rfl rfl rfl) ?_
                  refine stg rfl (v := .bool (decide ((8 : Int) < ((l.getD i iz).n)))) (o_pickF rfl rfl) ?_
                  refine stg rfl (v := .bool (decide ((8 : Int) < ((l.getD i iz).n)))) (o_pickT rfl rfl) ?_
                  refine stp (v := .bool (decide ((8 : Int) < ((l.getD i iz).n)))) (o_pickF rfl rfl) ?_
                  refine h28 _ _ ?_
                  clear h28
                  refine cndP rfl (fun c52 => ?_) (fun c52 => ?_)
                  ·
                    refine h21 _ _ ?_
                    clear h21
                    refine stp (v := .int .i64 (i : Nat)) (o_mv rfl) ?_
                    refine stp (v := .int .i64 ((i : Nat) + 1)) (o_bin rfl rfl (v_add64 (by constructor <;> omega))) ?_
                    refine stp (v := .int .i64 ((i : Nat) + 1)) (o_mv rfl) ?_
                    refine h17 (i + 1, y3_, r3_, y4_, r4_, y5_, r5_) _ _ ⟨rfl, rfl, rfl, by first | rfl | exact v_int (by omega) | exact v_int (by simp) | exact v_int (by simp; omega), rfl, hM26.keep (by simp), by omega, by first | (rw [gds_skip (by omega) (by unfold goodI; omega)]; exact hy3_) | (rw [gds_in (by omega) (by unfold goodI; omega)]; exact hy3_), by first | (rw [gds_skip (by omega) (by unfold goodI; omega)]; exact hy4_) | (rw [gds_in (by omega) (by unfold goodI; omega), laidsB_app]; exact hy4_), by first | (rw [gds_skip (by omega) (by unfold goodI; omega)]; exact hy5_) | (rw [gds_in (by omega) (by unfold goodI; omega), ats_app]; exact hy5_)⟩ (by (try dsimp only); omega)
                  ·
                    refine h27 _ _ ?_
                    clear h27
                    refine seq fun K53 h53 => ?_
                    refine stp (v := y3_) (o_mv rfl) ?_
                    refine m_ldA (l := [.int .i64 ((l.getD i iz).kind), .int .i64 ((l.getD i iz).v), .int .i64 ((l.getD i iz).n), .string (str ((l.getD i iz).s))]) hM26 (i := 3) (j := 0) rfl rfl rfl rfl rfl ?_
                    refine m_app1S (enc := itmC) (q := (l.getD i iz)) hM26 (i := 0) rfl hy3_ rfl (by simp) (rfl) rfl (by first | omega | (simp; omega)) (by omega) fun v54 w54 r54 u54 (hs54 : SlS itmC 4 65 v54 ((gds l i) ++ [(l.getD i iz)]) r54) (hM54 : Mem w [] w54 [r54, r4_, r5_, [⟨b24, 65, [.int .i64 ((l.getD i iz).kind), .int .i64 ((l.getD i iz).v), .int .i64 ((l.getD i iz).n), .string (str ((l.getD i iz).s))]⟩]]) => ?_
                    refine stp (v := v54) (o_mv rfl) ?_
                    refine h53 _ _ ?_
                    clear h53
                    refine seq fun K55 h55 => ?_
                    refine stp (v := y5_) (o_mv rfl) ?_
                    refine stp (v := y4_) (o_mv rfl) ?_
                    refine stp (v := .int .i64 ((laidsB (gds l i)).length : Nat)) (o_lenR (hy4_.rd hM54 (i := 1) rfl) rfl rfl) ?_
                    refine m_app1 (E := i64V) (q := (((laidsB (gds l i)).length : Nat) : Int)) hM54 (i := 2) rfl hy5_ rfl (by simp) (rfl) (by omega) (by omega) fun v56 w56 r56 u56 (hs56 : SlE i64V 3 v56 ((ats (gds l i)) ++ [(((laidsB (gds l i)).length : Nat) : Int)]) r56) (hM56 : Mem w [] w56 [r54, r4_, r56, [⟨b24, 65, [.int .i64 ((l.getD i iz).kind), .int .i64 ((l.getD i iz).v), .int .i64 ((l.getD i iz).n), .string (str ((l.getD i iz).s))]⟩]]) => ?_
                    refine stp (v := v56) (o_mv rfl) ?_
                    refine h55 _ _ ?_
                    clear h55
                    refine seq fun K57 h57 => ?_
                    refine m_ldA (l := [.int .i64 ((l.getD i iz).kind), .int .i64 ((l.getD i iz).v), .int .i64 ((l.getD i iz).n), .string (str ((l.getD i iz).s))]) hM56 (i := 3) (j := 0) rfl rfl rfl rfl rfl ?_
                    refine m_call (laid_ok (l.getD i iz) w56 (hok _ (getD_memG iz (by omega)))) rfl fun v58 w58 ⟨rs58, hs58, hm58⟩ => ?_
                    have hM58 : Mem w [] w58 [r54, r4_, r56, [⟨b24, 65, [.int .i64 ((l.getD i iz).kind), .int .i64 ((l.getD i iz).v), .int .i64 ((l.getD i iz).n), .string (str ((l.getD i iz).s))]⟩], rs58] := hM56.add hm58
                    refine stp (v := v58) (o_mv rfl) ?_
                    refine h57 _ _ ?_
                    clear h57
                    refine stp (v := y4_) (o_mv rfl) ?_
                    refine stp (v := v58) (o_mv rfl) ?_
                    refine m_appE hM58 (i := 1) rfl hy4_ rfl rfl (hs58.rd hM58 (i := 4) rfl) (by have h1 := laid_len (hok _ (getD_memG iz (i := i) (l := l) (by omega))) (by unfold goodI; omega); have h2 := (hok _ (getD_memG iz (i := i) (l := l) (by omega))).2.2.2; omega) (by omega) fun v59 w59 r59 (hs59 : SlE byteV 5 v59 ((laidsB (gds l i)) ++ (laidB (l.getD i iz))) r59) (hM59 : Mem w [] w59 [r54, r59, r56, [⟨b24, 65, [.int .i64 ((l.getD i iz).kind), .int .i64 ((l.getD i iz).v), .int .i64 ((l.getD i iz).n), .string (str ((l.getD i iz).s))]⟩], rs58]) => ?_
                    refine stp (v := v59) (o_mv rfl) ?_
                    refine h21 _ _ ?_
                    clear h21
                    refine stp (v := .int .i64 (i : Nat)) (o_mv rfl) ?_
                    refine stp (v := .int .i64 ((i : Nat) + 1)) (o_bin rfl rfl (v_add64 (by constructor <;> omega))) ?_
                    refine stp (v := .int .i64 ((i : Nat) + 1)) (o_mv rfl) ?_
                    refine h17 (i + 1, v54, r54, v59, r59, v56, r56) _ _ ⟨rfl, rfl, rfl, by first | rfl | exact v_int (by omega) | exact v_int (by simp) | exact v_int (by simp; omega), rfl, hM59.keep (by simp), by omega, by first | (rw [gds_skip (by omega) (by unfold goodI; omega)]; exact hs54) | (rw [gds_in (by omega) (by unfold goodI; omega)]; exact hs54), by first | (rw [gds_skip (by omega) (by unfold goodI; omega)]; exact hs59) | (rw [gds_in (by omega) (by unfold goodI; omega), laidsB_app]; exact hs59), by first | (rw [gds_skip (by omega) (by unfold goodI; omega)]; exact hs56) | (rw [gds_in (by omega) (by unfold goodI; omega), ats_app]; exact hs56)⟩ (by (try dsimp only); omega)
              ·
                refine gno rfl (by simp) ?_
                refine gnol rfl (by simp) ?_
                refine gno rfl (by simp) ?_
                refine gno rfl (by simp) ?_
                refine splitU rfl ?_
                refine gnou rfl ?_
                refine gnolu rfl ?_
                refine gnou rfl ?_
                refine gno rfl (by simp) ?_
                refine stg rfl (v := .bool false) (o_pickF rfl rfl) ?_
                refine stp (v := .bool false) (o_pickF rfl rfl) ?_
                refine h28 _ _ ?_
                clear h28
                refine cndF rfl ?_
                refine h27 _ _ ?_
                clear h27
                refine seq fun K60 h60 => ?_
                refine stp (v := y3_) (o_mv rfl) ?_
                refine m_ldA (l := [.int .i64 ((l.getD i iz).kind), .int .i64 ((l.getD i iz).v), .int .i64 ((l.getD i iz).n), .string (str ((l.getD i iz).s))]) hM26 (i := 3) (j := 0) rfl rfl rfl rfl rfl ?_
                refine m_app1S (enc := itmC) (q := (l.getD i iz)) hM26 (i := 0) rfl hy3_ rfl (by simp) (rfl) rfl (by first | omega | (simp; omega)) (by omega) fun v61 w61 r61 u61 (hs61 : SlS itmC 4 65 v61 ((gds l i) ++ [(l.getD i iz)]) r61) (hM61 : Mem w [] w61 [r61, r4_, r5_, [⟨b24, 65, [.int .i64 ((l.getD i iz).kind), .int .i64 ((l.getD i iz).v), .int .i64 ((l.getD i iz).n), .string (str ((l.getD i iz).s))]⟩]]) => ?_
                refine stp (v := v61) (o_mv rfl) ?_
                refine h60 _ _ ?_
                clear h60
                refine seq fun K62 h62 => ?_
                refine stp (v := y5_) (o_mv rfl) ?_
                refine stp (v := y4_) (o_mv rfl) ?_
                refine stp (v := .int .i64 ((laidsB (gds l i)).length : Nat)) (o_lenR (hy4_.rd hM61 (i := 1) rfl) rfl rfl) ?_
                refine m_app1 (E := i64V) (q := (((laidsB (gds l i)).length : Nat) : Int)) hM61 (i := 2) rfl hy5_ rfl (by simp) (rfl) (by omega) (by omega) fun v63 w63 r63 u63 (hs63 : SlE i64V 3 v63 ((ats (gds l i)) ++ [(((laidsB (gds l i)).length : Nat) : Int)]) r63) (hM63 : Mem w [] w63 [r61, r4_, r63, [⟨b24, 65, [.int .i64 ((l.getD i iz).kind), .int .i64 ((l.getD i iz).v), .int .i64 ((l.getD i iz).n), .string (str ((l.getD i iz).s))]⟩]]) => ?_
                refine stp (v := v63) (o_mv rfl) ?_
                refine h62 _ _ ?_
                clear h62
                refine seq fun K64 h64 => ?_
                refine m_ldA (l := [.int .i64 ((l.getD i iz).kind), .int .i64 ((l.getD i iz).v), .int .i64 ((l.getD i iz).n), .string (str ((l.getD i iz).s))]) hM63 (i := 3) (j := 0) rfl rfl rfl rfl rfl ?_
                refine m_call (laid_ok (l.getD i iz) w63 (hok _ (getD_memG iz (by omega)))) rfl fun v65 w65 ⟨rs65, hs65, hm65⟩ => ?_
                have hM65 : Mem w [] w65 [r61, r4_, r63, [⟨b24, 65, [.int .i64 ((l.getD i iz).kind), .int .i64 ((l.getD i iz).v), .int .i64 ((l.getD i iz).n), .string (str ((l.getD i iz).s))]⟩], rs65] := hM63.add hm65
                refine stp (v := v65) (o_mv rfl) ?_
                refine h64 _ _ ?_
                clear h64
                refine stp (v := y4_) (o_mv rfl) ?_
                refine stp (v := v65) (o_mv rfl) ?_
                refine m_appE hM65 (i := 1) rfl hy4_ rfl rfl (hs65.rd hM65 (i := 4) rfl) (by have h1 := laid_len (hok _ (getD_memG iz (i := i) (l := l) (by omega))) (by unfold goodI; omega); have h2 := (hok _ (getD_memG iz (i := i) (l := l) (by omega))).2.2.2; omega) (by omega) fun v66 w66 r66 (hs66 : SlE byteV 5 v66 ((laidsB (gds l i)) ++ (laidB (l.getD i iz))) r66) (hM66 : Mem w [] w66 [r61, r66, r63, [⟨b24, 65, [.int .i64 ((l.getD i iz).kind), .int .i64 ((l.getD i iz).v), .int .i64 ((l.getD i iz).n), .string (str ((l.getD i iz).s))]⟩], rs65]) => ?_
                refine stp (v := v66) (o_mv rfl) ?_
                refine h21 _ _ ?_
                clear h21
                refine stp (v := .int .i64 (i : Nat)) (o_mv rfl) ?_
                refine stp (v := .int .i64 ((i : Nat) + 1)) (o_bin rfl rfl (v_add64 (by constructor <;> omega))) ?_
                refine stp (v := .int .i64 ((i : Nat) + 1)) (o_mv rfl) ?_
                refine h17 (i + 1, v61, r61, v66, r66, v63, r63) _ _ ⟨rfl, rfl, rfl, by first | rfl | exact v_int (by omega) | exact v_int (by simp) | exact v_int (by simp; omega), rfl, hM66.keep (by simp), by omega, by first | (rw [gds_skip (by omega) (by unfold goodI; omega)]; exact hs61) | (rw [gds_in (by omega) (by unfold goodI; omega)]; exact hs61), by first | (rw [gds_skip (by omega) (by unfold goodI; omega)]; exact hs66) | (rw [gds_in (by omega) (by unfold goodI; omega), laidsB_app]; exact hs66), by first | (rw [gds_skip (by omega) (by unfold goodI; omega)]; exact hs63) | (rw [gds_in (by omega) (by unfold goodI; omega), ats_app]; exact hs63)⟩ (by (try dsimp only); omega)
      ·
        refine h11 _ _ ?_
        clear h11
        refine seq fun K67 h67 => ?_
        refine stp (v := y4_) (o_mv rfl) ?_
        have hie : i = l.length := by omega
        have hLg := gds_good (l := l) (i := i)
        have hLo := gds_ok (i := i) hok
        have hgl := gds_len l i
        have hga := ats_len (gds l i)
        have hgb := gds_bytes hok (i := i) (by omega)
        have hmo := sumI_mono l (i := i) (j := l.length) (by omega) (by omega)
        have hge := sumI_ge l l.length
        have hbc := hbb (by simpa using hbF)
        have hoa := offs_all (gds l i)
        refine m_call (NewCursor_ok _ (laidsB (gds l i)) w16 (hy4_.rd hM16 (i := 1) rfl) (by first | omega | (simp; done) | (simp; omega))) rfl fun v68 w68 ⟨bc68, rs68, hr68, hc68, hm68⟩ => ?_
        have hM68 : Mem w [] w68 [r3_, r4_, r5_, rs68] := hM16.add hm68
        subst hr68
        refine stp (v := .pointer (some ⟨bc68, 0, none⟩)) (o_mv rfl) ?_
        refine h67 _ _ ?_
        clear h67
        refine seq fun K69 h69 => ?_
        refine seq fun K70 h70 => ?_
        refine stp (v := .int .i64 0) (o_mv rfl) ?_
        refine h70 _ _ ?_
        clear h70
        refine lp (n := fun _ _ => False) (ι := (Nat) × (List Ent)) (fun ⟨j, rc9⟩ f w' => f 10 = .int .i64 (j : Nat) ∧ f 9 = .pointer (some ⟨bc68, 0, none⟩) ∧ f 3 = y3_ ∧ f 4 = y4_ ∧ f 5 = y5_ ∧ Mem w [] w' [r3_, r4_, r5_, rc9] ∧ (CurS bc68 (laidsB (gds l i)) (offs (gds l i) j) 0 rc9) ∧ (j ≤ (gds l i).length)) (fun ⟨j, rc9⟩ => (gds l i).length - j) (0, rs68) ?_ ?_
        · exact ⟨by first | rfl | exact v_int (by omega) | exact v_int (by simp) | exact v_int (by simp; omega), rfl, rfl, rfl, rfl, hM68, hc68, by omega⟩
        · rintro ⟨j, rc9⟩ f w71 ⟨e71_10, e71_9, e71_3, e71_4, e71_5, hM71, hcl9, hj9⟩ K72 h72
          obtain ⟨frm, rfl⟩ : ∃ frm, f = (upd (upd (upd (upd (upd frm 10 (.int .i64 (j : Nat))) 9 (.pointer (some ⟨bc68, 0, none⟩))) 3 (y3_)) 4 (y4_)) 5 (y5_)) := ⟨f, by rw [upd_self e71_10, upd_self e71_9, upd_self e71_3, upd_self e71_4, upd_self e71_5]⟩
          clear e71_10 e71_9 e71_3 e71_4 e71_5
          refine seq fun K73 h73 => ?_
          refine seq fun K74 h74 => ?_
          refine stp (v := .int .i64 (j : Nat)) (o_mv rfl) ?_
          refine stp (v := y3_) (o_mv rfl) ?_
          refine stp (v := .int .i64 ((gds l i).length : Nat)) (o_lenR (hy3_.rd hM71 (i := 0) rfl) rfl rfl) ?_
          refine stp (v := .bool (decide (((j : Nat) : Int) < ((gds l i).length : Nat)))) (o_bin rfl rfl rfl) ?_
          refine h74 _ _ ?_
          clear h74
          refine cndP rfl (fun c75 => ?_) (fun c75 => ?_)
          ·
            refine h73 _ _ ?_
            clear h73
            refine seq fun K76 h76 => ?_
            refine seq fun K77 h77 => ?_
            intro wd e1 e2 e3 e4
            have hd := Upd.same e1 e2 e3 e4 []
            have hM78 := hM71.pure hd
            clear e1 e2 e3 e4
            refine ⟨(some [(blkV y5_)]), ?_⟩
            show vd _ _ _ _ _ _ _
            refine dq (v := .pointer (some ⟨bc68, 0, none⟩)) (o_mv rfl) ?_
            refine dq (v := y4_) (o_mv rfl) ?_
            refine dq (v := .int .i64 ((laidsB (gds l i)).length : Nat)) (o_lenR (hy4_.rd hM78 (i := 1) rfl) rfl rfl) ?_
            refine dq (v := y5_) (o_mv rfl) ?_
            refine dq (v := .int .i64 (j : Nat)) (o_mv rfl) ?_
            refine dqp (m_idxE3 0 (j := j) (hy5_.rd hM78 (i := 2) rfl) (hy5_.rd hM78 (i := 2) rfl) rfl rfl (by omega) fun b79 o79 hp79 hbb79 => ?_)
            show vd _ _ _ _ _ _ _
            subst hbb79
            refine dqld rfl (by simp [isHeld]) (v := .int .i64 ((ats (gds l i)).getD j 0)) (hp79) ?_
            have hat := ats_getD (l := gds l i) (i := j) (by omega)
            have hof := offs_le (gds l i) j
            refine dq (v := .int .i64 (((laidsB (gds l i)).length : Nat) - ((ats (gds l i)).getD j 0))) (o_bin rfl rfl (v_sub64 (by constructor <;> omega))) ?_
            refine dl (m_call (Rest_ok _ (laidsB (gds l i)) (offs (gds l i) j) 0 rc9 wd hcl9 (hM78.res (i := 3) rfl) (by first | omega | (simp; done) | (simp; omega))) rfl fun v80 w80 ⟨hr80, hm80⟩ => ?_)
            have hM80 : Mem w [] w80 [r3_, r4_, r5_, rc9] := hM78.step 3 rfl hm80
            subst hr80
            have hh80 := held_upd (wr := wd) (bs := [(blkV y5_)]) hm80.upd (fun b hb => by
              simp only [List.mem_cons, List.not_mem_nil, or_false] at hb
              rw [hb]; exact ⟨Rd.blkV_lt (hy5_.rd hM78 (i := 2) rfl) (by omega), hy5_.blk_apart hM78 (i := 2) (k := 3) rfl rfl (by decide) (by omega)⟩) (fun b hb => rfl)
            refine ⟨hh80, ?_⟩
            refine dq (v := .bool (decide (¬ (restV (laidsB (gds l i)) (offs (gds l i) j) 0) = (((laidsB (gds l i)).length : Nat) - ((ats (gds l i)).getD j 0))))) (o_bin rfl rfl v_neq) ?_
            refine dq (v := .bool (decide (¬ (restV (laidsB (gds l i)) (offs (gds l i) j) 0) = (((laidsB (gds l i)).length : Nat) - ((ats (gds l i)).getD j 0))))) (o_mv rfl) ?_
            refine dsplitP rfl (fun c81 => absurd c81 (by unfold restV; rw [if_pos rfl]; omega)) (fun c81 => ?_)
            refine dqg rfl (v := .pointer (some ⟨bc68, 0, none⟩)) (o_mv rfl) ?_
            refine dqg rfl (v := y3_) (o_mv rfl) ?_
            refine dqg rfl (v := .int .i64 (j : Nat)) (o_mv rfl) ?_
            refine dgyes rfl rfl (dqp (m_idxS iz (j := j) (hy3_.rd hM80 (i := 0) rfl) rfl rfl (by omega) fun b82 o82 hp82 => ?_))
            show vd _ _ _ _ _ _ _
            refine dgyesl rfl ?_
            refine dl (ldA (cs := [.int .i64 (((gds l i).getD j iz).kind), .int .i64 (((gds l i).getD j iz).v), .int .i64 (((gds l i).getD j iz).n), .string (str (((gds l i).getD j iz).s))]) rfl rfl (hp82.row (k := 0) rfl rfl) ?_)
            refine ⟨hh80, ?_⟩
            refine dgyesl rfl ?_
            refine dl (m_call (found_ok _ (laidsB (gds l i)) (offs (gds l i) j) 0 ((gds l i).getD j iz) rc9 w80 hcl9 (hM80.res (i := 3) rfl) (by first | omega | (simp; done) | (simp; omega)) (hLo _ (getD_memG iz (by omega))) (hLg _ (getD_memG iz (by omega)))) rfl fun v83 w83 ⟨hr83, r'83, hc83, hm83⟩ => ?_)
            have hM83 : Mem w [] w83 [r3_, r4_, r5_, r'83] := hM80.step 3 rfl hm83
            have hfe83 := found_in0 hLg hLo (show j < (gds l i).length by omega)
            rw [hfe83.1] at hr83
            rw [hfe83.2] at hc83
            subst hr83
            have hh83 := held_upd (wr := wd) (bs := [(blkV y5_)]) hm83.upd (fun b hb => by
              simp only [List.mem_cons, List.not_mem_nil, or_false] at hb
              rw [hb]; exact ⟨Rd.blkV_lt (hy5_.rd hM80 (i := 2) rfl) (by omega), hy5_.blk_apart hM80 (i := 2) (k := 3) rfl rfl (by decide) (by omega)⟩) hh80
            refine ⟨hh83, ?_⟩
            refine dqg rfl (v := .bool false) (o_not rfl rfl) ?_
            refine dq (v := .bool false) (o_pickF rfl rfl) ?_
            refine h77 _ _ ?_
            clear h77
            refine cndF rfl ?_
            refine h76 _ _ ?_
            clear h76
            refine stp (v := .int .i64 (j : Nat)) (o_mv rfl) ?_
            refine stp (v := .int .i64 ((j : Nat) + 1)) (o_bin rfl rfl (v_add64 (by constructor <;> omega))) ?_
            refine stp (v := .int .i64 ((j : Nat) + 1)) (o_mv rfl) ?_
            refine h72 (j + 1, r'83) _ _ ⟨by first | rfl | exact v_int (by omega) | exact v_int (by simp) | exact v_int (by simp; omega), rfl, rfl, rfl, rfl, hM83, hc83, by omega⟩ (by (try dsimp only); omega)
          ·
            refine h69 _ _ ?_
            clear h69
            refine seq fun K84 h84 => ?_
            refine seq fun K85 h85 => ?_
            refine stp (v := .pointer (some ⟨bc68, 0, none⟩)) (o_mv rfl) ?_
            have hE := end_0 (b := laidsB (gds l i)) (a := offs (gds l i) j) (by rw [show j = (gds l i).length by omega]; exact offs_all _)
            refine m_call (End_ok _ (laidsB (gds l i)) (offs (gds l i) j) 0 rc9 w71 hcl9 (hM71.res (i := 3) rfl)) rfl fun v86 w86 ⟨hr86, hm86⟩ => ?_
            have hM86 : Mem w [] w86 [r3_, r4_, r5_, rc9] := hM71.step 3 rfl hm86
            subst hr86
            refine stp (v := .agg ([.int .i64 0, .int .i64 0] : List Value).toArray) (o_bld rfl rfl) ?_
            refine stp (v := .bool (!(decide ((endE (laidsB (gds l i)) (offs (gds l i) j) 0) = 0) && (decide ((endA (laidsB (gds l i)) (offs (gds l i) j) 0 : Nat) = 0) && true)))) (o_aeq (t := (decide ((endE (laidsB (gds l i)) (offs (gds l i) j) 0) = 0) && (decide ((endA (laidsB (gds l i)) (offs (gds l i) j) 0 : Nat) = 0) && true))) rfl rfl (by simp [eqCs, eqC, toList_str, Int.natCast_inj]) rfl) ?_
            refine h85 _ _ ?_
            clear h85
            refine cnd rfl (fun c87 => absurd c87 (show ¬ (!(decide ((endE (laidsB (gds l i)) (offs (gds l i) j) 0) = 0) && (decide ((endA (laidsB (gds l i)) (offs (gds l i) j) 0 : Nat) = 0) && true))) = true from (by rw [hE.1, hE.2]; simp))) (fun c87 => ?_)
            refine h84 _ _ ?_
            clear h84
            refine seq fun K88 h88 => ?_
            refine stp (v := y4_) (o_mv rfl) ?_
            have hg89 := Gr.zero hy4_
            refine m_grow1 (E := byteV) (q := 0) hM86 (i := 1) rfl hg89 rfl (by simp) (rfl) (by first | omega | (simp; omega)) (by omega) fun v90 w90 r90 u90 hs90 (hM90 : Mem w [] w90 [r3_, r90, r5_, rc9]) => ?_
            refine m_call (NewCursor_ok _ ((laidsB (gds l i)) ++ (([]) ++ [0])) w90 (hs90.rdx hM90 (i := 1) rfl) (by first | omega | (simp; done) | (simp; omega))) rfl fun v91 w91 ⟨bc91, rs91, hr91, hc91, hm91⟩ => ?_
            have hM91 : Mem w [] w91 [r3_, r90, r5_, rc9, rs91] := hM90.add hm91
            subst hr91
            refine stp (v := .pointer (some ⟨bc91, 0, none⟩)) (o_mv rfl) ?_
            refine h88 _ _ ?_
            clear h88
            refine seq fun K92 h92 => ?_
            refine seq fun K93 h93 => ?_
            refine stp (v := .int .i64 0) (o_mv rfl) ?_
            refine h93 _ _ ?_
            clear h93
            refine lp (n := fun _ _ => False) (ι := (Nat) × (List Ent)) (fun ⟨j, rc11⟩ f w' => f 12 = .int .i64 (j : Nat) ∧ f 11 = .pointer (some ⟨bc91, 0, none⟩) ∧ f 3 = y3_ ∧ f 4 = y4_ ∧ f 5 = y5_ ∧ Mem w [] w' [r3_, r90, r5_, rc9, rc11] ∧ (CurS bc91 (laidsB (gds l i) ++ [0]) (offs (gds l i) j) 0 rc11) ∧ (j ≤ (gds l i).length)) (fun ⟨j, rc11⟩ => (gds l i).length - j) (0, rs91) ?_ ?_
            · exact ⟨by first | rfl | exact v_int (by omega) | exact v_int (by simp) | exact v_int (by simp; omega), rfl, rfl, rfl, rfl, hM91, hc91, by omega⟩
            · rintro ⟨j, rc11⟩ f w94 ⟨e94_12, e94_11, e94_3, e94_4, e94_5, hM94, hcl11, hj11⟩ K95 h95
              obtain ⟨frm, rfl⟩ : ∃ frm, f = (upd (upd (upd (upd (upd frm 12 (.int .i64 (j : Nat))) 11 (.pointer (some ⟨bc91, 0, none⟩))) 3 (y3_)) 4 (y4_)) 5 (y5_)) := ⟨f, by rw [upd_self e94_12, upd_self e94_11, upd_self e94_3, upd_self e94_4, upd_self e94_5]⟩
              clear e94_12 e94_11 e94_3 e94_4 e94_5
              refine seq fun K96 h96 => ?_
              refine seq fun K97 h97 => ?_
              refine stp (v := .int .i64 (j : Nat)) (o_mv rfl) ?_
              refine stp (v := y3_) (o_mv rfl) ?_
              refine stp (v := .int .i64 ((gds l i).length : Nat)) (o_lenR (hy3_.rd hM94 (i := 0) rfl) rfl rfl) ?_
              refine stp (v := .bool (decide (((j : Nat) : Int) < ((gds l i).length : Nat)))) (o_bin rfl rfl rfl) ?_
              refine h97 _ _ ?_
              clear h97
              refine cndP rfl (fun c98 => ?_) (fun c98 => ?_)
              ·
                refine h96 _ _ ?_
                clear h96
                refine seq fun K99 h99 => ?_
                refine stp (v := .pointer (some ⟨bc91, 0, none⟩)) (o_mv rfl) ?_
                refine stp (v := y3_) (o_mv rfl) ?_
                refine stp (v := .int .i64 (j : Nat)) (o_mv rfl) ?_
                refine m_idxS iz (j := j) (hy3_.rd hM94 (i := 0) rfl) rfl rfl (by omega) fun b100 o100 hp100 => ?_
                refine ldA (cs := [.int .i64 (((gds l i).getD j iz).kind), .int .i64 (((gds l i).getD j iz).v), .int .i64 (((gds l i).getD j iz).n), .string (str (((gds l i).getD j iz).s))]) rfl rfl (hp100.row (k := 0) rfl rfl) ?_
                refine m_call (found_ok _ (laidsB (gds l i) ++ [0]) (offs (gds l i) j) 0 ((gds l i).getD j iz) rc11 w94 hcl11 (hM94.res (i := 4) rfl) (by first | omega | (simp; done) | (simp; omega)) (hLo _ (getD_memG iz (by omega))) (hLg _ (getD_memG iz (by omega)))) rfl fun v101 w101 ⟨hr101, r'101, hc101, hm101⟩ => ?_
                have hM101 : Mem w [] w101 [r3_, r90, r5_, rc9, r'101] := hM94.step 4 rfl hm101
                have hfe101 := found_in hLg hLo (show j < (gds l i).length by omega) [0]
                rw [hfe101.1] at hr101
                rw [hfe101.2] at hc101
                subst hr101
                refine h99 _ _ ?_
                clear h99
                refine stp (v := .int .i64 (j : Nat)) (o_mv rfl) ?_
                refine stp (v := .int .i64 ((j : Nat) + 1)) (o_bin rfl rfl (v_add64 (by constructor <;> omega))) ?_
                refine stp (v := .int .i64 ((j : Nat) + 1)) (o_mv rfl) ?_
                refine h95 (j + 1, r'101) _ _ ⟨by first | rfl | exact v_int (by omega) | exact v_int (by simp) | exact v_int (by simp; omega), rfl, rfl, rfl, rfl, hM101, hc101, by omega⟩ (by (try dsimp only); omega)
              ·
                refine h92 _ _ ?_
                clear h92
                refine seq fun K102 h102 => ?_
                refine seq fun K103 h103 => ?_
                have hE2 := end_left (b := laidsB (gds l i) ++ [0]) (a := offs (gds l i) j) (by rw [show j = (gds l i).length by omega]; simp; omega)
                have hoj : offs (gds l i) j = (laidsB (gds l i)).length := by rw [show j = (gds l i).length by omega]; exact offs_all _
                refine stp (v := .pointer (some ⟨bc91, 0, none⟩)) (o_mv rfl) ?_
                refine m_call (End_ok _ (laidsB (gds l i) ++ [0]) (offs (gds l i) j) 0 rc11 w94 hcl11 (hM94.res (i := 4) rfl)) rfl fun v104 w104 ⟨hr104, hm104⟩ => ?_
                have hM104 : Mem w [] w104 [r3_, r90, r5_, rc9, rc11] := hM94.step 4 rfl hm104
                subst hr104
                refine stp (v := y4_) (o_mv rfl) ?_
                refine stp (v := .int .i64 ((laidsB (gds l i)).length : Nat)) (o_lenR ((hs90.rda hM104 (i := 1) rfl)) rfl rfl) ?_
                refine stp (v := .agg ([.int .i64 22, .int .i64 ((laidsB (gds l i)).length : Nat)] : List Value).toArray) (o_bld rfl rfl) ?_
                refine stp (v := .bool (!(decide ((endE (laidsB (gds l i) ++ [0]) (offs (gds l i) j) 0) = 22) && (decide ((endA (laidsB (gds l i) ++ [0]) (offs (gds l i) j) 0 : Nat) = ((laidsB (gds l i)).length : Nat)) && true)))) (o_aeq (t := (decide ((endE (laidsB (gds l i) ++ [0]) (offs (gds l i) j) 0) = 22) && (decide ((endA (laidsB (gds l i) ++ [0]) (offs (gds l i) j) 0 : Nat) = ((laidsB (gds l i)).length : Nat)) && true))) rfl rfl (by simp [eqCs, eqC, toList_str, Int.natCast_inj]) rfl) ?_
                refine h103 _ _ ?_
                clear h103
                refine cnd rfl (fun c105 => absurd c105 (show ¬ (!(decide ((endE (laidsB (gds l i) ++ [0]) (offs (gds l i) j) 0) = 22) && (decide ((endA (laidsB (gds l i) ++ [0]) (offs (gds l i) j) 0 : Nat) = ((laidsB (gds l i)).length : Nat)) && true))) = true from (by rw [hE2.1, hE2.2, hoj]; simp))) (fun c105 => ?_)
                refine h102 _ _ ?_
                clear h102
                refine seq fun K106 h106 => ?_
                refine seq fun K107 h107 => ?_
                refine stp (v := .int .i64 0) (o_mv rfl) ?_
                refine h107 _ _ ?_
                clear h107
                refine lp (n := fun _ _ => False) (ι := (Nat)) (fun n f w' => f 13 = .int .i64 (n : Nat) ∧ f 3 = y3_ ∧ f 4 = y4_ ∧ f 5 = y5_ ∧ Mem w [] w' [r3_, r90, r5_, rc9, rc11] ∧ (n ≤ (gds l i).length)) (fun n => (gds l i).length - n) (0) ?_ ?_
                · exact ⟨by first | rfl | exact v_int (by omega) | exact v_int (by simp) | exact v_int (by simp; omega), rfl, rfl, rfl, hM104, by omega⟩
                · rintro n f w108 ⟨e108_13, e108_3, e108_4, e108_5, hM108, hn⟩ K109 h109
                  obtain ⟨frm, rfl⟩ : ∃ frm, f = (upd (upd (upd (upd frm 13 (.int .i64 (n : Nat))) 3 (y3_)) 4 (y4_)) 5 (y5_)) := ⟨f, by rw [upd_self e108_13, upd_self e108_3, upd_self e108_4, upd_self e108_5]⟩
                  clear e108_13 e108_3 e108_4 e108_5
                  refine seq fun K110 h110 => ?_
                  refine seq fun K111 h111 => ?_
                  refine stp (v := .int .i64 (n : Nat)) (o_mv rfl) ?_
                  refine stp (v := y3_) (o_mv rfl) ?_
                  refine stp (v := .int .i64 ((gds l i).length : Nat)) (o_lenR (hy3_.rd hM108 (i := 0) rfl) rfl rfl) ?_
                  refine stp (v := .bool (decide (((n : Nat) : Int) < ((gds l i).length : Nat)))) (o_bin rfl rfl rfl) ?_
                  refine h111 _ _ ?_
                  clear h111
                  refine cndP rfl (fun c112 => ?_) (fun c112 => ?_)
                  ·
                    refine h110 _ _ ?_
                    clear h110
                    refine seq fun K113 h113 => ?_
                    refine seq fun K114 h114 => ?_
                    refine stp (v := y3_) (o_mv rfl) ?_
                    refine stp (v := .int .i64 (n : Nat)) (o_mv rfl) ?_
                    refine m_idxS iz (j := n) (hy3_.rd hM108 (i := 0) rfl) rfl rfl (by omega) fun b115 o115 hp115 => ?_
                    refine stp (v := .pointer (some ⟨b115, o115, none⟩)) (o_fa rfl rfl) ?_
                    refine ld (v := .int .i64 (((gds l i).getD n iz).kind)) rfl (hp115.get 0 rfl) ?_
                    refine stp (v := .bool (decide ((((gds l i).getD n iz).kind) = 0))) (o_bin rfl rfl rfl) ?_
                    refine stp (v := .bool (decide ((((gds l i).getD n iz).kind) = 0))) (o_mv rfl) ?_
                    refine splitP rfl (fun c116 => ?_) (fun c116 => ?_)
                    ·
                      refine stg rfl (v := y3_) (o_mv rfl) ?_
                      refine stg rfl (v := .int .i64 (n : Nat)) (o_mv rfl) ?_
                      refine gyes rfl rfl (m_idxS iz (j := n) (hy3_.rd hM108 (i := 0) rfl) rfl rfl (by omega) fun b117 o117 hp117 => ?_)
                      refine stg rfl (v := .pointer (some ⟨b117, o117 + 1, none⟩)) (o_fa rfl rfl) ?_
                      refine gyesl rfl ?_
                      refine ld (v := .int .i64 (((gds l i).getD n iz).v)) rfl (hp117.get 1 rfl) ?_
                      refine stg rfl (v := .bool (decide ((0 : Int) < (((gds l i).getD n iz).v)))) (o_bin rfl rfl rfl) ?_
                      refine stp (v := .bool (decide ((0 : Int) < (((gds l i).getD n iz).v)))) (o_pickT rfl rfl) ?_
                      refine h114 _ _ ?_
                      clear h114
                      refine cndP rfl (fun c118 => ?_) (fun c118 => ?_)
                      ·
                        refine seq fun K119 h119 => ?_
                        refine stp (v := y4_) (o_mv rfl) ?_
                        refine m_call (NewCursor_ok _ (laidsB (gds l i)) w108 ((hs90.rda hM108 (i := 1) rfl)) (by first | omega | (simp; done) | (simp; omega))) rfl fun v120 w120 ⟨bc120, rs120, hr120, hc120, hm120⟩ => ?_
                        have hM120 : Mem w [] w120 [r3_, r90, r5_, rc9, rc11, rs120] := hM108.add hm120
                        subst hr120
                        refine stp (v := .pointer (some ⟨bc120, 0, none⟩)) (o_mv rfl) ?_
                        refine h119 _ _ ?_
                        clear h119
                        refine seq fun K121 h121 => ?_
                        refine seq fun K122 h122 => ?_
                        refine stp (v := .int .i64 0) (o_mv rfl) ?_
                        refine h122 _ _ ?_
                        clear h122
                        refine lp (n := fun _ _ => False) (ι := (Nat) × (List Ent)) (fun ⟨k, rc14⟩ f w' => f 15 = .int .i64 (k : Nat) ∧ f 14 = .pointer (some ⟨bc120, 0, none⟩) ∧ f 3 = y3_ ∧ f 4 = y4_ ∧ f 5 = y5_ ∧ f 13 = .int .i64 (n : Nat) ∧ Mem w [] w' [r3_, r90, r5_, rc9, rc11, rc14] ∧ (CurS bc120 (laidsB (gds l i)) (offs (gds l i) k) 0 rc14) ∧ (k ≤ n)) (fun ⟨k, rc14⟩ => n - k) (0, rs120) ?_ ?_
                        · exact ⟨by first | rfl | exact v_int (by omega) | exact v_int (by simp) | exact v_int (by simp; omega), rfl, rfl, rfl, rfl, by first | rfl | exact v_int (by omega) | exact v_int (by simp) | exact v_int (by simp; omega), hM120, hc120, by omega⟩
                        · rintro ⟨k, rc14⟩ f w123 ⟨e123_15, e123_14, e123_3, e123_4, e123_5, e123_13, hM123, hcl14, hj14⟩ K124 h124
                          obtain ⟨frm, rfl⟩ : ∃ frm, f = (upd (upd (upd (upd (upd (upd frm 15 (.int .i64 (k : Nat))) 14 (.pointer (some ⟨bc120, 0, none⟩))) 3 (y3_)) 4 (y4_)) 5 (y5_)) 13 (.int .i64 (n : Nat))) := ⟨f, by rw [upd_self e123_15, upd_self e123_14, upd_self e123_3, upd_self e123_4, upd_self e123_5, upd_self e123_13]⟩
                          clear e123_15 e123_14 e123_3 e123_4 e123_5 e123_13
                          refine seq fun K125 h125 => ?_
                          refine seq fun K126 h126 => ?_
                          refine stp (v := .int .i64 (k : Nat)) (o_mv rfl) ?_
                          refine stp (v := .int .i64 (n : Nat)) (o_mv rfl) ?_
                          refine stp (v := .bool (decide (((k : Nat) : Int) < (n : Nat)))) (o_bin rfl rfl rfl) ?_
                          refine h126 _ _ ?_
                          clear h126
                          refine cndP rfl (fun c127 => ?_) (fun c127 => ?_)
                          ·
                            refine h125 _ _ ?_
                            clear h125
                            refine seq fun K128 h128 => ?_
                            refine stp (v := .pointer (some ⟨bc120, 0, none⟩)) (o_mv rfl) ?_
                            refine stp (v := y3_) (o_mv rfl) ?_
                            refine stp (v := .int .i64 (k : Nat)) (o_mv rfl) ?_
                            refine m_idxS iz (j := k) (hy3_.rd hM123 (i := 0) rfl) rfl rfl (by omega) fun b129 o129 hp129 => ?_
                            refine ldA (cs := [.int .i64 (((gds l i).getD k iz).kind), .int .i64 (((gds l i).getD k iz).v), .int .i64 (((gds l i).getD k iz).n), .string (str (((gds l i).getD k iz).s))]) rfl rfl (hp129.row (k := 0) rfl rfl) ?_
                            refine m_call (found_ok _ (laidsB (gds l i)) (offs (gds l i) k) 0 ((gds l i).getD k iz) rc14 w123 hcl14 (hM123.res (i := 5) rfl) (by first | omega | (simp; done) | (simp; omega)) (hLo _ (getD_memG iz (by omega))) (hLg _ (getD_memG iz (by omega)))) rfl fun v130 w130 ⟨hr130, r'130, hc130, hm130⟩ => ?_
                            have hM130 : Mem w [] w130 [r3_, r90, r5_, rc9, rc11, r'130] := hM123.step 5 rfl hm130
                            have hfe130 := found_in0 hLg hLo (show k < (gds l i).length by omega)
                            rw [hfe130.1] at hr130
                            rw [hfe130.2] at hc130
                            subst hr130
                            refine h128 _ _ ?_
                            clear h128
                            refine stp (v := .int .i64 (k : Nat)) (o_mv rfl) ?_
                            refine stp (v := .int .i64 ((k : Nat) + 1)) (o_bin rfl rfl (v_add64 (by constructor <;> omega))) ?_
                            refine stp (v := .int .i64 ((k : Nat) + 1)) (o_mv rfl) ?_
                            refine h124 (k + 1, r'130) _ _ ⟨by first | rfl | exact v_int (by omega) | exact v_int (by simp) | exact v_int (by simp; omega), rfl, rfl, rfl, rfl, by first | rfl | exact v_int (by omega) | exact v_int (by simp) | exact v_int (by simp; omega), hM130, hc130, by omega⟩ (by (try dsimp only); omega)
                          ·
                            refine h121 _ _ ?_
                            clear h121
                            refine seq fun K131 h131 => ?_
                            intro wd e1 e2 e3 e4
                            have hd := Upd.same e1 e2 e3 e4 []
                            have hM132 := hM123.pure hd
                            clear e1 e2 e3 e4
                            refine ⟨(some [(blkV y5_)]), ?_⟩
                            show vd _ _ _ _ _ _ _
                            refine dq (v := .pointer (some ⟨bc120, 0, none⟩)) (o_mv rfl) ?_
                            refine dq (v := y3_) (o_mv rfl) ?_
                            refine dq (v := .int .i64 (n : Nat)) (o_mv rfl) ?_
                            refine dqp (m_idxS iz (j := n) (hy3_.rd hM132 (i := 0) rfl) rfl rfl (by omega) fun b133 o133 hp133 => ?_)
                            show vd _ _ _ _ _ _ _
                            refine dq (v := .pointer (some ⟨b133, o133 + 1, none⟩)) (o_fa rfl rfl) ?_
                            refine dl (ld (v := .int .i64 (((gds l i).getD n iz).v)) rfl (hp133.get 1 rfl) ?_)
                            refine ⟨(fun b hb => rfl), ?_⟩
                            obtain ⟨hn1, hn2, hn3⟩ : cNum (laidsB (gds l i)) (offs (gds l i) k) 0 (((gds l i).getD n iz).v - 1) = 0 ∧ cNumA (laidsB (gds l i)) (offs (gds l i) k) 0 (((gds l i).getD n iz).v - 1) = offs (gds l i) n ∧ cNumE (laidsB (gds l i)) (offs (gds l i) k) 0 (((gds l i).getD n iz).v - 1) = 23 := by
                              rw [show k = n by omega]; exact much_in hLo (by omega) (by omega) (by omega)
                            have hv2 := (hLo _ (getD_memG iz (i := n) (l := gds l i) (by omega))).2.1
                            simp only [inK] at hv2
                            have hat := ats_getD (l := gds l i) (i := n) (by omega)
                            have hee := end_err (b := laidsB (gds l i)) (a := offs (gds l i) n) (e := 23) (by omega)
                            refine dq (v := .int .i64 ((((gds l i).getD n iz).v) - 1)) (o_bin rfl rfl (v_sub64 (by constructor <;> omega))) ?_
                            refine dl (m_call (Num_ok _ (laidsB (gds l i)) (offs (gds l i) k) 0 ((((gds l i).getD n iz).v) - 1) rc14 wd hcl14 (hM132.res (i := 5) rfl) (by first | omega | (simp; done) | (simp; omega))) rfl fun v134 w134 ⟨hr134, r'134, hc134, hm134⟩ => ?_)
                            have hM134 : Mem w [] w134 [r3_, r90, r5_, rc9, rc11, r'134] := hM132.step 5 rfl hm134
                            subst hr134
                            have hh134 := held_upd (wr := wd) (bs := [(blkV y5_)]) hm134.upd (fun b hb => by
                              simp only [List.mem_cons, List.not_mem_nil, or_false] at hb
                              rw [hb]; exact ⟨Rd.blkV_lt (hy5_.rd hM132 (i := 2) rfl) (by omega), hy5_.blk_apart hM132 (i := 2) (k := 5) rfl rfl (by decide) (by omega)⟩) (fun b hb => rfl)
                            refine ⟨hh134, ?_⟩
                            refine dq (v := .bool (decide (¬ (cNum (laidsB (gds l i)) (offs (gds l i) k) 0 ((((gds l i).getD n iz).v) - 1)) = 0))) (o_bin rfl rfl v_neq) ?_
                            refine dq (v := .bool (decide (¬ (cNum (laidsB (gds l i)) (offs (gds l i) k) 0 ((((gds l i).getD n iz).v) - 1)) = 0))) (o_mv rfl) ?_
                            refine dsplitP rfl (fun c135 => absurd c135 (fun h => h hn1)) (fun c135 => ?_)
                            refine dqg rfl (v := .pointer (some ⟨bc120, 0, none⟩)) (o_mv rfl) ?_
                            refine dqg rfl (v := y5_) (o_mv rfl) ?_
                            refine dqg rfl (v := .int .i64 (n : Nat)) (o_mv rfl) ?_
                            refine dgyes rfl rfl (dqp (m_idxE3 0 (j := n) (hy5_.rd hM134 (i := 2) rfl) (hy5_.rd hM132 (i := 2) rfl) rfl rfl (by omega) fun b136 o136 hp136 hbb136 => ?_))
                            show vd _ _ _ _ _ _ _
                            subst hbb136
                            refine dqgyes rfl rfl ?_
                            refine dqld rfl (by simp [isHeld]) (v := .int .i64 ((ats (gds l i)).getD n 0)) (hp136) ?_
                            refine dqg rfl (v := .agg ([.int .i64 23, .int .i64 ((ats (gds l i)).getD n 0)] : List Value).toArray) (o_bld rfl rfl) ?_
                            refine dgyesl rfl ?_
                            refine dl (m_call (End_ok _ (laidsB (gds l i)) (cNumA (laidsB (gds l i)) (offs (gds l i) k) 0 ((((gds l i).getD n iz).v) - 1)) (cNumE (laidsB (gds l i)) (offs (gds l i) k) 0 ((((gds l i).getD n iz).v) - 1)) r'134 w134 hc134 (hM134.res (i := 5) rfl)) rfl fun v137 w137 ⟨hr137, hm137⟩ => ?_)
                            have hM137 : Mem w [] w137 [r3_, r90, r5_, rc9, rc11, r'134] := hM134.step 5 rfl hm137
                            subst hr137
                            have hh137 := held_upd (wr := wd) (bs := [(blkV y5_)]) hm137.upd (fun b hb => by
                              simp only [List.mem_cons, List.not_mem_nil, or_false] at hb
                              rw [hb]; exact ⟨Rd.blkV_lt (hy5_.rd hM134 (i := 2) rfl) (by omega), hy5_.blk_apart hM134 (i := 2) (k := 5) rfl rfl (by decide) (by omega)⟩) hh134
                            refine ⟨hh137, ?_⟩
                            refine dqg rfl (v := .bool (!(decide ((endE (laidsB (gds l i)) (cNumA (laidsB (gds l i)) (offs (gds l i) k) 0 ((((gds l i).getD n iz).v) - 1)) (cNumE (laidsB (gds l i)) (offs (gds l i) k) 0 ((((gds l i).getD n iz).v) - 1))) = 23) && (decide ((endA (laidsB (gds l i)) (cNumA (laidsB (gds l i)) (offs (gds l i) k) 0 ((((gds l i).getD n iz).v) - 1)) (cNumE (laidsB (gds l i)) (offs (gds l i) k) 0 ((((gds l i).getD n iz).v) - 1)) : Nat) = ((ats (gds l i)).getD n 0)) && true)))) (o_aeq (t := (decide ((endE (laidsB (gds l i)) (cNumA (laidsB (gds l i)) (offs (gds l i) k) 0 ((((gds l i).getD n iz).v) - 1)) (cNumE (laidsB (gds l i)) (offs (gds l i) k) 0 ((((gds l i).getD n iz).v) - 1))) = 23) && (decide ((endA (laidsB (gds l i)) (cNumA (laidsB (gds l i)) (offs (gds l i) k) 0 ((((gds l i).getD n iz).v) - 1)) (cNumE (laidsB (gds l i)) (offs (gds l i) k) 0 ((((gds l i).getD n iz).v) - 1)) : Nat) = ((ats (gds l i)).getD n 0)) && true))) rfl rfl (by simp [eqCs, eqC, toList_str, Int.natCast_inj]) rfl) ?_
                            refine dq (v := .bool (!(decide ((endE (laidsB (gds l i)) (cNumA (laidsB (gds l i)) (offs (gds l i) k) 0 ((((gds l i).getD n iz).v) - 1)) (cNumE (laidsB (gds l i)) (offs (gds l i) k) 0 ((((gds l i).getD n iz).v) - 1))) = 23) && (decide ((endA (laidsB (gds l i)) (cNumA (laidsB (gds l i)) (offs (gds l i) k) 0 ((((gds l i).getD n iz).v) - 1)) (cNumE (laidsB (gds l i)) (offs (gds l i) k) 0 ((((gds l i).getD n iz).v) - 1)) : Nat) = ((ats (gds l i)).getD n 0)) && true)))) (o_pickF rfl rfl) ?_
                            refine dq (v := .bool (!(decide ((endE (laidsB (gds l i)) (cNumA (laidsB (gds l i)) (offs (gds l i) k) 0 ((((gds l i).getD n iz).v) - 1)) (cNumE (laidsB (gds l i)) (offs (gds l i) k) 0 ((((gds l i).getD n iz).v) - 1))) = 23) && (decide ((endA (laidsB (gds l i)) (cNumA (laidsB (gds l i)) (offs (gds l i) k) 0 ((((gds l i).getD n iz).v) - 1)) (cNumE (laidsB (gds l i)) (offs (gds l i) k) 0 ((((gds l i).getD n iz).v) - 1)) : Nat) = ((ats (gds l i)).getD n 0)) && true)))) (o_mv rfl) ?_
                            refine dsplit rfl (fun c138 => absurd c138 (show ¬ (!(decide ((endE (laidsB (gds l i)) (cNumA (laidsB (gds l i)) (offs (gds l i) k) 0 ((((gds l i).getD n iz).v) - 1)) (cNumE (laidsB (gds l i)) (offs (gds l i) k) 0 ((((gds l i).getD n iz).v) - 1))) = 23) && (decide ((endA (laidsB (gds l i)) (cNumA (laidsB (gds l i)) (offs (gds l i) k) 0 ((((gds l i).getD n iz).v) - 1)) (cNumE (laidsB (gds l i)) (offs (gds l i) k) 0 ((((gds l i).getD n iz).v) - 1)) : Nat) = ((ats (gds l i)).getD n 0)) && true))) = true from (by rw [hn2, hn3, hee.1, hee.2, hat]; simp))) (fun c138 => ?_)
                            refine dqg rfl (v := .pointer (some ⟨bc120, 0, none⟩)) (o_mv rfl) ?_
                            refine dgyesl rfl ?_
                            refine dl (m_call (Rest_ok _ (laidsB (gds l i)) (cNumA (laidsB (gds l i)) (offs (gds l i) k) 0 ((((gds l i).getD n iz).v) - 1)) (cNumE (laidsB (gds l i)) (offs (gds l i) k) 0 ((((gds l i).getD n iz).v) - 1)) r'134 w137 hc134 (hM137.res (i := 5) rfl) (by first | omega | (simp; done) | (simp; omega))) rfl fun v139 w139 ⟨hr139, hm139⟩ => ?_)
                            have hM139 : Mem w [] w139 [r3_, r90, r5_, rc9, rc11, r'134] := hM137.step 5 rfl hm139
                            subst hr139
                            have hh139 := held_upd (wr := wd) (bs := [(blkV y5_)]) hm139.upd (fun b hb => by
                              simp only [List.mem_cons, List.not_mem_nil, or_false] at hb
                              rw [hb]; exact ⟨Rd.blkV_lt (hy5_.rd hM137 (i := 2) rfl) (by omega), hy5_.blk_apart hM137 (i := 2) (k := 5) rfl rfl (by decide) (by omega)⟩) hh137
                            refine ⟨hh139, ?_⟩
                            refine dqg rfl (v := .bool (decide (¬ (restV (laidsB (gds l i)) (cNumA (laidsB (gds l i)) (offs (gds l i) k) 0 ((((gds l i).getD n iz).v) - 1)) (cNumE (laidsB (gds l i)) (offs (gds l i) k) 0 ((((gds l i).getD n iz).v) - 1))) = 0))) (o_bin rfl rfl v_neq) ?_
                            refine dq (v := .bool (decide (¬ (restV (laidsB (gds l i)) (cNumA (laidsB (gds l i)) (offs (gds l i) k) 0 ((((gds l i).getD n iz).v) - 1)) (cNumE (laidsB (gds l i)) (offs (gds l i) k) 0 ((((gds l i).getD n iz).v) - 1))) = 0))) (o_pickF rfl rfl) ?_
                            refine h131 _ _ ?_
                            clear h131
                            refine cndP rfl (fun c140 => absurd c140 (fun h => h (by rw [hn3]; unfold restV; rw [if_neg (by omega)]))) (fun c140 => ?_)
                            refine h113 _ _ ?_
                            clear h113
                            refine stp (v := .int .i64 (n : Nat)) (o_mv rfl) ?_
                            refine stp (v := .int .i64 ((n : Nat) + 1)) (o_bin rfl rfl (v_add64 (by constructor <;> omega))) ?_
                            refine stp (v := .int .i64 ((n : Nat) + 1)) (o_mv rfl) ?_
                            refine h109 (n + 1) _ _ ⟨by first | rfl | exact v_int (by omega) | exact v_int (by simp) | exact v_int (by simp; omega), rfl, rfl, rfl, hM139.keep (by simp), by omega⟩ (by (try dsimp only); omega)
                      ·
                        refine h113 _ _ ?_
                        clear h113
                        refine stp (v := .int .i64 (n : Nat)) (o_mv rfl) ?_
                        refine stp (v := .int .i64 ((n : Nat) + 1)) (o_bin rfl rfl (v_add64 (by constructor <;> omega))) ?_
                        refine stp (v := .int .i64 ((n : Nat) + 1)) (o_mv rfl) ?_
                        refine h109 (n + 1) _ _ ⟨by first | rfl | exact v_int (by omega) | exact v_int (by simp) | exact v_int (by simp; omega), rfl, rfl, rfl, hM108, by omega⟩ (by (try dsimp only); omega)
                    ·
                      refine gno rfl (by simp) ?_
                      refine gno rfl (by simp) ?_
                      refine gno rfl (by simp) ?_
                      refine gno rfl (by simp) ?_
                      refine gnol rfl (by simp) ?_
                      refine gno rfl (by simp) ?_
                      refine stp (v := .bool false) (o_pickF rfl rfl) ?_
                      refine h114 _ _ ?_
                      clear h114
                      refine cndF rfl ?_
                      refine h113 _ _ ?_
                      clear h113
                      refine stp (v := .int .i64 (n : Nat)) (o_mv rfl) ?_
                      refine stp (v := .int .i64 ((n : Nat) + 1)) (o_bin rfl rfl (v_add64 (by constructor <;> omega))) ?_
                      refine stp (v := .int .i64 ((n : Nat) + 1)) (o_mv rfl) ?_
                      refine h109 (n + 1) _ _ ⟨by first | rfl | exact v_int (by omega) | exact v_int (by simp) | exact v_int (by simp; omega), rfl, rfl, rfl, hM108, by omega⟩ (by (try dsimp only); omega)
                  ·
                    refine h106 _ _ ?_
                    clear h106
                    refine seq fun K141 h141 => ?_
                    refine m_call (head_ok w108) rfl fun v142 w142 ⟨hr142, hu142⟩ => ?_
                    have hM142 : Mem w [] w142 [r3_, r90, r5_, rc9, rc11] := hM108.pure hu142
                    subst hr142
                    refine stp (v := .bool true) (o_mv rfl) ?_
                    refine h141 _ _ ?_
                    clear h141
                    refine ⟨(.bool true), rfl, ?_⟩
                    exact ⟨rfl, hM142.upd⟩

theorem open_itm {W : World} {cs : List Value} (h : Arg Try.prog W 65 cs) : ∃ f : Itm, cs = itmC f ∧ f.ok := by
  obtain ⟨hl, hf⟩ := h.struct Try.underlying65
  have c2 : Try.prog.cellsOf 2 = 1 := by kernel_rfl
  have c3 : Try.prog.cellsOf 3 = 1 := by kernel_rfl
  have c9 : Try.prog.cellsOf 9 = 1 := by kernel_rfl
  rw [show Try.prog.cellsOf 65 = 4 by kernel_rfl] at hl
  match cs, hl with
  | [a0, a1, a2, a3], _ =>
    obtain ⟨n0, e0, k0⟩ := (hf 0 _ rfl).int Try.underlying3
    obtain rfl : a0 = .int .i64 n0 := by simpa [c3] using e0
    obtain ⟨n1, e1, k1⟩ := (hf 1 _ rfl).int Try.underlying2
    obtain rfl : a1 = .int .i64 n1 := by simpa [c2] using e1
    obtain ⟨n2, e2, k2⟩ := (hf 2 _ rfl).int Try.underlying3
    obtain rfl : a2 = .int .i64 n2 := by simpa [c3] using e2
    obtain ⟨n3, e3, k3⟩ := (hf 3 _ rfl).str Try.underlying9
    obtain rfl : a3 = .string (str n3) := by simpa [c9] using e3
    exact ⟨⟨n0, n1, n2, n3⟩, rfl, k0, k1, k2, k3⟩

theorem open_itms {W : World} {cs : List Value} (h : Arg Try.prog W 61 cs) : ∃ (v : Value) (l : List Itm), cs = [v] ∧ RdS itmC W v l ∧ (∀ x ∈ l, x.ok) ∧ l.length * 40 ≤ 140737488351232 := by
  have := h.slices Try.underlying61 (fun c hc _ => open_itm hc)
  rwa [show Try.prog.bytesOf 65 = 40 by kernel_rfl] at this
