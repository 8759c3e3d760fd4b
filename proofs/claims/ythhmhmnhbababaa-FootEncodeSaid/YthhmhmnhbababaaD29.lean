/- Is a twin what it was? Where the reference finds. -/
import Derived.Test.YthhmhmnhbababaaD27
namespace Go.Proofs.Ythhmhmnhbababaa.E
open Go
theorem getD_end {α : Type} (z : α) (l : List α) (x : α) {i : Nat} (h : i = l.length) : (l ++ [x]).getD i z = x := by
  subst h; simp
theorem getD_end0 {α : Type} (z : α) (l : List α) (x y : α) {i : Nat} (h : i = l.length) : (l ++ [x, y]).getD i z = x := by
  subst h; simp
theorem getD_end1 {α : Type} (z : α) (l : List α) (x y : α) {i : Nat} (h : i = l.length + 1) : (l ++ [x, y]).getD i z = y := by
  subst h; rw [List.getD_eq_getElem?_getD, List.getElem?_append_right (by omega)]; simp
/-- what is found is one thing -/
theorem findAt_one {cut : List UInt8} {bl : List Bi} {a b : Nat} (h1 : FindAt cut bl a) (h2 : FindAt cut bl b) : a = b := by
  rcases Nat.lt_trichotomy a b with h | h | h
  · have := h2.2.1 a h
    have := h1.2.2 a (Nat.le_refl _) (by have := h2.1; omega)
    omega
  · exact h
  · have := h1.2.1 b h
    have := h2.2.2 b (Nat.le_refl _) (by have := h1.1; omega)
    omega
theorem findS_one {part : Int} {key : List UInt8} {ps qs : List Pr} {i k n m : Int} (he : qs.map Pr.p = ps.map Pr.p) (h1 : FindS part key qs i k) (h2 : FindS part key ps n m) : i = n ∧ k = m := by
  have hl : qs.length = ps.length := by simpa using congrArg List.length he
  have hp : ∀ j, (qs.getD j pz).part = (ps.getD j pz).part := fun j => congrArg Pp.part (map_at he j)
  have hb : ∀ j, (qs.getD j pz).bl = (ps.getD j pz).bl := fun j => congrArg Pp.bl (map_at he j)
  rcases h1 with ⟨a, lo, rfl, c1, c2, c3, c4, rfl⟩ | ⟨rfl, rfl, c1⟩
  · rcases h2 with ⟨b, lo2, rfl, d1, d2, d3, d4, rfl⟩ | ⟨rfl, rfl, d1⟩
    · have e : a = b := by
        rcases Nat.lt_trichotomy a b with h | h | h
        · exact absurd ((hp a).symm.trans c2) (d3 a h)
        · exact h
        · exact absurd ((hp b).trans d2) (c3 b h)
      subst e
      rw [hb] at c4
      have := findAt_one c4 d4
      subst this
      exact ⟨rfl, rfl⟩
    · exact absurd ((hp a).symm.trans c2) (d1 a (by omega))
  · rcases h2 with ⟨b, lo2, rfl, d1, d2, d3, d4, rfl⟩ | ⟨rfl, rfl, d1⟩
    · exact absurd ((hp b).trans d2) (c1 b (by omega))
    · exact ⟨rfl, rfl⟩

/-- winnowlaw8.still -/
theorem still_ok (parts : Int) (a : Option Addr) (c : Nat) (y : Value) (qs ps : List Pr) (w : World) (hx : RdS prC w (.slice a ps.length c) qs) (hx1 : RdS prC w (.slice a (ps.length + 1) c) (qs ++ [pm])) (htk : ∀ p ∈ qs, Tk w p) (hy : RdS prC w y ps) (hok2 : ∀ p ∈ ps, p.ok w) (hl : qs.length ≤ 1954687338211) (he : qs.map Pr.p = ps.map Pr.p) : Calls Try.prog 18 [.agg [.int .i64 parts, .slice a ps.length c].toArray, .agg [.int .i64 parts, y].toArray].toArray w (Rt fun r w' => r = .bool true ∧ Upd [] w w') := by
  have hM0 : Mem w [] w [] := Mem.nil w []
  have hll : qs.length = ps.length := by have := congrArg List.length he; simpa using this
  have hcap := rd_cap hx1
  rw [List.length_append] at hcap
  simp only [List.length_cons, List.length_nil] at hcap
  refine calls_vc mixed Try.func18 rfl C18 (by simp [Try.ntmps18]) ?_
  refine seq fun K1 h1 => ?_
  refine m_bx (v := .agg ([.int .i64 parts, (.slice a ps.length c)] : List Value).toArray) hM0 rfl rfl fun b2 w3 (hM3 : Mem w [] w3 [[⟨b2, 24, [.int .i64 parts, (.slice a ps.length c)]⟩]]) => ?_
  refine m_bx (v := .agg ([.int .i64 parts, y] : List Value).toArray) hM3 rfl rfl fun b4 w5 (hM5 : Mem w [] w5 [[⟨b2, 24, [.int .i64 parts, (.slice a ps.length c)]⟩], [⟨b4, 24, [.int .i64 parts, y]⟩]]) => ?_
  refine stp (v := .bool false) (o_mv rfl) ?_
  refine h1 _ _ ?_
  clear h1
  refine seq fun K6 h6 => ?_
  refine seq fun K7 h7 => ?_
  refine m_ldA (l := [.int .i64 parts, (.slice a ps.length c)]) hM5 (i := 0) (j := 0) rfl rfl rfl rfl rfl ?_
  refine m_ldA (l := [.int .i64 parts, y]) hM5 (i := 1) (j := 0) rfl rfl rfl rfl rfl ?_
  refine m_call (sameFoot_eq parts _ _ qs ps w5 (hx.upd hM5.upd) (fun p hp => ((htk p hp).ok).upd hM5.upd) (hy.upd hM5.upd) (fun p hp => (hok2 p hp).upd hM5.upd) hl he) rfl fun v8 w8 ⟨hr8, hu8⟩ => ?_
  have hM8 : Mem w [] w8 [[⟨b2, 24, [.int .i64 parts, (.slice a ps.length c)]⟩], [⟨b4, 24, [.int .i64 parts, y]⟩]] := hM5.pure hu8
  subst hr8
  refine stp (v := .bool false) (o_not rfl rfl) ?_
  refine h7 _ _ ?_
  clear h7
  refine cndF rfl ?_
  refine h6 _ _ ?_
  clear h6
  refine seq fun K9 h9 => ?_
  refine stp (v := .pointer (some ⟨b2, 1, none⟩)) (o_fa rfl rfl) ?_
  refine m_ld (v := (.slice a ps.length c)) hM8 (i := 0) (j := 0) rfl rfl rfl rfl ?_
  refine stp (v := .pointer (some ⟨b4, 1, none⟩)) (o_fa rfl rfl) ?_
  refine m_ld (v := y) hM8 (i := 1) (j := 0) rfl rfl rfl rfl ?_
  refine stp (v := .int .i64 (ps.length : Nat)) (o_lenR (hy.upd hM8.upd) rfl rfl) ?_
  refine stp (v := .int .i64 ((ps.length : Nat) + 1)) (o_bin rfl rfl (v_add64 (by constructor <;> omega))) ?_
  refine stp (v := (.slice a (ps.length + 1) c)) (o_slcTo rfl (v_int (by omega)) (by omega)) ?_
  refine stp (v := (.slice a (ps.length + 1) c)) (o_mv rfl) ?_
  refine h9 _ _ ?_
  clear h9
  refine seq fun K10 h10 => ?_
  refine seq fun K11 h11 => ?_
  refine stp (v := (.slice a (ps.length + 1) c)) (o_mv rfl) ?_
  refine stp (v := .pointer (some ⟨b4, 1, none⟩)) (o_fa rfl rfl) ?_
  refine m_ld (v := y) hM8 (i := 1) (j := 0) rfl rfl rfl rfl ?_
  refine stp (v := .int .i64 (ps.length : Nat)) (o_lenR (hy.upd hM8.upd) rfl rfl) ?_
  refine m_idxS pz (j := ps.length) (hx1.upd hM8.upd) rfl rfl (by simp; omega) fun b12 o12 hp12 => ?_
  refine stp (v := .pointer (some ⟨b12, o12, none⟩)) (o_fa rfl rfl) ?_
  refine ld (v := .int .i64 (((qs ++ [pm]).getD ps.length pz).part)) rfl (hp12.get 0 rfl) ?_
  refine stp (v := .bool (decide (¬ (((qs ++ [pm]).getD ps.length pz).part) = (-9)))) (o_bin rfl rfl v_neq) ?_
  refine h11 _ _ ?_
  clear h11
  refine cndP rfl (fun c13 => absurd c13 (by rw [getD_end pz qs pm hll.symm]; exact fun h => h rfl)) (fun c13 => ?_)
  refine h10 _ _ ?_
  clear h10
  refine seq fun K14 h14 => ?_
  refine seq fun K15 h15 => ?_
  refine stp (v := .int .i64 0) (o_mv rfl) ?_
  refine h15 _ _ ?_
  clear h15
  refine lp (n := fun _ _ => False) (ι := (Nat)) (fun i f w' => f 6 = .int .i64 (i : Nat) ∧ f 2 = .pointer (some ⟨b2, 0, none⟩) ∧ f 3 = .pointer (some ⟨b4, 0, none⟩) ∧ Mem w [] w' [[⟨b2, 24, [.int .i64 parts, (.slice a ps.length c)]⟩], [⟨b4, 24, [.int .i64 parts, y]⟩]] ∧ (i ≤ ps.length)) (fun i => ps.length - i) (0) ?_ ?_
  · exact ⟨by first | rfl | exact v_int (by omega) | exact v_int (by simp) | exact v_int (by simp; omega), rfl, rfl, hM8, by omega⟩
  · rintro i f w16 ⟨e16_6, e16_2, e16_3, hM16, hi⟩ K17 h17
    obtain ⟨frm, rfl⟩ : ∃ frm, f = (upd (upd (upd frm 6 (.int .i64 (i : Nat))) 2 (.pointer (some ⟨b2, 0, none⟩))) 3 (.pointer (some ⟨b4, 0, none⟩))) := ⟨f, by rw [upd_self e16_6, upd_self e16_2, upd_self e16_3]⟩
    clear e16_6 e16_2 e16_3
    refine seq fun K18 h18 => ?_
    refine seq fun K19 h19 => ?_
    refine stp (v := .int .i64 (i : Nat)) (o_mv rfl) ?_
    refine stp (v := .pointer (some ⟨b4, 1, none⟩)) (o_fa rfl rfl) ?_
    refine m_ld (v := y) hM16 (i := 1) (j := 0) rfl rfl rfl rfl ?_
    refine stp (v := .int .i64 (ps.length : Nat)) (o_lenR (hy.upd hM16.upd) rfl rfl) ?_
    refine stp (v := .bool (decide (((i : Nat) : Int) < (ps.length : Nat)))) (o_bin rfl rfl rfl) ?_
    refine h19 _ _ ?_
    clear h19
    refine cndP rfl (fun c20 => ?_) (fun c20 => ?_)
    ·
      refine h18 _ _ ?_
      clear h18
      refine seq fun K21 h21 => ?_
      refine seq fun K22 h22 => ?_
      refine stp (v := .pointer (some ⟨b4, 1, none⟩)) (o_fa rfl rfl) ?_
      refine m_ld (v := y) hM16 (i := 1) (j := 0) rfl rfl rfl rfl ?_
      refine stp (v := .int .i64 (i : Nat)) (o_mv rfl) ?_
      have he9 := map_at he i
      have hd9 : (qs.getD i pz).d = (ps.getD i pz).d := congrArg Pp.d he9
      have hb9 : (qs.getD i pz).bl = (ps.getD i pz).bl := congrArg Pp.bl he9
      have hpi := htk _ (getD_memG pz (l := qs) (i := i) (by omega))
      have hld := hpi.ok.ld
      have hlb := hpi.ok.lb
      have hc1 := rd_cap hpi.r2
      have hc2 := rd_cap hpi.r1
      have hl1 := congrArg List.length hd9
      have hl2 := congrArg List.length hb9
      rw [List.length_append] at hc1 hc2
      simp only [List.length_cons, List.length_nil] at hc1 hc2
      refine m_idxS pz (j := i) (hy.upd hM16.upd) rfl rfl (by omega) fun b23 o23 hp23 => ?_
      refine stp (v := .pointer (some ⟨b23, o23 + 2, none⟩)) (o_fa rfl rfl) ?_
      refine stp (v := .pointer (some ⟨b23, o23 + 4, none⟩)) (o_fa rfl rfl) ?_
      refine ld (v := (ps.getD i pz).dv) rfl (hp23.get 4 rfl) ?_
      refine stp (v := .int .i64 (((ps.getD i pz).d).length : Nat)) (o_lenR (((fun p hp => (hok2 p hp).upd hM16.upd) _ (getD_memG pz (by omega))).rd) rfl rfl) ?_
      refine stp (v := .int .i64 (((ps.getD i pz).d).length : Nat)) (o_mv rfl) ?_
      refine h22 _ _ ?_
      clear h22
      refine seq fun K24 h24 => ?_
      refine stp (v := .pointer (some ⟨b2, 1, none⟩)) (o_fa rfl rfl) ?_
      refine m_ld (v := (.slice a ps.length c)) hM16 (i := 0) (j := 0) rfl rfl rfl rfl ?_
      refine stp (v := .int .i64 (i : Nat)) (o_mv rfl) ?_
      refine m_idxS pz (j := i) (hx.upd hM16.upd) rfl rfl (by omega) fun b25 o25 hp25 => ?_
      refine stp (v := .pointer (some ⟨b25, o25 + 2, none⟩)) (o_fa rfl rfl) ?_
      refine stp (v := .pointer (some ⟨b25, o25 + 4, none⟩)) (o_fa rfl rfl) ?_
      refine ld (v := (qs.getD i pz).dv) rfl (hp25.get 4 rfl) ?_
      refine stp (v := .int .i64 (((ps.getD i pz).d).length : Nat)) (o_mv rfl) ?_
      refine stp (v := .int .i64 ((((ps.getD i pz).d).length : Nat) + 2)) (o_bin rfl rfl (v_add64 (by constructor <;> omega))) ?_
      refine stp (v := (.slice (qs.getD i pz).dad ((qs.getD i pz).d.length + 2) (qs.getD i pz).dcp)) (o_slcTo rfl (v_int (by omega)) (by omega)) ?_
      refine stp (v := (.slice (qs.getD i pz).dad ((qs.getD i pz).d.length + 2) (qs.getD i pz).dcp)) (o_mv rfl) ?_
      refine h24 _ _ ?_
      clear h24
      refine seq fun K26 h26 => ?_
      refine stp (v := .pointer (some ⟨b4, 1, none⟩)) (o_fa rfl rfl) ?_
      refine m_ld (v := y) hM16 (i := 1) (j := 0) rfl rfl rfl rfl ?_
      refine stp (v := .int .i64 (i : Nat)) (o_mv rfl) ?_
      refine m_idxS pz (j := i) (hy.upd hM16.upd) rfl rfl (by omega) fun b27 o27 hp27 => ?_
      refine stp (v := .pointer (some ⟨b27, o27 + 1, none⟩)) (o_fa rfl rfl) ?_
      refine ld (v := (ps.getD i pz).bv) rfl (hp27.get 1 rfl) ?_
      refine stp (v := .int .i64 (((ps.getD i pz).bl).length : Nat)) (o_lenR (((fun p hp => (hok2 p hp).upd hM16.upd) _ (getD_memG pz (by omega))).rb) rfl rfl) ?_
      refine stp (v := .int .i64 (((ps.getD i pz).bl).length : Nat)) (o_mv rfl) ?_
      refine h26 _ _ ?_
      clear h26
      refine seq fun K28 h28 => ?_
      refine stp (v := .pointer (some ⟨b2, 1, none⟩)) (o_fa rfl rfl) ?_
      refine m_ld (v := (.slice a ps.length c)) hM16 (i := 0) (j := 0) rfl rfl rfl rfl ?_
      refine stp (v := .int .i64 (i : Nat)) (o_mv rfl) ?_
      refine m_idxS pz (j := i) (hx.upd hM16.upd) rfl rfl (by omega) fun b29 o29 hp29 => ?_
      refine stp (v := .pointer (some ⟨b29, o29 + 1, none⟩)) (o_fa rfl rfl) ?_
      refine ld (v := (qs.getD i pz).bv) rfl (hp29.get 1 rfl) ?_
      refine stp (v := .int .i64 (((ps.getD i pz).bl).length : Nat)) (o_mv rfl) ?_
      refine stp (v := .int .i64 ((((ps.getD i pz).bl).length : Nat) + 1)) (o_bin rfl rfl (v_add64 (by constructor <;> omega))) ?_
      refine stp (v := (.slice (qs.getD i pz).bad ((qs.getD i pz).bl.length + 1) (qs.getD i pz).bcp)) (o_slcTo rfl (v_int (by omega)) (by omega)) ?_
      refine stp (v := (.slice (qs.getD i pz).bad ((qs.getD i pz).bl.length + 1) (qs.getD i pz).bcp)) (o_mv rfl) ?_
      refine h28 _ _ ?_
      clear h28
      refine seq fun K30 h30 => ?_
      refine stp (v := (.slice (qs.getD i pz).dad ((qs.getD i pz).d.length + 2) (qs.getD i pz).dcp)) (o_mv rfl) ?_
      refine stp (v := .int .i64 (((ps.getD i pz).d).length : Nat)) (o_mv rfl) ?_
      refine m_idxE 0 (j := ((ps.getD i pz).d).length) (hpi.r2.upd hM16.upd) rfl rfl (by rw [List.length_append]; simp only [List.length_cons, List.length_nil]; omega) fun b31 o31 hp31 => ?_
      refine ld (v := byteV (((qs.getD i pz).d ++ [209, 210]).getD (((ps.getD i pz).d).length) 0)) rfl (hp31) ?_
      refine stp (v := .bool (decide (¬ ((((qs.getD i pz).d ++ [209, 210]).getD (((ps.getD i pz).d).length) 0).toNat : Int) = 209))) (o_bin rfl rfl v_neq) ?_
      refine stp (v := .bool (decide (¬ ((((qs.getD i pz).d ++ [209, 210]).getD (((ps.getD i pz).d).length) 0).toNat : Int) = 209))) (o_mv rfl) ?_
      refine splitP rfl (fun c32 => absurd c32 (by rw [getD_end0 0 _ _ _ hl1.symm]; exact fun h => h rfl)) (fun c32 => ?_)
      refine stg rfl (v := (.slice (qs.getD i pz).dad ((qs.getD i pz).d.length + 2) (qs.getD i pz).dcp)) (o_mv rfl) ?_
      refine stg rfl (v := .int .i64 (((ps.getD i pz).d).length : Nat)) (o_mv rfl) ?_
      refine stg rfl (v := .int .i64 ((((ps.getD i pz).d).length : Nat) + 1)) (o_bin rfl rfl (v_add64 (by constructor <;> omega))) ?_
      refine gyes rfl rfl (m_idxE 0 (j := ((ps.getD i pz).d.length + 1)) (hpi.r2.upd hM16.upd) rfl (v_int (by omega)) (by rw [List.length_append]; simp only [List.length_cons, List.length_nil]; omega) fun b33 o33 hp33 => ?_)
      refine gyesl rfl ?_
      refine ld (v := byteV (((qs.getD i pz).d ++ [209, 210]).getD ((ps.getD i pz).d.length + 1) 0)) rfl (hp33) ?_
      refine stg rfl (v := .bool (decide (¬ ((((qs.getD i pz).d ++ [209, 210]).getD ((ps.getD i pz).d.length + 1) 0).toNat : Int) = 210))) (o_bin rfl rfl v_neq) ?_
      refine stp (v := .bool (decide (¬ ((((qs.getD i pz).d ++ [209, 210]).getD ((ps.getD i pz).d.length + 1) 0).toNat : Int) = 210))) (o_pickF rfl rfl) ?_
      refine stp (v := .bool (decide (¬ ((((qs.getD i pz).d ++ [209, 210]).getD ((ps.getD i pz).d.length + 1) 0).toNat : Int) = 210))) (o_mv rfl) ?_
      refine splitP rfl (fun c34 => absurd c34 (by rw [getD_end1 0 _ _ _ (by omega)]; exact fun h => h rfl)) (fun c34 => ?_)
      refine stg rfl (v := (.slice (qs.getD i pz).bad ((qs.getD i pz).bl.length + 1) (qs.getD i pz).bcp)) (o_mv rfl) ?_
      refine stg rfl (v := .int .i64 (((ps.getD i pz).bl).length : Nat)) (o_mv rfl) ?_
      refine gyes rfl rfl (m_idxS bz (j := ((ps.getD i pz).bl).length) (hpi.r1.upd hM16.upd) rfl rfl (by rw [List.length_append]; simp only [List.length_cons, List.length_nil]; omega) fun b35 o35 hp35 => ?_)
      refine stg rfl (v := .pointer (some ⟨b35, o35, none⟩)) (o_fa rfl rfl) ?_
      refine gyesl rfl ?_
      refine ld (v := .int .i64 ((((qs.getD i pz).bl ++ [bm]).getD (((ps.getD i pz).bl).length) bz).st)) rfl (hp35.get 0 rfl) ?_
      refine stg rfl (v := .bool (decide (¬ ((((qs.getD i pz).bl ++ [bm]).getD (((ps.getD i pz).bl).length) bz).st) = (-9)))) (o_bin rfl rfl v_neq) ?_
      refine stp (v := .bool (decide (¬ ((((qs.getD i pz).bl ++ [bm]).getD (((ps.getD i pz).bl).length) bz).st) = (-9)))) (o_pickF rfl rfl) ?_
      refine h30 _ _ ?_
      clear h30
      refine cndP rfl (fun c36 => absurd c36 (by rw [getD_end bz _ _ hl2.symm]; exact fun h => h rfl)) (fun c36 => ?_)
      refine h21 _ _ ?_
      clear h21
      refine stp (v := .int .i64 (i : Nat)) (o_mv rfl) ?_
      refine stp (v := .int .i64 ((i : Nat) + 1)) (o_bin rfl rfl (v_add64 (by constructor <;> omega))) ?_
      refine stp (v := .int .i64 ((i : Nat) + 1)) (o_mv rfl) ?_
      refine h17 (i + 1) _ _ ⟨by first | rfl | exact v_int (by omega) | exact v_int (by simp) | exact v_int (by simp; omega), rfl, rfl, hM16, by omega⟩ (by (try dsimp only); omega)
    ·
      refine h14 _ _ ?_
      clear h14
      refine seq fun K37 h37 => ?_
      refine stp (v := .bool true) (o_mv rfl) ?_
      refine h37 _ _ ?_
      clear h37
      refine ⟨(.bool true), rfl, ?_⟩
      exact ⟨rfl, hM16.upd⟩

/-- winnowlaw8.high -/
theorem high_ok (w : World) : Calls Try.prog 20 [].toArray w (Rt fun r w' => r = .string (str (List.replicate 64 255)) ∧ Upd [] w w') := by
  have hM0 : Mem w [] w [] := Mem.nil w []
  refine calls_vc mixed Try.func20 rfl C20 (by simp [Try.ntmps20]) ?_
  refine seq fun K1 h1 => ?_
  refine stp (v := .string (str ([]))) (o_mv rfl) ?_
  refine h1 _ _ ?_
  clear h1
  refine seq fun K2 h2 => ?_
  refine stp (v := .slice none 0 0) (o_mv rfl) ?_
  refine h2 _ _ ?_
  clear h2
  refine seq fun K3 h3 => ?_
  refine seq fun K4 h4 => ?_
  refine stp (v := .int .i64 0) (o_mv rfl) ?_
  refine h4 _ _ ?_
  clear h4
  have hM5 : Mem w [] w [[]] := hM0.addNil
  have hs5 : SlE byteV 5 (.slice none 0 0) [] [] := Sl.nil 1 5
  refine lp (n := fun _ _ => False) (ι := (Nat) × (Value) × (List Ent)) (fun ⟨i, y1_, r1_⟩ f w' => f 1 = y1_ ∧ f 2 = .int .i64 (i : Nat) ∧ Mem w [] w' [r1_] ∧ (i ≤ 64) ∧ (SlE byteV 5 y1_ (List.replicate i 255) r1_)) (fun ⟨i, y1_, r1_⟩ => 64 - i) (0, ((.slice none 0 0)), ([])) ?_ ?_
  · exact ⟨rfl, by first | rfl | exact v_int (by omega) | exact v_int (by simp) | exact v_int (by simp; omega), hM5, by omega, by first | exact hs5 | simpa using hs5⟩
  · rintro ⟨i, y1_, r1_⟩ f w6 ⟨e6_1, e6_2, hM6, hi, hy1_⟩ K7 h7
    obtain ⟨frm, rfl⟩ : ∃ frm, f = (upd (upd frm 1 (y1_)) 2 (.int .i64 (i : Nat))) := ⟨f, by rw [upd_self e6_1, upd_self e6_2]⟩
    clear e6_1 e6_2
    refine seq fun K8 h8 => ?_
    refine seq fun K9 h9 => ?_
    refine stp (v := .int .i64 (i : Nat)) (o_mv rfl) ?_
    refine stp (v := .bool (decide (((i : Nat) : Int) < 64))) (o_bin rfl rfl rfl) ?_
    refine h9 _ _ ?_
    clear h9
    refine cndP rfl (fun c10 => ?_) (fun c10 => ?_)
    ·
      refine h8 _ _ ?_
      clear h8
      refine seq fun K11 h11 => ?_
      have hrl : (List.replicate i (255 : UInt8)).length = i := List.length_replicate
      refine stp (v := y1_) (o_mv rfl) ?_
      refine m_app1 (E := byteV) (q := 255) hM6 (i := 0) rfl hy1_ rfl (by simp) (rfl) (by omega) (by omega) fun v12 w12 r12 u12 (hs12 : SlE byteV 5 v12 ((List.replicate i 255) ++ [255]) r12) (hM12 : Mem w [] w12 [r12]) => ?_
      refine stp (v := v12) (o_mv rfl) ?_
      refine h11 _ _ ?_
      clear h11
      refine stp (v := .int .i64 (i : Nat)) (o_mv rfl) ?_
      refine stp (v := .int .i64 ((i : Nat) + 1)) (o_bin rfl rfl (v_add64 (by constructor <;> omega))) ?_
      refine stp (v := .int .i64 ((i : Nat) + 1)) (o_mv rfl) ?_
      refine h7 (i + 1, v12, r12) _ _ ⟨rfl, by first | rfl | exact v_int (by omega) | exact v_int (by simp) | exact v_int (by simp; omega), hM12, by omega, by rw [List.replicate_succ']; exact hs12⟩ (by (try dsimp only); omega)
    ·
      refine h3 _ _ ?_
      clear h3
      refine seq fun K13 h13 => ?_
      refine stp (v := y1_) (o_mv rfl) ?_
      refine m_b2s rfl (hy1_.rd hM6 (i := 0) rfl) ?_
      refine stp (v := .string (str (List.replicate i 255))) (o_mv rfl) ?_
      refine h13 _ _ ?_
      clear h13
      refine ⟨(.string (str (List.replicate i 255))), rfl, ?_⟩
      have e : i = 64 := by omega
      subst e
      exact ⟨rfl, hM6.upd⟩

/-- winnowref8.Find -/
theorem refFind_ok (parts : Int) (x : Value) (ps : List Pr) (w : World) (hx : RdS prC w x ps) (hok : ∀ p ∈ ps, p.ok w) (hl : ps.length ≤ 1954687338211) (hp : inK .i64 parts) (part : Int) (hpt : inK .i64 part) (key : List UInt8) (hkl : key.length ≤ 140737488351232) (hsr : ∀ p ∈ ps, Srt p.bl) : Calls Try.prog 17 [.agg [.int .i64 parts, x].toArray, .int .i64 part, .string (str key)].toArray w (Rt fun r w' => ∃ i k, r = .tuple #[.int .i64 i, .int .i64 k] ∧ FindS part key ps i k ∧ Upd [] w w') := by
  have hM0 : Mem w [] w [] := Mem.nil w []
  refine calls_vc mixed Try.func17 rfl C17 (by simp [Try.ntmps17]) ?_
  refine seq fun K1 h1 => ?_
  refine m_bx (v := .agg ([.int .i64 parts, x] : List Value).toArray) hM0 rfl rfl fun b2 w3 (hM3 : Mem w [] w3 [[⟨b2, 24, [.int .i64 parts, x]⟩]]) => ?_
  refine stp (v := .int .i64 0) (o_mv rfl) ?_
  refine stp (v := .int .i64 0) (o_mv rfl) ?_
  refine h1 _ _ ?_
  clear h1
  refine seq fun K4 h4 => ?_
  refine seq fun K5 h5 => ?_
  refine stp (v := .string (str key)) (o_mv rfl) ?_
  refine stp (v := .int .i64 (key.length : Nat)) (o_lens rfl rfl) ?_
  refine stp (v := .bool (decide ((64 : Int) < ((key.length : Nat) : Int)))) (o_bin rfl rfl rfl) ?_
  refine h5 _ _ ?_
  clear h5
  refine cndP rfl (fun c6 => ?_) (fun c6 => ?_)
  ·
    refine stp (v := .string (str key)) (o_mv rfl) ?_
    refine stp (v := .string (str ((key.take 64).drop 0))) (o_slcs (a := 0) (b := 64) rfl (by omega) ⟨_, rfl⟩ rfl rfl) ?_
    refine stp (v := .string (str ((key.take 64).drop 0))) (o_mv rfl) ?_
    refine h4 _ _ ?_
    clear h4
    refine seq fun K7 h7 => ?_
    refine seq fun K8 h8 => ?_
    refine stp (v := .int .i64 0) (o_mv rfl) ?_
    refine h8 _ _ ?_
    clear h8
    refine lp (n := fun _ _ => False) (ι := (Nat)) (fun i f w' => f 8 = .int .i64 (i : Nat) ∧ f 1 = .int .i64 part ∧ f 2 = .string (str ((key.take 64).drop 0)) ∧ f 3 = .pointer (some ⟨b2, 0, none⟩) ∧ Mem w [] w' [[⟨b2, 24, [.int .i64 parts, x]⟩]] ∧ (i ≤ ps.length) ∧ (∀ m, m < i → ¬ (ps.getD m pz).part = part)) (fun i => ps.length - i) (0) ?_ ?_
    · exact ⟨by first | rfl | exact v_int (by omega) | exact v_int (by simp) | exact v_int (by simp; omega), by first | rfl | exact v_int (by omega) | exact v_int (by simp) | exact v_int (by simp; omega), by first | rfl | simp [upd], rfl, hM3, by omega, fun m hm => by omega⟩
    · rintro i f w9 ⟨e9_8, e9_1, e9_2, e9_3, hM9, hi, hno⟩ K10 h10
      obtain ⟨frm, rfl⟩ : ∃ frm, f = (upd (upd (upd (upd frm 8 (.int .i64 (i : Nat))) 1 (.int .i64 part)) 2 (.string (str ((key.take 64).drop 0)))) 3 (.pointer (some ⟨b2, 0, none⟩))) := ⟨f, by rw [upd_self e9_8, upd_self e9_1, upd_self e9_2, upd_self e9_3]⟩
      clear e9_8 e9_1 e9_2 e9_3
      refine seq fun K11 h11 => ?_
      refine seq fun K12 h12 => ?_
      refine stp (v := .int .i64 (i : Nat)) (o_mv rfl) ?_
      refine stp (v := .pointer (some ⟨b2, 1, none⟩)) (o_fa rfl rfl) ?_
      refine m_ld (v := x) hM9 (i := 0) (j := 0) rfl rfl rfl rfl ?_
      refine stp (v := .int .i64 (ps.length : Nat)) (o_lenR (hx.upd hM9.upd) rfl rfl) ?_
      refine stp (v := .bool (decide (((i : Nat) : Int) < (ps.length : Nat)))) (o_bin rfl rfl rfl) ?_
      refine h12 _ _ ?_
      clear h12
      refine cndP rfl (fun c13 => ?_) (fun c13 => ?_)
      ·
        refine h11 _ _ ?_
        clear h11
        refine seq fun K14 h14 => ?_
        refine seq fun K15 h15 => ?_
        refine seq fun K16 h16 => ?_
        have hpi := hok _ (getD_memG pz (l := ps) (i := i) (by omega))
        have hsi := hsr _ (getD_memG pz (l := ps) (i := i) (by omega))
        have hlb := hpi.lb
        refine stp (v := .pointer (some ⟨b2, 1, none⟩)) (o_fa rfl rfl) ?_
        refine m_ld (v := x) hM9 (i := 0) (j := 0) rfl rfl rfl rfl ?_
        refine stp (v := .int .i64 (i : Nat)) (o_mv rfl) ?_
        refine m_idxS pz (j := i) (hx.upd hM9.upd) rfl rfl (by omega) fun b17 o17 hp17 => ?_
        refine stp (v := .pointer (some ⟨b17, o17, none⟩)) (o_fa rfl rfl) ?_
        refine ld (v := .int .i64 ((ps.getD i pz).part)) rfl (hp17.get 0 rfl) ?_
        refine stp (v := .int .i64 part) (o_mv rfl) ?_
        refine stp (v := .bool (decide (¬ ((ps.getD i pz).part) = part))) (o_bin rfl rfl v_neq) ?_
        refine h16 _ _ ?_
        clear h16
        refine cndP rfl (fun c18 => ?_) (fun c18 => ?_)
        ·
          refine h14 _ _ ?_
          clear h14
          refine stp (v := .int .i64 (i : Nat)) (o_mv rfl) ?_
          refine stp (v := .int .i64 ((i : Nat) + 1)) (o_bin rfl rfl (v_add64 (by constructor <;> omega))) ?_
          refine stp (v := .int .i64 ((i : Nat) + 1)) (o_mv rfl) ?_
          refine h10 (i + 1) _ _ ⟨by first | rfl | exact v_int (by omega) | exact v_int (by simp) | exact v_int (by simp; omega), by first | rfl | exact v_int (by omega) | exact v_int (by simp) | exact v_int (by simp; omega), by first | rfl | simp [upd], rfl, hM9, by omega, fun m hm => by
                rcases Nat.lt_or_ge m i with h | h
                · exact hno m h
                · obtain rfl : m = i := by omega
                  assumption⟩ (by (try dsimp only); omega)
        ·
          refine h15 _ _ ?_
          clear h15
          refine seq fun K19 h19 => ?_
          refine stp (v := .int .i64 0) (o_mv rfl) ?_
          refine h19 _ _ ?_
          clear h19
          refine seq fun K20 h20 => ?_
          refine seq fun K21 h21 => ?_
          refine stp (v := .int .i64 0) (o_mv rfl) ?_
          refine h21 _ _ ?_
          clear h21
          refine lp (n := fun _ _ => False) (ι := (Nat) × (Nat)) (fun ⟨k, lo⟩ f w' => f 10 = .int .i64 (k : Nat) ∧ f 9 = .int .i64 ((lo - 1) : Nat) ∧ f 2 = .string (str ((key.take 64).drop 0)) ∧ f 3 = .pointer (some ⟨b2, 0, none⟩) ∧ f 8 = .int .i64 (i : Nat) ∧ Mem w [] w' [[⟨b2, 24, [.int .i64 parts, x]⟩]] ∧ (k ≤ (ps.getD i pz).bl.length ∧ lo ≤ k) ∧ (∀ j, j < lo → cmp ((ps.getD i pz).bl.getD j bz).cut ((key.take 64).drop 0) < 0) ∧ (∀ j, lo ≤ j → j < k → 0 ≤ cmp ((ps.getD i pz).bl.getD j bz).cut ((key.take 64).drop 0))) (fun ⟨k, lo⟩ => (ps.getD i pz).bl.length - k) (0, 0) ?_ ?_
          · exact ⟨by first | rfl | exact v_int (by omega) | exact v_int (by simp) | exact v_int (by simp; omega), by first | rfl | exact v_int (by omega) | exact v_int (by simp) | exact v_int (by simp; omega), by first | rfl | simp [upd], rfl, by first | rfl | exact v_int (by omega) | exact v_int (by simp) | exact v_int (by simp; omega), hM9, by omega, fun j hj => by omega, fun j hj hj2 => by omega⟩
          · rintro ⟨k, lo⟩ f w22 ⟨e22_10, e22_9, e22_2, e22_3, e22_8, hM22, hk, hA, hB⟩ K23 h23
            obtain ⟨frm, rfl⟩ : ∃ frm, f = (upd (upd (upd (upd (upd frm 10 (.int .i64 (k : Nat))) 9 (.int .i64 ((lo - 1) : Nat))) 2 (.string (str ((key.take 64).drop 0)))) 3 (.pointer (some ⟨b2, 0, none⟩))) 8 (.int .i64 (i : Nat))) := ⟨f, by rw [upd_self e22_10, upd_self e22_9, upd_self e22_2, upd_self e22_3, upd_self e22_8]⟩
            clear e22_10 e22_9 e22_2 e22_3 e22_8
            refine seq fun K24 h24 => ?_
            refine seq fun K25 h25 => ?_
            refine stp (v := .int .i64 (k : Nat)) (o_mv rfl) ?_
            refine stp (v := .pointer (some ⟨b2, 1, none⟩)) (o_fa rfl rfl) ?_
            refine m_ld (v := x) hM22 (i := 0) (j := 0) rfl rfl rfl rfl ?_
            refine stp (v := .int .i64 (i : Nat)) (o_mv rfl) ?_
            refine m_idxS pz (j := i) (hx.upd hM22.upd) rfl rfl (by omega) fun b26 o26 hp26 => ?_
            refine stp (v := .pointer (some ⟨b26, o26 + 1, none⟩)) (o_fa rfl rfl) ?_
            refine ld (v := (ps.getD i pz).bv) rfl (hp26.get 1 rfl) ?_
            refine stp (v := .int .i64 (((ps.getD i pz).bl).length : Nat)) (o_lenR (((fun p hp => (hok p hp).upd hM22.upd) _ (getD_memG pz (by omega))).rb) rfl rfl) ?_
            refine stp (v := .bool (decide (((k : Nat) : Int) < (((ps.getD i pz).bl).length : Nat)))) (o_bin rfl rfl rfl) ?_
            refine h25 _ _ ?_
            clear h25
            refine cndP rfl (fun c27 => ?_) (fun c27 => ?_)
            ·
              refine h24 _ _ ?_
              clear h24
              refine seq fun K28 h28 => ?_
              refine seq fun K29 h29 => ?_
              refine stp (v := .pointer (some ⟨b2, 1, none⟩)) (o_fa rfl rfl) ?_
              refine m_ld (v := x) hM22 (i := 0) (j := 0) rfl rfl rfl rfl ?_
              refine stp (v := .int .i64 (i : Nat)) (o_mv rfl) ?_
              refine m_idxS pz (j := i) (hx.upd hM22.upd) rfl rfl (by omega) fun b30 o30 hp30 => ?_
              refine stp (v := .pointer (some ⟨b30, o30 + 1, none⟩)) (o_fa rfl rfl) ?_
              refine ld (v := (ps.getD i pz).bv) rfl (hp30.get 1 rfl) ?_
              refine stp (v := .int .i64 (k : Nat)) (o_mv rfl) ?_
              refine m_idxS bz (j := k) (((fun p hp => (hok p hp).upd hM22.upd) _ (getD_memG pz (by omega))).rb) rfl rfl (by omega) fun b31 o31 hp31 => ?_
              refine stp (v := .pointer (some ⟨b31, o31 + 3, none⟩)) (o_fa rfl rfl) ?_
              refine ld (v := .string (str ((((ps.getD i pz).bl).getD k bz).cut))) rfl (hp31.get 3 rfl) ?_
              refine stp (v := .string (str ((key.take 64).drop 0))) (o_mv rfl) ?_
              refine stp (v := .bool (Op.bytesLess ((((ps.getD i pz).bl).getD k bz).cut) ((key.take 64).drop 0))) (o_slss rfl rfl rfl) ?_
              refine h29 _ _ ?_
              clear h29
              refine cnd rfl (fun hlT => ?_) (fun hlF => ?_)
              ·
                refine stp (v := .int .i64 (k : Nat)) (o_mv rfl) ?_
                refine stp (v := .int .i64 (k : Nat)) (o_mv rfl) ?_
                refine h28 _ _ ?_
                clear h28
                refine stp (v := .int .i64 (k : Nat)) (o_mv rfl) ?_
                refine stp (v := .int .i64 ((k : Nat) + 1)) (o_bin rfl rfl (v_add64 (by constructor <;> omega))) ?_
                refine stp (v := .int .i64 ((k : Nat) + 1)) (o_mv rfl) ?_
                refine h23 (k + 1, k + 1) _ _ ⟨by first | rfl | exact v_int (by omega) | exact v_int (by simp) | exact v_int (by simp; omega), by first | rfl | exact v_int (by omega) | exact v_int (by simp) | exact v_int (by simp; omega), by first | rfl | simp [upd], rfl, by first | rfl | exact v_int (by omega) | exact v_int (by simp) | exact v_int (by simp; omega), hM22, by omega, srt_lo hsi (by omega) (by rw [less_cmp, decide_eq_true_iff] at hlT; exact hlT), fun j h1 h2 => by omega⟩ (by (try dsimp only); omega)
              ·
                refine h28 _ _ ?_
                clear h28
                refine stp (v := .int .i64 (k : Nat)) (o_mv rfl) ?_
                refine stp (v := .int .i64 ((k : Nat) + 1)) (o_bin rfl rfl (v_add64 (by constructor <;> omega))) ?_
                refine stp (v := .int .i64 ((k : Nat) + 1)) (o_mv rfl) ?_
                refine h23 (k + 1, lo) _ _ ⟨by first | rfl | exact v_int (by omega) | exact v_int (by simp) | exact v_int (by simp; omega), by first | rfl | exact v_int (by omega) | exact v_int (by simp) | exact v_int (by simp; omega), by first | rfl | simp [upd], rfl, by first | rfl | exact v_int (by omega) | exact v_int (by simp) | exact v_int (by simp; omega), hM22, by omega, hA, fun j h1 h2 => by
                      rcases Nat.lt_or_ge j k with h | h
                      · exact hB j h1 h
                      · obtain rfl : j = k := by omega
                        rw [less_cmp, decide_eq_false_iff_not] at hlF; omega⟩ (by (try dsimp only); omega)
            ·
              refine h20 _ _ ?_
              clear h20
              refine seq fun K33 h33 => ?_
              refine stp (v := .int .i64 (i : Nat)) (o_mv rfl) ?_
              refine stp (v := .int .i64 ((lo - 1) : Nat)) (o_mv rfl) ?_
              refine stp (v := .int .i64 (i : Nat)) (o_mv rfl) ?_
              refine stp (v := .int .i64 ((lo - 1) : Nat)) (o_mv rfl) ?_
              refine h33 _ _ ?_
              clear h33
              refine ⟨(.tuple [.int .i64 (i : Nat), .int .i64 ((lo - 1) : Nat)].toArray), rfl, ?_⟩
              exact ⟨_, _, rfl, .inl ⟨i, lo, rfl, by omega, by omega, hno, ⟨by omega, by rw [← show (key.take 64).drop 0 = key.take 64 from List.drop_zero]; exact hA, fun j h1 h2 => by rw [← show (key.take 64).drop 0 = key.take 64 from List.drop_zero]; exact hB j h1 (by omega)⟩, by omega⟩, hM22.upd⟩
      ·
        refine h7 _ _ ?_
        clear h7
        refine seq fun K34 h34 => ?_
        refine stp (v := .int .i64 (-1)) (o_mv rfl) ?_
        refine stp (v := .int .i64 0) (o_mv rfl) ?_
        refine h34 _ _ ?_
        clear h34
        refine ⟨(.tuple [.int .i64 (-1), .int .i64 0].toArray), rfl, ?_⟩
        exact ⟨_, _, rfl, .inr ⟨rfl, rfl, fun m hm => hno m (by omega)⟩, hM9.upd⟩
  ·
    refine h4 _ _ ?_
    clear h4
    refine seq fun K35 h35 => ?_
    refine seq fun K36 h36 => ?_
    refine stp (v := .int .i64 0) (o_mv rfl) ?_
    refine h36 _ _ ?_
    clear h36
    refine lp (n := fun _ _ => False) (ι := (Nat)) (fun i f w' => f 8 = .int .i64 (i : Nat) ∧ f 1 = .int .i64 part ∧ f 2 = .string (str key) ∧ f 3 = .pointer (some ⟨b2, 0, none⟩) ∧ Mem w [] w' [[⟨b2, 24, [.int .i64 parts, x]⟩]] ∧ (i ≤ ps.length) ∧ (∀ m, m < i → ¬ (ps.getD m pz).part = part)) (fun i => ps.length - i) (0) ?_ ?_
    · exact ⟨by first | rfl | exact v_int (by omega) | exact v_int (by simp) | exact v_int (by simp; omega), by first | rfl | exact v_int (by omega) | exact v_int (by simp) | exact v_int (by simp; omega), by first | rfl | simp [upd], rfl, hM3, by omega, fun m hm => by omega⟩
    · rintro i f w37 ⟨e37_8, e37_1, e37_2, e37_3, hM37, hi, hno⟩ K38 h38
      obtain ⟨frm, rfl⟩ : ∃ frm, f = (upd (upd (upd (upd frm 8 (.int .i64 (i : Nat))) 1 (.int .i64 part)) 2 (.string (str key))) 3 (.pointer (some ⟨b2, 0, none⟩))) := ⟨f, by rw [upd_self e37_8, upd_self e37_1, upd_self e37_2, upd_self e37_3]⟩
      clear e37_8 e37_1 e37_2 e37_3
      refine seq fun K39 h39 => ?_
      refine seq fun K40 h40 => ?_
      refine stp (v := .int .i64 (i : Nat)) (o_mv rfl) ?_
      refine stp (v := .pointer (some ⟨b2, 1, none⟩)) (o_fa rfl rfl) ?_
      refine m_ld (v := x) hM37 (i := 0) (j := 0) rfl rfl rfl rfl ?_
      refine stp (v := .int .i64 (ps.length : Nat)) (o_lenR (hx.upd hM37.upd) rfl rfl) ?_
      refine stp (v := .bool (decide (((i : Nat) : Int) < (ps.length : Nat)))) (o_bin rfl rfl rfl) ?_
      refine h40 _ _ ?_
      clear h40
      refine cndP rfl (fun c41 => ?_) (fun c41 => ?_)
      ·
        refine h39 _ _ ?_
        clear h39
        refine seq fun K42 h42 => ?_
        refine seq fun K43 h43 => ?_
        refine seq fun K44 h44 => ?_
        have hpi := hok _ (getD_memG pz (l := ps) (i := i) (by omega))
        have hsi := hsr _ (getD_memG pz (l := ps) (i := i) (by omega))
        have hlb := hpi.lb
        refine stp (v := .pointer (some ⟨b2, 1, none⟩)) (o_fa rfl rfl) ?_
        refine m_ld (v := x) hM37 (i := 0) (j := 0) rfl rfl rfl rfl ?_
        refine stp (v := .int .i64 (i : Nat)) (o_mv rfl) ?_
        refine m_idxS pz (j := i) (hx.upd hM37.upd) rfl rfl (by omega) fun b45 o45 hp45 => ?_
        refine stp (v := .pointer (some ⟨b45, o45, none⟩)) (o_fa rfl rfl) ?_
        refine ld (v := .int .i64 ((ps.getD i pz).part)) rfl (hp45.get 0 rfl) ?_
        refine stp (v := .int .i64 part) (o_mv rfl) ?_
        refine stp (v := .bool (decide (¬ ((ps.getD i pz).part) = part))) (o_bin rfl rfl v_neq) ?_
        refine h44 _ _ ?_
        clear h44
        refine cndP rfl (fun c46 => ?_) (fun c46 => ?_)
        ·
          refine h42 _ _ ?_
          clear h42
          refine stp (v := .int .i64 (i : Nat)) (o_mv rfl) ?_
          refine stp (v := .int .i64 ((i : Nat) + 1)) (o_bin rfl rfl (v_add64 (by constructor <;> omega))) ?_
          refine stp (v := .int .i64 ((i : Nat) + 1)) (o_mv rfl) ?_
          refine h38 (i + 1) _ _ ⟨by first | rfl | exact v_int (by omega) | exact v_int (by simp) | exact v_int (by simp; omega), by first | rfl | exact v_int (by omega) | exact v_int (by simp) | exact v_int (by simp; omega), by first | rfl | simp [upd], rfl, hM37, by omega, fun m hm => by
                rcases Nat.lt_or_ge m i with h | h
                · exact hno m h
                · obtain rfl : m = i := by omega
                  assumption⟩ (by (try dsimp only); omega)
        ·
          refine h43 _ _ ?_
          clear h43
          refine seq fun K47 h47 => ?_
          refine stp (v := .int .i64 0) (o_mv rfl) ?_
          refine h47 _ _ ?_
          clear h47
          refine seq fun K48 h48 => ?_
          refine seq fun K49 h49 => ?_
          refine stp (v := .int .i64 0) (o_mv rfl) ?_
          refine h49 _ _ ?_
          clear h49
          refine lp (n := fun _ _ => False) (ι := (Nat) × (Nat)) (fun ⟨k, lo⟩ f w' => f 10 = .int .i64 (k : Nat) ∧ f 9 = .int .i64 ((lo - 1) : Nat) ∧ f 2 = .string (str key) ∧ f 3 = .pointer (some ⟨b2, 0, none⟩) ∧ f 8 = .int .i64 (i : Nat) ∧ Mem w [] w' [[⟨b2, 24, [.int .i64 parts, x]⟩]] ∧ (k ≤ (ps.getD i pz).bl.length ∧ lo ≤ k) ∧ (∀ j, j < lo → cmp ((ps.getD i pz).bl.getD j bz).cut key < 0) ∧ (∀ j, lo ≤ j → j < k → 0 ≤ cmp ((ps.getD i pz).bl.getD j bz).cut key)) (fun ⟨k, lo⟩ => (ps.getD i pz).bl.length - k) (0, 0) ?_ ?_
          · exact ⟨by first | rfl | exact v_int (by omega) | exact v_int (by simp) | exact v_int (by simp; omega), by first | rfl | exact v_int (by omega) | exact v_int (by simp) | exact v_int (by simp; omega), by first | rfl | simp [upd], rfl, by first | rfl | exact v_int (by omega) | exact v_int (by simp) | exact v_int (by simp; omega), hM37, by omega, fun j hj => by omega, fun j hj hj2 => by omega⟩
          · rintro ⟨k, lo⟩ f w50 ⟨e50_10, e50_9, e50_2, e50_3, e50_8, hM50, hk, hA, hB⟩ K51 h51
            obtain ⟨frm, rfl⟩ : ∃ frm, f = (upd (upd (upd (upd (upd frm 10 (.int .i64 (k : Nat))) 9 (.int .i64 ((lo - 1) : Nat))) 2 (.string (str key))) 3 (.pointer (some ⟨b2, 0, none⟩))) 8 (.int .i64 (i : Nat))) := ⟨f, by rw [upd_self e50_10, upd_self e50_9, upd_self e50_2, upd_self e50_3, upd_self e50_8]⟩
            clear e50_10 e50_9 e50_2 e50_3 e50_8
            refine seq fun K52 h52 => ?_
            refine seq fun K53 h53 => ?_
            refine stp (v := .int .i64 (k : Nat)) (o_mv rfl) ?_
            refine stp (v := .pointer (some ⟨b2, 1, none⟩)) (o_fa rfl rfl) ?_
            refine m_ld (v := x) hM50 (i := 0) (j := 0) rfl rfl rfl rfl ?_
            refine stp (v := .int .i64 (i : Nat)) (o_mv rfl) ?_
            refine m_idxS pz (j := i) (hx.upd hM50.upd) rfl rfl (by omega) fun b54 o54 hp54 => ?_
            refine stp (v := .pointer (some ⟨b54, o54 + 1, none⟩)) (o_fa rfl rfl) ?_
            refine ld (v := (ps.getD i pz).bv) rfl (hp54.get 1 rfl) ?_
            refine stp (v := .int .i64 (((ps.getD i pz).bl).length : Nat)) (o_lenR (((fun p hp => (hok p hp).upd hM50.upd) _ (getD_memG pz (by omega))).rb) rfl rfl) ?_
            refine stp (v := .bool (decide (((k : Nat) : Int) < (((ps.getD i pz).bl).length : Nat)))) (o_bin rfl rfl rfl) ?_
            refine h53 _ _ ?_
            clear h53
            refine cndP rfl (fun c55 => ?_) (fun c55 => ?_)
            ·
              refine h52 _ _ ?_
              clear h52
              refine seq fun K56 h56 => ?_
              refine seq fun K57 h57 => ?_
              refine stp (v := .pointer (some ⟨b2, 1, none⟩)) (o_fa rfl rfl) ?_
              refine m_ld (v := x) hM50 (i := 0) (j := 0) rfl rfl rfl rfl ?_
              refine stp (v := .int .i64 (i : Nat)) (o_mv rfl) ?_
              refine m_idxS pz (j := i) (hx.upd hM50.upd) rfl rfl (by omega) fun b58 o58 hp58 => ?_
              refine stp (v := .pointer (some ⟨b58, o58 + 1, none⟩)) (o_fa rfl rfl) ?_
              refine ld (v := (ps.getD i pz).bv) rfl (hp58.get 1 rfl) ?_
              refine stp (v := .int .i64 (k : Nat)) (o_mv rfl) ?_
              refine m_idxS bz (j := k) (((fun p hp => (hok p hp).upd hM50.upd) _ (getD_memG pz (by omega))).rb) rfl rfl (by omega) fun b59 o59 hp59 => ?_
              refine stp (v := .pointer (some ⟨b59, o59 + 3, none⟩)) (o_fa rfl rfl) ?_
              refine ld (v := .string (str ((((ps.getD i pz).bl).getD k bz).cut))) rfl (hp59.get 3 rfl) ?_
              refine stp (v := .string (str key)) (o_mv rfl) ?_
              refine stp (v := .bool (Op.bytesLess ((((ps.getD i pz).bl).getD k bz).cut) key)) (o_slss rfl rfl rfl) ?_
              refine h57 _ _ ?_
              clear h57
              refine cnd rfl (fun hlT => ?_) (fun hlF => ?_)
              ·
                refine stp (v := .int .i64 (k : Nat)) (o_mv rfl) ?_
                refine stp (v := .int .i64 (k : Nat)) (o_mv rfl) ?_
                refine h56 _ _ ?_
                clear h56
                refine stp (v := .int .i64 (k : Nat)) (o_mv rfl) ?_
                refine stp (v := .int .i64 ((k : Nat) + 1)) (o_bin rfl rfl (v_add64 (by constructor <;> omega))) ?_
                refine stp (v := .int .i64 ((k : Nat) + 1)) (o_mv rfl) ?_
                refine h51 (k + 1, k + 1) _ _ ⟨by first | rfl | exact v_int (by omega) | exact v_int (by simp) | exact v_int (by simp; omega), by first | rfl | exact v_int (by omega) | exact v_int (by simp) | exact v_int (by simp; omega), by first | rfl | simp [upd], rfl, by first | rfl | exact v_int (by omega) | exact v_int (by simp) | exact v_int (by simp; omega), hM50, by omega, srt_lo hsi (by omega) (by rw [less_cmp, decide_eq_true_iff] at hlT; exact hlT), fun j h1 h2 => by omega⟩ (by (try dsimp only); omega)
              ·
                refine h56 _ _ ?_
                clear h56
                refine stp (v := .int .i64 (k : Nat)) (o_mv rfl) ?_
                refine stp (v := .int .i64 ((k : Nat) + 1)) (o_bin rfl rfl (v_add64 (by constructor <;> omega))) ?_
                refine stp (v := .int .i64 ((k : Nat) + 1)) (o_mv rfl) ?_
                refine h51 (k + 1, lo) _ _ ⟨by first | rfl | exact v_int (by omega) | exact v_int (by simp) | exact v_int (by simp; omega), by first | rfl | exact v_int (by omega) | exact v_int (by simp) | exact v_int (by simp; omega), by first | rfl | simp [upd], rfl, by first | rfl | exact v_int (by omega) | exact v_int (by simp) | exact v_int (by simp; omega), hM50, by omega, hA, fun j h1 h2 => by
                      rcases Nat.lt_or_ge j k with h | h
                      · exact hB j h1 h
                      · obtain rfl : j = k := by omega
                        rw [less_cmp, decide_eq_false_iff_not] at hlF; omega⟩ (by (try dsimp only); omega)
            ·
              refine h48 _ _ ?_
              clear h48
              refine seq fun K61 h61 => ?_
              refine stp (v := .int .i64 (i : Nat)) (o_mv rfl) ?_
              refine stp (v := .int .i64 ((lo - 1) : Nat)) (o_mv rfl) ?_
              refine stp (v := .int .i64 (i : Nat)) (o_mv rfl) ?_
              refine stp (v := .int .i64 ((lo - 1) : Nat)) (o_mv rfl) ?_
              refine h61 _ _ ?_
              clear h61
              refine ⟨(.tuple [.int .i64 (i : Nat), .int .i64 ((lo - 1) : Nat)].toArray), rfl, ?_⟩
              exact ⟨_, _, rfl, .inl ⟨i, lo, rfl, by omega, by omega, hno, ⟨by omega, by rw [← show key = key.take 64 from (List.take_of_length_le (by omega)).symm]; exact hA, fun j h1 h2 => by rw [← show key = key.take 64 from (List.take_of_length_le (by omega)).symm]; exact hB j h1 (by omega)⟩, by omega⟩, hM50.upd⟩
      ·
        refine h35 _ _ ?_
        clear h35
        refine seq fun K62 h62 => ?_
        refine stp (v := .int .i64 (-1)) (o_mv rfl) ?_
        refine stp (v := .int .i64 0) (o_mv rfl) ?_
        refine h62 _ _ ?_
        clear h62
        refine ⟨(.tuple [.int .i64 (-1), .int .i64 0].toArray), rfl, ?_⟩
        exact ⟨_, _, rfl, .inr ⟨rfl, rfl, fun m hm => hno m (by omega)⟩, hM37.upd⟩
