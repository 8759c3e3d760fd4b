/- Joining two filters. -/
import Derived.Test.YtjockanmmfmidaaDoorG9
namespace Go.Proofs.YtjockanmmfmidaaDoor.E
open Go
def tabL : List Int := [0, 0, 0, 0, 0, 0, 0, 0, 0, 0, 2, 2, 0, 0, 1, 3]
/-- the package's table: what joining makes of two kinds -/
def Tab (w : World) : Prop := ∀ k, k < 16 → w.cell? ⟨0, k, none⟩ = some (.int .i64 (tabL.getD k 0))
theorem Tab.upd {w w' : World} (h : Tab w) (u : Upd [] w w') : Tab w' := fun k hk => by
  have h1 := h k hk
  have hl := World.block_lt_of_cell? w ⟨0, k, none⟩ h1
  rw [← h1]
  unfold World.cell?
  simp only [u.block 0 hl (by simp)]
theorem Tab.at {w : World} (h : Tab w) {k k2 : Nat} (hk : k < 4) (hk2 : k2 < 4) : w.cell? ⟨0, k * 4 + k2, none⟩ = some (.int .i64 (tabL.getD (k * 4 + k2) 0)) := h _ (by omega)
def orL (d e : List UInt8) : List UInt8 := List.zipWith (· ||| ·) d e
/-- both filters in one: denies it nothing, hashes, bytes, the error -/
def joinF (a : Bool) (h : Int) (d : List UInt8) (b : Bool) (k : Int) (e : List UInt8) : Bool × Int × List UInt8 × Int :=
  if fk a h d = 0 ∨ fk b k e = 0 then (false, 0, [], 70) else if fk a h d = 1 ∨ fk b k e = 1 then (true, 0, [], 0) else if fk a h d = 2 then (b, k, e, 0) else if fk b k e = 2 then (a, h, d, 0)
  else if h = k ∧ d.length = e.length then (a, h, orL d e, 0) else (false, 0, [], 3)
section
variable {a b : Bool} {h k : Int} {d e : List UInt8}
theorem fk_lt : fk a h d < 4 := by unfold fk; split <;> (try split) <;> omega
theorem fkk2 (h0 : fk a h d = 2) : a = false ∧ h = 0 ∧ d = [] := by
  unfold fk at h0
  split at h0
  · rename_i c
    cases a
    · exact ⟨rfl, c.1, List.length_eq_zero_iff.1 c.2⟩
    · simp at h0
  · split at h0 <;> omega
theorem fkTrue (h0 : a = true) (h1 : ¬ fk a h d = 0) : fk a h d = 1 := by
  subst h0
  unfold fk at h1 ⊢
  split
  · rfl
  · rename_i c; rw [if_neg c, if_neg (fun k => by cases k.1)] at h1; exact absurd rfl h1
theorem fkFalse (h0 : a = false) : ¬ fk a h d = 1 := fun k => by
  subst h0
  unfold fk at k
  split at k
  · simp at k
  · split at k <;> omega
theorem fk_len0 (h0 : a = false) (h1 : ¬ fk a h d = 0) (hl : d.length = 0) : fk a h d = 2 := by
  have h2 := fk_lt (a := a) (h := h) (d := d)
  have h3 := fkFalse (h := h) (d := d) h0
  rcases (show fk a h d = 2 ∨ fk a h d = 3 by omega) with c | c
  · exact c
  · have := (fk3 c).2.2.2.1; omega
theorem fkk1 (h0 : fk a h d = 1) : a = true ∧ h = 0 ∧ d = [] := by
  unfold fk at h0
  split at h0
  · rename_i c
    cases a
    · simp at h0
    · exact ⟨rfl, c.1, List.length_eq_zero_iff.1 c.2⟩
  · split at h0 <;> omega
theorem join_0 (c : fk a h d = 0 ∨ fk b k e = 0) : joinF a h d b k e = (false, 0, [], 70) := by unfold joinF; rw [if_pos c]
theorem join_1 (c : ¬ (fk a h d = 0 ∨ fk b k e = 0)) (c1 : fk a h d = 1 ∨ fk b k e = 1) : joinF a h d b k e = (true, 0, [], 0) := by unfold joinF; rw [if_neg c, if_pos c1]
theorem join_2 (c : ¬ (fk a h d = 0 ∨ fk b k e = 0)) (c1 : ¬ (fk a h d = 1 ∨ fk b k e = 1)) (c2 : fk a h d = 2) : joinF a h d b k e = (b, k, e, 0) := by unfold joinF; rw [if_neg c, if_neg c1, if_pos c2]
theorem join_3 (c : ¬ (fk a h d = 0 ∨ fk b k e = 0)) (c1 : ¬ (fk a h d = 1 ∨ fk b k e = 1)) (c2 : ¬ fk a h d = 2) (c3 : fk b k e = 2) : joinF a h d b k e = (a, h, d, 0) := by unfold joinF; rw [if_neg c, if_neg c1, if_neg c2, if_pos c3]
theorem join_4 (c : ¬ (fk a h d = 0 ∨ fk b k e = 0)) (c1 : ¬ (fk a h d = 1 ∨ fk b k e = 1)) (c2 : ¬ fk a h d = 2) (c3 : ¬ fk b k e = 2) (c4 : h = k ∧ d.length = e.length) : joinF a h d b k e = (a, h, orL d e, 0) := by unfold joinF; rw [if_neg c, if_neg c1, if_neg c2, if_neg c3, if_pos c4]
theorem join_5 (c : ¬ (fk a h d = 0 ∨ fk b k e = 0)) (c1 : ¬ (fk a h d = 1 ∨ fk b k e = 1)) (c2 : ¬ fk a h d = 2) (c3 : ¬ fk b k e = 2) (c4 : ¬ (h = k ∧ d.length = e.length)) : joinF a h d b k e = (false, 0, [], 3) := by unfold joinF; rw [if_neg c, if_neg c1, if_neg c2, if_neg c3, if_neg c4]
theorem tab_0 {p q : Nat} (hp : p < 4) (hq : q < 4) (p0 : ¬ p = 0) (q0 : ¬ q = 0) (h : tabL.getD (p * 4 + q) 0 = 0) : p = 1 ∨ q = 1 := by
  rcases (show p = 1 ∨ p = 2 ∨ p = 3 by omega) with rfl | rfl | rfl <;> rcases (show q = 1 ∨ q = 2 ∨ q = 3 by omega) with rfl | rfl | rfl <;> first | omega | (exfalso; revert h; decide)
theorem tab_1 {p q : Nat} (hp : p < 4) (hq : q < 4) (p0 : ¬ p = 0) (q0 : ¬ q = 0) (h : tabL.getD (p * 4 + q) 0 = 1) : p = 3 ∧ q = 2 := by
  rcases (show p = 1 ∨ p = 2 ∨ p = 3 by omega) with rfl | rfl | rfl <;> rcases (show q = 1 ∨ q = 2 ∨ q = 3 by omega) with rfl | rfl | rfl <;> first | omega | (exfalso; revert h; decide)
theorem tab_2 {p q : Nat} (hp : p < 4) (hq : q < 4) (p0 : ¬ p = 0) (q0 : ¬ q = 0) (h : tabL.getD (p * 4 + q) 0 = 2) : p = 2 ∧ ¬ q = 1 := by
  rcases (show p = 1 ∨ p = 2 ∨ p = 3 by omega) with rfl | rfl | rfl <;> rcases (show q = 1 ∨ q = 2 ∨ q = 3 by omega) with rfl | rfl | rfl <;> first | omega | (exfalso; revert h; decide)
theorem tab_3 {p q : Nat} (hp : p < 4) (hq : q < 4) (p0 : ¬ p = 0) (q0 : ¬ q = 0) (h0 : ¬ tabL.getD (p * 4 + q) 0 = 0) (h1 : ¬ tabL.getD (p * 4 + q) 0 = 1) (h2 : ¬ tabL.getD (p * 4 + q) 0 = 2) : p = 3 ∧ q = 3 := by
  rcases (show p = 1 ∨ p = 2 ∨ p = 3 by omega) with rfl | rfl | rfl <;> rcases (show q = 1 ∨ q = 2 ∨ q = 3 by omega) with rfl | rfl | rfl <;> first | omega | (exfalso; revert h0 h1 h2; decide)
/-- the first i bytes joined -/
def orI2 (i : Nat) (d e : List UInt8) : List UInt8 := orL (d.take i) (e.take i) ++ d.drop i
theorem orI2_zero (d e : List UInt8) : orI2 0 d e = d := rfl
theorem orI2_length {i : Nat} (h : d.length = e.length) : (orI2 i d e).length = d.length := by
  unfold orI2 orL; rw [List.length_append, List.length_zipWith, List.length_take, List.length_take, List.length_drop, h]; omega
theorem orI2_get {i : Nat} (h : d.length = e.length) (hi : i < d.length) : (orI2 i d e).getD i 0 = d.getD i 0 := by
  unfold orI2 orL
  have hl : (List.zipWith (· ||| ·) (d.take i) (e.take i)).length = i := by rw [List.length_zipWith, List.length_take, List.length_take]; omega
  rw [List.getD_eq_getElem?_getD, List.getElem?_append_right (by omega), hl, Nat.sub_self, List.getElem?_drop, Nat.add_zero, ← List.getD_eq_getElem?_getD]
theorem orI2_succ {i : Nat} (h : d.length = e.length) (hi : i < d.length) : (orI2 i d e).set i (d.getD i 0 ||| e.getD i 0) = orI2 (i + 1) d e := by
  unfold orI2 orL
  have hl : (List.zipWith (· ||| ·) (d.take i) (e.take i)).length = i := by rw [List.length_zipWith, List.length_take, List.length_take]; omega
  rw [List.set_append_right _ _ (by omega), hl, Nat.sub_self, takeG 0 hi, takeG 0 (show i < e.length by omega), List.zipWith_append (by rw [List.length_take, List.length_take]; omega), List.append_assoc]
  congr 1
  rw [dropG 0 hi]; rfl
theorem orI2_end {i : Nat} (h : d.length = e.length) (hi : d.length ≤ i) : orI2 i d e = orL d e := by
  unfold orI2
  rw [List.take_of_length_le hi, List.take_of_length_le (by omega), List.drop_of_length_le hi, List.append_nil]
theorem or8 (x y : UInt8) : orI .u8 (x.toNat : Int) (y.toNat : Int) = ((x ||| y).toNat : Int) := by
  have hx := x.toNat_lt
  have hy := y.toNat_lt
  have h4 : x.toNat ||| y.toNat < 2 ^ 8 := Nat.or_lt_two_pow hx hy
  rw [orI_nat (k := .u8) (by simpa [IntKind.bits] using hx) (by simpa [IntKind.bits] using hy) (by simp only [inK]; omega), UInt8.toNat_or]
end

section
variable {P : Program} {r : List MI} {f : Fr} {w w0 : World} {S : List Nat} {R : List (List Ent)} {K : Fr → World → Prop} {d : Nat}
theorem m_alU {t : TypeId} {cs : List Value} (hM : Mem w0 S w R) (h : ∀ b w', Upd [] w w' → Mem w0 S w' (R ++ [[⟨b, t, cs⟩]]) → vr P r (upd f d (.pointer (some ⟨b, 0, none⟩))) w' K) : vr P (.l none (some d) (.al t cs) :: r) f w K :=
  m_al (Mem.nil w []) fun b w' hM' => h b w' hM'.upd (hM.add hM')
end
theorem m_idxE3 {α : Type} {E : α → Value} (z : α) {P : Program} {r : List MI} {f : Fr} {w wr : World} {K : Fr → World → Prop} {d : Nat} {x i : Operand} {u : Value} {l : List α} {j : Nat} {k : IntKind} (h : RdE E w u l) (h0 : RdE E wr u l) (hx : ev f x = u) (hi : ev f i = .int k j) (hj : j < l.length)
    (hk : ∀ b o, wr.cell? ⟨b, o, none⟩ = some (E (l.getD j z)) → b = blkV u → vr P r (upd f d (.pointer (some ⟨b, o, none⟩))) w K) : vr P (.p none d (.idx 1 x i) :: r) f w K := by
  show pe (.idx 1 x i) f (fun v => vr P r (upd f d v) w K)
  obtain ⟨a, c, rfl, h2, h3, h4⟩ := h.form
  obtain ⟨a0, c0, e, h20, h30, h40⟩ := h0.form
  cases e
  show kslice (ev f x) _; rw [hx]; show anyint (ev f i) _; rw [hi]; refine ⟨⟨by omega, by omega⟩, ?_⟩
  cases a with
  | none => have := h4 rfl; omega
  | some a =>
    obtain ⟨b, o, m⟩ := a
    cases m with
    | some m => simp only [Row] at h3; have := congrArg List.length h3; simp at this; subst this; simp at hj
    | none =>
      refine hk _ _ ?_ rfl
      have h5 := h30 j (by simpa using hj)
      rw [Int.toNat_natCast, Nat.mul_one, h5, List.getElem?_map, List.getElem?_eq_getElem hj, List.getD_eq_getElem?_getD, List.getElem?_eq_getElem hj]; rfl
theorem SlE.blk_apart {α : Type} {E : α → Value} {t : TypeId} {v : Value} {l : List α} {r rk : List Ent} {w0 w : World} {S : List Nat} {R : List (List Ent)} {i k : Nat} (h : SlE E t v l r) (hM : Mem w0 S w R) (hi : R[i]? = some r) (hk : R[k]? = some rk) (hn : i ≠ k) (hl : 0 < l.length) : blkV v ∉ ids rk := by
  rcases h.form with ⟨_, h, _⟩ | ⟨b, c, tl, h, h2, _, _⟩
  · rw [h] at hl; simp at hl
  · subst h h2
    exact hM.apart (i := i) (j := 0) (k := k) hi rfl hk hn

set_option maxRecDepth 100000 in
/-- filter.twin -/
theorem twin_ok (a : Bool) (h : Int) (v : Value) (d : List UInt8) (w : World) (hx : RdE byteV w v d) (hl : d.length ≤ 140737488351232) : Calls Tryd.prog 24 [.agg [.bool a, .int .i64 h, v].toArray].toArray w (Rt fun r w' => ∃ v rs, r = .agg #[.bool a, .int .i64 h, v] ∧ SlE byteV 5 v d rs ∧ Mem w [] w' [rs]) := by
  obtain ⟨av, nv, cv, rfl⟩ := hx.isSlice
  have hM0 : Mem w [] w [] := Mem.nil w []
  refine calls_vc mixed Tryd.func24 rfl C24 (by simp [Tryd.ntmps24]) ?_
  refine seq fun K1 h1 => ?_
  refine m_bx (v := .agg ([.bool a, .int .i64 h, (.slice av nv cv)] : List Value).toArray) hM0 rfl rfl fun b2 w3 (hM3 : Mem w [] w3 [[⟨b2, 24, [.bool a, .int .i64 h, (.slice av nv cv)]⟩]]) => ?_
  refine m_al hM3 fun b4 w5 (hM5 : Mem w [] w5 [[⟨b2, 24, [.bool a, .int .i64 h, (.slice av nv cv)]⟩], [⟨b4, 24, [.bool false, .int .i64 0, .slice none 0 0]⟩]]) => ?_
  refine h1 _ _ ?_
  clear h1
  refine seq fun K6 h6 => ?_
  refine m_bs hM5 rfl fun b7 w8 (hM8 : Mem w [] w8 [[⟨b2, 24, [.bool a, .int .i64 h, (.slice av nv cv)]⟩], [⟨b4, 24, [.bool false, .int .i64 0, .slice none 0 0]⟩], [⟨b7, 5, []⟩]]) => ?_
  refine stp (v := .pointer (some ⟨b2, 2, none⟩)) (o_fa rfl rfl) ?_
  refine m_ld (v := (.slice av nv cv)) hM8 (i := 0) (j := 0) rfl rfl rfl rfl ?_
  have hs9 : SlE byteV 5 (.slice (some ⟨b7, 0, none⟩) 0 0) [] [⟨b7, 5, []⟩] := SlE.lit (l := []) rfl
  refine m_appE hM8 (i := 2) rfl hs9 rfl rfl (hx.upd hM8.upd) (by first | omega | (simp; omega)) (by omega) fun v10 w10 r10 (hs10 : SlE byteV 5 v10 (d) r10) (hM10 : Mem w [] w10 [[⟨b2, 24, [.bool a, .int .i64 h, (.slice av nv cv)]⟩], [⟨b4, 24, [.bool false, .int .i64 0, .slice none 0 0]⟩], r10]) => ?_
  obtain ⟨a11_, n11_, c11_, rfl⟩ := Sl.isSlice hs10
  refine stp (v := .pointer (some ⟨b2, 2, none⟩)) (o_fa rfl rfl) ?_
  refine m_st (v := (.slice a11_ n11_ c11_)) hM10 (i := 0) rfl rfl rfl (Sl.one hs10) (by simp) fun w12 (hM12 : Mem w [] w12 [[⟨b2, 24, [.bool a, .int .i64 h, (.slice a11_ n11_ c11_)]⟩], [⟨b4, 24, [.bool false, .int .i64 0, .slice none 0 0]⟩], r10]) => ?_
  refine h6 _ _ ?_
  clear h6
  refine seq fun K13 h13 => ?_
  refine m_ldA (l := [.bool a, .int .i64 h, (.slice a11_ n11_ c11_)]) hM12 (i := 0) (j := 0) rfl rfl rfl rfl rfl ?_
  refine m_stA (l := [.bool a, .int .i64 h, (.slice a11_ n11_ c11_)]) hM12 (i := 1) rfl rfl rfl rfl (by simp [oneCells, Value.oneCell', byteV]) (by simp) fun w14 (hM14 : Mem w [] w14 [[⟨b2, 24, [.bool a, .int .i64 h, (.slice a11_ n11_ c11_)]⟩], [⟨b4, 24, [.bool a, .int .i64 h, (.slice a11_ n11_ c11_)]⟩], r10]) => ?_
  refine h13 _ _ ?_
  clear h13
  show resV _ _ _ _ _
  refine res_cell (s := some 3) (by kernel_rfl) ?_
  refine vl_ldA (cs := [.bool a, .int .i64 h, (.slice a11_ n11_ c11_)]) rfl rfl ((hM14.at (i := 1) (j := 0) rfl rfl).agg rfl rfl) ?_
  refine ⟨(.agg ([.bool a, .int .i64 h, (.slice a11_ n11_ c11_)] : List Value).toArray), rfl, ?_⟩
  exact ⟨_, _, rfl, hs10, ((hM14.drop 0).drop 1).keep (by simp)⟩

set_option maxRecDepth 100000 in
/-- filter.Join -/
theorem Join_ok (a b : Bool) (h k : Int) (v u : Value) (d e : List UInt8) (w : World) (hT : Tab w) (hx : RdE byteV w v d) (hy : RdE byteV w u e) (hl : d.length ≤ 140737488351232) (hm : e.length ≤ 140737488351232) : Calls Tryd.prog 7 [.agg [.bool a, .int .i64 h, v].toArray, .agg [.bool b, .int .i64 k, u].toArray].toArray w (Rt fun r w' => ∃ v rs, r = .tuple #[.agg #[.bool (joinF a h d b k e).1, .int .i64 (joinF a h d b k e).2.1, v], .int .i64 (joinF a h d b k e).2.2.2] ∧ SlE byteV 5 v (joinF a h d b k e).2.2.1 rs ∧ Mem w [] w' [rs]) := by
  obtain ⟨av, nv, cv, rfl⟩ := hx.isSlice
  obtain ⟨au, nu, cu, rfl⟩ := hy.isSlice
  have hM0 : Mem w [] w [] := Mem.nil w []
  have hka := fk_lt (a := a) (h := h) (d := d)
  have hkb := fk_lt (a := b) (h := k) (d := e)
  refine calls_vc mixed Tryd.func7 rfl C7 (by simp [Tryd.ntmps7]) ?_
  refine seq fun K1 h1 => ?_
  refine m_bx (v := .agg ([.bool a, .int .i64 h, (.slice av nv cv)] : List Value).toArray) hM0 rfl rfl fun b2 w3 (hM3 : Mem w [] w3 [[⟨b2, 24, [.bool a, .int .i64 h, (.slice av nv cv)]⟩]]) => ?_
  refine m_bx (v := .agg ([.bool b, .int .i64 k, (.slice au nu cu)] : List Value).toArray) hM3 rfl rfl fun b4 w5 (hM5 : Mem w [] w5 [[⟨b2, 24, [.bool a, .int .i64 h, (.slice av nv cv)]⟩], [⟨b4, 24, [.bool b, .int .i64 k, (.slice au nu cu)]⟩]]) => ?_
  refine m_al hM5 fun b6 w7 (hM7 : Mem w [] w7 [[⟨b2, 24, [.bool a, .int .i64 h, (.slice av nv cv)]⟩], [⟨b4, 24, [.bool b, .int .i64 k, (.slice au nu cu)]⟩], [⟨b6, 24, [.bool false, .int .i64 0, .slice none 0 0]⟩]]) => ?_
  refine stp (v := .int .i64 0) (o_mv rfl) ?_
  refine h1 _ _ ?_
  clear h1
  refine seq fun K8 h8 => ?_
  intro wd e1 e2 e3 e4
  have hd := Upd.same e1 e2 e3 e4 []
  have hM9 := hM7.pure hd
  clear e1 e2 e3 e4
  refine ⟨(some [b4]), ?_⟩
  show vd _ _ _ _ _ _ _
  refine dqldA (cs := [.bool b, .int .i64 k, (.slice au nu cu)]) rfl (by simp [isHeld]) rfl ((hM9.at (i := 1) (j := 0) rfl rfl).agg rfl rfl) ?_
  refine dl (m_ldA (l := [.bool a, .int .i64 h, (.slice av nv cv)]) hM9 (i := 0) (j := 0) rfl rfl rfl rfl rfl ?_)
  refine ⟨(fun b hb => rfl), ?_⟩
  refine dl (m_call (kind_ok a h _ d wd (hx.upd hM9.upd) (by first | omega | (simp; done) | (simp; omega))) rfl fun v10 w10 ⟨hr10, hu10⟩ => ?_)
  have hM10 : Mem w [] w10 [[⟨b2, 24, [.bool a, .int .i64 h, (.slice av nv cv)]⟩], [⟨b4, 24, [.bool b, .int .i64 k, (.slice au nu cu)]⟩], [⟨b6, 24, [.bool false, .int .i64 0, .slice none 0 0]⟩]] := hM9.pure hu10
  subst hr10
  have hh10 := held_upd (wr := wd) (bs := [b4]) hu10 (fun b hb => by
    simp only [List.mem_cons, List.not_mem_nil, or_false] at hb
    rw [hb]; exact ⟨(hM9.at (i := 1) (j := 0) rfl rfl).lt, by simp⟩) (fun b hb => rfl)
  refine ⟨hh10, ?_⟩
  refine dl (m_call (kind_ok b k _ e w10 (hy.upd hM10.upd) (by first | omega | (simp; done) | (simp; omega))) rfl fun v11 w11 ⟨hr11, hu11⟩ => ?_)
  have hM11 : Mem w [] w11 [[⟨b2, 24, [.bool a, .int .i64 h, (.slice av nv cv)]⟩], [⟨b4, 24, [.bool b, .int .i64 k, (.slice au nu cu)]⟩], [⟨b6, 24, [.bool false, .int .i64 0, .slice none 0 0]⟩]] := hM10.pure hu11
  subst hr11
  have hh11 := held_upd (wr := wd) (bs := [b4]) hu11 (fun b hb => by
    simp only [List.mem_cons, List.not_mem_nil, or_false] at hb
    rw [hb]; exact ⟨(hM10.at (i := 1) (j := 0) rfl rfl).lt, by simp⟩) hh10
  refine ⟨hh11, ?_⟩
  refine dq (v := .int .i64 (fk a h d : Nat)) (o_mv rfl) ?_
  refine dq (v := .int .i64 (fk b k e : Nat)) (o_mv rfl) ?_
  refine h8 _ _ ?_
  clear h8
  refine seq fun K12 h12 => ?_
  refine seq fun K13 h13 => ?_
  refine stp (v := .int .i64 (fk a h d : Nat)) (o_mv rfl) ?_
  refine stp (v := .bool (decide (((fk a h d : Nat) : Int) = 0))) (o_bin rfl rfl rfl) ?_
  refine stp (v := .bool (decide (((fk a h d : Nat) : Int) = 0))) (o_mv rfl) ?_
  refine splitP rfl (fun c14 => ?_) (fun c14 => ?_)
  ·
    refine gno rfl (by simp) ?_
    refine gno rfl (by simp) ?_
    refine stp (v := .bool true) (o_pickT rfl rfl) ?_
    refine h13 _ _ ?_
    clear h13
    refine cndT rfl ?_
    refine seq fun K15 h15 => ?_
    refine stp (v := .agg ([.bool false, .int .i64 0, .slice none 0 0] : List Value).toArray) (o_bld rfl rfl) ?_
    refine m_stA (l := [.bool false, .int .i64 0, .slice none 0 0]) hM11 (i := 2) rfl rfl rfl rfl (by simp [oneCells, Value.oneCell', byteV]) (by simp) fun w16 (hM16 : Mem w [] w16 [[⟨b2, 24, [.bool a, .int .i64 h, (.slice av nv cv)]⟩], [⟨b4, 24, [.bool b, .int .i64 k, (.slice au nu cu)]⟩], [⟨b6, 24, [.bool false, .int .i64 0, .slice none 0 0]⟩]]) => ?_
    refine stp (v := .int .i64 70) (o_mv rfl) ?_
    refine h15 _ _ ?_
    clear h15
    show resV _ _ _ _ _
    refine res_cell (s := some 3) (by kernel_rfl) ?_
    refine vl_ldA (cs := [.bool false, .int .i64 0, .slice none 0 0]) rfl rfl ((hM16.at (i := 2) (j := 0) rfl rfl).agg rfl rfl) ?_
    refine res_tmp ?_
    refine ⟨(.tuple [.agg ([.bool false, .int .i64 0, .slice none 0 0] : List Value).toArray, .int .i64 70].toArray), rfl, ?_⟩
    have je := join_0 (a := a) (h := h) (d := d) (b := b) (k := k) (e := e) (.inl (by omega))
    exact ⟨_, [], by rw [je], by rw [je]; exact Sl.nil 1 5, (hM16.addNil).keep (by simp)⟩
  ·
    refine stg rfl (v := .int .i64 (fk b k e : Nat)) (o_mv rfl) ?_
    refine stg rfl (v := .bool (decide (((fk b k e : Nat) : Int) = 0))) (o_bin rfl rfl rfl) ?_
    refine stp (v := .bool (decide (((fk b k e : Nat) : Int) = 0))) (o_pickF rfl rfl) ?_
    refine h13 _ _ ?_
    clear h13
    refine cndP rfl (fun c17 => ?_) (fun c17 => ?_)
    ·
      refine seq fun K18 h18 => ?_
      refine stp (v := .agg ([.bool false, .int .i64 0, .slice none 0 0] : List Value).toArray) (o_bld rfl rfl) ?_
      refine m_stA (l := [.bool false, .int .i64 0, .slice none 0 0]) hM11 (i := 2) rfl rfl rfl rfl (by simp [oneCells, Value.oneCell', byteV]) (by simp) fun w19 (hM19 : Mem w [] w19 [[⟨b2, 24, [.bool a, .int .i64 h, (.slice av nv cv)]⟩], [⟨b4, 24, [.bool b, .int .i64 k, (.slice au nu cu)]⟩], [⟨b6, 24, [.bool false, .int .i64 0, .slice none 0 0]⟩]]) => ?_
      refine stp (v := .int .i64 70) (o_mv rfl) ?_
      refine h18 _ _ ?_
      clear h18
      show resV _ _ _ _ _
      refine res_cell (s := some 3) (by kernel_rfl) ?_
      refine vl_ldA (cs := [.bool false, .int .i64 0, .slice none 0 0]) rfl rfl ((hM19.at (i := 2) (j := 0) rfl rfl).agg rfl rfl) ?_
      refine res_tmp ?_
      refine ⟨(.tuple [.agg ([.bool false, .int .i64 0, .slice none 0 0] : List Value).toArray, .int .i64 70].toArray), rfl, ?_⟩
      have je := join_0 (a := a) (h := h) (d := d) (b := b) (k := k) (e := e) (.inr (by omega))
      exact ⟨_, [], by rw [je], by rw [je]; exact Sl.nil 1 5, (hM19.addNil).keep (by simp)⟩
    ·
      refine h12 _ _ ?_
      clear h12
      refine seq fun K20 h20 => ?_
      refine seq fun K21 h21 => ?_
      refine stp (v := .int .i64 (fk a h d : Nat)) (o_mv rfl) ?_
      refine stp (v := .int .i64 (fk b k e : Nat)) (o_mv rfl) ?_
      refine stp (v := .pointer (some ⟨0, (fk a h d) * 4, none⟩)) (o_idxa rfl rfl (by omega) (v_ptr (by simp))) ?_
      refine stp (v := .pointer (some ⟨0, (fk a h d) * 4 + fk b k e, none⟩)) (o_idxa rfl rfl (by omega) (v_ptr (by simp))) ?_
      refine ld (v := .int .i64 (tabL.getD (fk a h d * 4 + fk b k e) 0)) rfl ((hT.upd hM11.upd).at hka hkb) ?_
      refine h21 _ _ ?_
      clear h21
      refine seq fun K22 h22 => ?_
      refine stp (v := .bool (decide ((tabL.getD (fk a h d * 4 + fk b k e) 0) = 0))) (o_bin rfl rfl rfl) ?_
      refine stp (v := .bool (decide ((tabL.getD (fk a h d * 4 + fk b k e) 0) = 0))) (o_mv rfl) ?_
      refine h22 _ _ ?_
      clear h22
      refine cndP rfl (fun c23 => ?_) (fun c23 => ?_)
      ·
        refine seq fun K24 h24 => ?_
        refine stp (v := .agg ([.bool true, .int .i64 0, .slice none 0 0] : List Value).toArray) (o_bld rfl rfl) ?_
        refine m_stA (l := [.bool true, .int .i64 0, .slice none 0 0]) hM11 (i := 2) rfl rfl rfl rfl (by simp [oneCells, Value.oneCell', byteV]) (by simp) fun w25 (hM25 : Mem w [] w25 [[⟨b2, 24, [.bool a, .int .i64 h, (.slice av nv cv)]⟩], [⟨b4, 24, [.bool b, .int .i64 k, (.slice au nu cu)]⟩], [⟨b6, 24, [.bool true, .int .i64 0, .slice none 0 0]⟩]]) => ?_
        refine stp (v := .int .i64 0) (o_mv rfl) ?_
        refine h24 _ _ ?_
        clear h24
        show resV _ _ _ _ _
        refine res_cell (s := some 3) (by kernel_rfl) ?_
        refine vl_ldA (cs := [.bool true, .int .i64 0, .slice none 0 0]) rfl rfl ((hM25.at (i := 2) (j := 0) rfl rfl).agg rfl rfl) ?_
        refine res_tmp ?_
        refine ⟨(.tuple [.agg ([.bool true, .int .i64 0, .slice none 0 0] : List Value).toArray, .int .i64 0].toArray), rfl, ?_⟩
        have tb := tab_0 hka hkb (by omega) (by omega) (by omega)
        have je := join_1 (a := a) (h := h) (d := d) (b := b) (k := k) (e := e) (by omega) (by omega)
        exact ⟨_, [], by rw [je], by rw [je]; exact Sl.nil 1 5, (hM25.addNil).keep (by simp)⟩
      ·
        refine seq fun K26 h26 => ?_
        refine stp (v := .bool (decide ((tabL.getD (fk a h d * 4 + fk b k e) 0) = 1))) (o_bin rfl rfl rfl) ?_
        refine stp (v := .bool (decide ((tabL.getD (fk a h d * 4 + fk b k e) 0) = 1))) (o_mv rfl) ?_
        refine h26 _ _ ?_
        clear h26
        refine cndP rfl (fun c27 => ?_) (fun c27 => ?_)
        ·
          refine seq fun K28 h28 => ?_
          refine m_ldA (l := [.bool a, .int .i64 h, (.slice av nv cv)]) hM11 (i := 0) (j := 0) rfl rfl rfl rfl rfl ?_
          refine m_call (twin_ok a h _ d w11 (hx.upd hM11.upd) (by first | omega | (simp; done) | (simp; omega))) rfl fun v29 w29 ⟨vd29, rs29, hr29, hs29, hm29⟩ => ?_
          have hM29 : Mem w [] w29 [[⟨b2, 24, [.bool a, .int .i64 h, (.slice av nv cv)]⟩], [⟨b4, 24, [.bool b, .int .i64 k, (.slice au nu cu)]⟩], [⟨b6, 24, [.bool false, .int .i64 0, .slice none 0 0]⟩], rs29] := hM11.add hm29
          obtain ⟨av29, lv29, cv29, rfl⟩ := hs29.isSlice
          subst hr29
          refine m_stA (l := [.bool a, .int .i64 h, (.slice av29 lv29 cv29)]) hM29 (i := 2) rfl rfl rfl rfl (by simp [oneCells, Value.oneCell', byteV]) (by simp) fun w30 (hM30 : Mem w [] w30 [[⟨b2, 24, [.bool a, .int .i64 h, (.slice av nv cv)]⟩], [⟨b4, 24, [.bool b, .int .i64 k, (.slice au nu cu)]⟩], [⟨b6, 24, [.bool a, .int .i64 h, (.slice av29 lv29 cv29)]⟩], rs29]) => ?_
          refine stp (v := .int .i64 0) (o_mv rfl) ?_
          refine h28 _ _ ?_
          clear h28
          show resV _ _ _ _ _
          refine res_cell (s := some 3) (by kernel_rfl) ?_
          refine vl_ldA (cs := [.bool a, .int .i64 h, (.slice av29 lv29 cv29)]) rfl rfl ((hM30.at (i := 2) (j := 0) rfl rfl).agg rfl rfl) ?_
          refine res_tmp ?_
          refine ⟨(.tuple [.agg ([.bool a, .int .i64 h, (.slice av29 lv29 cv29)] : List Value).toArray, .int .i64 0].toArray), rfl, ?_⟩
          have tb := tab_1 hka hkb (by omega) (by omega) (by omega)
          have je := join_3 (a := a) (h := h) (d := d) (b := b) (k := k) (e := e) (by omega) (by omega) (by omega) (by omega)
          exact ⟨_, _, by rw [je], by rw [je]; assumption, hM30.keep (by simp; repeat (first | exact List.Sublist.refl _ | exact List.sublist_append_left _ _ | apply List.Sublist.cons))⟩
        ·
          refine seq fun K31 h31 => ?_
          refine stp (v := .bool (decide ((tabL.getD (fk a h d * 4 + fk b k e) 0) = 2))) (o_bin rfl rfl rfl) ?_
          refine stp (v := .bool (decide ((tabL.getD (fk a h d * 4 + fk b k e) 0) = 2))) (o_mv rfl) ?_
          refine h31 _ _ ?_
          clear h31
          refine cndP rfl (fun c32 => ?_) (fun c32 => ?_)
          ·
            refine seq fun K33 h33 => ?_
            refine m_ldA (l := [.bool b, .int .i64 k, (.slice au nu cu)]) hM11 (i := 1) (j := 0) rfl rfl rfl rfl rfl ?_
            refine m_call (twin_ok b k _ e w11 (hy.upd hM11.upd) (by first | omega | (simp; done) | (simp; omega))) rfl fun v34 w34 ⟨vd34, rs34, hr34, hs34, hm34⟩ => ?_
            have hM34 : Mem w [] w34 [[⟨b2, 24, [.bool a, .int .i64 h, (.slice av nv cv)]⟩], [⟨b4, 24, [.bool b, .int .i64 k, (.slice au nu cu)]⟩], [⟨b6, 24, [.bool false, .int .i64 0, .slice none 0 0]⟩], rs34] := hM11.add hm34
            obtain ⟨av34, lv34, cv34, rfl⟩ := hs34.isSlice
            subst hr34
            refine m_stA (l := [.bool b, .int .i64 k, (.slice av34 lv34 cv34)]) hM34 (i := 2) rfl rfl rfl rfl (by simp [oneCells, Value.oneCell', byteV]) (by simp) fun w35 (hM35 : Mem w [] w35 [[⟨b2, 24, [.bool a, .int .i64 h, (.slice av nv cv)]⟩], [⟨b4, 24, [.bool b, .int .i64 k, (.slice au nu cu)]⟩], [⟨b6, 24, [.bool b, .int .i64 k, (.slice av34 lv34 cv34)]⟩], rs34]) => ?_
            refine stp (v := .int .i64 0) (o_mv rfl) ?_
            refine h33 _ _ ?_
            clear h33
            show resV _ _ _ _ _
            refine res_cell (s := some 3) (by kernel_rfl) ?_
            refine vl_ldA (cs := [.bool b, .int .i64 k, (.slice av34 lv34 cv34)]) rfl rfl ((hM35.at (i := 2) (j := 0) rfl rfl).agg rfl rfl) ?_
            refine res_tmp ?_
            refine ⟨(.tuple [.agg ([.bool b, .int .i64 k, (.slice av34 lv34 cv34)] : List Value).toArray, .int .i64 0].toArray), rfl, ?_⟩
            have tb := tab_2 hka hkb (by omega) (by omega) (by omega)
            have je := join_2 (a := a) (h := h) (d := d) (b := b) (k := k) (e := e) (by omega) (by omega) (by omega)
            exact ⟨_, _, by rw [je], by rw [je]; assumption, hM35.keep (by simp; repeat (first | exact List.Sublist.refl _ | exact List.sublist_append_left _ _ | apply List.Sublist.cons))⟩
          ·
            refine h20 _ _ ?_
            clear h20
            refine seq fun K36 h36 => ?_
            refine seq fun K37 h37 => ?_
            refine stp (v := .pointer (some ⟨b2, 1, none⟩)) (o_fa rfl rfl) ?_
            refine m_ld (v := .int .i64 h) hM11 (i := 0) (j := 0) rfl rfl rfl rfl ?_
            refine stp (v := .pointer (some ⟨b4, 1, none⟩)) (o_fa rfl rfl) ?_
            refine m_ld (v := .int .i64 k) hM11 (i := 1) (j := 0) rfl rfl rfl rfl ?_
            refine stp (v := .bool (decide (¬ h = k))) (o_bin rfl rfl v_neq) ?_
            refine stp (v := .bool (decide (¬ h = k))) (o_mv rfl) ?_
            refine splitP rfl (fun c38 => ?_) (fun c38 => ?_)
            ·
              refine gno rfl (by simp) ?_
              refine gnol rfl (by simp) ?_
              refine gno rfl (by simp) ?_
              refine gno rfl (by simp) ?_
              refine gnol rfl (by simp) ?_
              refine gno rfl (by simp) ?_
              refine gno rfl (by simp) ?_
              refine stp (v := .bool true) (o_pickT rfl rfl) ?_
              refine h37 _ _ ?_
              clear h37
              refine cndT rfl ?_
              refine seq fun K39 h39 => ?_
              refine stp (v := .agg ([.bool false, .int .i64 0, .slice none 0 0] : List Value).toArray) (o_bld rfl rfl) ?_
              refine m_stA (l := [.bool false, .int .i64 0, .slice none 0 0]) hM11 (i := 2) rfl rfl rfl rfl (by simp [oneCells, Value.oneCell', byteV]) (by simp) fun w40 (hM40 : Mem w [] w40 [[⟨b2, 24, [.bool a, .int .i64 h, (.slice av nv cv)]⟩], [⟨b4, 24, [.bool b, .int .i64 k, (.slice au nu cu)]⟩], [⟨b6, 24, [.bool false, .int .i64 0, .slice none 0 0]⟩]]) => ?_
              refine stp (v := .int .i64 3) (o_mv rfl) ?_
              refine h39 _ _ ?_
              clear h39
              show resV _ _ _ _ _
              refine res_cell (s := some 3) (by kernel_rfl) ?_
              refine vl_ldA (cs := [.bool false, .int .i64 0, .slice none 0 0]) rfl rfl ((hM40.at (i := 2) (j := 0) rfl rfl).agg rfl rfl) ?_
              refine res_tmp ?_
              refine ⟨(.tuple [.agg ([.bool false, .int .i64 0, .slice none 0 0] : List Value).toArray, .int .i64 3].toArray), rfl, ?_⟩
              have tb := tab_3 hka hkb (by omega) (by omega) (by omega) (by omega) (by omega)
              have je := join_5 (a := a) (h := h) (d := d) (b := b) (k := k) (e := e) (by omega) (by omega) (by omega) (by omega) (by omega)
              exact ⟨_, [], by rw [je], by rw [je]; exact Sl.nil 1 5, (hM40.addNil).keep (by simp)⟩
            ·
              refine stg rfl (v := .pointer (some ⟨b2, 2, none⟩)) (o_fa rfl rfl) ?_
              refine gyesl rfl ?_
              refine m_ld (v := (.slice av nv cv)) hM11 (i := 0) (j := 0) rfl rfl rfl rfl ?_
              refine stg rfl (v := .int .i64 (d.length : Nat)) (o_lenR (hx.upd hM11.upd) rfl rfl) ?_
              refine stg rfl (v := .pointer (some ⟨b4, 2, none⟩)) (o_fa rfl rfl) ?_
              refine gyesl rfl ?_
              refine m_ld (v := (.slice au nu cu)) hM11 (i := 1) (j := 0) rfl rfl rfl rfl ?_
              refine stg rfl (v := .int .i64 (e.length : Nat)) (o_lenR (hy.upd hM11.upd) rfl rfl) ?_
              refine stg rfl (v := .bool (decide (¬ ((d.length : Nat) : Int) = (e.length : Nat)))) (o_bin rfl rfl v_neq) ?_
              refine stp (v := .bool (decide (¬ ((d.length : Nat) : Int) = (e.length : Nat)))) (o_pickF rfl rfl) ?_
              refine h37 _ _ ?_
              clear h37
              refine cndP rfl (fun c41 => ?_) (fun c41 => ?_)
              ·
                refine seq fun K42 h42 => ?_
                refine stp (v := .agg ([.bool false, .int .i64 0, .slice none 0 0] : List Value).toArray) (o_bld rfl rfl) ?_
                refine m_stA (l := [.bool false, .int .i64 0, .slice none 0 0]) hM11 (i := 2) rfl rfl rfl rfl (by simp [oneCells, Value.oneCell', byteV]) (by simp) fun w43 (hM43 : Mem w [] w43 [[⟨b2, 24, [.bool a, .int .i64 h, (.slice av nv cv)]⟩], [⟨b4, 24, [.bool b, .int .i64 k, (.slice au nu cu)]⟩], [⟨b6, 24, [.bool false, .int .i64 0, .slice none 0 0]⟩]]) => ?_
                refine stp (v := .int .i64 3) (o_mv rfl) ?_
                refine h42 _ _ ?_
                clear h42
                show resV _ _ _ _ _
                refine res_cell (s := some 3) (by kernel_rfl) ?_
                refine vl_ldA (cs := [.bool false, .int .i64 0, .slice none 0 0]) rfl rfl ((hM43.at (i := 2) (j := 0) rfl rfl).agg rfl rfl) ?_
                refine res_tmp ?_
                refine ⟨(.tuple [.agg ([.bool false, .int .i64 0, .slice none 0 0] : List Value).toArray, .int .i64 3].toArray), rfl, ?_⟩
                have tb := tab_3 hka hkb (by omega) (by omega) (by omega) (by omega) (by omega)
                have je := join_5 (a := a) (h := h) (d := d) (b := b) (k := k) (e := e) (by omega) (by omega) (by omega) (by omega) (by omega)
                exact ⟨_, [], by rw [je], by rw [je]; exact Sl.nil 1 5, (hM43.addNil).keep (by simp)⟩
              ·
                refine h36 _ _ ?_
                clear h36
                refine seq fun K44 h44 => ?_
                refine m_ldA (l := [.bool a, .int .i64 h, (.slice av nv cv)]) hM11 (i := 0) (j := 0) rfl rfl rfl rfl rfl ?_
                refine m_call (twin_ok a h _ d w11 (hx.upd hM11.upd) (by first | omega | (simp; done) | (simp; omega))) rfl fun v45 w45 ⟨vd45, rs45, hr45, hs45, hm45⟩ => ?_
                have hM45 : Mem w [] w45 [[⟨b2, 24, [.bool a, .int .i64 h, (.slice av nv cv)]⟩], [⟨b4, 24, [.bool b, .int .i64 k, (.slice au nu cu)]⟩], [⟨b6, 24, [.bool false, .int .i64 0, .slice none 0 0]⟩], rs45] := hM11.add hm45
                obtain ⟨av45, lv45, cv45, rfl⟩ := hs45.isSlice
                subst hr45
                refine m_al hM45 fun b46 w47 (hM47 : Mem w [] w47 [[⟨b2, 24, [.bool a, .int .i64 h, (.slice av nv cv)]⟩], [⟨b4, 24, [.bool b, .int .i64 k, (.slice au nu cu)]⟩], [⟨b6, 24, [.bool false, .int .i64 0, .slice none 0 0]⟩], rs45, [⟨b46, 24, [.bool false, .int .i64 0, .slice none 0 0]⟩]]) => ?_
                refine m_stA (l := [.bool a, .int .i64 h, (.slice av45 lv45 cv45)]) hM47 (i := 4) rfl rfl rfl rfl (by simp [oneCells, Value.oneCell', byteV]) (by simp) fun w48 (hM48 : Mem w [] w48 [[⟨b2, 24, [.bool a, .int .i64 h, (.slice av nv cv)]⟩], [⟨b4, 24, [.bool b, .int .i64 k, (.slice au nu cu)]⟩], [⟨b6, 24, [.bool false, .int .i64 0, .slice none 0 0]⟩], rs45, [⟨b46, 24, [.bool a, .int .i64 h, (.slice av45 lv45 cv45)]⟩]]) => ?_
                refine h44 _ _ ?_
                clear h44
                refine seq fun K49 h49 => ?_
                refine seq fun K50 h50 => ?_
                refine stp (v := .pointer (some ⟨b4, 2, none⟩)) (o_fa rfl rfl) ?_
                refine m_ld (v := (.slice au nu cu)) hM48 (i := 1) (j := 0) rfl rfl rfl rfl ?_
                refine stp (v := .int .i64 (e.length : Nat)) (o_lenR (hy.upd hM48.upd) rfl rfl) ?_
                refine stp (v := .int .i64 0) (o_mv rfl) ?_
                refine h50 _ _ ?_
                clear h50
                refine lp (n := fun _ _ => False) (ι := (Nat) × (List Ent)) (fun ⟨i, rs⟩ f w' => f 58 = .int .i64 (i : Nat) ∧ f 4 = .pointer (some ⟨b6, 0, none⟩) ∧ f 8 = .pointer (some ⟨b46, 0, none⟩) ∧ f 56 = (.slice au nu cu) ∧ f 57 = .int .i64 (e.length : Nat) ∧ Mem w [] w' [[⟨b2, 24, [.bool a, .int .i64 h, (.slice av nv cv)]⟩], [⟨b4, 24, [.bool b, .int .i64 k, (.slice au nu cu)]⟩], [⟨b6, 24, [.bool false, .int .i64 0, .slice none 0 0]⟩], rs, [⟨b46, 24, [.bool a, .int .i64 h, (.slice av45 lv45 cv45)]⟩]] ∧ (SlE byteV 5 (.slice av45 lv45 cv45) (orI2 i d e) rs) ∧ (i ≤ d.length)) (fun ⟨i, rs⟩ => d.length - i) (0, rs45) ?_ ?_
                · exact ⟨by first | rfl | exact v_int (by omega) | exact v_int (by simp) | exact v_int (by simp; omega), rfl, rfl, rfl, by first | rfl | exact v_int (by omega) | exact v_int (by simp) | exact v_int (by simp; omega), hM48, by rw [orI2_zero]; exact hs45, by omega⟩
                · rintro ⟨i, rs⟩ f w51 ⟨e51_58, e51_4, e51_8, e51_56, e51_57, hM51, hs, hi⟩ K52 h52
                  obtain ⟨frm, rfl⟩ : ∃ frm, f = (upd (upd (upd (upd (upd frm 58 (.int .i64 (i : Nat))) 4 (.pointer (some ⟨b6, 0, none⟩))) 8 (.pointer (some ⟨b46, 0, none⟩))) 56 ((.slice au nu cu))) 57 (.int .i64 (e.length : Nat))) := ⟨f, by rw [upd_self e51_58, upd_self e51_4, upd_self e51_8, upd_self e51_56, upd_self e51_57]⟩
                  clear e51_58 e51_4 e51_8 e51_56 e51_57
                  refine seq fun K53 h53 => ?_
                  refine stp (v := .bool (decide (((i : Nat) : Int) < (e.length : Nat)))) (o_bin rfl rfl rfl) ?_
                  refine h53 _ _ ?_
                  clear h53
                  refine seq fun K54 h54 => ?_
                  refine cndP rfl (fun c55 => ?_) (fun c55 => ?_)
                  ·
                    refine h54 _ _ ?_
                    clear h54
                    refine seq fun K56 h56 => ?_
                    refine seq fun K57 h57 => ?_
                    refine stp (v := .int .i64 (i : Nat)) (o_mv rfl) ?_
                    refine m_idxE 0 (j := i) (hy.upd hM51.upd) rfl rfl (by omega) fun b58 o58 hp58 => ?_
                    refine ld (v := byteV (e.getD i 0)) rfl (hp58) ?_
                    refine stp (v := .int .i64 (i : Nat)) (o_mv rfl) ?_
                    refine stp (v := byteV (e.getD i 0)) (o_mv rfl) ?_
                    refine h57 _ _ ?_
                    clear h57
                    have hoi := orI2_length (d := d) (e := e) (i := i) (by omega)
                    refine stp (v := .pointer (some ⟨b46, 2, none⟩)) (o_fa rfl rfl) ?_
                    refine m_ld (v := (.slice av45 lv45 cv45)) hM51 (i := 4) (j := 0) rfl rfl rfl rfl ?_
                    refine stp (v := .int .i64 (i : Nat)) (o_mv rfl) ?_
                    refine m_idxE 0 (j := i) (hs.rd hM51 (i := 3) rfl) rfl rfl (by omega) fun b59 o59 hp59 => ?_
                    refine ld (v := byteV ((orI2 i d e).getD i 0)) rfl (hp59) ?_
                    refine stp (v := byteV (e.getD i 0)) (o_mv rfl) ?_
                    refine stp (v := .int .u8 ((d.getD i 0 ||| e.getD i 0).toNat : Int)) (o_bin rfl rfl (by rw [orI2_get (by omega) (by omega)]; exact v_int (or8 _ _))) ?_
                    refine m_set (E := byteV) (q := d.getD i 0 ||| e.getD i 0) (j := i) hM51 (i := 3) rfl hs rfl rfl (by omega) (by simp) (rfl) fun w60 r60 u60 he60 hs60 (hM60 : Mem w [] w60 [[⟨b2, 24, [.bool a, .int .i64 h, (.slice av nv cv)]⟩], [⟨b4, 24, [.bool b, .int .i64 k, (.slice au nu cu)]⟩], [⟨b6, 24, [.bool false, .int .i64 0, .slice none 0 0]⟩], r60, [⟨b46, 24, [.bool a, .int .i64 h, (.slice av45 lv45 cv45)]⟩]]) => ?_
                    refine h56 _ _ ?_
                    clear h56
                    refine stp (v := .int .i64 ((i : Nat) + 1)) (o_bin rfl rfl (v_add64 (by constructor <;> omega))) ?_
                    refine stp (v := .int .i64 ((i : Nat) + 1)) (o_mv rfl) ?_
                    refine h52 (i + 1, r60) _ _ ⟨by first | rfl | exact v_int (by omega) | exact v_int (by simp) | exact v_int (by simp; omega), rfl, rfl, rfl, by first | rfl | exact v_int (by omega) | exact v_int (by simp) | exact v_int (by simp; omega), hM60, by rw [← orI2_succ (by omega) (by omega)]; exact hs60, by omega⟩ (by (try dsimp only); omega)
                  ·
                    refine h49 _ _ ?_
                    clear h49
                    refine seq fun K61 h61 => ?_
                    refine m_ldA (l := [.bool a, .int .i64 h, (.slice av45 lv45 cv45)]) hM51 (i := 4) (j := 0) rfl rfl rfl rfl rfl ?_
                    refine m_stA (l := [.bool a, .int .i64 h, (.slice av45 lv45 cv45)]) hM51 (i := 2) rfl rfl rfl rfl (by simp [oneCells, Value.oneCell', byteV]) (by simp) fun w62 (hM62 : Mem w [] w62 [[⟨b2, 24, [.bool a, .int .i64 h, (.slice av nv cv)]⟩], [⟨b4, 24, [.bool b, .int .i64 k, (.slice au nu cu)]⟩], [⟨b6, 24, [.bool a, .int .i64 h, (.slice av45 lv45 cv45)]⟩], rs, [⟨b46, 24, [.bool a, .int .i64 h, (.slice av45 lv45 cv45)]⟩]]) => ?_
                    refine stp (v := .int .i64 0) (o_mv rfl) ?_
                    refine h61 _ _ ?_
                    clear h61
                    show resV _ _ _ _ _
                    refine res_cell (s := some 3) (by kernel_rfl) ?_
                    refine vl_ldA (cs := [.bool a, .int .i64 h, (.slice av45 lv45 cv45)]) rfl rfl ((hM62.at (i := 2) (j := 0) rfl rfl).agg rfl rfl) ?_
                    refine res_tmp ?_
                    refine ⟨(.tuple [.agg ([.bool a, .int .i64 h, (.slice av45 lv45 cv45)] : List Value).toArray, .int .i64 0].toArray), rfl, ?_⟩
                    have tb := tab_3 hka hkb (by omega) (by omega) (by omega) (by omega) (by omega)
                    have je := join_4 (a := a) (h := h) (d := d) (b := b) (k := k) (e := e) (by omega) (by omega) (by omega) (by omega) (by omega)
                    rw [orI2_end (by omega) (by omega)] at hs
                    exact ⟨_, _, by rw [je], by rw [je]; exact hs, hM62.keep (by simp; repeat (first | exact List.Sublist.refl _ | exact List.sublist_append_left _ _ | apply List.Sublist.cons))⟩

set_option maxRecDepth 100000 in
/-- winnowref7.Join -/
theorem refJoin_ok (a b : Bool) (h k : Int) (v u : Value) (d e : List UInt8) (w : World) (hx : RdE byteV w v d) (hy : RdE byteV w u e) (hl : d.length ≤ 140737488351232) (hm : e.length ≤ 140737488351232) : Calls Tryd.prog 9 [.agg [.bool a, .int .i64 h, v].toArray, .agg [.bool b, .int .i64 k, u].toArray].toArray w (Rt fun r w' => ∃ v rs, r = .tuple #[.agg #[.bool (joinF a h d b k e).1, .int .i64 (joinF a h d b k e).2.1, v], .int .i64 (joinF a h d b k e).2.2.2] ∧ SlE byteV 5 v (joinF a h d b k e).2.2.1 rs ∧ Mem w [] w' [rs]) := by
  obtain ⟨av, nv, cv, rfl⟩ := hx.isSlice
  obtain ⟨au, nu, cu, rfl⟩ := hy.isSlice
  have hM0 : Mem w [] w [] := Mem.nil w []
  have ca : chk a h d = 0 ↔ ¬ fk a h d = 0 := by unfold chk; split <;> simp_all
  have cb : chk b k e = 0 ↔ ¬ fk b k e = 0 := by unfold chk; split <;> simp_all
  refine calls_vc mixed Tryd.func9 rfl C9 (by simp [Tryd.ntmps9]) ?_
  refine seq fun K1 h1 => ?_
  refine m_bx (v := .agg ([.bool a, .int .i64 h, (.slice av nv cv)] : List Value).toArray) hM0 rfl rfl fun b2 w3 (hM3 : Mem w [] w3 [[⟨b2, 24, [.bool a, .int .i64 h, (.slice av nv cv)]⟩]]) => ?_
  refine m_bx (v := .agg ([.bool b, .int .i64 k, (.slice au nu cu)] : List Value).toArray) hM3 rfl rfl fun b4 w5 (hM5 : Mem w [] w5 [[⟨b2, 24, [.bool a, .int .i64 h, (.slice av nv cv)]⟩], [⟨b4, 24, [.bool b, .int .i64 k, (.slice au nu cu)]⟩]]) => ?_
  refine m_al hM5 fun b6 w7 (hM7 : Mem w [] w7 [[⟨b2, 24, [.bool a, .int .i64 h, (.slice av nv cv)]⟩], [⟨b4, 24, [.bool b, .int .i64 k, (.slice au nu cu)]⟩], [⟨b6, 24, [.bool false, .int .i64 0, .slice none 0 0]⟩]]) => ?_
  refine stp (v := .int .i64 0) (o_mv rfl) ?_
  refine h1 _ _ ?_
  clear h1
  refine seq fun K8 h8 => ?_
  refine seq fun K9 h9 => ?_
  refine m_ldA (l := [.bool a, .int .i64 h, (.slice av nv cv)]) hM7 (i := 0) (j := 0) rfl rfl rfl rfl rfl ?_
  refine m_call (refCheck_ok a h _ d w7 (hx.upd hM7.upd) (by first | omega | (simp; done) | (simp; omega))) rfl fun v10 w10 ⟨hr10, hu10⟩ => ?_
  have hM10 : Mem w [] w10 [[⟨b2, 24, [.bool a, .int .i64 h, (.slice av nv cv)]⟩], [⟨b4, 24, [.bool b, .int .i64 k, (.slice au nu cu)]⟩], [⟨b6, 24, [.bool false, .int .i64 0, .slice none 0 0]⟩]] := hM7.pure hu10
  subst hr10
  refine stp (v := .bool (decide (¬ (chk a h d) = 0))) (o_bin rfl rfl v_neq) ?_
  refine stp (v := .bool (decide (¬ (chk a h d) = 0))) (o_mv rfl) ?_
  refine splitP rfl (fun c11 => ?_) (fun c11 => ?_)
  ·
    refine gnol rfl (by simp) ?_
    refine gnol rfl (by simp) ?_
    refine gno rfl (by simp) ?_
    refine stp (v := .bool true) (o_pickT rfl rfl) ?_
    refine h9 _ _ ?_
    clear h9
    refine cndT rfl ?_
    refine seq fun K12 h12 => ?_
    refine stp (v := .agg ([.bool false, .int .i64 0, .slice none 0 0] : List Value).toArray) (o_bld rfl rfl) ?_
    refine m_stA (l := [.bool false, .int .i64 0, .slice none 0 0]) hM10 (i := 2) rfl rfl rfl rfl (by simp [oneCells, Value.oneCell', byteV]) (by simp) fun w13 (hM13 : Mem w [] w13 [[⟨b2, 24, [.bool a, .int .i64 h, (.slice av nv cv)]⟩], [⟨b4, 24, [.bool b, .int .i64 k, (.slice au nu cu)]⟩], [⟨b6, 24, [.bool false, .int .i64 0, .slice none 0 0]⟩]]) => ?_
    refine stp (v := .int .i64 70) (o_mv rfl) ?_
    refine h12 _ _ ?_
    clear h12
    show resV _ _ _ _ _
    refine res_cell (s := some 3) (by kernel_rfl) ?_
    refine vl_ldA (cs := [.bool false, .int .i64 0, .slice none 0 0]) rfl rfl ((hM13.at (i := 2) (j := 0) rfl rfl).agg rfl rfl) ?_
    refine res_tmp ?_
    refine ⟨(.tuple [.agg ([.bool false, .int .i64 0, .slice none 0 0] : List Value).toArray, .int .i64 70].toArray), rfl, ?_⟩
    have je := join_0 (a := a) (h := h) (d := d) (b := b) (k := k) (e := e) (.inl (by omega))
    exact ⟨_, [], by rw [je], by rw [je]; exact Sl.nil 1 5, (hM13.addNil).keep (by simp)⟩
  ·
    refine gyesl rfl ?_
    refine m_ldA (l := [.bool b, .int .i64 k, (.slice au nu cu)]) hM10 (i := 1) (j := 0) rfl rfl rfl rfl rfl ?_
    refine gyesl rfl ?_
    refine m_call (refCheck_ok b k _ e w10 (hy.upd hM10.upd) (by first | omega | (simp; done) | (simp; omega))) rfl fun v14 w14 ⟨hr14, hu14⟩ => ?_
    have hM14 : Mem w [] w14 [[⟨b2, 24, [.bool a, .int .i64 h, (.slice av nv cv)]⟩], [⟨b4, 24, [.bool b, .int .i64 k, (.slice au nu cu)]⟩], [⟨b6, 24, [.bool false, .int .i64 0, .slice none 0 0]⟩]] := hM10.pure hu14
    subst hr14
    refine stg rfl (v := .bool (decide (¬ (chk b k e) = 0))) (o_bin rfl rfl v_neq) ?_
    refine stp (v := .bool (decide (¬ (chk b k e) = 0))) (o_pickF rfl rfl) ?_
    refine h9 _ _ ?_
    clear h9
    refine cndP rfl (fun c15 => ?_) (fun c15 => ?_)
    ·
      refine seq fun K16 h16 => ?_
      refine stp (v := .agg ([.bool false, .int .i64 0, .slice none 0 0] : List Value).toArray) (o_bld rfl rfl) ?_
      refine m_stA (l := [.bool false, .int .i64 0, .slice none 0 0]) hM14 (i := 2) rfl rfl rfl rfl (by simp [oneCells, Value.oneCell', byteV]) (by simp) fun w17 (hM17 : Mem w [] w17 [[⟨b2, 24, [.bool a, .int .i64 h, (.slice av nv cv)]⟩], [⟨b4, 24, [.bool b, .int .i64 k, (.slice au nu cu)]⟩], [⟨b6, 24, [.bool false, .int .i64 0, .slice none 0 0]⟩]]) => ?_
      refine stp (v := .int .i64 70) (o_mv rfl) ?_
      refine h16 _ _ ?_
      clear h16
      show resV _ _ _ _ _
      refine res_cell (s := some 3) (by kernel_rfl) ?_
      refine vl_ldA (cs := [.bool false, .int .i64 0, .slice none 0 0]) rfl rfl ((hM17.at (i := 2) (j := 0) rfl rfl).agg rfl rfl) ?_
      refine res_tmp ?_
      refine ⟨(.tuple [.agg ([.bool false, .int .i64 0, .slice none 0 0] : List Value).toArray, .int .i64 70].toArray), rfl, ?_⟩
      have je := join_0 (a := a) (h := h) (d := d) (b := b) (k := k) (e := e) (.inr (by omega))
      exact ⟨_, [], by rw [je], by rw [je]; exact Sl.nil 1 5, (hM17.addNil).keep (by simp)⟩
    ·
      refine h8 _ _ ?_
      clear h8
      refine seq fun K18 h18 => ?_
      refine seq fun K19 h19 => ?_
      refine stp (v := .pointer (some ⟨b2, 0, none⟩)) (o_fa rfl rfl) ?_
      refine m_ld (v := .bool a) hM14 (i := 0) (j := 0) rfl rfl rfl rfl ?_
      refine stp (v := .bool a) (o_mv rfl) ?_
      refine split rfl (fun haT => ?_) (fun haF => ?_)
      ·
        refine gno rfl (by simp) ?_
        refine gnol rfl (by simp) ?_
        refine stp (v := .bool true) (o_pickT rfl rfl) ?_
        refine h19 _ _ ?_
        clear h19
        refine cndT rfl ?_
        refine seq fun K21 h21 => ?_
        refine stp (v := .agg ([.bool true, .int .i64 0, .slice none 0 0] : List Value).toArray) (o_bld rfl rfl) ?_
        refine m_stA (l := [.bool true, .int .i64 0, .slice none 0 0]) hM14 (i := 2) rfl rfl rfl rfl (by simp [oneCells, Value.oneCell', byteV]) (by simp) fun w22 (hM22 : Mem w [] w22 [[⟨b2, 24, [.bool a, .int .i64 h, (.slice av nv cv)]⟩], [⟨b4, 24, [.bool b, .int .i64 k, (.slice au nu cu)]⟩], [⟨b6, 24, [.bool true, .int .i64 0, .slice none 0 0]⟩]]) => ?_
        refine stp (v := .int .i64 0) (o_mv rfl) ?_
        refine h21 _ _ ?_
        clear h21
        show resV _ _ _ _ _
        refine res_cell (s := some 3) (by kernel_rfl) ?_
        refine vl_ldA (cs := [.bool true, .int .i64 0, .slice none 0 0]) rfl rfl ((hM22.at (i := 2) (j := 0) rfl rfl).agg rfl rfl) ?_
        refine res_tmp ?_
        refine ⟨(.tuple [.agg ([.bool true, .int .i64 0, .slice none 0 0] : List Value).toArray, .int .i64 0].toArray), rfl, ?_⟩
        have f1 := fkTrue haT (h := h) (d := d) (by omega)
        have je := join_1 (a := a) (h := h) (d := d) (b := b) (k := k) (e := e) (by omega) (by omega)
        exact ⟨_, [], by rw [je], by rw [je]; exact Sl.nil 1 5, (hM22.addNil).keep (by simp)⟩
      ·
        refine stg rfl (v := .pointer (some ⟨b4, 0, none⟩)) (o_fa rfl rfl) ?_
        refine gyesl rfl ?_
        refine m_ld (v := .bool b) hM14 (i := 1) (j := 0) rfl rfl rfl rfl ?_
        refine stp (v := .bool b) (o_pickF rfl rfl) ?_
        refine h19 _ _ ?_
        clear h19
        refine cnd rfl (fun hbT => ?_) (fun hbF => ?_)
        ·
          refine seq fun K24 h24 => ?_
          refine stp (v := .agg ([.bool true, .int .i64 0, .slice none 0 0] : List Value).toArray) (o_bld rfl rfl) ?_
          refine m_stA (l := [.bool true, .int .i64 0, .slice none 0 0]) hM14 (i := 2) rfl rfl rfl rfl (by simp [oneCells, Value.oneCell', byteV]) (by simp) fun w25 (hM25 : Mem w [] w25 [[⟨b2, 24, [.bool a, .int .i64 h, (.slice av nv cv)]⟩], [⟨b4, 24, [.bool b, .int .i64 k, (.slice au nu cu)]⟩], [⟨b6, 24, [.bool true, .int .i64 0, .slice none 0 0]⟩]]) => ?_
          refine stp (v := .int .i64 0) (o_mv rfl) ?_
          refine h24 _ _ ?_
          clear h24
          show resV _ _ _ _ _
          refine res_cell (s := some 3) (by kernel_rfl) ?_
          refine vl_ldA (cs := [.bool true, .int .i64 0, .slice none 0 0]) rfl rfl ((hM25.at (i := 2) (j := 0) rfl rfl).agg rfl rfl) ?_
          refine res_tmp ?_
          refine ⟨(.tuple [.agg ([.bool true, .int .i64 0, .slice none 0 0] : List Value).toArray, .int .i64 0].toArray), rfl, ?_⟩
          have f1 := fkTrue hbT (h := k) (d := e) (by omega)
          have je := join_1 (a := a) (h := h) (d := d) (b := b) (k := k) (e := e) (by omega) (by omega)
          exact ⟨_, [], by rw [je], by rw [je]; exact Sl.nil 1 5, (hM25.addNil).keep (by simp)⟩
        ·
          refine h18 _ _ ?_
          clear h18
          refine seq fun K26 h26 => ?_
          refine seq fun K27 h27 => ?_
          refine stp (v := .pointer (some ⟨b2, 2, none⟩)) (o_fa rfl rfl) ?_
          refine m_ld (v := (.slice av nv cv)) hM14 (i := 0) (j := 0) rfl rfl rfl rfl ?_
          refine stp (v := .int .i64 (d.length : Nat)) (o_lenR (hx.upd hM14.upd) rfl rfl) ?_
          refine stp (v := .bool (decide (((d.length : Nat) : Int) = 0))) (o_bin rfl rfl rfl) ?_
          refine h27 _ _ ?_
          clear h27
          refine cndP rfl (fun c28 => ?_) (fun c28 => ?_)
          ·
            refine seq fun K29 h29 => ?_
            intro wd e1 e2 e3 e4
            have hd := Upd.same e1 e2 e3 e4 []
            have hM30 := hM14.pure hd
            clear e1 e2 e3 e4
            refine ⟨(some [b4]), ?_⟩
            show vd _ _ _ _ _ _ _
            refine dq (v := .pointer (some ⟨b4, 1, none⟩)) (o_fa rfl rfl) ?_
            refine dq (v := .pointer (some ⟨b4, 2, none⟩)) (o_fa rfl rfl) ?_
            refine dqld rfl (by simp [isHeld]) (v := (.slice au nu cu)) ((hM30.at (i := 1) (j := 0) rfl rfl).cell 2) ?_
            refine dqld rfl (by simp [isHeld]) (v := .int .i64 k) ((hM30.at (i := 1) (j := 0) rfl rfl).cell 1) ?_
            refine dl (m_bsU hM30 rfl fun b31 w32 hup32 (hM32 : Mem w [] w32 [[⟨b2, 24, [.bool a, .int .i64 h, (.slice av nv cv)]⟩], [⟨b4, 24, [.bool b, .int .i64 k, (.slice au nu cu)]⟩], [⟨b6, 24, [.bool false, .int .i64 0, .slice none 0 0]⟩], [⟨b31, 5, []⟩]]) => ?_)
            have hh32 := held_upd (wr := wd) (bs := [b4]) hup32 (fun b hb => by
              simp only [List.mem_cons, List.not_mem_nil, or_false] at hb
              rw [hb]; exact ⟨(hM30.at (i := 1) (j := 0) rfl rfl).lt, by simp⟩) (fun b hb => rfl)
            refine ⟨hh32, ?_⟩
            have hs33 : SlE byteV 5 (.slice (some ⟨b31, 0, none⟩) 0 0) [] [⟨b31, 5, []⟩] := SlE.lit (l := []) rfl
            refine dl (m_appEU hM32 (i := 3) rfl hs33 rfl rfl (hy.upd hM32.upd) (by first | omega | (simp; omega)) (by omega) fun v34 w34 r34 (hs34 : SlE byteV 5 v34 (e) r34) hup34 (hM34 : Mem w [] w34 [[⟨b2, 24, [.bool a, .int .i64 h, (.slice av nv cv)]⟩], [⟨b4, 24, [.bool b, .int .i64 k, (.slice au nu cu)]⟩], [⟨b6, 24, [.bool false, .int .i64 0, .slice none 0 0]⟩], r34]) => ?_)
            have hh34 := held_upd (wr := wd) (bs := [b4]) hup34 (fun b hb => by
              simp only [List.mem_cons, List.not_mem_nil, or_false] at hb
              rw [hb]; exact ⟨(hM32.at (i := 1) (j := 0) rfl rfl).lt, hM32.apart (i := 1) (j := 0) (k := 3) rfl rfl rfl (by decide)⟩) hh32
            refine ⟨hh34, ?_⟩
            obtain ⟨a35_, n35_, c35_, rfl⟩ := Sl.isSlice hs34
            refine dq (v := .agg ([.bool false, .int .i64 k, (.slice a35_ n35_ c35_)] : List Value).toArray) (o_bld rfl rfl) ?_
            refine dl (m_stAU (l := [.bool false, .int .i64 k, (.slice a35_ n35_ c35_)]) hM34 (i := 2) rfl rfl rfl rfl (by simp [oneCells, Value.oneCell', byteV]) (by simp) fun w36 hup36 (hM36 : Mem w [] w36 [[⟨b2, 24, [.bool a, .int .i64 h, (.slice av nv cv)]⟩], [⟨b4, 24, [.bool b, .int .i64 k, (.slice au nu cu)]⟩], [⟨b6, 24, [.bool false, .int .i64 k, (.slice a35_ n35_ c35_)]⟩], r34]) => ?_)
            have hh36 := held_upd (wr := wd) (bs := [b4]) hup36 (fun b hb => by
              simp only [List.mem_cons, List.not_mem_nil, or_false] at hb
              rw [hb]; exact ⟨(hM34.at (i := 1) (j := 0) rfl rfl).lt, hM34.apart (i := 1) (j := 0) (k := 2) rfl rfl rfl (by decide)⟩) hh34
            refine ⟨hh36, ?_⟩
            refine dq (v := .int .i64 0) (o_mv rfl) ?_
            refine h29 _ _ ?_
            clear h29
            show resV _ _ _ _ _
            refine res_cell (s := some 3) (by kernel_rfl) ?_
            refine vl_ldA (cs := [.bool false, .int .i64 k, (.slice a35_ n35_ c35_)]) rfl rfl ((hM36.at (i := 2) (j := 0) rfl rfl).agg rfl rfl) ?_
            refine res_tmp ?_
            refine ⟨(.tuple [.agg ([.bool false, .int .i64 k, (.slice a35_ n35_ c35_)] : List Value).toArray, .int .i64 0].toArray), rfl, ?_⟩
            have fa1 := fkFalse (h := h) (d := d) haF
            have fb1 := fkFalse (h := k) (d := e) hbF
            have f2 := fk_len0 haF (h := h) (d := d) (by omega) (by omega)
            have je := join_2 (a := a) (h := h) (d := d) (b := b) (k := k) (e := e) (by omega) (by omega) (by omega)
            exact ⟨_, _, by rw [je, hbF], by rw [je]; assumption, hM36.keep (by simp; repeat (first | exact List.Sublist.refl _ | exact List.sublist_append_left _ _ | apply List.Sublist.cons))⟩
          ·
            refine h26 _ _ ?_
            clear h26
            refine seq fun K37 h37 => ?_
            refine seq fun K38 h38 => ?_
            refine stp (v := .pointer (some ⟨b4, 2, none⟩)) (o_fa rfl rfl) ?_
            refine m_ld (v := (.slice au nu cu)) hM14 (i := 1) (j := 0) rfl rfl rfl rfl ?_
            refine stp (v := .int .i64 (e.length : Nat)) (o_lenR (hy.upd hM14.upd) rfl rfl) ?_
            refine stp (v := .bool (decide (((e.length : Nat) : Int) = 0))) (o_bin rfl rfl rfl) ?_
            refine h38 _ _ ?_
            clear h38
            refine cndP rfl (fun c39 => ?_) (fun c39 => ?_)
            ·
              refine seq fun K40 h40 => ?_
              intro wd e1 e2 e3 e4
              have hd := Upd.same e1 e2 e3 e4 []
              have hM41 := hM14.pure hd
              clear e1 e2 e3 e4
              refine ⟨(some [b2]), ?_⟩
              show vd _ _ _ _ _ _ _
              refine dq (v := .pointer (some ⟨b2, 1, none⟩)) (o_fa rfl rfl) ?_
              refine dq (v := .pointer (some ⟨b2, 2, none⟩)) (o_fa rfl rfl) ?_
              refine dqld rfl (by simp [isHeld]) (v := (.slice av nv cv)) ((hM41.at (i := 0) (j := 0) rfl rfl).cell 2) ?_
              refine dqld rfl (by simp [isHeld]) (v := .int .i64 h) ((hM41.at (i := 0) (j := 0) rfl rfl).cell 1) ?_
              refine dl (m_bsU hM41 rfl fun b42 w43 hup43 (hM43 : Mem w [] w43 [[⟨b2, 24, [.bool a, .int .i64 h, (.slice av nv cv)]⟩], [⟨b4, 24, [.bool b, .int .i64 k, (.slice au nu cu)]⟩], [⟨b6, 24, [.bool false, .int .i64 0, .slice none 0 0]⟩], [⟨b42, 5, []⟩]]) => ?_)
              have hh43 := held_upd (wr := wd) (bs := [b2]) hup43 (fun b hb => by
                simp only [List.mem_cons, List.not_mem_nil, or_false] at hb
                rw [hb]; exact ⟨(hM41.at (i := 0) (j := 0) rfl rfl).lt, by simp⟩) (fun b hb => rfl)
              refine ⟨hh43, ?_⟩
              have hs44 : SlE byteV 5 (.slice (some ⟨b42, 0, none⟩) 0 0) [] [⟨b42, 5, []⟩] := SlE.lit (l := []) rfl
              refine dl (m_appEU hM43 (i := 3) rfl hs44 rfl rfl (hx.upd hM43.upd) (by first | omega | (simp; omega)) (by omega) fun v45 w45 r45 (hs45 : SlE byteV 5 v45 (d) r45) hup45 (hM45 : Mem w [] w45 [[⟨b2, 24, [.bool a, .int .i64 h, (.slice av nv cv)]⟩], [⟨b4, 24, [.bool b, .int .i64 k, (.slice au nu cu)]⟩], [⟨b6, 24, [.bool false, .int .i64 0, .slice none 0 0]⟩], r45]) => ?_)
              have hh45 := held_upd (wr := wd) (bs := [b2]) hup45 (fun b hb => by
                simp only [List.mem_cons, List.not_mem_nil, or_false] at hb
                rw [hb]; exact ⟨(hM43.at (i := 0) (j := 0) rfl rfl).lt, hM43.apart (i := 0) (j := 0) (k := 3) rfl rfl rfl (by decide)⟩) hh43
              refine ⟨hh45, ?_⟩
              obtain ⟨a46_, n46_, c46_, rfl⟩ := Sl.isSlice hs45
              refine dq (v := .agg ([.bool false, .int .i64 h, (.slice a46_ n46_ c46_)] : List Value).toArray) (o_bld rfl rfl) ?_
              refine dl (m_stAU (l := [.bool false, .int .i64 h, (.slice a46_ n46_ c46_)]) hM45 (i := 2) rfl rfl rfl rfl (by simp [oneCells, Value.oneCell', byteV]) (by simp) fun w47 hup47 (hM47 : Mem w [] w47 [[⟨b2, 24, [.bool a, .int .i64 h, (.slice av nv cv)]⟩], [⟨b4, 24, [.bool b, .int .i64 k, (.slice au nu cu)]⟩], [⟨b6, 24, [.bool false, .int .i64 h, (.slice a46_ n46_ c46_)]⟩], r45]) => ?_)
              have hh47 := held_upd (wr := wd) (bs := [b2]) hup47 (fun b hb => by
                simp only [List.mem_cons, List.not_mem_nil, or_false] at hb
                rw [hb]; exact ⟨(hM45.at (i := 0) (j := 0) rfl rfl).lt, hM45.apart (i := 0) (j := 0) (k := 2) rfl rfl rfl (by decide)⟩) hh45
              refine ⟨hh47, ?_⟩
              refine dq (v := .int .i64 0) (o_mv rfl) ?_
              refine h40 _ _ ?_
              clear h40
              show resV _ _ _ _ _
              refine res_cell (s := some 3) (by kernel_rfl) ?_
              refine vl_ldA (cs := [.bool false, .int .i64 h, (.slice a46_ n46_ c46_)]) rfl rfl ((hM47.at (i := 2) (j := 0) rfl rfl).agg rfl rfl) ?_
              refine res_tmp ?_
              refine ⟨(.tuple [.agg ([.bool false, .int .i64 h, (.slice a46_ n46_ c46_)] : List Value).toArray, .int .i64 0].toArray), rfl, ?_⟩
              have fa1 := fkFalse (h := h) (d := d) haF
              have fb1 := fkFalse (h := k) (d := e) hbF
              have na2 : ¬ fk a h d = 2 := fun q => by
                have q2 : d.length = 0 := by rw [(fkk2 q).2.2]; rfl
                omega
              have f2 := fk_len0 hbF (h := k) (d := e) (by omega) (by omega)
              have je := join_3 (a := a) (h := h) (d := d) (b := b) (k := k) (e := e) (by omega) (by omega) (by omega) (by omega)
              exact ⟨_, _, by rw [je, haF], by rw [je]; assumption, hM47.keep (by simp; repeat (first | exact List.Sublist.refl _ | exact List.sublist_append_left _ _ | apply List.Sublist.cons))⟩
            ·
              refine h37 _ _ ?_
              clear h37
              refine seq fun K48 h48 => ?_
              refine seq fun K49 h49 => ?_
              refine stp (v := .pointer (some ⟨b2, 1, none⟩)) (o_fa rfl rfl) ?_
              refine m_ld (v := .int .i64 h) hM14 (i := 0) (j := 0) rfl rfl rfl rfl ?_
              refine stp (v := .pointer (some ⟨b4, 1, none⟩)) (o_fa rfl rfl) ?_
              refine m_ld (v := .int .i64 k) hM14 (i := 1) (j := 0) rfl rfl rfl rfl ?_
              refine stp (v := .bool (decide (¬ h = k))) (o_bin rfl rfl v_neq) ?_
              refine stp (v := .bool (decide (¬ h = k))) (o_mv rfl) ?_
              refine splitP rfl (fun c50 => ?_) (fun c50 => ?_)
              ·
                refine gno rfl (by simp) ?_
                refine gnol rfl (by simp) ?_
                refine gno rfl (by simp) ?_
                refine gno rfl (by simp) ?_
                refine gnol rfl (by simp) ?_
                refine gno rfl (by simp) ?_
                refine gno rfl (by simp) ?_
                refine stp (v := .bool true) (o_pickT rfl rfl) ?_
                refine h49 _ _ ?_
                clear h49
                refine cndT rfl ?_
                refine seq fun K51 h51 => ?_
                refine stp (v := .agg ([.bool false, .int .i64 0, .slice none 0 0] : List Value).toArray) (o_bld rfl rfl) ?_
                refine m_stA (l := [.bool false, .int .i64 0, .slice none 0 0]) hM14 (i := 2) rfl rfl rfl rfl (by simp [oneCells, Value.oneCell', byteV]) (by simp) fun w52 (hM52 : Mem w [] w52 [[⟨b2, 24, [.bool a, .int .i64 h, (.slice av nv cv)]⟩], [⟨b4, 24, [.bool b, .int .i64 k, (.slice au nu cu)]⟩], [⟨b6, 24, [.bool false, .int .i64 0, .slice none 0 0]⟩]]) => ?_
                refine stp (v := .int .i64 3) (o_mv rfl) ?_
                refine h51 _ _ ?_
                clear h51
                show resV _ _ _ _ _
                refine res_cell (s := some 3) (by kernel_rfl) ?_
                refine vl_ldA (cs := [.bool false, .int .i64 0, .slice none 0 0]) rfl rfl ((hM52.at (i := 2) (j := 0) rfl rfl).agg rfl rfl) ?_
                refine res_tmp ?_
                refine ⟨(.tuple [.agg ([.bool false, .int .i64 0, .slice none 0 0] : List Value).toArray, .int .i64 3].toArray), rfl, ?_⟩
                have fa1 := fkFalse (h := h) (d := d) haF
                have fb1 := fkFalse (h := k) (d := e) hbF
                have na2 : ¬ fk a h d = 2 := fun q => by
                  have q2 : d.length = 0 := by rw [(fkk2 q).2.2]; rfl
                  omega
                have nb2 : ¬ fk b k e = 2 := fun q => by
                  have q2 : e.length = 0 := by rw [(fkk2 q).2.2]; rfl
                  omega
                have je := join_5 (a := a) (h := h) (d := d) (b := b) (k := k) (e := e) (by omega) (by omega) (by omega) (by omega) (by omega)
                exact ⟨_, [], by rw [je], by rw [je]; exact Sl.nil 1 5, (hM52.addNil).keep (by simp)⟩
              ·
                refine stg rfl (v := .pointer (some ⟨b2, 2, none⟩)) (o_fa rfl rfl) ?_
                refine gyesl rfl ?_
                refine m_ld (v := (.slice av nv cv)) hM14 (i := 0) (j := 0) rfl rfl rfl rfl ?_
                refine stg rfl (v := .int .i64 (d.length : Nat)) (o_lenR (hx.upd hM14.upd) rfl rfl) ?_
                refine stg rfl (v := .pointer (some ⟨b4, 2, none⟩)) (o_fa rfl rfl) ?_
                refine gyesl rfl ?_
                refine m_ld (v := (.slice au nu cu)) hM14 (i := 1) (j := 0) rfl rfl rfl rfl ?_
                refine stg rfl (v := .int .i64 (e.length : Nat)) (o_lenR (hy.upd hM14.upd) rfl rfl) ?_
                refine stg rfl (v := .bool (decide (¬ ((d.length : Nat) : Int) = (e.length : Nat)))) (o_bin rfl rfl v_neq) ?_
                refine stp (v := .bool (decide (¬ ((d.length : Nat) : Int) = (e.length : Nat)))) (o_pickF rfl rfl) ?_
                refine h49 _ _ ?_
                clear h49
                refine cndP rfl (fun c53 => ?_) (fun c53 => ?_)
                ·
                  refine seq fun K54 h54 => ?_
                  refine stp (v := .agg ([.bool false, .int .i64 0, .slice none 0 0] : List Value).toArray) (o_bld rfl rfl) ?_
                  refine m_stA (l := [.bool false, .int .i64 0, .slice none 0 0]) hM14 (i := 2) rfl rfl rfl rfl (by simp [oneCells, Value.oneCell', byteV]) (by simp) fun w55 (hM55 : Mem w [] w55 [[⟨b2, 24, [.bool a, .int .i64 h, (.slice av nv cv)]⟩], [⟨b4, 24, [.bool b, .int .i64 k, (.slice au nu cu)]⟩], [⟨b6, 24, [.bool false, .int .i64 0, .slice none 0 0]⟩]]) => ?_
                  refine stp (v := .int .i64 3) (o_mv rfl) ?_
                  refine h54 _ _ ?_
                  clear h54
                  show resV _ _ _ _ _
                  refine res_cell (s := some 3) (by kernel_rfl) ?_
                  refine vl_ldA (cs := [.bool false, .int .i64 0, .slice none 0 0]) rfl rfl ((hM55.at (i := 2) (j := 0) rfl rfl).agg rfl rfl) ?_
                  refine res_tmp ?_
                  refine ⟨(.tuple [.agg ([.bool false, .int .i64 0, .slice none 0 0] : List Value).toArray, .int .i64 3].toArray), rfl, ?_⟩
                  have fa1 := fkFalse (h := h) (d := d) haF
                  have fb1 := fkFalse (h := k) (d := e) hbF
                  have na2 : ¬ fk a h d = 2 := fun q => by
                    have q2 : d.length = 0 := by rw [(fkk2 q).2.2]; rfl
                    omega
                  have nb2 : ¬ fk b k e = 2 := fun q => by
                    have q2 : e.length = 0 := by rw [(fkk2 q).2.2]; rfl
                    omega
                  have je := join_5 (a := a) (h := h) (d := d) (b := b) (k := k) (e := e) (by omega) (by omega) (by omega) (by omega) (by omega)
                  exact ⟨_, [], by rw [je], by rw [je]; exact Sl.nil 1 5, (hM55.addNil).keep (by simp)⟩
                ·
                  refine h48 _ _ ?_
                  clear h48
                  refine seq fun K56 h56 => ?_
                  intro wd e1 e2 e3 e4
                  have hd := Upd.same e1 e2 e3 e4 []
                  have hM57 := hM14.pure hd
                  clear e1 e2 e3 e4
                  refine ⟨(some [b2]), ?_⟩
                  show vd _ _ _ _ _ _ _
                  refine dq (v := .pointer (some ⟨b2, 1, none⟩)) (o_fa rfl rfl) ?_
                  refine dq (v := .pointer (some ⟨b2, 2, none⟩)) (o_fa rfl rfl) ?_
                  refine dqld rfl (by simp [isHeld]) (v := (.slice av nv cv)) ((hM57.at (i := 0) (j := 0) rfl rfl).cell 2) ?_
                  refine dqld rfl (by simp [isHeld]) (v := .int .i64 h) ((hM57.at (i := 0) (j := 0) rfl rfl).cell 1) ?_
                  show _ ∧ _
                  refine ⟨?_, ?_⟩
                  ·
                    show vd _ _ _ _ _ _ _
                    refine dl (m_bsU hM57 rfl fun b58 w59 hup59 (hM59 : Mem w [] w59 [[⟨b2, 24, [.bool a, .int .i64 h, (.slice av nv cv)]⟩], [⟨b4, 24, [.bool b, .int .i64 k, (.slice au nu cu)]⟩], [⟨b6, 24, [.bool false, .int .i64 0, .slice none 0 0]⟩], [⟨b58, 5, []⟩]]) => ?_)
                    have hh59 := held_upd (wr := wd) (bs := [b2]) hup59 (fun b hb => by
                      simp only [List.mem_cons, List.not_mem_nil, or_false] at hb
                      rw [hb]; exact ⟨(hM57.at (i := 0) (j := 0) rfl rfl).lt, by simp⟩) (fun b hb => rfl)
                    refine ⟨hh59, ?_⟩
                    show _ ∧ _
                    refine ⟨?_, ?_⟩
                    ·
                      show vd _ _ _ _ _ _ _
                      have hs60 : SlE byteV 5 (.slice (some ⟨b58, 0, none⟩) 0 0) [] [⟨b58, 5, []⟩] := SlE.lit (l := []) rfl
                      refine dl (m_appEU hM59 (i := 3) rfl hs60 rfl rfl (hx.upd hM59.upd) (by first | omega | (simp; omega)) (by omega) fun v61 w61 r61 (hs61 : SlE byteV 5 v61 (d) r61) hup61 (hM61 : Mem w [] w61 [[⟨b2, 24, [.bool a, .int .i64 h, (.slice av nv cv)]⟩], [⟨b4, 24, [.bool b, .int .i64 k, (.slice au nu cu)]⟩], [⟨b6, 24, [.bool false, .int .i64 0, .slice none 0 0]⟩], r61]) => ?_)
                      have hh61 := held_upd (wr := wd) (bs := [b2]) hup61 (fun b hb => by
                        simp only [List.mem_cons, List.not_mem_nil, or_false] at hb
                        rw [hb]; exact ⟨(hM59.at (i := 0) (j := 0) rfl rfl).lt, hM59.apart (i := 0) (j := 0) (k := 3) rfl rfl rfl (by decide)⟩) hh59
                      refine ⟨hh61, ?_⟩
                      obtain ⟨a62_, n62_, c62_, rfl⟩ := Sl.isSlice hs61
                      refine dq (v := .agg ([.bool false, .int .i64 h, (.slice a62_ n62_ c62_)] : List Value).toArray) (o_bld rfl rfl) ?_
                      refine dl (m_alU hM61 fun b63 w64 hup64 (hM64 : Mem w [] w64 [[⟨b2, 24, [.bool a, .int .i64 h, (.slice av nv cv)]⟩], [⟨b4, 24, [.bool b, .int .i64 k, (.slice au nu cu)]⟩], [⟨b6, 24, [.bool false, .int .i64 0, .slice none 0 0]⟩], r61, [⟨b63, 24, [.bool false, .int .i64 0, .slice none 0 0]⟩]]) => ?_)
                      have hh64 := held_upd (wr := wd) (bs := [b2]) hup64 (fun b hb => by
                        simp only [List.mem_cons, List.not_mem_nil, or_false] at hb
                        rw [hb]; exact ⟨(hM61.at (i := 0) (j := 0) rfl rfl).lt, by simp⟩) hh61
                      refine ⟨hh64, ?_⟩
                      refine dl (m_stAU (l := [.bool false, .int .i64 h, (.slice a62_ n62_ c62_)]) hM64 (i := 4) rfl rfl rfl rfl (by simp [oneCells, Value.oneCell', byteV]) (by simp) fun w65 hup65 (hM65 : Mem w [] w65 [[⟨b2, 24, [.bool a, .int .i64 h, (.slice av nv cv)]⟩], [⟨b4, 24, [.bool b, .int .i64 k, (.slice au nu cu)]⟩], [⟨b6, 24, [.bool false, .int .i64 0, .slice none 0 0]⟩], r61, [⟨b63, 24, [.bool false, .int .i64 h, (.slice a62_ n62_ c62_)]⟩]]) => ?_)
                      have hh65 := held_upd (wr := wd) (bs := [b2]) hup65 (fun b hb => by
                        simp only [List.mem_cons, List.not_mem_nil, or_false] at hb
                        rw [hb]; exact ⟨(hM64.at (i := 0) (j := 0) rfl rfl).lt, hM64.apart (i := 0) (j := 0) (k := 4) rfl rfl rfl (by decide)⟩) hh64
                      refine ⟨hh65, ?_⟩
                      refine h56 _ _ ?_
                      clear h56
                      refine seq fun K66 h66 => ?_
                      refine seq fun K67 h67 => ?_
                      refine stp (v := .int .i64 0) (o_mv rfl) ?_
                      refine h67 _ _ ?_
                      clear h67
                      refine lp (n := fun _ _ => False) (ι := (Nat) × (List Ent)) (fun ⟨i, rs⟩ f w' => f 7 = .int .i64 (i : Nat) ∧ f 3 = .pointer (some ⟨b4, 0, none⟩) ∧ f 4 = .pointer (some ⟨b6, 0, none⟩) ∧ f 6 = .pointer (some ⟨b63, 0, none⟩) ∧ Mem w [] w' [[⟨b2, 24, [.bool a, .int .i64 h, (.slice av nv cv)]⟩], [⟨b4, 24, [.bool b, .int .i64 k, (.slice au nu cu)]⟩], [⟨b6, 24, [.bool false, .int .i64 0, .slice none 0 0]⟩], rs, [⟨b63, 24, [.bool false, .int .i64 h, (.slice a62_ n62_ c62_)]⟩]] ∧ (SlE byteV 5 (.slice a62_ n62_ c62_) (orI2 i d e) rs) ∧ (i ≤ d.length)) (fun ⟨i, rs⟩ => d.length - i) (0, r61) ?_ ?_
                      · exact ⟨by first | rfl | exact v_int (by omega) | exact v_int (by simp) | exact v_int (by simp; omega), rfl, rfl, rfl, hM65, by rw [orI2_zero]; exact hs61, by omega⟩
                      · rintro ⟨i, rs⟩ f w68 ⟨e68_7, e68_3, e68_4, e68_6, hM68, hs, hi⟩ K69 h69
                        obtain ⟨frm, rfl⟩ : ∃ frm, f = (upd (upd (upd (upd frm 7 (.int .i64 (i : Nat))) 3 (.pointer (some ⟨b4, 0, none⟩))) 4 (.pointer (some ⟨b6, 0, none⟩))) 6 (.pointer (some ⟨b63, 0, none⟩))) := ⟨f, by rw [upd_self e68_7, upd_self e68_3, upd_self e68_4, upd_self e68_6]⟩
                        clear e68_7 e68_3 e68_4 e68_6
                        refine seq fun K70 h70 => ?_
                        refine seq fun K71 h71 => ?_
                        refine stp (v := .int .i64 (i : Nat)) (o_mv rfl) ?_
                        refine stp (v := .pointer (some ⟨b63, 2, none⟩)) (o_fa rfl rfl) ?_
                        refine m_ld (v := (.slice a62_ n62_ c62_)) hM68 (i := 4) (j := 0) rfl rfl rfl rfl ?_
                        refine stp (v := .int .i64 ((orI2 i d e).length : Nat)) (o_lenR (hs.rd hM68 (i := 3) rfl) rfl rfl) ?_
                        refine stp (v := .bool (decide (((i : Nat) : Int) < ((orI2 i d e).length : Nat)))) (o_bin rfl rfl rfl) ?_
                        refine h71 _ _ ?_
                        clear h71
                        refine cndP rfl (fun c72 => ?_) (fun c72 => ?_)
                        ·
                          refine h70 _ _ ?_
                          clear h70
                          refine seq fun K73 h73 => ?_
                          intro wd e1 e2 e3 e4
                          have hd := Upd.same e1 e2 e3 e4 []
                          have hM74 := hM68.pure hd
                          clear e1 e2 e3 e4
                          refine ⟨(some [b4, b63, (blkV (.slice au nu cu))]), ?_⟩
                          show vd _ _ _ _ _ _ _
                          have hoi := orI2_length (d := d) (e := e) (i := i) (by omega)
                          refine dq (v := .pointer (some ⟨b63, 2, none⟩)) (o_fa rfl rfl) ?_
                          refine dq (v := .int .i64 (i : Nat)) (o_mv rfl) ?_
                          refine dq (v := .pointer (some ⟨b63, 2, none⟩)) (o_fa rfl rfl) ?_
                          refine dq (v := .int .i64 (i : Nat)) (o_mv rfl) ?_
                          refine dq (v := .pointer (some ⟨b4, 2, none⟩)) (o_fa rfl rfl) ?_
                          refine dq (v := .int .i64 (i : Nat)) (o_mv rfl) ?_
                          refine dqld rfl (by simp [isHeld]) (v := (.slice au nu cu)) ((hM74.at (i := 1) (j := 0) rfl rfl).cell 2) ?_
                          refine dqp (m_idxE2 0 (j := i) (hy.upd hM74.upd) rfl rfl (by omega) fun b75 o75 hp75 hbb75 => ?_)
                          show vd _ _ _ _ _ _ _
                          subst hbb75
                          refine dqld rfl (by simp [isHeld]) (v := (.slice a62_ n62_ c62_)) ((hM74.at (i := 4) (j := 0) rfl rfl).cell 2) ?_
                          refine dqp (m_idxE 0 (j := i) (hs.rd hM74 (i := 3) rfl) rfl rfl (by omega) fun b76 o76 hp76 => ?_)
                          show vd _ _ _ _ _ _ _
                          refine dqld rfl (by simp [isHeld]) (v := (.slice a62_ n62_ c62_)) ((hM74.at (i := 4) (j := 0) rfl rfl).cell 2) ?_
                          refine dqld rfl (by simp [isHeld]) (v := byteV (e.getD i 0)) (hp75) ?_
                          refine dl (ld (v := byteV ((orI2 i d e).getD i 0)) rfl (hp76) ?_)
                          refine ⟨(fun b hb => rfl), ?_⟩
                          refine dq (v := .int .u8 ((d.getD i 0 ||| e.getD i 0).toNat : Int)) (o_bin rfl rfl (by rw [orI2_get (by omega) (by omega)]; exact v_int (or8 _ _))) ?_
                          refine dset (m_setU (E := byteV) (q := d.getD i 0 ||| e.getD i 0) (j := i) hM74 (i := 3) rfl hs rfl rfl (by omega) (by simp) (rfl) fun w77 r77 u77 he77 hs77 (hM77 : Mem w [] w77 [[⟨b2, 24, [.bool a, .int .i64 h, (.slice av nv cv)]⟩], [⟨b4, 24, [.bool b, .int .i64 k, (.slice au nu cu)]⟩], [⟨b6, 24, [.bool false, .int .i64 0, .slice none 0 0]⟩], r77, [⟨b63, 24, [.bool false, .int .i64 h, (.slice a62_ n62_ c62_)]⟩]]) hup77 => ?_)
                          have hh77 := held_upd (wr := wd) (bs := [b4, b63, (blkV (.slice au nu cu))]) hup77 (fun b hb => by
                            simp only [List.mem_cons, List.not_mem_nil, or_false] at hb
                            rcases hb with h | h | h
                            · rw [h]; exact ⟨(hM74.at (i := 1) (j := 0) rfl rfl).lt, hM74.apart (i := 1) (j := 0) (k := 3) rfl rfl rfl (by decide)⟩
                            · rw [h]; exact ⟨(hM74.at (i := 4) (j := 0) rfl rfl).lt, hM74.apart (i := 4) (j := 0) (k := 3) rfl rfl rfl (by decide)⟩
                            · rw [h]; exact ⟨Rd.blkV_lt (hy.upd hM74.upd) (by omega), hM74.old (i := 3) rfl (Rd.blkV_lt hy (by omega))⟩) (fun b hb => rfl)
                          refine ⟨hh77, ?_⟩
                          show vd _ _ _ _ _ _ _
                          refine h73 _ _ ?_
                          clear h73
                          refine stp (v := .int .i64 (i : Nat)) (o_mv rfl) ?_
                          refine stp (v := .int .i64 ((i : Nat) + 1)) (o_bin rfl rfl (v_add64 (by constructor <;> omega))) ?_
                          refine stp (v := .int .i64 ((i : Nat) + 1)) (o_mv rfl) ?_
                          refine h69 (i + 1, r77) _ _ ⟨by first | rfl | exact v_int (by omega) | exact v_int (by simp) | exact v_int (by simp; omega), rfl, rfl, rfl, hM77, by rw [← orI2_succ (by omega) (by omega)]; exact hs77, by omega⟩ (by (try dsimp only); omega)
                        ·
                          refine h66 _ _ ?_
                          clear h66
                          refine seq fun K78 h78 => ?_
                          refine m_ldA (l := [.bool false, .int .i64 h, (.slice a62_ n62_ c62_)]) hM68 (i := 4) (j := 0) rfl rfl rfl rfl rfl ?_
                          refine m_stA (l := [.bool false, .int .i64 h, (.slice a62_ n62_ c62_)]) hM68 (i := 2) rfl rfl rfl rfl (by simp [oneCells, Value.oneCell', byteV]) (by simp) fun w79 (hM79 : Mem w [] w79 [[⟨b2, 24, [.bool a, .int .i64 h, (.slice av nv cv)]⟩], [⟨b4, 24, [.bool b, .int .i64 k, (.slice au nu cu)]⟩], [⟨b6, 24, [.bool false, .int .i64 h, (.slice a62_ n62_ c62_)]⟩], rs, [⟨b63, 24, [.bool false, .int .i64 h, (.slice a62_ n62_ c62_)]⟩]]) => ?_
                          refine stp (v := .int .i64 0) (o_mv rfl) ?_
                          refine h78 _ _ ?_
                          clear h78
                          show resV _ _ _ _ _
                          refine res_cell (s := some 3) (by kernel_rfl) ?_
                          refine vl_ldA (cs := [.bool false, .int .i64 h, (.slice a62_ n62_ c62_)]) rfl rfl ((hM79.at (i := 2) (j := 0) rfl rfl).agg rfl rfl) ?_
                          refine res_tmp ?_
                          refine ⟨(.tuple [.agg ([.bool false, .int .i64 h, (.slice a62_ n62_ c62_)] : List Value).toArray, .int .i64 0].toArray), rfl, ?_⟩
                          have fa1 := fkFalse (h := h) (d := d) haF
                          have fb1 := fkFalse (h := k) (d := e) hbF
                          have na2 : ¬ fk a h d = 2 := fun q => by
                            have q2 : d.length = 0 := by rw [(fkk2 q).2.2]; rfl
                            omega
                          have nb2 : ¬ fk b k e = 2 := fun q => by
                            have q2 : e.length = 0 := by rw [(fkk2 q).2.2]; rfl
                            omega
                          have hoi := orI2_length (d := d) (e := e) (i := i) (by omega)
                          have je := join_4 (a := a) (h := h) (d := d) (b := b) (k := k) (e := e) (by omega) (by omega) (by omega) (by omega) (by omega)
                          rw [orI2_end (by omega) (by omega)] at hs
                          exact ⟨_, _, by rw [je, haF], by rw [je]; exact hs, hM79.keep (by simp; repeat (first | exact List.Sublist.refl _ | exact List.sublist_append_left _ _ | apply List.Sublist.cons))⟩
                    ·
                      show vd _ _ _ _ _ _ _
                      refine dl (m_alU hM59 fun b80 w81 hup81 (hM81 : Mem w [] w81 [[⟨b2, 24, [.bool a, .int .i64 h, (.slice av nv cv)]⟩], [⟨b4, 24, [.bool b, .int .i64 k, (.slice au nu cu)]⟩], [⟨b6, 24, [.bool false, .int .i64 0, .slice none 0 0]⟩], [⟨b58, 5, []⟩], [⟨b80, 24, [.bool false, .int .i64 0, .slice none 0 0]⟩]]) => ?_)
                      have hh81 := held_upd (wr := wd) (bs := [b2]) hup81 (fun b hb => by
                        simp only [List.mem_cons, List.not_mem_nil, or_false] at hb
                        rw [hb]; exact ⟨(hM59.at (i := 0) (j := 0) rfl rfl).lt, by simp⟩) hh59
                      refine ⟨hh81, ?_⟩
                      have hs82 : SlE byteV 5 (.slice (some ⟨b58, 0, none⟩) 0 0) [] [⟨b58, 5, []⟩] := SlE.lit (l := []) rfl
                      refine dl (m_appEU hM81 (i := 3) rfl hs82 rfl rfl (hx.upd hM81.upd) (by first | omega | (simp; omega)) (by omega) fun v83 w83 r83 (hs83 : SlE byteV 5 v83 (d) r83) hup83 (hM83 : Mem w [] w83 [[⟨b2, 24, [.bool a, .int .i64 h, (.slice av nv cv)]⟩], [⟨b4, 24, [.bool b, .int .i64 k, (.slice au nu cu)]⟩], [⟨b6, 24, [.bool false, .int .i64 0, .slice none 0 0]⟩], r83, [⟨b80, 24, [.bool false, .int .i64 0, .slice none 0 0]⟩]]) => ?_)
                      have hh83 := held_upd (wr := wd) (bs := [b2]) hup83 (fun b hb => by
                        simp only [List.mem_cons, List.not_mem_nil, or_false] at hb
                        rw [hb]; exact ⟨(hM81.at (i := 0) (j := 0) rfl rfl).lt, hM81.apart (i := 0) (j := 0) (k := 3) rfl rfl rfl (by decide)⟩) hh81
                      refine ⟨hh83, ?_⟩
                      obtain ⟨a84_, n84_, c84_, rfl⟩ := Sl.isSlice hs83
                      refine dq (v := .agg ([.bool false, .int .i64 h, (.slice a84_ n84_ c84_)] : List Value).toArray) (o_bld rfl rfl) ?_
                      refine dl (m_stAU (l := [.bool false, .int .i64 h, (.slice a84_ n84_ c84_)]) hM83 (i := 4) rfl rfl rfl rfl (by simp [oneCells, Value.oneCell', byteV]) (by simp) fun w85 hup85 (hM85 : Mem w [] w85 [[⟨b2, 24, [.bool a, .int .i64 h, (.slice av nv cv)]⟩], [⟨b4, 24, [.bool b, .int .i64 k, (.slice au nu cu)]⟩], [⟨b6, 24, [.bool false, .int .i64 0, .slice none 0 0]⟩], r83, [⟨b80, 24, [.bool false, .int .i64 h, (.slice a84_ n84_ c84_)]⟩]]) => ?_)
                      have hh85 := held_upd (wr := wd) (bs := [b2]) hup85 (fun b hb => by
                        simp only [List.mem_cons, List.not_mem_nil, or_false] at hb
                        rw [hb]; exact ⟨(hM83.at (i := 0) (j := 0) rfl rfl).lt, hM83.apart (i := 0) (j := 0) (k := 4) rfl rfl rfl (by decide)⟩) hh83
                      refine ⟨hh85, ?_⟩
                      refine h56 _ _ ?_
                      clear h56
                      refine seq fun K86 h86 => ?_
                      refine seq fun K87 h87 => ?_
                      refine stp (v := .int .i64 0) (o_mv rfl) ?_
                      refine h87 _ _ ?_
                      clear h87
                      refine lp (n := fun _ _ => False) (ι := (Nat) × (List Ent)) (fun ⟨i, rs⟩ f w' => f 7 = .int .i64 (i : Nat) ∧ f 3 = .pointer (some ⟨b4, 0, none⟩) ∧ f 4 = .pointer (some ⟨b6, 0, none⟩) ∧ f 6 = .pointer (some ⟨b80, 0, none⟩) ∧ Mem w [] w' [[⟨b2, 24, [.bool a, .int .i64 h, (.slice av nv cv)]⟩], [⟨b4, 24, [.bool b, .int .i64 k, (.slice au nu cu)]⟩], [⟨b6, 24, [.bool false, .int .i64 0, .slice none 0 0]⟩], rs, [⟨b80, 24, [.bool false, .int .i64 h, (.slice a84_ n84_ c84_)]⟩]] ∧ (SlE byteV 5 (.slice a84_ n84_ c84_) (orI2 i d e) rs) ∧ (i ≤ d.length)) (fun ⟨i, rs⟩ => d.length - i) (0, r83) ?_ ?_
                      · exact ⟨by first | rfl | exact v_int (by omega) | exact v_int (by simp) | exact v_int (by simp; omega), rfl, rfl, rfl, hM85, by rw [orI2_zero]; exact hs83, by omega⟩
                      · rintro ⟨i, rs⟩ f w88 ⟨e88_7, e88_3, e88_4, e88_6, hM88, hs, hi⟩ K89 h89
                        obtain ⟨frm, rfl⟩ : ∃ frm, f = (upd (upd (upd (upd frm 7 (.int .i64 (i : Nat))) 3 (.pointer (some ⟨b4, 0, none⟩))) 4 (.pointer (some ⟨b6, 0, none⟩))) 6 (.pointer (some ⟨b80, 0, none⟩))) := ⟨f, by rw [upd_self e88_7, upd_self e88_3, upd_self e88_4, upd_self e88_6]⟩
                        clear e88_7 e88_3 e88_4 e88_6
                        refine seq fun K90 h90 => ?_
                        refine seq fun K91 h91 => ?_
                        refine stp (v := .int .i64 (i : Nat)) (o_mv rfl) ?_
                        refine stp (v := .pointer (some ⟨b80, 2, none⟩)) (o_fa rfl rfl) ?_
                        refine m_ld (v := (.slice a84_ n84_ c84_)) hM88 (i := 4) (j := 0) rfl rfl rfl rfl ?_
                        refine stp (v := .int .i64 ((orI2 i d e).length : Nat)) (o_lenR (hs.rd hM88 (i := 3) rfl) rfl rfl) ?_
                        refine stp (v := .bool (decide (((i : Nat) : Int) < ((orI2 i d e).length : Nat)))) (o_bin rfl rfl rfl) ?_
                        refine h91 _ _ ?_
                        clear h91
                        refine cndP rfl (fun c92 => ?_) (fun c92 => ?_)
                        ·
                          refine h90 _ _ ?_
                          clear h90
                          refine seq fun K93 h93 => ?_
                          intro wd e1 e2 e3 e4
                          have hd := Upd.same e1 e2 e3 e4 []
                          have hM94 := hM88.pure hd
                          clear e1 e2 e3 e4
                          refine ⟨(some [b4, b80, (blkV (.slice au nu cu))]), ?_⟩
                          show vd _ _ _ _ _ _ _
                          have hoi := orI2_length (d := d) (e := e) (i := i) (by omega)
                          refine dq (v := .pointer (some ⟨b80, 2, none⟩)) (o_fa rfl rfl) ?_
                          refine dq (v := .int .i64 (i : Nat)) (o_mv rfl) ?_
                          refine dq (v := .pointer (some ⟨b80, 2, none⟩)) (o_fa rfl rfl) ?_
                          refine dq (v := .int .i64 (i : Nat)) (o_mv rfl) ?_
                          refine dq (v := .pointer (some ⟨b4, 2, none⟩)) (o_fa rfl rfl) ?_
                          refine dq (v := .int .i64 (i : Nat)) (o_mv rfl) ?_
                          refine dqld rfl (by simp [isHeld]) (v := (.slice au nu cu)) ((hM94.at (i := 1) (j := 0) rfl rfl).cell 2) ?_
                          refine dqp (m_idxE2 0 (j := i) (hy.upd hM94.upd) rfl rfl (by omega) fun b95 o95 hp95 hbb95 => ?_)
                          show vd _ _ _ _ _ _ _
                          subst hbb95
                          refine dqld rfl (by simp [isHeld]) (v := (.slice a84_ n84_ c84_)) ((hM94.at (i := 4) (j := 0) rfl rfl).cell 2) ?_
                          refine dqp (m_idxE 0 (j := i) (hs.rd hM94 (i := 3) rfl) rfl rfl (by omega) fun b96 o96 hp96 => ?_)
                          show vd _ _ _ _ _ _ _
                          refine dqld rfl (by simp [isHeld]) (v := (.slice a84_ n84_ c84_)) ((hM94.at (i := 4) (j := 0) rfl rfl).cell 2) ?_
                          refine dqld rfl (by simp [isHeld]) (v := byteV (e.getD i 0)) (hp95) ?_
                          refine dl (ld (v := byteV ((orI2 i d e).getD i 0)) rfl (hp96) ?_)
                          refine ⟨(fun b hb => rfl), ?_⟩
                          refine dq (v := .int .u8 ((d.getD i 0 ||| e.getD i 0).toNat : Int)) (o_bin rfl rfl (by rw [orI2_get (by omega) (by omega)]; exact v_int (or8 _ _))) ?_
                          refine dset (m_setU (E := byteV) (q := d.getD i 0 ||| e.getD i 0) (j := i) hM94 (i := 3) rfl hs rfl rfl (by omega) (by simp) (rfl) fun w97 r97 u97 he97 hs97 (hM97 : Mem w [] w97 [[⟨b2, 24, [.bool a, .int .i64 h, (.slice av nv cv)]⟩], [⟨b4, 24, [.bool b, .int .i64 k, (.slice au nu cu)]⟩], [⟨b6, 24, [.bool false, .int .i64 0, .slice none 0 0]⟩], r97, [⟨b80, 24, [.bool false, .int .i64 h, (.slice a84_ n84_ c84_)]⟩]]) hup97 => ?_)
                          have hh97 := held_upd (wr := wd) (bs := [b4, b80, (blkV (.slice au nu cu))]) hup97 (fun b hb => by
                            simp only [List.mem_cons, List.not_mem_nil, or_false] at hb
                            rcases hb with h | h | h
                            · rw [h]; exact ⟨(hM94.at (i := 1) (j := 0) rfl rfl).lt, hM94.apart (i := 1) (j := 0) (k := 3) rfl rfl rfl (by decide)⟩
                            · rw [h]; exact ⟨(hM94.at (i := 4) (j := 0) rfl rfl).lt, hM94.apart (i := 4) (j := 0) (k := 3) rfl rfl rfl (by decide)⟩
                            · rw [h]; exact ⟨Rd.blkV_lt (hy.upd hM94.upd) (by omega), hM94.old (i := 3) rfl (Rd.blkV_lt hy (by omega))⟩) (fun b hb => rfl)
                          refine ⟨hh97, ?_⟩
                          show vd _ _ _ _ _ _ _
                          refine h93 _ _ ?_
                          clear h93
                          refine stp (v := .int .i64 (i : Nat)) (o_mv rfl) ?_
                          refine stp (v := .int .i64 ((i : Nat) + 1)) (o_bin rfl rfl (v_add64 (by constructor <;> omega))) ?_
                          refine stp (v := .int .i64 ((i : Nat) + 1)) (o_mv rfl) ?_
                          refine h89 (i + 1, r97) _ _ ⟨by first | rfl | exact v_int (by omega) | exact v_int (by simp) | exact v_int (by simp; omega), rfl, rfl, rfl, hM97, by rw [← orI2_succ (by omega) (by omega)]; exact hs97, by omega⟩ (by (try dsimp only); omega)
                        ·
                          refine h86 _ _ ?_
                          clear h86
                          refine seq fun K98 h98 => ?_
                          refine m_ldA (l := [.bool false, .int .i64 h, (.slice a84_ n84_ c84_)]) hM88 (i := 4) (j := 0) rfl rfl rfl rfl rfl ?_
                          refine m_stA (l := [.bool false, .int .i64 h, (.slice a84_ n84_ c84_)]) hM88 (i := 2) rfl rfl rfl rfl (by simp [oneCells, Value.oneCell', byteV]) (by simp) fun w99 (hM99 : Mem w [] w99 [[⟨b2, 24, [.bool a, .int .i64 h, (.slice av nv cv)]⟩], [⟨b4, 24, [.bool b, .int .i64 k, (.slice au nu cu)]⟩], [⟨b6, 24, [.bool false, .int .i64 h, (.slice a84_ n84_ c84_)]⟩], rs, [⟨b80, 24, [.bool false, .int .i64 h, (.slice a84_ n84_ c84_)]⟩]]) => ?_
                          refine stp (v := .int .i64 0) (o_mv rfl) ?_
                          refine h98 _ _ ?_
                          clear h98
                          show resV _ _ _ _ _
                          refine res_cell (s := some 3) (by kernel_rfl) ?_
                          refine vl_ldA (cs := [.bool false, .int .i64 h, (.slice a84_ n84_ c84_)]) rfl rfl ((hM99.at (i := 2) (j := 0) rfl rfl).agg rfl rfl) ?_
                          refine res_tmp ?_
                          refine ⟨(.tuple [.agg ([.bool false, .int .i64 h, (.slice a84_ n84_ c84_)] : List Value).toArray, .int .i64 0].toArray), rfl, ?_⟩
                          have fa1 := fkFalse (h := h) (d := d) haF
                          have fb1 := fkFalse (h := k) (d := e) hbF
                          have na2 : ¬ fk a h d = 2 := fun q => by
                            have q2 : d.length = 0 := by rw [(fkk2 q).2.2]; rfl
                            omega
                          have nb2 : ¬ fk b k e = 2 := fun q => by
                            have q2 : e.length = 0 := by rw [(fkk2 q).2.2]; rfl
                            omega
                          have hoi := orI2_length (d := d) (e := e) (i := i) (by omega)
                          have je := join_4 (a := a) (h := h) (d := d) (b := b) (k := k) (e := e) (by omega) (by omega) (by omega) (by omega) (by omega)
                          rw [orI2_end (by omega) (by omega)] at hs
                          exact ⟨_, _, by rw [je, haF], by rw [je]; exact hs, hM99.keep (by simp; repeat (first | exact List.Sublist.refl _ | exact List.sublist_append_left _ _ | apply List.Sublist.cons))⟩
                  ·
                    show vd _ _ _ _ _ _ _
                    refine dl (m_alU hM57 fun b100 w101 hup101 (hM101 : Mem w [] w101 [[⟨b2, 24, [.bool a, .int .i64 h, (.slice av nv cv)]⟩], [⟨b4, 24, [.bool b, .int .i64 k, (.slice au nu cu)]⟩], [⟨b6, 24, [.bool false, .int .i64 0, .slice none 0 0]⟩], [⟨b100, 24, [.bool false, .int .i64 0, .slice none 0 0]⟩]]) => ?_)
                    have hh101 := held_upd (wr := wd) (bs := [b2]) hup101 (fun b hb => by
                      simp only [List.mem_cons, List.not_mem_nil, or_false] at hb
                      rw [hb]; exact ⟨(hM57.at (i := 0) (j := 0) rfl rfl).lt, by simp⟩) (fun b hb => rfl)
                    refine ⟨hh101, ?_⟩
                    refine dl (m_bsU hM101 rfl fun b102 w103 hup103 (hM103 : Mem w [] w103 [[⟨b2, 24, [.bool a, .int .i64 h, (.slice av nv cv)]⟩], [⟨b4, 24, [.bool b, .int .i64 k, (.slice au nu cu)]⟩], [⟨b6, 24, [.bool false, .int .i64 0, .slice none 0 0]⟩], [⟨b100, 24, [.bool false, .int .i64 0, .slice none 0 0]⟩], [⟨b102, 5, []⟩]]) => ?_)
                    have hh103 := held_upd (wr := wd) (bs := [b2]) hup103 (fun b hb => by
                      simp only [List.mem_cons, List.not_mem_nil, or_false] at hb
                      rw [hb]; exact ⟨(hM101.at (i := 0) (j := 0) rfl rfl).lt, by simp⟩) hh101
                    refine ⟨hh103, ?_⟩
                    have hs104 : SlE byteV 5 (.slice (some ⟨b102, 0, none⟩) 0 0) [] [⟨b102, 5, []⟩] := SlE.lit (l := []) rfl
                    refine dl (m_appEU hM103 (i := 4) rfl hs104 rfl rfl (hx.upd hM103.upd) (by first | omega | (simp; omega)) (by omega) fun v105 w105 r105 (hs105 : SlE byteV 5 v105 (d) r105) hup105 (hM105 : Mem w [] w105 [[⟨b2, 24, [.bool a, .int .i64 h, (.slice av nv cv)]⟩], [⟨b4, 24, [.bool b, .int .i64 k, (.slice au nu cu)]⟩], [⟨b6, 24, [.bool false, .int .i64 0, .slice none 0 0]⟩], [⟨b100, 24, [.bool false, .int .i64 0, .slice none 0 0]⟩], r105]) => ?_)
                    have hh105 := held_upd (wr := wd) (bs := [b2]) hup105 (fun b hb => by
                      simp only [List.mem_cons, List.not_mem_nil, or_false] at hb
                      rw [hb]; exact ⟨(hM103.at (i := 0) (j := 0) rfl rfl).lt, hM103.apart (i := 0) (j := 0) (k := 4) rfl rfl rfl (by decide)⟩) hh103
                    refine ⟨hh105, ?_⟩
                    obtain ⟨a106_, n106_, c106_, rfl⟩ := Sl.isSlice hs105
                    refine dq (v := .agg ([.bool false, .int .i64 h, (.slice a106_ n106_ c106_)] : List Value).toArray) (o_bld rfl rfl) ?_
                    refine dl (m_stAU (l := [.bool false, .int .i64 h, (.slice a106_ n106_ c106_)]) hM105 (i := 3) rfl rfl rfl rfl (by simp [oneCells, Value.oneCell', byteV]) (by simp) fun w107 hup107 (hM107 : Mem w [] w107 [[⟨b2, 24, [.bool a, .int .i64 h, (.slice av nv cv)]⟩], [⟨b4, 24, [.bool b, .int .i64 k, (.slice au nu cu)]⟩], [⟨b6, 24, [.bool false, .int .i64 0, .slice none 0 0]⟩], [⟨b100, 24, [.bool false, .int .i64 h, (.slice a106_ n106_ c106_)]⟩], r105]) => ?_)
                    have hh107 := held_upd (wr := wd) (bs := [b2]) hup107 (fun b hb => by
                      simp only [List.mem_cons, List.not_mem_nil, or_false] at hb
                      rw [hb]; exact ⟨(hM105.at (i := 0) (j := 0) rfl rfl).lt, hM105.apart (i := 0) (j := 0) (k := 3) rfl rfl rfl (by decide)⟩) hh105
                    refine ⟨hh107, ?_⟩
                    refine h56 _ _ ?_
                    clear h56
                    refine seq fun K108 h108 => ?_
                    refine seq fun K109 h109 => ?_
                    refine stp (v := .int .i64 0) (o_mv rfl) ?_
                    refine h109 _ _ ?_
                    clear h109
                    refine lp (n := fun _ _ => False) (ι := (Nat) × (List Ent)) (fun ⟨i, rs⟩ f w' => f 7 = .int .i64 (i : Nat) ∧ f 3 = .pointer (some ⟨b4, 0, none⟩) ∧ f 4 = .pointer (some ⟨b6, 0, none⟩) ∧ f 6 = .pointer (some ⟨b100, 0, none⟩) ∧ Mem w [] w' [[⟨b2, 24, [.bool a, .int .i64 h, (.slice av nv cv)]⟩], [⟨b4, 24, [.bool b, .int .i64 k, (.slice au nu cu)]⟩], [⟨b6, 24, [.bool false, .int .i64 0, .slice none 0 0]⟩], [⟨b100, 24, [.bool false, .int .i64 h, (.slice a106_ n106_ c106_)]⟩], rs] ∧ (SlE byteV 5 (.slice a106_ n106_ c106_) (orI2 i d e) rs) ∧ (i ≤ d.length)) (fun ⟨i, rs⟩ => d.length - i) (0, r105) ?_ ?_
                    · exact ⟨by first | rfl | exact v_int (by omega) | exact v_int (by simp) | exact v_int (by simp; omega), rfl, rfl, rfl, hM107, by rw [orI2_zero]; exact hs105, by omega⟩
                    · rintro ⟨i, rs⟩ f w110 ⟨e110_7, e110_3, e110_4, e110_6, hM110, hs, hi⟩ K111 h111
                      obtain ⟨frm, rfl⟩ : ∃ frm, f = (upd (upd (upd (upd frm 7 (.int .i64 (i : Nat))) 3 (.pointer (some ⟨b4, 0, none⟩))) 4 (.pointer (some ⟨b6, 0, none⟩))) 6 (.pointer (some ⟨b100, 0, none⟩))) := ⟨f, by rw [upd_self e110_7, upd_self e110_3, upd_self e110_4, upd_self e110_6]⟩
                      clear e110_7 e110_3 e110_4 e110_6
                      refine seq fun K112 h112 => ?_
                      refine seq fun K113 h113 => ?_
                      refine stp (v := .int .i64 (i : Nat)) (o_mv rfl) ?_
                      refine stp (v := .pointer (some ⟨b100, 2, none⟩)) (o_fa rfl rfl) ?_
                      refine m_ld (v := (.slice a106_ n106_ c106_)) hM110 (i := 3) (j := 0) rfl rfl rfl rfl ?_
                      refine stp (v := .int .i64 ((orI2 i d e).length : Nat)) (o_lenR (hs.rd hM110 (i := 4) rfl) rfl rfl) ?_
                      refine stp (v := .bool (decide (((i : Nat) : Int) < ((orI2 i d e).length : Nat)))) (o_bin rfl rfl rfl) ?_
                      refine h113 _ _ ?_
                      clear h113
                      refine cndP rfl (fun c114 => ?_) (fun c114 => ?_)
                      ·
                        refine h112 _ _ ?_
                        clear h112
                        refine seq fun K115 h115 => ?_
                        intro wd e1 e2 e3 e4
                        have hd := Upd.same e1 e2 e3 e4 []
                        have hM116 := hM110.pure hd
                        clear e1 e2 e3 e4
                        refine ⟨(some [b4, b100, (blkV (.slice au nu cu))]), ?_⟩
                        show vd _ _ _ _ _ _ _
                        have hoi := orI2_length (d := d) (e := e) (i := i) (by omega)
                        refine dq (v := .pointer (some ⟨b100, 2, none⟩)) (o_fa rfl rfl) ?_
                        refine dq (v := .int .i64 (i : Nat)) (o_mv rfl) ?_
                        refine dq (v := .pointer (some ⟨b100, 2, none⟩)) (o_fa rfl rfl) ?_
                        refine dq (v := .int .i64 (i : Nat)) (o_mv rfl) ?_
                        refine dq (v := .pointer (some ⟨b4, 2, none⟩)) (o_fa rfl rfl) ?_
                        refine dq (v := .int .i64 (i : Nat)) (o_mv rfl) ?_
                        refine dqld rfl (by simp [isHeld]) (v := (.slice au nu cu)) ((hM116.at (i := 1) (j := 0) rfl rfl).cell 2) ?_
                        refine dqp (m_idxE2 0 (j := i) (hy.upd hM116.upd) rfl rfl (by omega) fun b117 o117 hp117 hbb117 => ?_)
                        show vd _ _ _ _ _ _ _
                        subst hbb117
                        refine dqld rfl (by simp [isHeld]) (v := (.slice a106_ n106_ c106_)) ((hM116.at (i := 3) (j := 0) rfl rfl).cell 2) ?_
                        refine dqp (m_idxE 0 (j := i) (hs.rd hM116 (i := 4) rfl) rfl rfl (by omega) fun b118 o118 hp118 => ?_)
                        show vd _ _ _ _ _ _ _
                        refine dqld rfl (by simp [isHeld]) (v := (.slice a106_ n106_ c106_)) ((hM116.at (i := 3) (j := 0) rfl rfl).cell 2) ?_
                        refine dqld rfl (by simp [isHeld]) (v := byteV (e.getD i 0)) (hp117) ?_
                        refine dl (ld (v := byteV ((orI2 i d e).getD i 0)) rfl (hp118) ?_)
                        refine ⟨(fun b hb => rfl), ?_⟩
                        refine dq (v := .int .u8 ((d.getD i 0 ||| e.getD i 0).toNat : Int)) (o_bin rfl rfl (by rw [orI2_get (by omega) (by omega)]; exact v_int (or8 _ _))) ?_
                        refine dset (m_setU (E := byteV) (q := d.getD i 0 ||| e.getD i 0) (j := i) hM116 (i := 4) rfl hs rfl rfl (by omega) (by simp) (rfl) fun w119 r119 u119 he119 hs119 (hM119 : Mem w [] w119 [[⟨b2, 24, [.bool a, .int .i64 h, (.slice av nv cv)]⟩], [⟨b4, 24, [.bool b, .int .i64 k, (.slice au nu cu)]⟩], [⟨b6, 24, [.bool false, .int .i64 0, .slice none 0 0]⟩], [⟨b100, 24, [.bool false, .int .i64 h, (.slice a106_ n106_ c106_)]⟩], r119]) hup119 => ?_)
                        have hh119 := held_upd (wr := wd) (bs := [b4, b100, (blkV (.slice au nu cu))]) hup119 (fun b hb => by
                          simp only [List.mem_cons, List.not_mem_nil, or_false] at hb
                          rcases hb with h | h | h
                          · rw [h]; exact ⟨(hM116.at (i := 1) (j := 0) rfl rfl).lt, hM116.apart (i := 1) (j := 0) (k := 4) rfl rfl rfl (by decide)⟩
                          · rw [h]; exact ⟨(hM116.at (i := 3) (j := 0) rfl rfl).lt, hM116.apart (i := 3) (j := 0) (k := 4) rfl rfl rfl (by decide)⟩
                          · rw [h]; exact ⟨Rd.blkV_lt (hy.upd hM116.upd) (by omega), hM116.old (i := 4) rfl (Rd.blkV_lt hy (by omega))⟩) (fun b hb => rfl)
                        refine ⟨hh119, ?_⟩
                        show vd _ _ _ _ _ _ _
                        refine h115 _ _ ?_
                        clear h115
                        refine stp (v := .int .i64 (i : Nat)) (o_mv rfl) ?_
                        refine stp (v := .int .i64 ((i : Nat) + 1)) (o_bin rfl rfl (v_add64 (by constructor <;> omega))) ?_
                        refine stp (v := .int .i64 ((i : Nat) + 1)) (o_mv rfl) ?_
                        refine h111 (i + 1, r119) _ _ ⟨by first | rfl | exact v_int (by omega) | exact v_int (by simp) | exact v_int (by simp; omega), rfl, rfl, rfl, hM119, by rw [← orI2_succ (by omega) (by omega)]; exact hs119, by omega⟩ (by (try dsimp only); omega)
                      ·
                        refine h108 _ _ ?_
                        clear h108
                        refine seq fun K120 h120 => ?_
                        refine m_ldA (l := [.bool false, .int .i64 h, (.slice a106_ n106_ c106_)]) hM110 (i := 3) (j := 0) rfl rfl rfl rfl rfl ?_
                        refine m_stA (l := [.bool false, .int .i64 h, (.slice a106_ n106_ c106_)]) hM110 (i := 2) rfl rfl rfl rfl (by simp [oneCells, Value.oneCell', byteV]) (by simp) fun w121 (hM121 : Mem w [] w121 [[⟨b2, 24, [.bool a, .int .i64 h, (.slice av nv cv)]⟩], [⟨b4, 24, [.bool b, .int .i64 k, (.slice au nu cu)]⟩], [⟨b6, 24, [.bool false, .int .i64 h, (.slice a106_ n106_ c106_)]⟩], [⟨b100, 24, [.bool false, .int .i64 h, (.slice a106_ n106_ c106_)]⟩], rs]) => ?_
                        refine stp (v := .int .i64 0) (o_mv rfl) ?_
                        refine h120 _ _ ?_
                        clear h120
                        show resV _ _ _ _ _
                        refine res_cell (s := some 3) (by kernel_rfl) ?_
                        refine vl_ldA (cs := [.bool false, .int .i64 h, (.slice a106_ n106_ c106_)]) rfl rfl ((hM121.at (i := 2) (j := 0) rfl rfl).agg rfl rfl) ?_
                        refine res_tmp ?_
                        refine ⟨(.tuple [.agg ([.bool false, .int .i64 h, (.slice a106_ n106_ c106_)] : List Value).toArray, .int .i64 0].toArray), rfl, ?_⟩
                        have fa1 := fkFalse (h := h) (d := d) haF
                        have fb1 := fkFalse (h := k) (d := e) hbF
                        have na2 : ¬ fk a h d = 2 := fun q => by
                          have q2 : d.length = 0 := by rw [(fkk2 q).2.2]; rfl
                          omega
                        have nb2 : ¬ fk b k e = 2 := fun q => by
                          have q2 : e.length = 0 := by rw [(fkk2 q).2.2]; rfl
                          omega
                        have hoi := orI2_length (d := d) (e := e) (i := i) (by omega)
                        have je := join_4 (a := a) (h := h) (d := d) (b := b) (k := k) (e := e) (by omega) (by omega) (by omega) (by omega) (by omega)
                        rw [orI2_end (by omega) (by omega)] at hs
                        exact ⟨_, _, by rw [je, haF], by rw [je]; exact hs, hM121.keep (by simp; repeat (first | exact List.Sublist.refl _ | exact List.sublist_append_left _ _ | apply List.Sublist.cons))⟩
