/- HuffCodes: sameCodes, huff.Codes, the law. -/
import Derived.Test.YtojnkjnebejodaaH4
namespace Go.Proofs.Ytojnkjnebejodaa.E
open Go
theorem pair_ne {x y : Int × Int} (h : (!(decide (x.1 = y.1) && (decide (x.2 = y.2) && true))) = true) : ¬ x = y := fun e => by subst e; simp at h
theorem pair_eq {x y : Int × Int} (h : (!(decide (x.1 = y.1) && (decide (x.2 = y.2) && true))) = false) : x = y := by
  simp at h; exact Prod.ext h.1 h.2

/-- the array when the first m symbols of the order have their words -/
def partO (l : List Int) (m : Nat) : List (Int × Int) := (List.range l.length).map fun j => if j ∈ (ordB l 15).take m then codeAt l j else (0, 0)
theorem partO_zero (l : List Int) : partO l 0 = List.replicate l.length (0, 0) := by
  apply List.ext_getElem (by simp [partO])
  intro j h1 h2
  simp [partO]
theorem partO_length (l : List Int) (m : Nat) : (partO l m).length = l.length := by simp [partO]
theorem partO_set {l : List Int} {m : Nat} (hm : m < (ordB l 15).length) : (partO l m).set ((ordB l 15).getD m 0) (codeAt l ((ordB l 15).getD m 0)) = partO l (m + 1) := by
  apply List.ext_getElem (by simp [partO])
  intro j h1 h2
  rw [List.getElem_set]
  simp only [partO, List.getElem_map, List.getElem_range]
  rw [takeG 0 hm]
  simp only [List.mem_append, List.mem_singleton]
  by_cases e : (ordB l 15).getD m 0 = j
  · rw [if_pos e, if_pos (.inr e.symm), e]
  · rw [if_neg e]
    by_cases c : j ∈ (ordB l 15).take m
    · rw [if_pos c, if_pos (.inl c)]
    · rw [if_neg c, if_neg (by rintro (h | h); exact c h; exact e h.symm)]

theorem mem_symN {l : List Int} {n s j : Nat} : j ∈ symN l n s ↔ j < s ∧ l.getD j 0 = (n : Int) := by
  unfold symN; rw [List.mem_filter]; simp
theorem mem_ordB {l : List Int} {k j : Nat} : j ∈ ordB l k ↔ j < l.length ∧ 1 ≤ l.getD j 0 ∧ l.getD j 0 ≤ k := by
  induction k with
  | zero => simp only [ordB, List.not_mem_nil, false_iff]; omega
  | succ k ih => simp only [ordB, List.mem_append, ih, mem_symN]; omega
theorem partO_end {l : List Int} (h : inB 0 15 l = true) : partO l (ordB l 15).length = codesL l := by
  unfold partO codesL
  apply List.map_congr_left
  intro j hj
  have hj' := List.mem_range.1 hj
  have hb := inB_iff.1 h j hj'
  rw [List.take_length]
  by_cases c : j ∈ ordB l 15
  · rw [if_pos c]
  · rw [if_neg c]
    have : l.getD j 0 ≤ 0 := by
      rcases Int.lt_or_le 0 (l.getD j 0) with h1 | h1
      · exact absurd (mem_ordB.2 ⟨hj', by omega, by omega⟩) c
      · exact h1
    unfold codeAt; rw [if_pos this]

theorem rankN {l : List Int} {n r : Nat} : ∀ {s L : Nat}, r < (symN l n L).length → (symN l n L).getD r 0 = s → (symN l n s).length = r := by
  intro s L
  induction L with
  | zero => intro h; simp [symN] at h
  | succ L ih =>
    intro h e
    by_cases c : l.getD L 0 = (n : Int)
    · rw [symN_yes c] at h e
      rw [List.length_append, List.length_singleton] at h
      by_cases h1 : r < (symN l n L).length
      · rw [appG1 0 h1] at e; exact ih h1 e
      · have hr : r = (symN l n L).length := by omega
        rw [appG2 0 (by omega), hr, Nat.sub_self] at e
        simp at e; subst e; exact hr.symm
    · rw [symN_no c] at h e; exact ih h e

/-- where a symbol of the order stands -/
theorem ord_pos {l : List Int} : ∀ {k m : Nat}, m < (ordB l k).length → ∃ n r, 1 ≤ n ∧ n ≤ k ∧ m = (ordB l (n - 1)).length + r ∧ r < (symN l n l.length).length ∧ (ordB l k).getD m 0 = (symN l n l.length).getD r 0 := by
  intro k
  induction k with
  | zero => intro m h; simp [ordB] at h
  | succ k ih =>
    intro m h
    by_cases h1 : m < (ordB l k).length
    · obtain ⟨n, r, a, b, c, d, e⟩ := ih h1
      exact ⟨n, r, a, by omega, c, d, by rw [ordB, appG1 0 h1]; exact e⟩
    · simp only [ordB, List.length_append] at h
      exact ⟨k + 1, m - (ordB l k).length, by omega, Nat.le_refl _, by simp only [Nat.add_sub_cancel]; omega, by omega, by rw [ordB, appG2 0 (by omega)]⟩
theorem ord_mono (l : List Int) (a b : Nat) : (ordB l a).length ≤ (ordB l (a + b)).length := by
  induction b with
  | zero => exact Nat.le_refl _
  | succ b ih => exact Nat.le_trans ih (by show _ ≤ (ordB l (a + b) ++ _).length; simp)
theorem getD_mem {l : List Nat} {r : Nat} (h : r < l.length) : l.getD r 0 ∈ l := by
  rw [List.getD_eq_getElem?_getD, List.getElem?_eq_getElem h]; exact List.getElem_mem h

theorem firstW_skip {l : List Int} {n : Nat} : ∀ d, (∀ k, n < k → k ≤ n + d → (symN l k l.length).length = 0) → firstW l (n + d + 1) = 2 ^ (d + 1) * (firstW l n + cntW l n) := by
  intro d
  induction d with
  | zero => intro _; rfl
  | succ d ih =>
    intro h
    have h1 := ih fun k a b => h k a (by omega)
    have h2 : cntW l (n + d + 1) = 0 := by
      unfold cntW; rw [if_neg (by omega)]; exact h _ (by omega) (by omega)
    show 2 * (firstW l (n + d + 1) + cntW l (n + d + 1)) = _
    rw [h1, h2, Nat.add_zero, ← Nat.mul_assoc, ← Nat.pow_succ']

theorem code_pos {l : List Int} {n r : Nat} (hn : 1 ≤ n) (hr : r < (symN l n l.length).length) : l.getD ((symN l n l.length).getD r 0) 0 = (n : Int) ∧ codeAt l ((symN l n l.length).getD r 0) = ((n : Int), ((firstW l n + r : Nat) : Int)) := by
  have h1 := (mem_symN.1 (getD_mem hr)).2
  refine ⟨h1, ?_⟩
  unfold codeAt
  rw [if_neg (by omega), h1, Int.toNat_natCast, rankN hr rfl]
theorem word_next {l : List Int} {m : Nat} (hm : m + 1 < (ordB l 15).length) : ∃ n n' W : Nat, 1 ≤ n ∧ n ≤ n' ∧ n' ≤ 15 ∧ codeAt l ((ordB l 15).getD m 0) = ((n : Int), (W : Int)) ∧ l.getD ((ordB l 15).getD (m + 1) 0) 0 = (n' : Int) ∧ codeAt l ((ordB l 15).getD (m + 1) 0) = ((n' : Int), (((W + 1) * 2 ^ (n' - n) : Nat) : Int)) := by
  obtain ⟨n, r, a, b, c, d, e⟩ := ord_pos (show m < (ordB l 15).length by omega)
  obtain ⟨n', r', a', b', c', d', e'⟩ := ord_pos hm
  have p := code_pos a d
  have p' := code_pos a' d'
  rw [e, e']
  have hn : (ordB l n).length = (ordB l (n - 1)).length + (symN l n l.length).length := by
    obtain ⟨k, rfl⟩ : ∃ k, n = k + 1 := ⟨n - 1, by omega⟩
    simp [ordB]
  have hn' : (ordB l n').length = (ordB l (n' - 1)).length + (symN l n' l.length).length := by
    obtain ⟨k, rfl⟩ : ∃ k, n' = k + 1 := ⟨n' - 1, by omega⟩
    simp [ordB]
  have mono : ∀ a b, a ≤ b → (ordB l a).length ≤ (ordB l b).length := fun a b h => by
    have := ord_mono l a (b - a); rwa [show a + (b - a) = b by omega] at this
  have hle : n ≤ n' := by
    rcases Nat.lt_or_ge n' n with h | h
    · have := mono n' (n - 1) (by omega); omega
    · exact h
  refine ⟨n, n', firstW l n + r, a, hle, b', p.2, p'.1, ?_⟩
  rw [p'.2]
  by_cases h : n = n'
  · subst h
    rw [Nat.sub_self, Nat.pow_zero, Nat.mul_one, show r' = r + 1 by omega, Nat.add_assoc]
  · have h1 := mono n (n' - 1) (by omega)
    have hr : r' = 0 ∧ r + 1 = (symN l n l.length).length ∧ (ordB l (n' - 1)).length = (ordB l n).length := by omega
    have hz : ∀ k, n < k → k ≤ n + (n' - n - 1) → (symN l k l.length).length = 0 := by
      intro k k1 k2
      have q1 := mono n (k - 1) (by omega)
      have q2 := mono k (n' - 1) (by omega)
      have q3 : (ordB l k).length = (ordB l (k - 1)).length + (symN l k l.length).length := by
        obtain ⟨j, rfl⟩ : ∃ j, k = j + 1 := ⟨k - 1, by omega⟩
        simp [ordB]
      omega
    have hs := firstW_skip (n' - n - 1) hz
    rw [show n + (n' - n - 1) + 1 = n' by omega, show n' - n - 1 + 1 = n' - n by omega] at hs
    have hc : cntW l n = r + 1 := by unfold cntW; rw [if_neg (by omega)]; omega
    rw [hr.1, Nat.add_zero, hs, hc, Nat.mul_comm, Nat.add_assoc]

theorem word_first {l : List Int} (h : 0 < (ordB l 15).length) : ∃ n : Nat, 1 ≤ n ∧ n ≤ 15 ∧ l.getD ((ordB l 15).getD 0 0) 0 = (n : Int) ∧ codeAt l ((ordB l 15).getD 0 0) = ((n : Int), 0) := by
  obtain ⟨n, r, a, b, c, d, e⟩ := ord_pos h
  have p := code_pos a d
  rw [e]
  refine ⟨n, a, b, p.1, ?_⟩
  rw [p.2]
  have mono : ∀ a b, a ≤ b → (ordB l a).length ≤ (ordB l b).length := fun a b h => by
    have := ord_mono l a (b - a); rwa [show a + (b - a) = b by omega] at this
  have hz : ∀ k, 0 < k → k ≤ 0 + (n - 1) → (symN l k l.length).length = 0 := by
    intro k k1 k2
    have q2 := mono k (n - 1) (by omega)
    have q3 : (ordB l k).length = (ordB l (k - 1)).length + (symN l k l.length).length := by
      obtain ⟨j, rfl⟩ : ∃ j, k = j + 1 := ⟨k - 1, by omega⟩
      simp [ordB]
    omega
  have hs := firstW_skip (n := 0) (n - 1) hz
  rw [show 0 + (n - 1) + 1 = n by omega] at hs
  have : firstW l 0 + cntW l 0 = 0 := rfl
  rw [this, Nat.mul_zero] at hs
  rw [hs, show r = 0 by omega]; rfl
theorem code_bd {l : List Int} (hu : usedB l 15 ≤ 32768) {m : Nat} (hm : m < (ordB l 15).length) : (ordB l 15).getD m 0 < l.length ∧ 1 ≤ l.getD ((ordB l 15).getD m 0) 0 ∧ l.getD ((ordB l 15).getD m 0) 0 ≤ 15 ∧ ∃ W : Nat, codeAt l ((ordB l 15).getD m 0) = (l.getD ((ordB l 15).getD m 0) 0, (W : Int)) ∧ W ≤ 33024 := by
  have h := mem_ordB.1 (getD_mem hm)
  refine ⟨h.1, by omega, by omega, ?_⟩
  obtain ⟨n, r, a, b, c, d, e⟩ := ord_pos hm
  have p := code_pos a d
  have hw := word_le hu b
  have hc : cntW l n = (symN l n l.length).length := by unfold cntW; rw [if_neg (by omega)]
  rw [e]
  exact ⟨firstW l n + r, by rw [p.2, p.1], by omega⟩

/-- the word and the size behind the first m symbols of the order -/
def wsz (l : List Int) : Nat → Int × Int
  | 0 => (0, 0)
  | m + 1 => codeAt l ((ordB l 15).getD m 0)
theorem shl_ok {a : Int} {b n : Nat} (hn : n ≤ 15) (h : a * 2 ^ n = (b : Int)) (hb : b ≤ 33024) : Value.int .u32 (IntKind.u32.wrap (a * 2 ^ min ((n : Int)).toNat IntKind.u32.bits)) = .int .u32 (b : Int) := by
  have e : min ((n : Int)).toNat IntKind.u32.bits = n := by rw [Int.toNat_natCast]; exact Nat.min_eq_left (by simp only [IntKind.bits]; omega)
  rw [e, h]
  exact v_same (by simp only [inK]; omega)
theorem cod_bd {l : List Int} (hu : usedB l 15 ≤ 32768) {m : Nat} (hm : m < (ordB l 15).length) : 0 ≤ (wsz l m).2 ∧ (wsz l m).2 ≤ 33024 ∧ 0 ≤ l.getD ((ordB l 15).getD m 0) 0 - (wsz l m).1 ∧ -16 ≤ (wsz l m).1 ∧ (wsz l m).1 ≤ 16 := by
  obtain ⟨_, b1, b2, _⟩ := code_bd hu hm
  cases m with
  | zero => simp only [wsz]; omega
  | succ m =>
    obtain ⟨n, n', W, h1, h2, h3, h4, h5, h6⟩ := word_next hm
    obtain ⟨_, _, _, W', h7, h8⟩ := code_bd hu (m := m) (by omega)
    simp only [wsz]
    rw [h4] at h7 ⊢
    have := (Prod.mk.inj h7).2
    rw [h5]
    simp only
    omega
theorem cod_T {l : List Int} (hu : usedB l 15 ≤ 32768) {m : Nat} (hm : m < (ordB l 15).length) (h0 : 0 < m) : Value.int .u32 (IntKind.u32.wrap (((wsz l m).2 + 1) * 2 ^ min (l.getD ((ordB l 15).getD m 0) 0 - (wsz l m).1).toNat IntKind.u32.bits)) = .int .u32 (codeAt l ((ordB l 15).getD m 0)).2 := by
  obtain ⟨m, rfl⟩ : ∃ k, m = k + 1 := ⟨m - 1, by omega⟩
  obtain ⟨n, n', W, h1, h2, h3, h4, h5, h6⟩ := word_next hm
  obtain ⟨_, _, _, W', h7, h8⟩ := code_bd hu hm
  rw [h6] at h7
  have h9 := (Prod.mk.inj h7).2
  simp only [wsz]
  rw [h4, h5, h6]
  have e : ((n' : Int) - (n : Int)) = ((n' - n : Nat) : Int) := by omega
  simp only [e]
  exact shl_ok (by omega) (by rw [Int.natCast_mul, Int.natCast_pow]; simp) (by omega)
theorem cod_F {l : List Int} {m : Nat} (hm : m < (ordB l 15).length) (h0 : m = 0) : Value.int .u32 (IntKind.u32.wrap ((wsz l m).2 * 2 ^ min (l.getD ((ordB l 15).getD m 0) 0 - (wsz l m).1).toNat IntKind.u32.bits)) = .int .u32 (codeAt l ((ordB l 15).getD m 0)).2 := by
  subst h0
  obtain ⟨n, h1, h2, h3, h4⟩ := word_first hm
  simp only [wsz]
  rw [h4, h3]
  have := shl_ok (a := 0) (b := 0) (n := n) h2 (by simp) (by omega)
  rw [Int.sub_zero]
  exact this
theorem cod_1 {l : List Int} (hu : usedB l 15 ≤ 32768) {m : Nat} (hm : m < (ordB l 15).length) : (codeAt l ((ordB l 15).getD m 0)).1 = l.getD ((ordB l 15).getD m 0) 0 := by
  obtain ⟨_, _, _, W, h, _⟩ := code_bd hu hm
  rw [h]

/-- huff.Codes -/
theorem Codes_ok (x : Value) (l : List Int) (w : World) (hx : RdE i64V w x l) (hl : l.length ≤ 1152921504606846976) : Calls Try.prog 20 [x].toArray w (Rt fun r w' => ∃ v rs, r = .tuple [v, .int .i64 (codes l).2].toArray ∧ SlS codeC 2 37 v (codes l).1 rs ∧ Mem w [] w' [rs]) := by
  have hM0 : Mem w [] w [] := Mem.nil w []
  refine calls_vc mixed Try.func20 rfl C20 (by simp [Try.ntmps20]) ?_
  refine seq fun K1 h1 => ?_
  refine stp (v := .slice none 0 0) (o_mv rfl) ?_
  refine stp (v := .int .i64 0) (o_mv rfl) ?_
  refine h1 _ _ ?_
  clear h1
  refine seq fun K2 h2 => ?_
  refine seq fun K3 h3 => ?_
  refine stp (v := x) (o_mv rfl) ?_
  refine stp (v := .int .i64 (l.length : Nat)) (o_lenR (hx.upd hM0.upd) rfl rfl) ?_
  refine stp (v := .bool (decide ((256 : Int) < ((l.length : Nat) : Int)))) (o_bin rfl rfl rfl) ?_
  refine h3 _ _ ?_
  clear h3
  refine cndP rfl (fun c4 => ?_) (fun c4 => ?_)
  ·
    refine seq fun K5 h5 => ?_
    refine stp (v := .slice none 0 0) (o_mv rfl) ?_
    refine stp (v := .int .i64 2) (o_mv rfl) ?_
    refine h5 _ _ ?_
    clear h5
    refine ⟨(.tuple [.slice none 0 0, .int .i64 2].toArray), rfl, ?_⟩
    exact ⟨.slice none 0 0, [], by rw [codes_long (by omega)], by rw [codes_long (by omega)]; exact Sl.nil 2 37, hM0.addNil.keep (by simp)⟩
  ·
    refine h2 _ _ ?_
    clear h2
    refine seq fun K6 h6 => ?_
    refine seq fun K7 h7 => ?_
    refine stp (v := x) (o_mv rfl) ?_
    refine m_call (inside_ok _ l w (hx.upd hM0.upd) (by first | omega | (simp; done) | (simp; omega))) rfl fun v8 w8 ⟨hr8, hu8⟩ => ?_
    have hM8 : Mem w [] w8 [] := hM0.pure hu8
    subst hr8
    refine stp (v := .bool (!(inB 0 15 l))) (o_not rfl rfl) ?_
    refine h7 _ _ ?_
    clear h7
    refine cnd rfl (fun c9 => ?_) (fun c9 => ?_)
    ·
      refine seq fun K10 h10 => ?_
      refine stp (v := .slice none 0 0) (o_mv rfl) ?_
      refine stp (v := .int .i64 3) (o_mv rfl) ?_
      refine h10 _ _ ?_
      clear h10
      refine ⟨(.tuple [.slice none 0 0, .int .i64 3].toArray), rfl, ?_⟩
      exact ⟨.slice none 0 0, [], by rw [codes_bad (by omega) (by simpa using ‹(!inB 0 15 l) = true›)], by rw [codes_bad (by omega) (by simpa using ‹(!inB 0 15 l) = true›)]; exact Sl.nil 2 37, hM8.addNil.keep (by simp)⟩
    ·
      refine h6 _ _ ?_
      clear h6
      refine seq fun K11 h11 => ?_
      have k2 : inB 0 15 l = true := by simpa using ‹(!inB 0 15 l) = false›
      refine stp (v := x) (o_mv rfl) ?_
      refine m_call (order_ok _ l w8 (hx.upd hM8.upd) (by omega)) rfl fun v12 w12 ⟨y12, rs12, hr12, hs12, hm12⟩ => ?_
      have hM12 : Mem w [] w12 [rs12] := hM8.add hm12
      subst hr12
      refine stp (v := .tuple [y12, .agg (((manyL l 16 0).map i64V).toArray), .bool (decide (0 ≤ 32768 - ((usedB l 15 : Nat) : Int)))].toArray) (o_mv rfl) ?_
      refine stp (v := y12) (o_ext rfl rfl) ?_
      refine stp (v := .agg (((manyL l 16 0).map i64V).toArray)) (o_ext rfl rfl) ?_
      refine stp (v := .bool (decide (0 ≤ 32768 - ((usedB l 15 : Nat) : Int)))) (o_ext rfl rfl) ?_
      refine m_al hM12 fun b13 w14 (hM14 : Mem w [] w14 [rs12, [⟨b13, 61, (List.replicate 16 (.int .i64 0))⟩]]) => ?_
      refine stp (v := y12) (o_mv rfl) ?_
      refine m_stA (l := ((manyL l 16 0).map i64V)) hM14 (i := 1) rfl rfl rfl (by simp [manyL_length]) (one_elems _) (by simp) fun w15 hm15 => ?_
      have hM15 : Mem w [] w15 [rs12, [⟨b13, 61, ((manyL l 16 0).map i64V)⟩]] := by
        have e : splice (List.replicate 16 (.int .i64 0)) 0 ((manyL l 16 0).map i64V) = ((manyL l 16 0).map i64V) := splice_full (by simp; first | done | (simp [manyL_length]) | omega)
        first | (rw [e] at hm15; exact hm15) | (rw [← e]; exact hm15)
      refine stp (v := .bool (decide (0 ≤ 32768 - ((usedB l 15 : Nat) : Int)))) (o_mv rfl) ?_
      refine h11 _ _ ?_
      clear h11
      refine seq fun K16 h16 => ?_
      refine seq fun K17 h17 => ?_
      refine stp (v := .bool (decide (0 ≤ 32768 - ((usedB l 15 : Nat) : Int)))) (o_mv rfl) ?_
      refine stp (v := .bool (decide (¬ (0 ≤ 32768 - ((usedB l 15 : Nat) : Int))))) (o_not rfl v_not) ?_
      refine h17 _ _ ?_
      clear h17
      refine cndP rfl (fun c18 => ?_) (fun c18 => ?_)
      ·
        refine seq fun K19 h19 => ?_
        refine stp (v := .slice none 0 0) (o_mv rfl) ?_
        refine stp (v := .int .i64 41) (o_mv rfl) ?_
        refine h19 _ _ ?_
        clear h19
        refine ⟨(.tuple [.slice none 0 0, .int .i64 41].toArray), rfl, ?_⟩
        exact ⟨.slice none 0 0, [], by rw [codes_much (by omega) k2 (by omega)], by rw [codes_much (by omega) k2 (by omega)]; exact Sl.nil 2 37, hM15.addNil.keep (by simp)⟩
      ·
        refine h16 _ _ ?_
        clear h16
        refine seq fun K20 h20 => ?_
        refine stp (v := x) (o_mv rfl) ?_
        refine stp (v := .int .i64 (l.length : Nat)) (o_lenR (hx.upd hM15.upd) rfl rfl) ?_
        refine m_mksS (enc := codeC) (z := ((0, 0) : Int × Int)) (n := l.length) (c := l.length) (rfl) hM15 rfl rfl (by omega) (by omega) (by omega) fun v21 w21 r21 hs21 (hM21 : Mem w [] w21 [rs12, [⟨b13, 61, ((manyL l 16 0).map i64V)⟩], r21]) => ?_
        refine stp (v := v21) (o_mv rfl) ?_
        refine h20 _ _ ?_
        clear h20
        refine seq fun K22 h22 => ?_
        refine stp (v := .int .u32 0) (o_mv rfl) ?_
        refine stp (v := .int .i64 0) (o_mv rfl) ?_
        refine h22 _ _ ?_
        clear h22
        refine seq fun K23 h23 => ?_
        refine seq fun K24 h24 => ?_
        refine stp (v := y12) (o_mv rfl) ?_
        refine stp (v := .int .i64 ((ordB l 15).length : Nat)) (o_lenR (hs12.rd hM21 (i := 0) rfl) rfl rfl) ?_
        refine stp (v := .int .i64 0) (o_mv rfl) ?_
        refine h24 _ _ ?_
        clear h24
        refine lp (n := fun _ _ => False) (ι := (Nat) × (Value) × (List Ent)) (fun ⟨m, y7_, r7_⟩ f w' => f 7 = y7_ ∧ f 8 = .int .u32 ((wsz l m).2) ∧ f 9 = .int .i64 ((wsz l m).1) ∧ f 31 = .int .i64 (m : Nat) ∧ f 0 = x ∧ f 29 = y12 ∧ f 30 = .int .i64 ((ordB l 15).length : Nat) ∧ Mem w [] w' [rs12, [⟨b13, 61, ((manyL l 16 0).map i64V)⟩], r7_] ∧ (m ≤ (ordB l 15).length) ∧ (SlS codeC 2 37 y7_ (partO l m) r7_)) (fun ⟨m, y7_, r7_⟩ => (ordB l 15).length - m) (0, v21, r21) ?_ ?_
        · exact ⟨rfl, rfl, rfl, by first | rfl | exact v_int (by omega) | exact v_int (by simp) | exact v_int (by simp; omega), rfl, rfl, by first | rfl | exact v_int (by omega) | exact v_int (by simp) | exact v_int (by simp; omega), hM21, by omega, by rw [partO_zero]; exact hs21⟩
        · rintro ⟨m, y7_, r7_⟩ f w25 ⟨e25_7, e25_8, e25_9, e25_31, e25_0, e25_29, e25_30, hM25, hm, hy7_⟩ K26 h26
          obtain ⟨frm, rfl⟩ : ∃ frm, f = (upd (upd (upd (upd (upd (upd (upd frm 7 (y7_)) 8 (.int .u32 ((wsz l m).2))) 9 (.int .i64 ((wsz l m).1))) 31 (.int .i64 (m : Nat))) 0 (x)) 29 (y12)) 30 (.int .i64 ((ordB l 15).length : Nat))) := ⟨f, by rw [upd_self e25_7, upd_self e25_8, upd_self e25_9, upd_self e25_31, upd_self e25_0, upd_self e25_29, upd_self e25_30]⟩
          clear e25_7 e25_8 e25_9 e25_31 e25_0 e25_29 e25_30
          refine seq fun K27 h27 => ?_
          refine stp (v := .bool (decide (((m : Nat) : Int) < ((ordB l 15).length : Nat)))) (o_bin rfl rfl rfl) ?_
          refine h27 _ _ ?_
          clear h27
          refine seq fun K28 h28 => ?_
          refine cndP rfl (fun c29 => ?_) (fun c29 => ?_)
          ·
            refine h28 _ _ ?_
            clear h28
            refine seq fun K30 h30 => ?_
            refine seq fun K31 h31 => ?_
            have kb := cod_bd (l := l) (m := m) (by omega) (by omega)
            have kc := code_bd (l := l) (m := m) (by omega) (by omega)
            have ho := ordB_le l 15 (by omega)
            refine stp (v := .int .i64 (m : Nat)) (o_mv rfl) ?_
            refine m_idxE 0 (j := m) (hs12.rd hM25 (i := 0) rfl) rfl rfl (by omega) fun b32 o32 hp32 => ?_
            refine ld (v := .int .i64 ((ordB l 15).getD m 0 : Nat)) rfl (hp32) ?_
            refine stp (v := .int .i64 (m : Nat)) (o_mv rfl) ?_
            refine stp (v := .int .i64 ((ordB l 15).getD m 0 : Nat)) (o_mv rfl) ?_
            refine h31 _ _ ?_
            clear h31
            refine seq fun K33 h33 => ?_
            refine seq fun K34 h34 => ?_
            refine stp (v := .int .i64 (m : Nat)) (o_mv rfl) ?_
            refine stp (v := .bool (decide ((0 : Int) < ((m : Nat) : Int)))) (o_bin rfl rfl rfl) ?_
            refine h34 _ _ ?_
            clear h34
            refine cndP rfl (fun c35 => ?_) (fun c35 => ?_)
            ·
              refine stp (v := .int .u32 ((wsz l m).2)) (o_mv rfl) ?_
              refine stp (v := .int .u32 (((wsz l m).2) + 1)) (o_bin rfl rfl (v_same (by simp only [inK]; omega))) ?_
              refine stp (v := .int .u32 (((wsz l m).2) + 1)) (o_mv rfl) ?_
              refine h33 _ _ ?_
              clear h33
              refine seq fun K36 h36 => ?_
              refine stp (v := .int .u32 (((wsz l m).2) + 1)) (o_mv rfl) ?_
              refine stp (v := x) (o_mv rfl) ?_
              refine stp (v := .int .i64 ((ordB l 15).getD m 0 : Nat)) (o_mv rfl) ?_
              refine m_idxE 0 (j := (ordB l 15).getD m 0) (hx.upd hM25.upd) rfl rfl (by omega) fun b37 o37 hp37 => ?_
              refine ld (v := .int .i64 (l.getD ((ordB l 15).getD m 0) 0)) rfl (hp37) ?_
              refine stp (v := .int .i64 ((wsz l m).1)) (o_mv rfl) ?_
              refine stp (v := .int .i64 ((l.getD ((ordB l 15).getD m 0) 0) - ((wsz l m).1))) (o_bin rfl rfl (v_sub64 (by constructor <;> omega))) ?_
              refine stp (v := .int .u32 ((codeAt l ((ordB l 15).getD m 0)).2)) (o_shl rfl rfl (by omega) (by first | exact cod_T (by omega) (by omega) (by omega) | exact cod_F (by omega) (by omega))) ?_
              refine stp (v := .int .u32 ((codeAt l ((ordB l 15).getD m 0)).2)) (o_mv rfl) ?_
              refine h36 _ _ ?_
              clear h36
              refine seq fun K38 h38 => ?_
              refine stp (v := x) (o_mv rfl) ?_
              refine stp (v := .int .i64 ((ordB l 15).getD m 0 : Nat)) (o_mv rfl) ?_
              refine m_idxE 0 (j := (ordB l 15).getD m 0) (hx.upd hM25.upd) rfl rfl (by omega) fun b39 o39 hp39 => ?_
              refine ld (v := .int .i64 (l.getD ((ordB l 15).getD m 0) 0)) rfl (hp39) ?_
              refine stp (v := .int .i64 (l.getD ((ordB l 15).getD m 0) 0)) (o_mv rfl) ?_
              refine h38 _ _ ?_
              clear h38
              refine stp (v := y7_) (o_mv rfl) ?_
              refine stp (v := .int .i64 ((ordB l 15).getD m 0 : Nat)) (o_mv rfl) ?_
              refine stp (v := .int .i64 (l.getD ((ordB l 15).getD m 0) 0)) (o_mv rfl) ?_
              refine stp (v := .int .u32 ((codeAt l ((ordB l 15).getD m 0)).2)) (o_mv rfl) ?_
              refine stp (v := .agg ([.int .i64 (l.getD ((ordB l 15).getD m 0) 0), .int .u32 ((codeAt l ((ordB l 15).getD m 0)).2)] : List Value).toArray) (o_bld rfl rfl) ?_
              refine m_setS (enc := codeC) ((0, 0) : Int × Int) (q := codeAt l ((ordB l 15).getD m 0)) (j := (ordB l 15).getD m 0) hM25 (i := 2) rfl hy7_ rfl rfl (by rw [partO_length]; omega) (by simp) (by show _ = Value.agg #[.int .i64 (codeAt l _).1, .int .u32 (codeAt l _).2]; rw [cod_1 (by omega) (by omega)]; rfl) fun w40 r40 u40 he40 hs40 (hM40 : Mem w [] w40 [rs12, [⟨b13, 61, ((manyL l 16 0).map i64V)⟩], r40]) => ?_
              refine h30 _ _ ?_
              clear h30
              refine stp (v := .int .i64 ((m : Nat) + 1)) (o_bin rfl rfl (v_add64 (by constructor <;> omega))) ?_
              refine stp (v := .int .i64 ((m : Nat) + 1)) (o_mv rfl) ?_
              refine h26 (m + 1, y7_, r40) _ _ ⟨rfl, rfl, v_int (cod_1 (by omega) (by omega)).symm, by first | rfl | exact v_int (by omega) | exact v_int (by simp) | exact v_int (by simp; omega), rfl, rfl, by first | rfl | exact v_int (by omega) | exact v_int (by simp) | exact v_int (by simp; omega), hM40, by omega, by rw [← partO_set (by omega)]; exact hs40⟩ (by (try dsimp only); omega)
            ·
              refine h33 _ _ ?_
              clear h33
              refine seq fun K41 h41 => ?_
              refine stp (v := .int .u32 ((wsz l m).2)) (o_mv rfl) ?_
              refine stp (v := x) (o_mv rfl) ?_
              refine stp (v := .int .i64 ((ordB l 15).getD m 0 : Nat)) (o_mv rfl) ?_
              refine m_idxE 0 (j := (ordB l 15).getD m 0) (hx.upd hM25.upd) rfl rfl (by omega) fun b42 o42 hp42 => ?_
              refine ld (v := .int .i64 (l.getD ((ordB l 15).getD m 0) 0)) rfl (hp42) ?_
              refine stp (v := .int .i64 ((wsz l m).1)) (o_mv rfl) ?_
              refine stp (v := .int .i64 ((l.getD ((ordB l 15).getD m 0) 0) - ((wsz l m).1))) (o_bin rfl rfl (v_sub64 (by constructor <;> omega))) ?_
              refine stp (v := .int .u32 ((codeAt l ((ordB l 15).getD m 0)).2)) (o_shl rfl rfl (by omega) (by first | exact cod_T (by omega) (by omega) (by omega) | exact cod_F (by omega) (by omega))) ?_
              refine stp (v := .int .u32 ((codeAt l ((ordB l 15).getD m 0)).2)) (o_mv rfl) ?_
              refine h41 _ _ ?_
              clear h41
              refine seq fun K43 h43 => ?_
              refine stp (v := x) (o_mv rfl) ?_
              refine stp (v := .int .i64 ((ordB l 15).getD m 0 : Nat)) (o_mv rfl) ?_
              refine m_idxE 0 (j := (ordB l 15).getD m 0) (hx.upd hM25.upd) rfl rfl (by omega) fun b44 o44 hp44 => ?_
              refine ld (v := .int .i64 (l.getD ((ordB l 15).getD m 0) 0)) rfl (hp44) ?_
              refine stp (v := .int .i64 (l.getD ((ordB l 15).getD m 0) 0)) (o_mv rfl) ?_
              refine h43 _ _ ?_
              clear h43
              refine stp (v := y7_) (o_mv rfl) ?_
              refine stp (v := .int .i64 ((ordB l 15).getD m 0 : Nat)) (o_mv rfl) ?_
              refine stp (v := .int .i64 (l.getD ((ordB l 15).getD m 0) 0)) (o_mv rfl) ?_
              refine stp (v := .int .u32 ((codeAt l ((ordB l 15).getD m 0)).2)) (o_mv rfl) ?_
              refine stp (v := .agg ([.int .i64 (l.getD ((ordB l 15).getD m 0) 0), .int .u32 ((codeAt l ((ordB l 15).getD m 0)).2)] : List Value).toArray) (o_bld rfl rfl) ?_
              refine m_setS (enc := codeC) ((0, 0) : Int × Int) (q := codeAt l ((ordB l 15).getD m 0)) (j := (ordB l 15).getD m 0) hM25 (i := 2) rfl hy7_ rfl rfl (by rw [partO_length]; omega) (by simp) (by show _ = Value.agg #[.int .i64 (codeAt l _).1, .int .u32 (codeAt l _).2]; rw [cod_1 (by omega) (by omega)]; rfl) fun w45 r45 u45 he45 hs45 (hM45 : Mem w [] w45 [rs12, [⟨b13, 61, ((manyL l 16 0).map i64V)⟩], r45]) => ?_
              refine h30 _ _ ?_
              clear h30
              refine stp (v := .int .i64 ((m : Nat) + 1)) (o_bin rfl rfl (v_add64 (by constructor <;> omega))) ?_
              refine stp (v := .int .i64 ((m : Nat) + 1)) (o_mv rfl) ?_
              refine h26 (m + 1, y7_, r45) _ _ ⟨rfl, rfl, v_int (cod_1 (by omega) (by omega)).symm, by first | rfl | exact v_int (by omega) | exact v_int (by simp) | exact v_int (by simp; omega), rfl, rfl, by first | rfl | exact v_int (by omega) | exact v_int (by simp) | exact v_int (by simp; omega), hM45, by omega, by rw [← partO_set (by omega)]; exact hs45⟩ (by (try dsimp only); omega)
          ·
            refine h23 _ _ ?_
            clear h23
            refine seq fun K46 h46 => ?_
            refine stp (v := y7_) (o_mv rfl) ?_
            refine stp (v := y7_) (o_mv rfl) ?_
            refine stp (v := .int .i64 0) (o_mv rfl) ?_
            refine h46 _ _ ?_
            clear h46
            refine ⟨(.tuple [y7_, .int .i64 0].toArray), rfl, ?_⟩
            have e : m = (ordB l 15).length := by omega
            subst e
            exact ⟨_, _, by rw [codes_ok (by omega) k2 (by omega)], by rw [codes_ok (by omega) k2 (by omega), ← partO_end k2]; exact hy7_, hM25.keep (by simp)⟩
