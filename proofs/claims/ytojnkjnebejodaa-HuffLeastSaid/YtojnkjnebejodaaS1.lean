/- Sorting: the library's stable sort, step by step, in plain lists. -/
import Derived.Test.YtojnkjnebejodaaE21
namespace Go.Proofs.Ytojnkjnebejodaa.E
open Go
/-! Sorting: what each step of the library's stable sort does to a list, by rank and by place. -/
section
variable {α : Type} (ρ : α → Int) (z : α)
theorem getD_setS {l : List α} {i j : Nat} {x : α} (hi : i < l.length) : (l.set i x).getD j z = if j = i then x else l.getD j z := by
  rw [List.getD_eq_getElem?_getD, List.getD_eq_getElem?_getD, List.getElem?_set]
  by_cases c : i = j
  · subst c; rw [if_pos rfl, if_pos hi, if_pos rfl]; rfl
  · rw [if_neg c, if_neg (fun e => c e.symm)]
def swp (l : List α) (i j : Nat) : List α := (l.set i (l.getD j z)).set j (l.getD i z)
theorem swp_len (l : List α) (i j : Nat) : (swp z l i j).length = l.length := by simp [swp]
theorem swp_get {l : List α} {i j : Nat} (hi : i < l.length) (hj : j < l.length) (q : Nat) : (swp z l i j).getD q z = if q = j then l.getD i z else if q = i then l.getD j z else l.getD q z := by
  unfold swp
  rw [getD_setS z (by simpa using hj), getD_setS z hi]
theorem swp_perm {l : List α} {i j : Nat} (hi : i < l.length) (hj : j < l.length) : (swp z l i j).Perm l := by
  have := List.set_set_perm hi hj
  unfold swp
  rw [List.getD_eq_getElem?_getD, List.getD_eq_getElem?_getD, List.getElem?_eq_getElem hi, List.getElem?_eq_getElem hj]
  exact this
def Srt (l : List α) (a b : Nat) : Prop := ∀ p q, a ≤ p → p < q → q < b → ρ (l.getD p z) < ρ (l.getD q z)
/-- A list whose part from a to b is sorted, and else as it was. -/
structure PostS (l lc : List α) (a b : Nat) : Prop where
  perm : lc.Perm l
  out : ∀ q, q < a ∨ b ≤ q → lc.getD q z = l.getD q z
  ins : ∀ q, a ≤ q → q < b → ∃ q', a ≤ q' ∧ q' < b ∧ lc.getD q z = l.getD q' z
  srt : Srt ρ z lc a b
variable {ρ z}
theorem PostS.refl {l : List α} {a b : Nat} (h : Srt ρ z l a b) : PostS ρ z l l a b := ⟨.refl _, fun _ _ => rfl, fun q h1 h2 => ⟨q, h1, h2, rfl⟩, h⟩
variable (w : α → Int) (ρ)
/-- x stands ahead of y: the weights tell the ranks. -/
def Cr (x y : α) : Prop := (w y < w x → ρ y < ρ x) ∧ (¬ w y < w x → ρ x < ρ y)
def CrO (z : α) (l : List α) (a m b : Nat) : Prop := ∀ p q, a ≤ p → p < m → m ≤ q → q < b → Cr ρ w (l.getD p z) (l.getD q z)
variable {w ρ}
/-! insertion -/
structure InsI (ρ : α → Int) (z : α) (l lc : List α) (a i j : Nat) : Prop where
  perm : lc.Perm l
  out : ∀ q, q < a ∨ i < q → lc.getD q z = l.getD q z
  at_ : lc.getD j z = l.getD i z
  ins : ∀ q, a ≤ q → q ≤ i → q ≠ j → ∃ q', a ≤ q' ∧ q' < i ∧ lc.getD q z = l.getD q' z
  srt : ∀ p q, a ≤ p → p < q → q ≤ i → q ≠ j → ρ (lc.getD p z) < ρ (lc.getD q z)
  rng : a ≤ j ∧ j ≤ i
theorem InsI.init {l lc : List α} {a i : Nat} (h : PostS ρ z l lc a i) (ha : a ≤ i) : InsI ρ z l lc a i i :=
  ⟨h.perm, fun q hq => h.out q (by omega), h.out i (by omega), fun q h1 h2 h3 => h.ins q h1 (by omega), fun p q h1 h2 h3 h4 => h.srt p q h1 h2 (by omega), by omega⟩
theorem InsI.step {l lc : List α} {a i j : Nat} (h : InsI ρ z l lc a i j) (hj : a < j) (hi : i < l.length) (hlt : ρ (lc.getD j z) < ρ (lc.getD (j - 1) z)) : InsI ρ z l (swp z lc j (j - 1)) a i (j - 1) := by
  have hn : lc.length = l.length := h.perm.length_eq
  have hr := h.rng
  have hg := swp_get z (l := lc) (i := j) (j := j - 1) (by omega) (by omega)
  refine ⟨(swp_perm z (by omega) (by omega)).trans h.perm, fun q hq => ?_, ?_, fun q h1 h2 h3 => ?_, fun p q h1 h2 h3 h4 => ?_, by omega⟩
  · rw [hg, if_neg (by omega), if_neg (by omega)]; exact h.out q hq
  · rw [hg, if_pos rfl]; exact h.at_
  · rw [hg, if_neg h3]
    split
    · exact h.ins (j - 1) (by omega) (by omega) (by omega)
    · exact h.ins q h1 h2 (by omega)
  · rw [hg, hg, if_neg h4]
    by_cases c1 : q = j
    · rw [if_pos c1]
      by_cases c2 : p = j - 1
      · rw [if_pos c2]; exact hlt
      · rw [if_neg c2, if_neg (by omega)]; exact h.srt p (j - 1) h1 (by omega) (by omega) (by omega)
    · rw [if_neg c1]
      by_cases c2 : p = j - 1
      · rw [if_pos c2]; exact h.srt j q (by omega) (by omega) h3 c1
      · rw [if_neg c2]
        by_cases c3 : p = j
        · rw [if_pos c3]; exact h.srt (j - 1) q (by omega) (by omega) h3 c1
        · rw [if_neg c3]; exact h.srt p q h1 h2 h3 c1
theorem InsI.done {l lc : List α} {a i j : Nat} (h : InsI ρ z l lc a i j) (hd : j = a ∨ ρ (lc.getD (j - 1) z) < ρ (lc.getD j z)) : PostS ρ z l lc a (i + 1) := by
  have hr := h.rng
  refine ⟨h.perm, fun q hq => h.out q (by omega), fun q h1 h2 => ?_, fun p q h1 h2 h3 => ?_⟩
  · by_cases c : q = j
    · subst c; exact ⟨i, by omega, by omega, h.at_⟩
    · obtain ⟨q', k1, k2, k3⟩ := h.ins q h1 (by omega) c
      exact ⟨q', k1, by omega, k3⟩
  · by_cases c : q = j
    · subst c
      rcases hd with hd | hd
      · omega
      · by_cases c2 : p = q - 1
        · rw [c2]; exact hd
        · exact Int.lt_trans (h.srt p (q - 1) h1 (by omega) (by omega) (by omega)) hd
    · exact h.srt p q h1 h2 (by omega) c
theorem InsI.cr {l lc : List α} {a i j : Nat} (h : InsI ρ z l lc a i j) (hj : a < j) (hc : ∀ p q, a ≤ p → p < q → q ≤ i → Cr ρ w (l.getD p z) (l.getD q z)) : Cr ρ w (lc.getD (j - 1) z) (lc.getD j z) := by
  have hr := h.rng
  obtain ⟨q', k1, k2, k3⟩ := h.ins (j - 1) (by omega) (by omega) (by omega)
  rw [k3, h.at_]
  exact hc _ _ k1 k2 (Nat.le_refl _)
/-! one element alone -/
def MvL (z : α) (l lc : List α) (a k : Nat) : Prop := lc.Perm l ∧ ∀ q, lc.getD q z = l.getD (if a ≤ q ∧ q < k then q + 1 else if q = k then a else q) z
theorem MvL.init {l : List α} {a : Nat} : MvL z l l a a := ⟨.refl _, fun q => by congr 1; (repeat' split) <;> omega⟩
theorem MvL.step {l lc : List α} {a k : Nat} (h : MvL z l lc a k) (ha : a ≤ k) (hk : k + 1 < l.length) : MvL z l (swp z lc k (k + 1)) a (k + 1) := by
  have hn : lc.length = l.length := h.1.length_eq
  refine ⟨(swp_perm z (by omega) (by omega)).trans h.1, fun q => ?_⟩
  rw [swp_get z (by omega) (by omega), h.2, h.2, h.2]
  by_cases c1 : q = k + 1
  · rw [if_pos c1]; congr 1; (repeat' split) <;> omega
  · rw [if_neg c1]
    by_cases c2 : q = k
    · rw [if_pos c2]; congr 1; (repeat' split) <;> omega
    · rw [if_neg c2]; congr 1; (repeat' split) <;> omega
theorem MvL.done {l lc : List α} {a b i k : Nat} (h : MvL z l lc a k) (hs : Srt ρ z l (a + 1) b) (hi : a + 1 ≤ i ∧ i ≤ b) (hk : k + 1 = i) (h1 : i = a + 1 ∨ ρ (l.getD (i - 1) z) < ρ (l.getD a z)) (h2 : i = b ∨ ρ (l.getD a z) < ρ (l.getD i z)) : PostS ρ z l lc a b := by
  have up : ∀ p q, a + 1 ≤ p → p ≤ q → q < b → ρ (l.getD p z) ≤ ρ (l.getD q z) := fun p q k1 k2 k3 => by
    by_cases c : p = q
    · rw [c]; omega
    · have := hs p q k1 (by omega) k3; omega
  refine ⟨h.1, fun q hq => ?_, fun q k1 k2 => ⟨_, ?_, ?_, h.2 q⟩, fun p q k1 k2 k3 => ?_⟩
  · rw [h.2]; congr 1; (repeat' split) <;> omega
  · (repeat' split) <;> omega
  · (repeat' split) <;> omega
  · rw [h.2, h.2]
    by_cases c1 : q < k
    · rw [if_pos (by omega), if_pos (by omega)]; exact hs _ _ (by omega) (by omega) (by omega)
    · rw [if_neg (c := a ≤ q ∧ q < k) (by omega)]
      by_cases c2 : q = k
      · rw [if_pos c2, if_pos (by omega)]
        have := up (p + 1) (i - 1) (by omega) (by omega) (by omega)
        omega
      · rw [if_neg c2]
        by_cases c3 : p < k
        · rw [if_pos (by omega)]; exact hs _ _ (by omega) (by omega) (by omega)
        · rw [if_neg (by omega)]
          by_cases c4 : p = k
          · rw [if_pos c4]
            have := up i q (by omega) (by omega) (by omega)
            omega
          · rw [if_neg c4]; exact hs _ _ (by omega) (by omega) (by omega)
def MvR (z : α) (l lc : List α) (m k : Nat) : Prop := lc.Perm l ∧ ∀ q, lc.getD q z = l.getD (if k < q ∧ q ≤ m then q - 1 else if q = k then m else q) z
theorem MvR.init {l : List α} {m : Nat} : MvR z l l m m := ⟨.refl _, fun q => by congr 1; (repeat' split) <;> omega⟩
theorem MvR.step {l lc : List α} {m k : Nat} (h : MvR z l lc m k) (hk : 0 < k) (hm : k ≤ m ∧ m < l.length) : MvR z l (swp z lc k (k - 1)) m (k - 1) := by
  have hn : lc.length = l.length := h.1.length_eq
  refine ⟨(swp_perm z (by omega) (by omega)).trans h.1, fun q => ?_⟩
  rw [swp_get z (by omega) (by omega), h.2, h.2, h.2]
  by_cases c1 : q = k - 1
  · rw [if_pos c1]; congr 1; (repeat' split) <;> omega
  · rw [if_neg c1]
    by_cases c2 : q = k
    · rw [if_pos c2]; congr 1; (repeat' split) <;> omega
    · rw [if_neg c2]; congr 1; (repeat' split) <;> omega
theorem MvR.done {l lc : List α} {a m i : Nat} (h : MvR z l lc m i) (hs : Srt ρ z l a m) (hi : a ≤ i ∧ i ≤ m) (h1 : i = a ∨ ρ (l.getD (i - 1) z) < ρ (l.getD m z)) (h2 : i = m ∨ ρ (l.getD m z) < ρ (l.getD i z)) : PostS ρ z l lc a (m + 1) := by
  have up : ∀ p q, a ≤ p → p ≤ q → q < m → ρ (l.getD p z) ≤ ρ (l.getD q z) := fun p q k1 k2 k3 => by
    by_cases c : p = q
    · rw [c]; omega
    · have := hs p q k1 (by omega) k3; omega
  refine ⟨h.1, fun q hq => ?_, fun q k1 k2 => ⟨_, ?_, ?_, h.2 q⟩, fun p q k1 k2 k3 => ?_⟩
  · rw [h.2]; congr 1; (repeat' split) <;> omega
  · (repeat' split) <;> omega
  · (repeat' split) <;> omega
  · rw [h.2, h.2]
    by_cases c1 : q < i
    · rw [if_neg (by omega), if_neg (by omega), if_neg (by omega), if_neg (by omega)]; exact hs _ _ (by omega) (by omega) (by omega)
    · by_cases c2 : q = i
      · rw [if_neg (by omega), if_neg (by omega), if_neg (c := i < q ∧ q ≤ m) (by omega), if_pos c2]
        have := up p (i - 1) (by omega) (by omega) (by omega)
        omega
      · rw [if_pos (c := i < q ∧ q ≤ m) (by omega)]
        by_cases c3 : p < i
        · rw [if_neg (by omega), if_neg (by omega)]; exact hs _ _ (by omega) (by omega) (by omega)
        · by_cases c4 : p = i
          · rw [if_neg (by omega), if_pos c4]
            have := up i (q - 1) (by omega) (by omega) (by omega)
            omega
          · rw [if_pos (by omega)]; exact hs _ _ (by omega) (by omega) (by omega)
/-! blocks that change places -/
def swIdx (a b n q : Nat) : Nat := if a ≤ q ∧ q < a + n then q + (b - a) else if b ≤ q ∧ q < b + n then q - (b - a) else q
def SwR (z : α) (l lc : List α) (a b n : Nat) : Prop := lc.Perm l ∧ ∀ q, lc.getD q z = l.getD (swIdx a b n q) z
theorem SwR.init {l : List α} {a b : Nat} : SwR z l l a b 0 := ⟨.refl _, fun q => by congr 1; unfold swIdx; (repeat' split) <;> omega⟩
theorem SwR.step {l lc : List α} {a b i : Nat} (h : SwR z l lc a b i) (hab : a + i < b) (hb : b + i < l.length) : SwR z l (swp z lc (a + i) (b + i)) a b (i + 1) := by
  have hn : lc.length = l.length := h.1.length_eq
  refine ⟨(swp_perm z (by omega) (by omega)).trans h.1, fun q => ?_⟩
  rw [swp_get z (by omega) (by omega), h.2, h.2, h.2]
  unfold swIdx
  by_cases c1 : q = b + i
  · rw [if_pos c1]; congr 1; (repeat' split) <;> omega
  · rw [if_neg c1]
    by_cases c2 : q = a + i
    · rw [if_pos c2]; congr 1; (repeat' split) <;> omega
    · rw [if_neg c2]; congr 1; (repeat' split) <;> omega
def rotIdx (s m e q : Nat) : Nat := if q < s ∨ e ≤ q then q else if q - s < e - m then q + (m - s) else q - (e - m)
theorem rot_o {s m e q : Nat} (h : q < s ∨ e ≤ q) : rotIdx s m e q = q := by unfold rotIdx; rw [if_pos h]
theorem rot_a {s m e q : Nat} (h : s ≤ q ∧ q < e) (h2 : q - s < e - m) : rotIdx s m e q = q + (m - s) := by unfold rotIdx; rw [if_neg (by omega), if_pos h2]
theorem rot_b {s m e q : Nat} (h : s ≤ q ∧ q < e) (h2 : ¬ q - s < e - m) : rotIdx s m e q = q - (e - m) := by unfold rotIdx; rw [if_neg (by omega), if_neg h2]
def RotR (z : α) (l lc : List α) (s m e : Nat) : Prop := lc.Perm l ∧ ∀ q, lc.getD q z = l.getD (rotIdx s m e q) z
/-- what is still to be done: m - i .. m + j round m -/
def RotI (z : α) (l lc : List α) (s m e i j : Nat) : Prop := lc.Perm l ∧ (0 < i ∧ 0 < j ∧ s + i ≤ m ∧ m + j ≤ e) ∧ ∀ q, l.getD (rotIdx s m e q) z = lc.getD (rotIdx (m - i) m (m + j) q) z
theorem RotI.init {l : List α} {s m e : Nat} (h : s < m ∧ m < e) : RotI z l l s m e (m - s) (e - m) := ⟨.refl _, by omega, fun q => by congr 1; unfold rotIdx; (repeat' split) <;> omega⟩
theorem RotI.left {l lc l2 : List α} {s m e i j : Nat} (h : RotI z l lc s m e i j) (hij : j < i) (h2 : SwR z lc l2 (m - i) m j) : RotI z l l2 s m e (i - j) j := by
  obtain ⟨hp, hb, hr⟩ := h
  refine ⟨h2.1.trans hp, by omega, fun q => ?_⟩
  rw [hr, h2.2]; congr 1; unfold rotIdx swIdx; (repeat' split) <;> omega
theorem RotI.right {l lc l2 : List α} {s m e i j : Nat} (h : RotI z l lc s m e i j) (hij : i < j) (h2 : SwR z lc l2 (m - i) (m + j - i) i) : RotI z l l2 s m e i (j - i) := by
  obtain ⟨hp, hb, hr⟩ := h
  refine ⟨h2.1.trans hp, by omega, fun q => ?_⟩
  rw [hr, h2.2]; congr 1; unfold rotIdx swIdx; (repeat' split) <;> omega
theorem RotI.done {l lc l2 : List α} {s m e i : Nat} (h : RotI z l lc s m e i i) (h2 : SwR z lc l2 (m - i) m i) : RotR z l l2 s m e := by
  obtain ⟨hp, hb, hr⟩ := h
  refine ⟨h2.1.trans hp, fun q => ?_⟩
  rw [hr, h2.2]; congr 1; unfold rotIdx swIdx; (repeat' split) <;> omega
/-! the merge -/
/-- where the two halves are cut -/
structure CutM (ρ : α → Int) (z : α) (l : List α) (a m b mid st : Nat) : Prop where
  hm : a < m ∧ m < b ∧ mid = (a + b) / 2
  s1 : Srt ρ z l a m
  s2 : Srt ρ z l m b
  rng : a ≤ st ∧ st ≤ mid ∧ st ≤ m ∧ m ≤ mid + m - st ∧ mid + m - st ≤ b
  lo : st = a ∨ mid + m - st = b ∨ ρ (l.getD (st - 1) z) < ρ (l.getD (mid + m - st) z)
  hi : st = m ∨ mid + m - st = m ∨ ρ (l.getD (mid + m - st - 1) z) < ρ (l.getD st z)
theorem CutM.lower {l l1 : List α} {a m b mid st : Nat} (h : CutM ρ z l a m b mid st) (hr : RotR z l l1 st m (mid + m - st)) : Srt ρ z l1 a st ∧ Srt ρ z l1 st mid := by
  obtain ⟨hm, s1, s2, rng, -, -⟩ := h
  refine ⟨fun p q h1 h2 h3 => ?_, fun p q h1 h2 h3 => ?_⟩ <;> rw [hr.2, hr.2]
  · rw [rot_o (q := p) (by omega), rot_o (q := q) (by omega)]; exact s1 _ _ h1 h2 (by omega)
  · rw [rot_a (q := p) (by omega) (by omega), rot_a (q := q) (by omega) (by omega)]; exact s2 _ _ (by omega) (by omega) (by omega)
theorem CutM.upper {l l1 : List α} {a m b mid st : Nat} (h : CutM ρ z l a m b mid st) (hr : RotR z l l1 st m (mid + m - st)) : Srt ρ z l1 mid (mid + m - st) ∧ Srt ρ z l1 (mid + m - st) b := by
  obtain ⟨hm, s1, s2, rng, -, -⟩ := h
  refine ⟨fun p q h1 h2 h3 => ?_, fun p q h1 h2 h3 => ?_⟩ <;> rw [hr.2, hr.2]
  · rw [rot_b (q := p) (by omega) (by omega), rot_b (q := q) (by omega) (by omega)]; exact s1 _ _ (by omega) (by omega) (by omega)
  · rw [rot_o (q := p) (by omega), rot_o (q := q) (by omega)]; exact s2 _ _ (by omega) h2 h3
theorem CutM.crLo {l l1 : List α} {a m b mid st : Nat} (h : CutM ρ z l a m b mid st) (hr : RotR z l l1 st m (mid + m - st)) (hc : CrO ρ w z l a m b) : CrO ρ w z l1 a st mid := by
  obtain ⟨hm, s1, s2, rng, -, -⟩ := h
  intro p q h1 h2 h3 h4
  rw [hr.2, hr.2, rot_o (q := p) (by omega), rot_a (q := q) (by omega) (by omega)]
  exact hc _ _ (by omega) (by omega) (by omega) (by omega)
theorem CutM.crHi {l l1 : List α} {a m b mid st : Nat} (h : CutM ρ z l a m b mid st) (hr : RotR z l l1 st m (mid + m - st)) (hc : CrO ρ w z l a m b) : CrO ρ w z l1 mid (mid + m - st) b := by
  obtain ⟨hm, s1, s2, rng, -, -⟩ := h
  intro p q h1 h2 h3 h4
  rw [hr.2, hr.2, rot_b (q := p) (by omega) (by omega), rot_o (q := q) (by omega)]
  exact hc _ _ (by omega) (by omega) (by omega) (by omega)
theorem CutM.below {l l1 : List α} {a m b mid st : Nat} (h : CutM ρ z l a m b mid st) (hr : RotR z l l1 st m (mid + m - st)) : ∀ p q, a ≤ p → p < mid → mid ≤ q → q < b → ρ (l1.getD p z) < ρ (l1.getD q z) := by
  obtain ⟨hm, s1, s2, rng, lo, hi⟩ := h
  have u1 : ∀ p q, a ≤ p → p ≤ q → q < m → ρ (l.getD p z) ≤ ρ (l.getD q z) := fun p q k1 k2 k3 => by
    by_cases c : p = q
    · rw [c]; omega
    · have := s1 p q k1 (by omega) k3; omega
  have u2 : ∀ p q, m ≤ p → p ≤ q → q < b → ρ (l.getD p z) ≤ ρ (l.getD q z) := fun p q k1 k2 k3 => by
    by_cases c : p = q
    · rw [c]; omega
    · have := s2 p q k1 (by omega) k3; omega
  intro p q h1 h2 h3 h4
  rw [hr.2, hr.2]
  by_cases c1 : p < st
  · rw [rot_o (q := p) (by omega)]
    by_cases c2 : mid + m - st ≤ q
    · rw [rot_o (q := q) (by omega)]
      rcases lo with lo | lo | lo
      · omega
      · omega
      · have e1 := u1 p (st - 1) h1 (by omega) (by omega)
        have e2 := u2 (mid + m - st) q (by omega) c2 h4
        omega
    · rw [rot_b (q := q) (by omega) (by omega)]
      exact s1 _ _ h1 (by omega) (by omega)
  · rw [rot_a (q := p) (by omega) (by omega)]
    by_cases c2 : mid + m - st ≤ q
    · rw [rot_o (q := q) (by omega)]
      exact s2 _ _ (by omega) (by omega) h4
    · rw [rot_b (q := q) (by omega) (by omega)]
      rcases hi with hi | hi | hi
      · omega
      · omega
      · have e1 := u2 (p + (m - st)) (mid + m - st - 1) (by omega) (by omega) (by omega)
        have e2 := u1 st (q - (mid + m - st - m)) (by omega) (by omega) (by omega)
        omega
/-- both halves merged -/
theorem CutM.done {l l1 l2 l3 : List α} {a m b mid st : Nat} (h : CutM ρ z l a m b mid st) (hr : RotR z l l1 st m (mid + m - st)) (h2 : PostS ρ z l1 l2 a mid) (h3 : PostS ρ z l2 l3 mid b) : PostS ρ z l l3 a b := by
  have hb := h.below hr
  obtain ⟨hm, s1, s2, rng, lo, hi⟩ := h
  have hidx : ∀ q, a ≤ q → q < b → a ≤ rotIdx st m (mid + m - st) q ∧ rotIdx st m (mid + m - st) q < b := fun q k1 k2 => by unfold rotIdx; (repeat' split) <;> omega
  have hlo : ∀ q, a ≤ q → q < mid → ∃ q', a ≤ q' ∧ q' < mid ∧ l3.getD q z = l1.getD q' z := fun q k1 k2 => by
    obtain ⟨q', e1, e2, e3⟩ := h2.ins q k1 k2
    exact ⟨q', e1, e2, (h3.out q (by omega)).trans e3⟩
  have hhi : ∀ q, mid ≤ q → q < b → ∃ q', mid ≤ q' ∧ q' < b ∧ l3.getD q z = l1.getD q' z := fun q k1 k2 => by
    obtain ⟨q', e1, e2, e3⟩ := h3.ins q k1 k2
    exact ⟨q', e1, e2, e3.trans (h2.out q' (by omega))⟩
  refine ⟨h3.perm.trans (h2.perm.trans hr.1), fun q hq => ?_, fun q k1 k2 => ?_, fun p q k1 k2 k3 => ?_⟩
  · rw [h3.out q (by omega), h2.out q (by omega), hr.2]; congr 1; unfold rotIdx; (repeat' split) <;> omega
  · by_cases c : q < mid
    · obtain ⟨q', e1, e2, e3⟩ := hlo q k1 c
      have := hidx q' e1 (by omega)
      exact ⟨_, this.1, this.2, e3.trans (hr.2 q')⟩
    · obtain ⟨q', e1, e2, e3⟩ := hhi q (by omega) k2
      have := hidx q' (by omega) e2
      exact ⟨_, this.1, this.2, e3.trans (hr.2 q')⟩
  · by_cases c : q < mid
    · rw [h3.out p (by omega), h3.out q (by omega)]; exact h2.srt p q k1 k2 c
    · by_cases c2 : p < mid
      · obtain ⟨p', e1, e2, e3⟩ := hlo p k1 c2
        obtain ⟨q', f1, f2, f3⟩ := hhi q (by omega) k3
        rw [e3, f3]; exact hb p' q' e1 e2 f1 f2
      · exact h3.srt p q (by omega) k2 k3
theorem CutM.lowOne {l l1 : List α} {a m b mid st : Nat} (h : CutM ρ z l a m b mid st) (hr : RotR z l l1 st m (mid + m - st)) (hs : st = a ∨ st = mid) : PostS ρ z l1 l1 a mid := by
  have hl := h.lower hr
  rcases hs with hs | hs
  · rw [hs] at hl; exact PostS.refl hl.2
  · rw [hs] at hl; exact PostS.refl hl.1
theorem CutM.upL2 {l l1 l2 : List α} {a m b mid st : Nat} (h : CutM ρ z l a m b mid st) (hr : RotR z l l1 st m (mid + m - st)) (h2 : PostS ρ z l1 l2 a mid) : Srt ρ z l2 mid (mid + m - st) ∧ Srt ρ z l2 (mid + m - st) b := by
  have hl := h.upper hr
  have hg := h.rng
  refine ⟨fun p q k1 k2 k3 => ?_, fun p q k1 k2 k3 => ?_⟩ <;> rw [h2.out p (by omega), h2.out q (by omega)]
  · exact hl.1 p q k1 k2 k3
  · exact hl.2 p q k1 k2 k3
theorem CutM.crHi2 {l l1 l2 : List α} {a m b mid st : Nat} (h : CutM ρ z l a m b mid st) (hr : RotR z l l1 st m (mid + m - st)) (hc : CrO ρ w z l a m b) (h2 : PostS ρ z l1 l2 a mid) : CrO ρ w z l2 mid (mid + m - st) b := by
  have hl := h.crHi hr hc
  have hg := h.rng
  intro p q k1 k2 k3 k4
  rw [h2.out p (by omega), h2.out q (by omega)]
  exact hl p q k1 k2 k3 k4
theorem CutM.upOne {l l1 l2 : List α} {a m b mid st : Nat} (h : CutM ρ z l a m b mid st) (hr : RotR z l l1 st m (mid + m - st)) (h2 : PostS ρ z l1 l2 a mid) (hs : mid + m - st = mid ∨ mid + m - st = b) : PostS ρ z l2 l2 mid b := by
  have hl := h.upL2 hr h2
  rcases hs with hs | hs
  · rw [hs] at hl; exact PostS.refl hl.2
  · rw [hs] at hl; exact PostS.refl hl.1
/-! the blocks of the whole -/
/-- s: the size of sorted blocks from a on; ahead of a they have the size t -/
structure BlkS (ρ : α → Int) (z : α) (l0 l : List α) (s t a n : Nat) : Prop where
  len : l0.length = n
  perm : l.Perm l0
  lo : ∀ p q, p < q → q < n → q < a → p / t = q / t → ρ (l.getD p z) < ρ (l.getD q z)
  hi : ∀ p q, p < q → q < n → a ≤ p → p / s = q / s → ρ (l.getD p z) < ρ (l.getD q z)
  ilo : ∀ q, q < n → q < a → ∃ q', q' < n ∧ q' / t = q / t ∧ l.getD q z = l0.getD q' z
  ihi : ∀ q, q < n → a ≤ q → ∃ q', q' < n ∧ q' / s = q / s ∧ l.getD q z = l0.getD q' z

def Sizes (s t : Nat) : Prop := (s = 1 ∧ t = 20) ∨ (s = 20 ∧ t = 40) ∨ (s = 40 ∧ t = 80) ∨ (s = 80 ∧ t = 160) ∨ (s = 160 ∧ t = 320)
theorem BlkS.init {l : List α} {n : Nat} (h : l.length = n) : BlkS ρ z l l 1 20 0 n :=
  ⟨h, .refl _, fun p q _ _ h3 _ => by omega, fun p q h1 _ _ h4 => by omega, fun q _ h => by omega, fun q h1 h2 => ⟨q, h1, rfl, rfl⟩⟩
theorem BlkS.put {l0 l lc : List α} {s t a b n : Nat} (hst : Sizes s t) (h : BlkS ρ z l0 l s t a n) (ha : a % t = 0) (hb : a ≤ b ∧ b ≤ n ∧ (b = a + t ∨ (b = n ∧ n ≤ a + t))) (hp : PostS ρ z l lc a b) : BlkS ρ z l0 lc s t b n := by
  refine ⟨h.len, hp.perm.trans h.perm, fun p q h1 h2 h3 h4 => ?_, fun p q h1 h2 h3 h4 => ?_, fun q h1 h2 => ?_, fun q h1 h2 => ?_⟩
  · by_cases c : q < a
    · rw [hp.out p (by omega), hp.out q (by omega)]; exact h.lo p q h1 h2 c h4
    · refine hp.srt p q ?_ h1 h3
      rcases hst with ⟨rfl, rfl⟩ | ⟨rfl, rfl⟩ | ⟨rfl, rfl⟩ | ⟨rfl, rfl⟩ | ⟨rfl, rfl⟩ <;> omega
  · rw [hp.out p (by omega), hp.out q (by omega)]; exact h.hi p q h1 h2 (by omega) h4
  · by_cases c : q < a
    · rw [hp.out q (by omega)]; exact h.ilo q h1 c
    · obtain ⟨q', e1, e2, e3⟩ := hp.ins q (by omega) h2
      obtain ⟨q2, f1, f2, f3⟩ := h.ihi q' (by omega) e1
      refine ⟨q2, f1, ?_, e3.trans f3⟩
      rcases hst with ⟨rfl, rfl⟩ | ⟨rfl, rfl⟩ | ⟨rfl, rfl⟩ | ⟨rfl, rfl⟩ | ⟨rfl, rfl⟩ <;> omega
  · rw [hp.out q (by omega)]; exact h.ihi q h1 (by omega)
theorem BlkS.cr {l0 l : List α} {s t a n : Nat} (hst : Sizes s t) (h : BlkS ρ z l0 l s t a n) (hc : ∀ p q, p < q → q < n → Cr ρ w (l0.getD p z) (l0.getD q z)) {p q : Nat} (h1 : a ≤ p) (h2 : p < q) (h3 : q < n) (h4 : ¬ p / s = q / s) : Cr ρ w (l.getD p z) (l.getD q z) := by
  obtain ⟨p', e1, e2, e3⟩ := h.ihi p (by omega) h1
  obtain ⟨q', f1, f2, f3⟩ := h.ihi q h3 (by omega)
  rw [e3, f3]
  refine hc _ _ ?_ f1
  rcases hst with ⟨rfl, rfl⟩ | ⟨rfl, rfl⟩ | ⟨rfl, rfl⟩ | ⟨rfl, rfl⟩ | ⟨rfl, rfl⟩ <;> omega
theorem BlkS.crO {l0 l : List α} {s t a m b n : Nat} (hst : Sizes s t) (h : BlkS ρ z l0 l s t a n) (hc : ∀ p q, p < q → q < n → Cr ρ w (l0.getD p z) (l0.getD q z)) (ha : a % t = 0) (hm : m = a + s) (hb : b ≤ n) (hs : t = 2 * s) : CrO ρ w z l a m b := by
  intro p q h1 h2 h3 h4
  refine h.cr hst hc h1 (by omega) (by omega) ?_
  rcases hst with ⟨rfl, rfl⟩ | ⟨rfl, rfl⟩ | ⟨rfl, rfl⟩ | ⟨rfl, rfl⟩ | ⟨rfl, rfl⟩ <;> omega
theorem BlkS.crA {l0 l : List α} {t a n : Nat} (hst : Sizes 1 t) (h : BlkS ρ z l0 l 1 t a n) (hc : ∀ p q, p < q → q < n → Cr ρ w (l0.getD p z) (l0.getD q z)) : ∀ p q, a ≤ p → p < q → q < n → Cr ρ w (l.getD p z) (l.getD q z) :=
  fun _ _ h1 h2 h3 => h.cr hst hc h1 h2 h3 (by omega)
theorem BlkS.srt1 {l0 l : List α} {s t a n : Nat} (hst : Sizes s t) (h : BlkS ρ z l0 l s t a n) (ha : a % t = 0) (hs : t = 2 * s) : (∀ m, m ≤ a + s → m ≤ n → Srt ρ z l a m) ∧ ∀ b, b ≤ a + t → b ≤ n → Srt ρ z l (a + s) b := by
  refine ⟨fun m h1 h2 p q k1 k2 k3 => h.hi p q k2 (by omega) k1 ?_, fun b h1 h2 p q k1 k2 k3 => h.hi p q k2 (by omega) (by omega) ?_⟩ <;>
  rcases hst with ⟨rfl, rfl⟩ | ⟨rfl, rfl⟩ | ⟨rfl, rfl⟩ | ⟨rfl, rfl⟩ | ⟨rfl, rfl⟩ <;> omega
theorem BlkS.turn {l0 l : List α} {s t n : Nat} (h : BlkS ρ z l0 l s t n n) (t2 : Nat) : BlkS ρ z l0 l t t2 0 n :=
  ⟨h.len, h.perm, fun _ _ _ _ h3 _ => by omega, fun p q h1 h2 _ h4 => h.lo p q h1 h2 h2 h4, fun q _ h => by omega, fun q h1 _ => h.ilo q h1 h1⟩
theorem BlkS.done {l0 l : List α} {s t n : Nat} (h : BlkS ρ z l0 l s t 0 n) (hn : n ≤ s) : l.Perm l0 ∧ Srt ρ z l 0 n :=
  ⟨h.perm, fun p q h1 h2 h3 => h.hi p q h2 h3 h1 (by rw [Nat.div_eq_of_lt (by omega), Nat.div_eq_of_lt (by omega)])⟩
end
