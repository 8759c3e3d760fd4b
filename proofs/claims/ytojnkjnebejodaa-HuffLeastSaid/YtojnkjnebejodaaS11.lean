/- The theory of packages: widths and weights. -/
import Derived.Test.YtojnkjnebejodaaS8
namespace Go.Proofs.Ytojnkjnebejodaa.E
open Go
def sumU : Nat → (Nat → Nat) → Nat
  | 0, _ => 0
  | n + 1, g => sumU n g + g n
def sumN : Nat → (Nat → Int) → Int
  | 0, _ => 0
  | n + 1, g => sumN n g + g n
theorem sumU_congr {g h : Nat → Nat} : ∀ {n}, (∀ i, i < n → g i = h i) → sumU n g = sumU n h
  | 0, _ => rfl
  | n + 1, e => by rw [sumU, sumU, sumU_congr (n := n) fun i hi => e i (by omega), e n (by omega)]
theorem sumN_congr {g h : Nat → Int} : ∀ {n}, (∀ i, i < n → g i = h i) → sumN n g = sumN n h
  | 0, _ => rfl
  | n + 1, e => by rw [sumN, sumN, sumN_congr (n := n) fun i hi => e i (by omega), e n (by omega)]
theorem sumU_add (g h : Nat → Nat) : ∀ n, sumU n (fun i => g i + h i) = sumU n g + sumU n h
  | 0 => rfl
  | n + 1 => by rw [sumU, sumU, sumU, sumU_add g h n]; omega
theorem sumN_add (g h : Nat → Int) : ∀ n, sumN n (fun i => g i + h i) = sumN n g + sumN n h
  | 0 => rfl
  | n + 1 => by rw [sumN, sumN, sumN, sumN_add g h n]; omega
theorem sumU_mul (g : Nat → Nat) (c : Nat) : ∀ n, sumU n (fun i => g i * c) = sumU n g * c
  | 0 => by simp [sumU]
  | n + 1 => by rw [sumU, sumU, sumU_mul g c n, Nat.add_mul]
theorem sumU_le {g h : Nat → Nat} : ∀ {n}, (∀ i, i < n → g i ≤ h i) → sumU n g ≤ sumU n h
  | 0, _ => Nat.le_refl _
  | n + 1, e => by
    have h1 := sumU_le (n := n) fun i hi => e i (by omega)
    have h2 := e n (by omega)
    rw [sumU, sumU]; omega
theorem sumN_le {g h : Nat → Int} : ∀ {n}, (∀ i, i < n → g i ≤ h i) → sumN n g ≤ sumN n h
  | 0, _ => Int.le_refl _
  | n + 1, e => by
    have h1 := sumN_le (n := n) fun i hi => e i (by omega)
    have h2 := e n (by omega)
    rw [sumN, sumN]; omega
theorem sumU_zero : ∀ n, sumU n (fun _ => 0) = 0
  | 0 => rfl
  | n + 1 => by rw [sumU, sumU_zero n]
theorem sumN_zero : ∀ n, sumN n (fun _ => 0) = 0
  | 0 => rfl
  | n + 1 => by rw [sumN, sumN_zero n]; rfl
theorem sumU_one {k : Nat} : ∀ {n}, k < n → sumU n (fun i => if i = k then 1 else 0) = 1
  | n + 1, h => by
    rw [sumU]
    by_cases c : n = k
    · rw [if_pos c, sumU_congr (h := fun _ => 0) fun i hi => if_neg (by omega), sumU_zero]
    · rw [if_neg c, sumU_one (by omega)]
theorem sumN_one {k : Nat} {c : Nat → Int} : ∀ {n}, k < n → sumN n (fun i => c i * ((if i = k then 1 else 0 : Nat) : Int)) = c k
  | n + 1, h => by
    rw [sumN]
    by_cases e : n = k
    · rw [if_pos e, sumN_congr (h := fun _ => 0) fun i hi => by rw [if_neg (by omega)]; simp, sumN_zero, e]; simp
    · rw [if_neg e, sumN_one (by omega)]; simp
theorem sumU_ge {g : Nat → Nat} {k : Nat} : ∀ {n}, k < n → g k ≤ sumU n g
  | n + 1, h => by
    rw [sumU]
    by_cases c : n = k
    · subst c; omega
    · have := sumU_ge (g := g) (k := k) (n := n) (by omega); omega
theorem sumN_ge {g : Nat → Int} {k : Nat} : ∀ {n}, k < n → (∀ i, i < n → 0 ≤ g i) → g k ≤ sumN n g
  | n + 1, h, h0 => by
    rw [sumN]
    have hs : 0 ≤ sumN n g := by
      have := sumN_le (n := n) (g := fun _ => 0) (h := g) fun i hi => h0 i (by omega)
      rw [sumN_zero] at this; exact this
    by_cases c : n = k
    · subst c; omega
    · have := sumN_ge (g := g) (k := k) (n := n) (by omega) fun i hi => h0 i (by omega)
      have := h0 n (by omega)
      omega
/-- lists of symbols with their counts -/
def Ones (cs : List Int) (l : List Th) : Prop := ∀ t ∈ l, ∃ i, t = one (cs.getD i 0) i ∧ i < cs.length ∧ 0 < cs.getD i 0
theorem thF_ones (cs : List Int) : Ones cs (thF cs) := fun t ht => by
  obtain ⟨i, h1, _, h3, h4⟩ := thsA_mem cs _ (Nat.le_refl _) t ((thF_perm cs).subset ht)
  exact ⟨i, h1, h3, h4⟩
theorem ones_sum {cs : List Int} : ∀ {l : List Th}, Ones cs l → sumU cs.length (fun i => tot i l) = l.length
  | [], _ => (sumU_congr (h := fun _ => 0) fun _ _ => rfl).trans (sumU_zero _)
  | t :: l, h => by
    obtain ⟨i, rfl, h2, h3⟩ := h t List.mem_cons_self
    have ih := ones_sum (l := l) fun x hx => h x (List.mem_cons_of_mem _ hx)
    rw [sumU_congr (h := fun k => (if k = i then 1 else 0) + tot k l) fun k _ => by rw [tot_cons]; rfl, sumU_add, sumU_one h2, ih, List.length_cons]; omega
theorem Ones.take {cs : List Int} {l : List Th} (h : Ones cs l) (s : Nat) : Ones cs (l.take s) := fun t ht => h t (List.mem_of_mem_take ht)
/-- a weight that is what it holds -/
def TW (cs : List Int) (t : Th) : Prop := t.w = sumN cs.length fun i => cs.getD i 0 * (t.f i : Nat)
theorem TW_one {cs : List Int} {i : Nat} (h : i < cs.length) : TW cs (one (cs.getD i 0) i) := (sumN_one (c := fun i => cs.getD i 0) h).symm
theorem TW_both {cs : List Int} {a b : Th} (ha : TW cs a) (hb : TW cs b) : TW cs (bothT a b) := by
  unfold TW at *
  show a.w + b.w = _
  rw [ha, hb, ← sumN_add]
  exact sumN_congr fun i _ => by
    show _ = cs.getD i 0 * ((a.f i + b.f i : Nat) : Int)
    rw [Int.natCast_add, Int.mul_add]
theorem TW_pairs {cs : List Int} : ∀ {l : List Th}, (∀ t ∈ l, TW cs t) → ∀ t ∈ pairsL l, TW cs t
  | [], _ => fun _ h => by cases h
  | [a], _ => fun _ h => by cases h
  | a :: b :: r, h => fun t ht => by
    rcases List.mem_cons.1 ht with rfl | ht
    · exact TW_both (h a List.mem_cons_self) (h b (List.mem_cons_of_mem _ List.mem_cons_self))
    · exact TW_pairs (l := r) (fun x hx => h x (List.mem_cons_of_mem _ (List.mem_cons_of_mem _ hx))) t ht
theorem TW_row (cs : List Int) : ∀ j, ∀ t ∈ rowF (thF cs) j, TW cs t
  | 0 => fun t ht => by
    obtain ⟨i, rfl, h2, _⟩ := thF_ones cs t ht
    exact TW_one h2
  | j + 1 => fun t ht => by
    rcases List.mem_append.1 ((merge_perm _ _).subset ht) with h | h
    · exact TW_row cs 0 t h
    · exact TW_pairs (TW_row cs j) t h
theorem TW_ge {cs : List Int} (h0 : ∀ i, 0 ≤ cs.getD i 0) {t : Th} (ht : TW cs t) {i : Nat} (hi : i < cs.length) (h : 0 < t.f i) : cs.getD i 0 ≤ t.w := by
  rw [ht]
  have h1 := sumN_ge (g := fun i => cs.getD i 0 * (t.f i : Nat)) (k := i) hi fun k _ => Int.mul_nonneg (h0 k) (by omega)
  have h2 : cs.getD i 0 * 1 ≤ cs.getD i 0 * (t.f i : Nat) := Int.mul_le_mul_of_nonneg_left (by omega) (h0 i)
  omega
def totW (l : List Th) : Int := (l.map Th.w).sum
theorem totW_nil : totW [] = 0 := rfl
theorem totW_cons (t : Th) (l : List Th) : totW (t :: l) = t.w + totW l := by simp [totW]
theorem totW_append (l m : List Th) : totW (l ++ m) = totW l + totW m := by simp [totW]
theorem totW_perm {l m : List Th} (h : l.Perm m) : totW l = totW m := by
  induction h with
  | nil => rfl
  | cons x _ ih => rw [totW_cons, totW_cons, ih]
  | swap x y l => rw [totW_cons, totW_cons, totW_cons, totW_cons]; omega
  | trans _ _ h1 h2 => exact h1.trans h2
theorem totW_eq {cs : List Int} : ∀ {l : List Th}, (∀ t ∈ l, TW cs t) → totW l = sumN cs.length fun i => cs.getD i 0 * (tot i l : Nat)
  | [], _ => by
    rw [sumN_congr (h := fun _ => 0) fun i _ => by simp [tot], sumN_zero]; rfl
  | t :: l, h => by
    rw [totW_cons, totW_eq (l := l) fun x hx => h x (List.mem_cons_of_mem _ hx), h t List.mem_cons_self, ← sumN_add]
    exact sumN_congr fun i _ => by rw [tot_cons, Int.natCast_add, Int.mul_add]
abbrev SrtW (l : List Th) : Prop := l.Pairwise (fun a b => a.w ≤ b.w)
theorem thF_srtW {cs : List Int} (hl : cs.length ≤ 256) : SrtW (thF cs) := by
  have h1 := thF_srt hl
  have h2 := thF_ones cs
  refine List.Pairwise.imp_of_mem (fun {a b} ha hb hab => ?_) h1
  obtain ⟨i, rfl, hi, _⟩ := h2 a ha
  obtain ⟨k, rfl, hk, _⟩ := h2 b hb
  unfold one at hab ⊢
  dsimp only at hab ⊢
  omega
/-- what the first of a merged row are -/
theorem merge_take : ∀ (n : Nat) (fs ps : List Th) (m : Nat), fs.length + ps.length ≤ n → SrtW fs → m ≤ fs.length + ps.length →
    ∃ s p, s + p = m ∧ s ≤ fs.length ∧ p ≤ ps.length ∧ ((mergeL fs ps).take m).Perm (fs.take s ++ ps.take p) ∧ ∀ x ∈ fs, ∀ P ∈ ps.take p, x.w ≤ P.w → x ∈ fs.take s
  | _, fs, [], m, _, _, hm => ⟨m, 0, by omega, by simpa using hm, Nat.le_refl _, by rw [mergeL_nilR]; simp, fun x _ P hP => by simp at hP⟩
  | _, [], q :: ps, m, _, _, hm => ⟨0, m, by omega, Nat.le_refl _, by simpa using hm, by rw [mergeL_nilL]; simp, fun x hx => by cases hx⟩
  | 0, f :: fs, q :: ps, _, h, _, _ => by simp at h
  | n + 1, f :: fs, q :: ps, 0, h, _, _ => ⟨0, 0, rfl, Nat.zero_le _, Nat.zero_le _, by simp, fun x _ P hP => by simp at hP⟩
  | n + 1, f :: fs, q :: ps, m + 1, h, hs, hm => by
    have hs1 := List.pairwise_cons.1 hs
    simp only [List.length_cons] at h hm
    by_cases c : f.w ≤ q.w
    · obtain ⟨s, p, h1, h2, h3, h4, h5⟩ := merge_take n fs (q :: ps) m (by simp only [List.length_cons]; omega) hs1.2 (by simp only [List.length_cons]; omega)
      refine ⟨s + 1, p, by omega, by simp only [List.length_cons]; omega, h3, ?_, fun x hx P hP hw => ?_⟩
      · rw [mergeL_le c, List.take_succ_cons, List.take_succ_cons]; exact h4.cons f
      · rw [List.take_succ_cons]
        rcases List.mem_cons.1 hx with rfl | hx
        · exact List.mem_cons_self
        · exact List.mem_cons_of_mem _ (h5 x hx P hP hw)
    · obtain ⟨s, p, h1, h2, h3, h4, h5⟩ := merge_take n (f :: fs) ps m (by simp only [List.length_cons]; omega) hs (by simp only [List.length_cons]; omega)
      refine ⟨s, p + 1, by omega, h2, by simp only [List.length_cons]; omega, ?_, fun x hx P hP hw => ?_⟩
      · rw [mergeL_gt c, List.take_succ_cons, List.take_succ_cons]; exact (h4.cons q).trans List.perm_middle.symm
      · rw [List.take_succ_cons] at hP
        rcases List.mem_cons.1 hP with rfl | hP
        · exfalso
          rcases List.mem_cons.1 hx with rfl | hx
          · exact c hw
          · have := hs1.1 x hx; omega
        · exact h5 x hx P hP hw
theorem pairs_tot (k : Nat) : ∀ (p : Nat) (l : List Th), 2 * p ≤ l.length → tot k ((pairsL l).take p) = tot k (l.take (2 * p))
  | 0, _, _ => by simp [tot]
  | p + 1, a :: b :: r, h => by
    simp only [List.length_cons] at h
    have ih := pairs_tot k p r (by omega)
    rw [pairsL, show 2 * (p + 1) = 2 * p + 1 + 1 by omega, List.take_succ_cons, List.take_succ_cons, List.take_succ_cons, tot_cons, tot_cons, tot_cons, ih]
    show a.f k + b.f k + _ = _
    omega
  | p + 1, [], h => by simp at h
  | p + 1, [a], h => by simp at h; omega
theorem pairs_totW : ∀ (p : Nat) (l : List Th), 2 * p ≤ l.length → totW ((pairsL l).take p) = totW (l.take (2 * p))
  | 0, _, _ => by simp [totW]
  | p + 1, a :: b :: r, h => by
    simp only [List.length_cons] at h
    have ih := pairs_totW p r (by omega)
    rw [pairsL, show 2 * (p + 1) = 2 * p + 1 + 1 by omega, List.take_succ_cons, List.take_succ_cons, List.take_succ_cons, totW_cons, totW_cons, totW_cons, ih]
    show a.w + b.w + _ = _
    omega
  | p + 1, [], h => by simp at h
  | p + 1, [a], h => by simp at h; omega
/-- the width of d coins of a symbol, the widest being 2 ^ j -/
def wid (j d : Nat) : Nat := 2 ^ (j + 1) - 2 ^ (j + 1 - d)
theorem wid_zero (j : Nat) : wid j 0 = 0 := by simp [wid]
theorem wid_succ {j d : Nat} (h : d ≤ j + 1) : wid (j + 1) (d + 1) = 2 ^ (j + 1) + wid j d := by
  unfold wid
  have h1 : 2 ^ (j + 1 + 1) = 2 ^ (j + 1) + 2 ^ (j + 1) := by rw [Nat.pow_succ]; omega
  have h2 : 2 ^ (j + 1 - d) ≤ 2 ^ (j + 1) := Nat.pow_le_pow_right (by omega) (by omega)
  rw [show j + 1 + 1 - (d + 1) = j + 1 - d by omega, h1]
  generalize 2 ^ (j + 1) = P at *
  generalize 2 ^ (j + 1 - d) = Q at *
  omega
theorem wid_base {d : Nat} (h : d ≤ 1) : wid 0 d = d := by
  unfold wid
  rcases Nat.lt_or_ge d 1 with c | c
  · rw [show d = 0 by omega]
  · rw [show d = 1 by omega]
theorem fs_tot_le {cs : List Int} (i s : Nat) : tot i ((thF cs).take s) ≤ 1 := by
  have h1 := tot_take i s (thF cs)
  have h2 := thF_tot cs i
  have h5 : tot i (thF cs) ≤ 1 := by rw [h2]; split <;> omega
  omega
theorem row_tot_le {cs : List Int} (j m i : Nat) : tot i ((rowF (thF cs) j).take m) ≤ j + 1 := by
  have h1 := tot_take i m (rowF (thF cs) j)
  have h2 := row_tot (thF cs) i j
  have h3 := fs_tot_le (cs := cs) i (thF cs).length
  rw [List.take_length] at h3
  have h4 := Nat.mul_le_mul_left (j + 1) h3
  omega
/-- what the first of a row hold: singles, and packages of the row ahead -/
theorem row_split {cs : List Int} (hl : cs.length ≤ 256) (h0 : ∀ i, 0 ≤ cs.getD i 0) {j m : Nat} (hm : m ≤ (rowF (thF cs) (j + 1)).length) : ∃ s p, s + p = m ∧ s ≤ (thF cs).length ∧ 2 * p ≤ (rowF (thF cs) j).length ∧
    (∀ i, tot i ((rowF (thF cs) (j + 1)).take m) = tot i ((thF cs).take s) + tot i ((rowF (thF cs) j).take (2 * p))) ∧ ∀ i, i < cs.length → 0 < cs.getD i 0 → 0 < tot i ((rowF (thF cs) j).take (2 * p)) → tot i ((thF cs).take s) = 1 := by
  have hm2 := hm
  rw [row_len] at hm
  obtain ⟨s, p, h1, h2, h3, h4, h5⟩ := merge_take _ (thF cs) (pairsL (rowF (thF cs) j)) m (Nat.le_refl _) (thF_srtW hl) (by rw [pairs_len]; exact hm)
  rw [pairs_len] at h3
  refine ⟨s, p, h1, h2, by omega, fun i => ?_, fun i hi hc ht => ?_⟩
  · rw [rowF, tot_perm h4, tot_append, pairs_tot i p _ (by omega)]
  · rw [← pairs_tot i p _ (by omega)] at ht
    -- some package holds the symbol
    have hex : ∃ P ∈ (pairsL (rowF (thF cs) j)).take p, 0 < P.f i := by
      apply Classical.byContradiction
      intro hno
      have : ∀ l : List Th, (∀ P ∈ l, ¬ 0 < P.f i) → tot i l = 0 := by
        intro l
        induction l with
        | nil => intro _; rfl
        | cons x l ih =>
          intro h
          have h1 := h x List.mem_cons_self
          rw [tot_cons, ih fun P hP => h P (List.mem_cons_of_mem _ hP)]; omega
      rw [this _ fun P hP hp => hno ⟨P, hP, hp⟩] at ht
      omega
    obtain ⟨P, hP, hp⟩ := hex
    have hw := TW_ge h0 (TW_pairs (TW_row cs j) P (List.mem_of_mem_take hP)) hi hp
    have hfs := thF_tot cs i
    rw [if_pos ⟨hi, hc⟩] at hfs
    -- the single
    have hx : one (cs.getD i 0) i ∈ thF cs := by
      apply Classical.byContradiction
      intro hno
      have : ∀ l : List Th, Ones cs l → one (cs.getD i 0) i ∉ l → tot i l = 0 := by
        intro l
        induction l with
        | nil => intro _ _; rfl
        | cons x l ih =>
          intro h hn
          obtain ⟨k, hk, _, _⟩ := h x List.mem_cons_self
          have hki : k ≠ i := fun e => hn (by rw [hk, e]; exact List.mem_cons_self)
          rw [tot_cons, ih (fun t ht => h t (List.mem_cons_of_mem _ ht)) (fun hm => hn (List.mem_cons_of_mem _ hm)), hk]
          show (if i = k then 1 else 0) + 0 = 0
          rw [if_neg (fun e => hki e.symm)]
      rw [this _ (thF_ones cs) hno] at hfs
      omega
    have hin := h5 _ hx P hP hw
    have h6 := tot_mem (k := i) hin
    have h7 := fs_tot_le (cs := cs) i s
    have h8 : (one (cs.getD i 0) i).f i = 1 := by simp [one]
    omega
theorem tot_absent {cs : List Int} {i : Nat} (h : ¬ (i < cs.length ∧ 0 < cs.getD i 0)) (j m : Nat) : tot i ((rowF (thF cs) j).take m) = 0 := by
  have h1 := tot_take i m (rowF (thF cs) j)
  have h2 := row_tot (thF cs) i j
  rw [thF_tot, if_neg h] at h2
  omega
/-- **the widths of the first m of a row** -/
theorem kraft_row {cs : List Int} (hl : cs.length ≤ 256) (h0 : ∀ i, 0 ≤ cs.getD i 0) : ∀ j m, m ≤ (rowF (thF cs) j).length → sumU cs.length (fun i => wid j (tot i ((rowF (thF cs) j).take m))) = m * 2 ^ j
  | 0, m, hm => by
    rw [rowF] at hm ⊢
    rw [sumU_congr fun i _ => wid_base (fs_tot_le i m), ones_sum ((thF_ones cs).take m), List.length_take]; omega
  | j + 1, m, hm => by
    obtain ⟨s, p, h1, h2, h3, h4, h5⟩ := row_split hl h0 hm
    have ih := kraft_row hl h0 j (2 * p) h3
    rw [sumU_congr (h := fun i => tot i ((thF cs).take s) * 2 ^ (j + 1) + wid j (tot i ((rowF (thF cs) j).take (2 * p)))) fun i hi => ?_, sumU_add, sumU_mul, ih, ones_sum ((thF_ones cs).take s), List.length_take, Nat.min_eq_left h2, ← h1, Nat.add_mul, Nat.pow_succ, Nat.mul_comm 2 p, Nat.mul_assoc, Nat.mul_comm 2 (2 ^ j)]
    rw [h4]
    have hb := row_tot_le (cs := cs) j (2 * p) i
    by_cases c : 0 < tot i ((rowF (thF cs) j).take (2 * p))
    · have hc : 0 < cs.getD i 0 := by
        apply Classical.byContradiction
        intro hn
        have := tot_absent (cs := cs) (i := i) (fun k => hn k.2) j (2 * p)
        omega
      rw [h5 i hi hc c, Nat.add_comm 1, wid_succ hb, Nat.one_mul]
    · have hz : tot i ((rowF (thF cs) j).take (2 * p)) = 0 := by omega
      rw [hz, wid_zero, Nat.add_zero, Nat.add_zero]
      rcases Nat.lt_or_ge (tot i ((thF cs).take s)) 1 with k | k
      · rw [show tot i ((thF cs).take s) = 0 by omega, wid_zero, Nat.zero_mul]
      · have := fs_tot_le (cs := cs) i s
        rw [show tot i ((thF cs).take s) = 0 + 1 by omega, wid_succ (by omega), wid_zero]; omega
