/- No lengths cost less. -/
import Derived.Test.YtojnkjnebejodaaS12
namespace Go.Proofs.Ytojnkjnebejodaa.E
open Go
theorem take_last {x : Th} {l : List Th} {k : Nat} (hx : ∀ y ∈ l, x.w ≤ y.w) (hk : k < l.length) : totW (l.take k) + x.w ≤ totW (l.take (k + 1)) := by
  have e : l.take (k + 1) = l.take k ++ [l.getD k th0] := by
    rw [List.take_add_one, List.getElem?_eq_getElem hk, List.getD_eq_getElem?_getD, List.getElem?_eq_getElem hk]; rfl
  have := hx _ (getD_memG th0 hk)
  rw [e, totW_append, totW_cons, totW_nil]; omega
theorem merge_min : ∀ (n : Nat) (fs ps : List Th) (s p : Nat), fs.length + ps.length ≤ n → SrtW fs → SrtW ps → s ≤ fs.length → p ≤ ps.length → totW ((mergeL fs ps).take (s + p)) ≤ totW (fs.take s) + totW (ps.take p)
  | _, fs, [], s, p, _, _, _, _, hp => by
    simp only [List.length_nil, Nat.le_zero] at hp
    subst hp
    rw [Nat.add_zero, mergeL_nilR, List.take_nil, totW_nil]; omega
  | _, [], q :: ps, s, p, _, _, _, hs, _ => by
    simp only [List.length_nil, Nat.le_zero] at hs
    subst hs
    rw [mergeL_nilL, List.take_nil, totW_nil, Nat.zero_add]; omega
  | 0, f :: fs, q :: ps, _, _, h, _, _, _, _ => by simp at h
  | n + 1, f :: fs, q :: ps, s, p, h, h1, h2, hs, hp => by
    simp only [List.length_cons] at h hs hp
    have a1 := List.pairwise_cons.1 h1
    have a2 := List.pairwise_cons.1 h2
    by_cases c : f.w ≤ q.w
    · rw [mergeL_le c]
      cases s with
      | succ s =>
        have ih := merge_min n fs (q :: ps) s p (by simp only [List.length_cons]; omega) a1.2 h2 (by omega) (by simp only [List.length_cons]; omega)
        rw [show s + 1 + p = s + p + 1 by omega, List.take_succ_cons, List.take_succ_cons, totW_cons, totW_cons]; omega
      | zero =>
        cases p with
        | zero => simp [totW]
        | succ p =>
          have ih := merge_min n fs (q :: ps) 0 p (by simp only [List.length_cons]; omega) a1.2 h2 (Nat.zero_le _) (by simp only [List.length_cons]; omega)
          have hl := take_last (x := f) (l := q :: ps) (k := p) (fun y hy => by
            rcases List.mem_cons.1 hy with rfl | hy
            · exact c
            · have := a2.1 y hy; omega) (by simp only [List.length_cons]; omega)
          rw [Nat.zero_add] at ih ⊢
          rw [List.take_succ_cons (a := f), totW_cons]
          rw [List.take_zero] at ih ⊢
          omega
    · rw [mergeL_gt c]
      cases p with
      | succ p =>
        have ih := merge_min n (f :: fs) ps s p (by simp only [List.length_cons]; omega) h1 a2.2 (by simp only [List.length_cons]; omega) (by omega)
        rw [← Nat.add_assoc, List.take_succ_cons, List.take_succ_cons (a := q), totW_cons, totW_cons]; omega
      | zero =>
        cases s with
        | zero => simp [totW]
        | succ s =>
          have ih := merge_min n (f :: fs) ps s 0 (by simp only [List.length_cons]; omega) h1 a2.2 (by simp only [List.length_cons]; omega) (Nat.zero_le _)
          have hl := take_last (x := q) (l := f :: fs) (k := s) (fun y hy => by
            rcases List.mem_cons.1 hy with rfl | hy
            · omega
            · have := a1.1 y hy; omega) (by simp only [List.length_cons]; omega)
          rw [Nat.add_zero] at ih ⊢
          rw [List.take_succ_cons (a := q), totW_cons]
          rw [List.take_zero] at ih ⊢
          omega
theorem srt_merge : ∀ (n : Nat) (fs ps : List Th), fs.length + ps.length ≤ n → SrtW fs → SrtW ps → SrtW (mergeL fs ps)
  | _, fs, [], _, h1, _ => by rw [mergeL_nilR]; exact h1
  | _, [], q :: ps, _, _, h2 => by rw [mergeL_nilL]; exact h2
  | 0, f :: fs, q :: ps, h, _, _ => by simp at h
  | n + 1, f :: fs, q :: ps, h, h1, h2 => by
    simp only [List.length_cons] at h
    have a1 := List.pairwise_cons.1 h1
    have a2 := List.pairwise_cons.1 h2
    by_cases c : f.w ≤ q.w
    · rw [mergeL_le c]
      refine List.pairwise_cons.2 ⟨fun y hy => ?_, srt_merge n fs (q :: ps) (by simp only [List.length_cons]; omega) a1.2 h2⟩
      rcases List.mem_append.1 ((merge_perm _ _).subset hy) with hy | hy
      · exact a1.1 y hy
      · rcases List.mem_cons.1 hy with rfl | hy
        · exact c
        · have := a2.1 y hy; omega
    · rw [mergeL_gt c]
      refine List.pairwise_cons.2 ⟨fun y hy => ?_, srt_merge n (f :: fs) ps (by simp only [List.length_cons]; omega) h1 a2.2⟩
      rcases List.mem_append.1 ((merge_perm _ _).subset hy) with hy | hy
      · rcases List.mem_cons.1 hy with rfl | hy
        · omega
        · have := a1.1 y hy; omega
      · exact a2.1 y hy
theorem pairs_ge {x : Int} : ∀ {l : List Th}, (∀ y ∈ l, x ≤ y.w) → ∀ y ∈ pairsL l, x + x ≤ y.w
  | [], _ => fun _ h => by cases h
  | [a], _ => fun _ h => by cases h
  | a :: b :: r, h => fun y hy => by
    rcases List.mem_cons.1 hy with rfl | hy
    · have h1 := h a List.mem_cons_self
      have h2 := h b (List.mem_cons_of_mem _ List.mem_cons_self)
      show x + x ≤ a.w + b.w
      omega
    · exact pairs_ge (l := r) (fun z hz => h z (List.mem_cons_of_mem _ (List.mem_cons_of_mem _ hz))) y hy
theorem srt_pairs : ∀ {l : List Th}, SrtW l → SrtW (pairsL l)
  | [], _ => List.Pairwise.nil
  | [a], _ => List.Pairwise.nil
  | a :: b :: r, h => by
    have h1 := List.pairwise_cons.1 h
    have h2 := List.pairwise_cons.1 h1.2
    refine List.pairwise_cons.2 ⟨fun y hy => ?_, srt_pairs (l := r) h2.2⟩
    have h3 := pairs_ge (x := b.w) (fun z hz => h2.1 z hz) y hy
    have h4 := h1.1 b List.mem_cons_self
    show a.w + b.w ≤ y.w
    omega
theorem srt_row {cs : List Int} (hl : cs.length ≤ 256) : ∀ j, SrtW (rowF (thF cs) j)
  | 0 => thF_srtW hl
  | j + 1 => srt_merge _ _ _ (Nat.le_refl _) (thF_srtW hl) (srt_pairs (srt_row hl j))
theorem take_filter (P : Th → Bool) : ∀ {l : List Th}, SrtW l → totW (l.take (l.filter P).length) ≤ totW (l.filter P)
  | [], _ => Int.le_refl _
  | x :: r, h => by
    have h1 := List.pairwise_cons.1 h
    have ih := take_filter P h1.2
    by_cases c : P x = true
    · rw [List.filter_cons, if_pos c, List.length_cons, List.take_succ_cons, totW_cons, totW_cons]; omega
    · rw [List.filter_cons, if_neg c]
      cases hk : (r.filter P).length with
      | zero => rw [List.length_eq_zero_iff.1 hk]; exact Int.le_refl _
      | succ j =>
        have hle := List.length_filter_le P r
        have hl := take_last (x := x) (l := r) (k := j) h1.1 (by omega)
        rw [hk] at ih
        rw [List.take_succ_cons, totW_cons]; omega
theorem totW_mono {l : List Th} (h : ∀ t ∈ l, 0 ≤ t.w) {a b : Nat} (hab : a ≤ b) : totW (l.take a) ≤ totW (l.take b) := by
  have e : l.take b = l.take a ++ (l.drop a).take (b - a) := by
    rw [← List.take_add]; congr 1; omega
  have hn : ∀ m : List Th, (∀ t ∈ m, 0 ≤ t.w) → 0 ≤ totW m := by
    intro m
    induction m with
    | nil => intro _; exact Int.le_refl _
    | cons x m ih =>
      intro hm
      have h1 := hm x List.mem_cons_self
      have h2 := ih fun t ht => hm t (List.mem_cons_of_mem _ ht)
      rw [totW_cons]; omega
  have := hn ((l.drop a).take (b - a)) fun t ht => h t (List.mem_of_mem_drop (List.mem_of_mem_take ht))
  rw [e, totW_append]; omega
def sy (t : Th) : Nat := (256 * t.w - t.r).toNat
theorem sy_one (c : Int) (i : Nat) : sy (one c i) = i := by unfold sy one; dsimp only; omega
theorem tot_filter {cs : List Int} (q : Nat → Nat) (i : Nat) : ∀ {l : List Th}, Ones cs l → tot i (l.filter fun t => decide (1 ≤ q (sy t))) = if 1 ≤ q i then tot i l else 0
  | [], _ => by simp [tot]
  | x :: l, h => by
    have ih := tot_filter q i (l := l) fun t ht => h t (List.mem_cons_of_mem _ ht)
    obtain ⟨k, rfl, _, _⟩ := h x List.mem_cons_self
    have hf : (one (cs.getD k 0) k).f i = if i = k then 1 else 0 := rfl
    rw [List.filter_cons, sy_one]
    by_cases c : 1 ≤ q k
    · rw [if_pos (by simpa using c), tot_cons, ih, tot_cons, hf]
      by_cases d : 1 ≤ q i
      · rw [if_pos d, if_pos d]
      · rw [if_neg d, if_neg d, if_neg (fun e : i = k => d (by rw [e]; exact c))]
    · rw [if_neg (by simpa using c), ih, tot_cons, hf]
      by_cases d : 1 ≤ q i
      · rw [if_pos d, if_pos d, if_neg (fun e : i = k => c (by rw [← e]; exact d)), Nat.zero_add]
      · rw [if_neg d, if_neg d]
theorem wid_lt (j d : Nat) : wid j d + 1 ≤ 2 ^ (j + 1) := by
  unfold wid
  have h1 : 1 ≤ 2 ^ (j + 1 - d) := Nat.one_le_two_pow
  have h2 : 1 ≤ 2 ^ (j + 1) := Nat.one_le_two_pow
  omega
/-- **what has the width of m has at least the weight of the first m** -/
theorem leastW {cs : List Int} (hl : cs.length ≤ 256) (h0 : ∀ i, 0 ≤ cs.getD i 0) : ∀ (j m : Nat) (q : Nat → Nat), (∀ i, q i ≤ j + 1) → (∀ i, ¬ (i < cs.length ∧ 0 < cs.getD i 0) → q i = 0) → m * 2 ^ j ≤ sumU cs.length (fun i => wid j (q i)) → totW ((rowF (thF cs) j).take m) ≤ sumN cs.length fun i => cs.getD i 0 * (q i : Nat) := by
  intro j m q hq hab hw
  have hF : Ones cs ((thF cs).filter fun t => decide (1 ≤ q (sy t))) := fun t ht => thF_ones cs t (List.mem_filter.1 ht).1
  have htot : ∀ i, tot i ((thF cs).filter fun t => decide (1 ≤ q (sy t))) = min (q i) 1 := fun i => by
    rw [tot_filter q i (thF_ones cs), thF_tot]
    by_cases c : i < cs.length ∧ 0 < cs.getD i 0
    · rw [if_pos c]
      by_cases d : 1 ≤ q i
      · rw [if_pos d]; omega
      · rw [if_neg d]; omega
    · rw [if_neg c, hab i c]; simp
  obtain ⟨s, hs⟩ : ∃ s, s = ((thF cs).filter fun t => decide (1 ≤ q (sy t))).length := ⟨_, rfl⟩
  have hsum : sumU cs.length (fun i => min (q i) 1) = s := by
    rw [hs, ← ones_sum hF]
    exact sumU_congr fun i _ => (htot i).symm
  have hsl : s ≤ (thF cs).length := by rw [hs]; exact List.length_filter_le _ _
  have hA : totW ((thF cs).take s) ≤ sumN cs.length fun i => cs.getD i 0 * ((min (q i) 1 : Nat) : Int) := by
    have h1 := take_filter (fun t => decide (1 ≤ q (sy t))) (thF_srtW hl)
    rw [← hs] at h1
    refine Int.le_trans h1 ?_
    rw [totW_eq (cs := cs) (l := (thF cs).filter fun t => decide (1 ≤ q (sy t))) fun t ht => TW_row cs 0 t (List.mem_filter.1 ht).1]
    exact Int.le_of_eq (sumN_congr fun i _ => by rw [htot])
  have hpos : ∀ t ∈ thF cs, 0 ≤ t.w := fun t ht => by
    obtain ⟨i, rfl, _, h3⟩ := thF_ones cs t ht
    exact Int.le_of_lt h3
  have hAl : (sumN cs.length fun i => cs.getD i 0 * ((min (q i) 1 : Nat) : Int)) ≤ sumN cs.length fun i => cs.getD i 0 * (q i : Nat) := sumN_le fun i _ => Int.mul_le_mul_of_nonneg_left (by omega) (h0 i)
  cases j with
  | zero =>
    rw [sumU_congr (h := fun i => min (q i) 1) fun i _ => by rw [wid_base (by have := hq i; omega)]; have := hq i; omega, hsum] at hw
    rw [Nat.pow_zero, Nat.mul_one] at hw
    rw [rowF]
    exact Int.le_trans (totW_mono hpos hw) (Int.le_trans hA hAl)
  | succ j =>
    have hsplit : sumU cs.length (fun i => wid (j + 1) (q i)) = s * 2 ^ (j + 1) + sumU cs.length (fun i => wid j (q i - 1)) := by
      rw [← hsum, ← sumU_mul, ← sumU_add]
      refine sumU_congr fun i _ => ?_
      rcases Nat.eq_zero_or_pos (q i) with c | c
      · rw [c]; simp [wid_zero]
      · have h1 := wid_succ (j := j) (d := q i - 1) (by have := hq i; omega)
        rw [show q i - 1 + 1 = q i by omega] at h1
        rw [h1, show min (q i) 1 = 1 by omega, Nat.one_mul]
    rw [hsplit] at hw
    have hps := srt_pairs (srt_row hl j)
    by_cases c : m ≤ s
    · have h1 := merge_min _ (thF cs) (pairsL (rowF (thF cs) j)) m 0 (Nat.le_refl _) (thF_srtW hl) hps (by omega) (Nat.zero_le _)
      rw [Nat.add_zero, List.take_zero, totW_nil] at h1
      rw [rowF]
      have h2 := totW_mono hpos c
      omega
    · obtain ⟨p, hp⟩ : ∃ p, m = s + p := ⟨m - s, by omega⟩
      subst hp
      have hw2 : 2 * p * 2 ^ j ≤ sumU cs.length (fun i => wid j (q i - 1)) := by
        rw [Nat.add_mul] at hw
        have e : p * 2 ^ (j + 1) = 2 * p * 2 ^ j := by rw [Nat.pow_succ, Nat.mul_comm (2 ^ j) 2, ← Nat.mul_assoc, Nat.mul_comm p 2]
        omega
      have hmax : sumU cs.length (fun i => wid j (q i - 1)) + (thF cs).length ≤ (thF cs).length * 2 ^ (j + 1) := by
        rw [← thF_count, ← sumU_add, ← sumU_mul]
        refine sumU_le fun i hi => ?_
        by_cases d : 0 < cs.getD i 0
        · rw [if_pos d, Nat.one_mul]; exact wid_lt j _
        · rw [if_neg d, hab i (fun k => d k.2)]; simp [wid_zero]
      have hd := row_def (thF cs) j
      have hr := row_le (thF cs) j
      have h2p : 2 * p ≤ (rowF (thF cs) j).length := by
        rcases Nat.lt_or_ge (rowF (thF cs) j).length (2 * p) with k | k
        · exfalso
          have e1 : ((rowF (thF cs) j).length + 1) * 2 ^ j ≤ 2 * p * 2 ^ j := Nat.mul_le_mul_right _ k
          have e2 : (thF cs).length * 2 ^ (j + 1) = 2 * (thF cs).length * 2 ^ j := by rw [Nat.pow_succ, Nat.mul_comm (2 ^ j) 2, ← Nat.mul_assoc, Nat.mul_comm (thF cs).length 2]
          obtain ⟨x, hx⟩ : ∃ x, 2 * (thF cs).length = (rowF (thF cs) j).length + x := ⟨2 * (thF cs).length - (rowF (thF cs) j).length, by omega⟩
          rw [show 2 * (thF cs).length - (rowF (thF cs) j).length = x by omega] at hd
          rw [e2, hx] at hmax
          rw [Nat.add_mul] at e1 hmax
          rw [Nat.mul_comm (2 ^ j) x] at hd
          have hp1 : 1 ≤ 2 ^ j := Nat.one_le_two_pow
          omega
        · exact k
      have ih := leastW hl h0 j (2 * p) (fun i => q i - 1) (fun i => by have := hq i; omega) (fun i hi => by rw [hab i hi]) hw2
      have h1 := merge_min _ (thF cs) (pairsL (rowF (thF cs) j)) s p (Nat.le_refl _) (thF_srtW hl) hps hsl (by rw [pairs_len]; omega)
      rw [pairs_totW p _ h2p] at h1
      rw [rowF]
      refine Int.le_trans h1 ?_
      have e : (sumN cs.length fun i => cs.getD i 0 * (q i : Nat)) = (sumN cs.length fun i => cs.getD i 0 * ((min (q i) 1 : Nat) : Int)) + sumN cs.length fun i => cs.getD i 0 * ((q i - 1 : Nat) : Int) := by
        rw [← sumN_add]
        refine sumN_congr fun i _ => ?_
        rw [← Int.mul_add]; congr 1; omega
      rw [e]; omega
/-- the cost of the lengths -/
theorem cost_eq (cs : List Int) (lim : Nat) : totW (takeF cs lim) = sumN cs.length fun i => cs.getD i 0 * (dF cs lim i : Nat) := by
  rw [totW_eq (cs := cs) fun t ht => TW_row cs _ t (by unfold takeF at ht; exact List.mem_of_mem_take ht)]
  rfl
/-- **no lengths cost less** -/
theorem least_lens {cs : List Int} (hl : cs.length ≤ 256) (h0 : ∀ i, 0 ≤ cs.getD i 0) {lim : Nat} (h1 : 1 ≤ lim) (hk : (thF cs).length ≤ 2 ^ lim) (q : Nat → Nat) (hq : ∀ i, q i ≤ lim) (hp : ∀ i, i < cs.length → 0 < cs.getD i 0 → 1 ≤ q i) (hab : ∀ i, ¬ (i < cs.length ∧ 0 < cs.getD i 0) → q i = 0) (hkr : sumU cs.length (fun i => if 0 < cs.getD i 0 then 2 ^ (lim - q i) else 0) ≤ 2 ^ lim) :
    (sumN cs.length fun i => cs.getD i 0 * (dF cs lim i : Nat)) ≤ sumN cs.length fun i => cs.getD i 0 * (q i : Nat) := by
  rcases Nat.lt_or_ge (thF cs).length 2 with c | c
  · refine sumN_le fun i hi => ?_
    by_cases d : 0 < cs.getD i 0
    · refine Int.mul_le_mul_of_nonneg_left ?_ (h0 i)
      have h2 := hp i hi d
      have h3 : dF cs lim i ≤ 1 := by
        have h4 := fs_tot_le (cs := cs) i (max (2 * (thF cs).length - 2) 1)
        rcases Nat.lt_or_ge (thF cs).length 1 with k | k
        · unfold dF takeF; rw [row_none (by omega)]; simp [tot]
        · unfold dF takeF; rw [row_one (by omega)]; exact h4
      omega
    · rw [show cs.getD i 0 = 0 by have := h0 i; omega]; simp
  · obtain ⟨j, rfl⟩ : ∃ j, lim = j + 1 := ⟨lim - 1, by omega⟩
    rw [← cost_eq, takeF_eq c, Nat.add_sub_cancel]
    refine leastW hl h0 j _ q (fun i => hq i) hab ?_
    have hs : sumU cs.length (fun i => wid j (q i) + if 0 < cs.getD i 0 then 2 ^ (j + 1 - q i) else 0) = sumU cs.length (fun i => (if 0 < cs.getD i 0 then 1 else 0) * 2 ^ (j + 1)) := sumU_congr fun i hi => by
      by_cases c : 0 < cs.getD i 0
      · rw [if_pos c, if_pos c, Nat.one_mul, wid_pow (hq i)]
      · rw [if_neg c, if_neg c, hab i (fun k => c k.2), wid_zero, Nat.zero_mul]
    rw [sumU_add, sumU_mul, thF_count] at hs
    have e1 : 2 ^ (j + 1) = 2 * 2 ^ j := by rw [Nat.pow_succ]; omega
    have e2 : (thF cs).length * 2 ^ (j + 1) = (2 * (thF cs).length - 2) * 2 ^ j + 2 ^ (j + 1) := by
      rw [e1, ← Nat.mul_assoc, ← Nat.add_mul]
      congr 1; omega
    omega
