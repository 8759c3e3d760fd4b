/- Encode: what it computes, and what follows. Plain laws. -/
import Derived.Test.YteanplpnhlgjeaaT12
namespace Go.Proofs.Yteanplpnhlgjeaa.E
open Go
/-- how many bytes are alike at the beginning -/
def lcp : List UInt8 → List UInt8 → Nat
  | a :: xs, b :: bs => if a = b then lcp xs bs + 1 else 0
  | _, _ => 0
theorem lcp_le : ∀ (a b : List UInt8), lcp a b ≤ a.length
  | [], _ => by simp [lcp]
  | _ :: _, [] => by simp [lcp]
  | a :: xs, b :: bs => by
    rw [lcp]; split
    · have := lcp_le xs bs; simp only [List.length_cons]; omega
    · omega
theorem lcp_at : ∀ (a b : List UInt8) (k : Nat), k < lcp a b → a.getD k 0 = b.getD k 0
  | [], _, _, h => by simp [lcp] at h
  | _ :: _, [], _, h => by simp [lcp] at h
  | a :: xs, b :: bs, k, h => by
    rw [lcp] at h
    split at h
    · rename_i e
      cases k with
      | zero => simpa using e
      | succ k => simpa using lcp_at xs bs k (by omega)
    · omega
theorem lcp_is : ∀ (a b : List UInt8) (n : Nat), n ≤ a.length → n ≤ b.length → (∀ k, k < n → a.getD k 0 = b.getD k 0) → (n = a.length ∨ (n < b.length ∧ ¬ a.getD n 0 = b.getD n 0)) → lcp a b = n
  | [], b, n, h, _, _, _ => by simp at h; subst h; cases b <;> rfl
  | a :: xs, [], n, _, h, _, h4 => by
    simp at h; subst h
    rcases h4 with h4 | h4
    · simp at h4
    · exact absurd h4.1 (by simp)
  | a :: xs, b :: bs, n, h1, h2, h3, h4 => by
    cases n with
    | zero =>
      rcases h4 with h4 | h4
      · simp at h4
      · rw [lcp, if_neg (by simpa using h4.2)]
    | succ n =>
      have e := h3 0 (by omega)
      simp at e
      simp only [List.length_cons] at h1 h2 h4
      rw [lcp, if_pos e, lcp_is xs bs n (by omega) (by omega) (fun k hk => by simpa using h3 (k + 1) (by omega)) (by
        rcases h4 with h4 | h4
        · exact .inl (by omega)
        · exact .inr ⟨by omega, by simpa using h4.2⟩)]
/-- of a place and an earlier one: how many bytes are alike, at most 259 -/
def lcF (T : List UInt8) (i j : Nat) : Nat := lcp ((T.drop i).take 259) (T.drop j)
theorem getD_drop {T : List UInt8} {i k : Nat} : (T.drop i).getD k 0 = T.getD (i + k) 0 := by
  rw [List.getD_eq_getElem?_getD, List.getD_eq_getElem?_getD, List.getElem?_drop]
theorem getD_take {T : List UInt8} {m k : Nat} (h : k < m) : (T.take m).getD k 0 = T.getD k 0 := by
  rw [List.getD_eq_getElem?_getD, List.getD_eq_getElem?_getD, List.getElem?_take_of_lt h]
theorem lcF_le {T : List UInt8} {i j : Nat} : lcF T i j ≤ 259 ∧ lcF T i j ≤ T.length - i := by
  have := lcp_le ((T.drop i).take 259) (T.drop j)
  rw [List.length_take, List.length_drop] at this
  unfold lcF; omega
theorem lcF_at {T : List UInt8} {i j k : Nat} (h : k < lcF T i j) : T.getD (i + k) 0 = T.getD (j + k) 0 := by
  have hl := lcF_le (T := T) (i := i) (j := j)
  have := lcp_at _ _ k h
  rwa [getD_take (by omega), getD_drop, getD_drop] at this
theorem lcF_is {T : List UInt8} {i j n : Nat} (hj : j ≤ i) (h1 : n ≤ 259) (h2 : i + n ≤ T.length) (h3 : ∀ k, k < n → T.getD (i + k) 0 = T.getD (j + k) 0) (h4 : n = 259 ∨ i + n = T.length ∨ ¬ T.getD (i + n) 0 = T.getD (j + n) 0) : lcF T i j = n := by
  unfold lcF
  refine lcp_is _ _ n ?_ ?_ (fun k hk => ?_) ?_
  · rw [List.length_take, List.length_drop]; omega
  · rw [List.length_drop]; omega
  · rw [getD_take (by omega), getD_drop, getD_drop]; exact h3 k hk
  · by_cases c : n = 259 ∨ i + n = T.length
    · refine .inl ?_
      rw [List.length_take, List.length_drop]; omega
    · rcases h4 with h4 | h4 | h4
      · exact absurd (.inl h4) c
      · exact absurd (.inr h4) c
      · refine .inr ⟨by rw [List.length_drop]; omega, ?_⟩
        rw [getD_take (by omega), getD_drop, getD_drop]; exact h4
/-- do the same four bytes stand at both places? -/
def alk (T : List UInt8) (i j : Nat) : Prop := T.getD i 0 = T.getD j 0 ∧ T.getD (i + 1) 0 = T.getD (j + 1) 0 ∧ T.getD (i + 2) 0 = T.getD (j + 2) 0 ∧ T.getD (i + 3) 0 = T.getD (j + 3) 0
instance (T : List UInt8) (i j : Nat) : Decidable (alk T i j) := by unfold alk; infer_instance
theorem alk_lc {T : List UInt8} {i j : Nat} (hj : j ≤ i) (hi : i + 4 ≤ T.length) : alk T i j ↔ 4 ≤ lcF T i j := by
  constructor
  · intro ⟨a0, a1, a2, a3⟩
    rcases Nat.lt_or_ge (lcF T i j) 4 with h | h
    · exfalso
      -- the first place where they part is one of the four
      have hx : lcp ((T.drop i).take 259) (T.drop j) < 4 := h
      have key : ∀ (m : Nat) (a b : List UInt8), m ≤ a.length → m ≤ b.length → (∀ k, k < m → a.getD k 0 = b.getD k 0) → m ≤ lcp a b := by
        intro m
        induction m with
        | zero => intros; omega
        | succ m ih =>
          intro a b h1 h2 h3
          cases a with
          | nil => simp at h1
          | cons x xs =>
            cases b with
            | nil => simp at h2
            | cons y bs =>
              have e := h3 0 (by omega)
              simp at e
              simp only [List.length_cons] at h1 h2
              rw [lcp, if_pos e]
              have := ih xs bs (by omega) (by omega) (fun k hk => by simpa using h3 (k + 1) (by omega))
              omega
      have := key 4 ((T.drop i).take 259) (T.drop j) (by rw [List.length_take, List.length_drop]; omega) (by rw [List.length_drop]; omega) (fun k hk => by
        rw [getD_take (by omega), getD_drop, getD_drop]
        match k, hk with
        | 0, _ => exact a0
        | 1, _ => exact a1
        | 2, _ => exact a2
        | 3, _ => exact a3)
      omega
    · exact h
  · intro h
    exact ⟨lcF_at (k := 0) (by omega), lcF_at (k := 1) (by omega), lcF_at (k := 2) (by omega), lcF_at (k := 3) (by omega)⟩
/-- how many bytes a number below 2^21 has -/
def plen (v : Nat) : Nat := if v < 128 then 1 else if v < 16384 then 2 else 3
theorem plen_put {v : Int} (h0 : 0 ≤ v) (h : v < 2097152) : (putI v).length = plen v.toNat := by
  unfold plen
  by_cases c1 : v < 128
  · rw [putI_lt h0 c1, if_pos (by omega)]; rfl
  · rw [putI_ge (by omega), List.length_cons, if_neg (by omega)]
    by_cases c2 : v < 16384
    · rw [putI_lt (by omega) (by omega), if_pos (by omega)]; rfl
    · rw [putI_ge (by omega), List.length_cons, putI_lt (by omega) (by omega), if_neg (by omega)]; rfl
theorem plen_nat {v : Nat} (h : v < 2097152) : (putI (v : Nat)).length = plen v := plen_put (by omega) (by omega)
theorem plen_cases (v : Nat) : (v < 128 ∧ plen v = 1) ∨ (128 ≤ v ∧ v < 16384 ∧ plen v = 2) ∨ (16384 ≤ v ∧ plen v = 3) := by
  unfold plen
  by_cases c1 : v < 128
  · exact .inl ⟨c1, if_pos c1⟩
  · rw [if_neg c1]
    by_cases c2 : v < 16384
    · exact .inr (.inl ⟨by omega, c2, if_pos c2⟩)
    · exact .inr (.inr ⟨by omega, if_neg c2⟩)
theorem plen_bd (v : Nat) : 1 ≤ plen v ∧ plen v ≤ 3 := by have := plen_cases v; omega
/-- the places below m where the same four bytes stand, the nearest first -/
def cands (T : List UInt8) (i : Nat) : Nat → List Nat
  | 0 => []
  | j + 1 => if alk T i j then j :: cands T i j else cands T i j
/-- the longest of the first sixteen within reach: how far back, how many bytes -/
def pick (T : List UInt8) (i : Nat) : List Nat → Nat → Nat → Nat → Nat × Nat
  | [], _, d, b => (d, b)
  | j :: js, s, d, b => if i - j ≤ 32768 ∧ s < 16 then (if b < lcF T i j ∧ 3 + plen (i - j) ≤ lcF T i j then pick T i js (s + 1) (i - j) (lcF T i j) else pick T i js (s + 1) d b) else (d, b)
def bestF (T : List UInt8) (i : Nat) : Nat × Nat := if i + 4 ≤ T.length then pick T i (cands T i i) 0 0 0 else (0, 0)
/-- the tokens from place i on, the bytes from place j on not being told -/
def ownK (T : List UInt8) : Nat → Nat → Nat → List Pk
  | 0, _, j => if j < T.length then [(T.drop j, 0, 0)] else []
  | k + 1, i, j => if i < T.length then (if (bestF T i).2 = 0 then ownK T k (i + 1) j else ((T.take i).drop j, ((bestF T i).1 : Int), ((bestF T i).2 : Int)) :: ownK T k (i + (bestF T i).2) (i + (bestF T i).2)) else (if j < T.length then [(T.drop j, 0, 0)] else [])
def ownF (T : List UInt8) : List Pk := ownK T T.length 0 0
def encF (T : List UInt8) : List UInt8 × Int := if 65536 < T.length then ([], 2) else (toksB (ownF T), 0)
theorem encF_long {T : List UInt8} (h : 65536 < T.length) : encF T = ([], 2) := by unfold encF; rw [if_pos h]
theorem encF_ok {T : List UInt8} (h : T.length ≤ 65536) : encF T = (toksB (ownF T), 0) := by unfold encF; rw [if_neg (by omega)]
theorem cands_mem {T : List UInt8} {i j : Nat} : ∀ {m : Nat}, j ∈ cands T i m → j < m ∧ alk T i j
  | m + 1, h => by
    rw [cands] at h
    split at h
    · rename_i c
      rcases List.mem_cons.1 h with rfl | h
      · exact ⟨by omega, c⟩
      · have := cands_mem h; exact ⟨by omega, this.2⟩
    · have := cands_mem h; exact ⟨by omega, this.2⟩
theorem cands_skip {T : List UInt8} {i : Nat} : ∀ {m n : Nat}, n ≤ m → (∀ j, n ≤ j → j < m → ¬ alk T i j) → cands T i m = cands T i n
  | 0, n, h, _ => by rw [show n = 0 by omega]
  | m + 1, n, h, hn => by
    rcases Nat.lt_or_ge n (m + 1) with c | c
    · rw [cands, if_neg (hn m (by omega) (by omega)), cands_skip (by omega) fun j a b => hn j a (by omega)]
    · rw [show n = m + 1 by omega]
theorem pick_far {T : List UInt8} {i : Nat} {l : List Nat} {s d b : Nat} (h : ∀ j ∈ l, ¬ i - j ≤ 32768) : pick T i l s d b = (d, b) := by
  cases l with
  | nil => rfl
  | cons j js => rw [pick, if_neg (fun k => h j (by simp) k.1)]
theorem pick_16 {T : List UInt8} {i : Nat} {l : List Nat} {s d b : Nat} (h : 16 ≤ s) : pick T i l s d b = (d, b) := by
  cases l with
  | nil => rfl
  | cons j js => rw [pick, if_neg (fun k => by omega)]
/-- nothing is better than as many as may be -/
theorem pick_most {T : List UInt8} {i : Nat} : ∀ (l : List Nat) (s d b : Nat), (b = 259 ∨ T.length ≤ i + b) → pick T i l s d b = (d, b)
  | [], _, _, _, _ => rfl
  | j :: js, s, d, b, h => by
    have := lcF_le (T := T) (i := i) (j := j)
    rw [pick, if_neg (c := b < lcF T i j ∧ _) (fun k => by omega)]
    split
    · exact pick_most js _ d b h
    · rfl
/-- what is picked is a match -/
def fitM (T : List UInt8) (i : Nat) (p : Nat × Nat) : Prop := p.2 = 0 ∨ (1 ≤ p.1 ∧ p.1 ≤ i ∧ p.1 ≤ 32768 ∧ 3 + plen p.1 ≤ p.2 ∧ p.2 = lcF T i (i - p.1))
theorem pick_fit {T : List UInt8} {i : Nat} : ∀ (l : List Nat) (s d b : Nat), (∀ j ∈ l, j < i) → fitM T i (d, b) → fitM T i (pick T i l s d b)
  | [], _, _, _, _, h => h
  | j :: js, s, d, b, hl, h => by
    have hj := hl j (by simp)
    have hjs : ∀ j ∈ js, j < i := fun x hx => hl x (List.mem_cons_of_mem _ hx)
    rw [pick]
    split
    · rename_i c
      split
      · rename_i c2
        refine pick_fit js _ _ _ hjs (.inr ⟨by simp only; omega, by simp only; omega, c.1, c2.2, ?_⟩)
        simp only
        rw [show i - (i - j) = j by omega]
      · exact pick_fit js _ _ _ hjs h
    · exact h
theorem best_fit (T : List UInt8) (i : Nat) : fitM T i (bestF T i) := by
  unfold bestF
  split
  · exact pick_fit _ _ _ _ (fun j hj => (cands_mem hj).1) (.inl rfl)
  · exact .inl rfl
theorem best_le {T : List UInt8} {i : Nat} : (bestF T i).2 ≤ 259 ∧ (bestF T i).2 ≤ T.length - i ∧ (¬ (bestF T i).2 = 0 → 4 ≤ (bestF T i).2 ∧ i < T.length ∧ 1 ≤ (bestF T i).1 ∧ (bestF T i).1 ≤ i ∧ (bestF T i).1 ≤ 32768) := by
  have h := best_fit T i
  have hp := plen_bd (bestF T i).1
  rcases h with h | ⟨h1, h2, h3, h4, h5⟩
  · exact ⟨by omega, by omega, fun k => absurd h k⟩
  · have := lcF_le (T := T) (i := i) (j := i - (bestF T i).1)
    exact ⟨by omega, by omega, fun _ => by omega⟩
theorem agn_text {T : List UInt8} {i d : Nat} (hd : 1 ≤ d) (hdi : d ≤ i) : ∀ n, i + n ≤ T.length → (∀ k, k < n → T.getD (i + k) 0 = T.getD (i - d + k) 0) → agn (T.take i) d n = T.take (i + n)
  | 0, _, _ => rfl
  | n + 1, h, hk => by
    have ih := agn_text hd hdi n (by omega) fun k hk' => hk k (by omega)
    rw [agn, ih, List.length_take, Nat.min_eq_left (by omega), ← Nat.add_assoc, takeG 0 (by omega), getD_take (by omega)]
    rw [show i + n - d = i - d + n by omega, ← hk n (by omega)]
/-- **the tokens tell the text** -/
theorem own_exp {T : List UInt8} (hT : T.length ≤ 65536) : ∀ (k i j : Nat), j ≤ i → T.length ≤ i + k → (i ≤ T.length) → expG (ownK T k i j) (T.take j) = (T, 0)
  | 0, i, j, hj, hk, hi => by
    rw [ownK]
    split
    · rename_i c
      have hl : (T.take j).length + (T.drop j).length = T.length := by rw [← List.length_append, List.take_append_drop]
      rw [expG, if_neg, if_neg]
      · show expG [] (agn (T.take j ++ T.drop j) 0 0) = _
        rw [List.take_append_drop]; rfl
      · show ¬ 65536 < (((T.take j).length + (T.drop j).length : Nat) : Int) + 0
        rw [hl]; omega
      · refine fun h => h ((okT_none ⟨rfl, rfl⟩).2 ⟨by simp, ?_⟩)
        show 0 < (T.drop j).length
        rw [List.length_drop]; omega
    · rename_i c
      rw [List.take_of_length_le (by omega)]; rfl
  | k + 1, i, j, hj, hk, hi => by
    rw [ownK]
    by_cases c : i < T.length
    · rw [if_pos c]
      have hb := best_le (T := T) (i := i)
      by_cases c2 : (bestF T i).2 = 0
      · rw [if_pos c2]; exact own_exp hT k (i + 1) j (by omega) (by omega) (by omega)
      · rw [if_neg c2]
        obtain ⟨b1, b2, b3, b4, b5⟩ := hb.2.2 c2
        have hl : (T.take j).length + ((T.take i).drop j).length = i := by rw [List.length_take, List.length_drop, List.length_take]; omega
        have hcut : T.take j ++ (T.take i).drop j = T.take i := by
          have := List.take_append_drop j (T.take i)
          rwa [List.take_take, Nat.min_eq_left hj] at this
        have hf : ∀ k, k < (bestF T i).2 → T.getD (i + k) 0 = T.getD (i - (bestF T i).1 + k) 0 := by
          intro k hk
          rcases best_fit T i with h | h
          · exact absurd h c2
          · exact lcF_at (by rw [← h.2.2.2.2]; exact hk)
        rw [expG, if_neg, if_neg]
        · show expG _ (agn (T.take j ++ (T.take i).drop j) ((bestF T i).1 : Int).toNat ((bestF T i).2 : Int).toNat) = _
          rw [hcut, Int.toNat_natCast, Int.toNat_natCast, agn_text b3 b4 _ (by omega) hf]
          exact own_exp hT k _ _ (by omega) (by omega) (by omega)
        · show ¬ 65536 < (((T.take j).length + ((T.take i).drop j).length : Nat) : Int) + ((bestF T i).2 : Int)
          rw [hl]; omega
        · refine fun h => h ((okT_some (fun hn => ?_)).2 ?_)
          · have := hn.2; simp only at this; omega
          · simp only
            rw [hl]; omega
    · rw [if_neg c]
      by_cases c2 : j < T.length
      · rw [if_pos c2]
        have := own_exp hT 0 i j hj (by omega) hi
        rw [ownK, if_pos c2] at this; exact this
      · rw [if_neg c2, List.take_of_length_le (by omega)]; rfl
theorem own_text {T : List UInt8} (h : T.length ≤ 65536) : expF (ownF T) = (T, 0) := own_exp h T.length 0 0 (by omega) (by omega) (by omega)
theorem enc_dec {T : List UInt8} (h : T.length ≤ 65536) : rdF (encF T).1 T.length = some (ownF T) := by
  rw [encF_ok h]
  have := rd_toks (suf := []) (b := toksB (ownF T)) (n := T.length) (ts := ownF T) (by rw [own_text h]) (by rw [own_text h]) (by simp)
  rwa [if_pos rfl] at this
/-! ### how many bytes -/
/-- what a token costs over the text that it tells -/
theorem tok_cost {t : Pk} (h1 : t.1.length ≤ 65536) (h : ¬ noneT t) (h2 : 4 ≤ t.2.2) (h3 : t.2.2 ≤ 259) (h4 : 1 ≤ t.2.1 ∧ t.2.1 ≤ 32768) (h5 : 3 + plen t.2.1.toNat ≤ t.2.2.toNat) : (tokB t).length + 2 ≤ t.1.length + t.2.2.toNat + plen t.1.length := by
  have e : (tokB t).length = (putI (t.1.length : Nat)).length + (t.1.length + ((putI (t.2.2 - 4)).length + (putI t.2.1).length)) := by rw [tokP_some h]; simp only [List.length_append]
  rw [plen_nat (by omega), plen_put (by omega) (by omega), plen_put (by omega) (by omega)] at e
  have hb := plen_bd t.2.1.toNat
  have : plen (t.2.2 - 4).toNat ≤ 2 ∧ (128 ≤ (t.2.2 - 4) ∨ plen (t.2.2 - 4).toNat = 1) := by
    unfold plen
    by_cases c : (t.2.2 - 4).toNat < 128
    · rw [if_pos c]; omega
    · rw [if_neg c, if_pos (by omega)]; omega
  omega
/-- the bytes over the text: E; the text: L. big tokens are few -/
def Cost (n : Nat) (B L : Nat) : Prop := (n < 128 → B ≤ L + 1) ∧ (n < 16384 → B ≤ L + 2) ∧ ∃ k f, B ≤ L + k + f ∧ k * 16388 + (if f = 3 then 16384 else 0) ≤ L ∧ f ≤ 3
theorem cost_own {T : List UInt8} (hT : T.length ≤ 65536) : ∀ (k i j : Nat), j ≤ i → i ≤ T.length → T.length ≤ i + k → Cost T.length (toksB (ownK T k i j)).length (T.length - j)
  | 0, i, j, hj, hi, hk => by
    rw [ownK]
    split
    · rename_i c
      have e : (toksB [((T.drop j, 0, 0) : Pk)]).length = plen (T.length - j) + (T.length - j) := by
        rw [toksB_cons, tokP_none ⟨rfl, rfl⟩]
        show (putI ((T.drop j).length : Nat) ++ T.drop j ++ []).length = _
        rw [List.append_nil, List.length_append, plen_nat (by rw [List.length_drop]; omega), List.length_drop]
      rw [e]
      have hb := plen_bd (T.length - j)
      have hc := plen_cases (T.length - j)
      refine ⟨fun h => by omega, fun h => by omega, 0, plen (T.length - j), by omega, ?_, by omega⟩
      by_cases c3 : plen (T.length - j) = 3
      · rw [if_pos c3]; omega
      · rw [if_neg c3]; simp
    · exact ⟨fun _ => by simp [toksB], fun _ => by simp [toksB], 0, 0, by simp [toksB], by simp, by omega⟩
  | k + 1, i, j, hj, hi, hk => by
    rw [ownK]
    by_cases c : i < T.length
    · rw [if_pos c]
      have hb := best_le (T := T) (i := i)
      by_cases c2 : (bestF T i).2 = 0
      · rw [if_pos c2]; exact cost_own hT k (i + 1) j (by omega) (by omega) (by omega)
      · rw [if_neg c2]
        obtain ⟨b1, b2, b3, b4, b5⟩ := hb.2.2 c2
        obtain ⟨i1, i2, K, f, i3, i4, i5⟩ := cost_own hT k (i + (bestF T i).2) (i + (bestF T i).2) (by omega) (by omega) (by omega)
        have hl : ((T.take i).drop j).length = i - j := by rw [List.length_drop, List.length_take]; omega
        have hpp : 3 + plen (bestF T i).1 ≤ (bestF T i).2 := by
          rcases best_fit T i with h | h
          · exact absurd h c2
          · exact h.2.2.2.1
        have hc := tok_cost (t := ((T.take i).drop j, ((bestF T i).1 : Int), ((bestF T i).2 : Int))) (by simp only; omega) (fun hn => by have := hn.2; simp only at this; omega) (by simp only; omega) (by simp only; omega) (by simp only; omega) (by simpa using hpp)
        simp only [hl, Int.toNat_natCast] at hc
        rw [toksB_cons, List.length_append]
        have hp := plen_bd (i - j)
        refine ⟨fun h => ?_, fun h => ?_, ?_⟩
        · have := plen_cases (i - j)
          have := i1 h; omega
        · have : plen (i - j) ≤ 2 := by have := plen_cases (i - j); omega
          have := i2 h; omega
        · by_cases c3 : plen (i - j) = 3
          · have := plen_cases (i - j)
            refine ⟨K + 1, f, ?_, ?_, i5⟩
            · clear i4 i1 i2; omega
            · rw [Nat.add_mul, Nat.one_mul, Nat.add_right_comm]
              refine Nat.le_trans (Nat.add_le_add_right i4 _) ?_
              clear i1 i2 i3 i4; omega
          · have i6 := plen_cases (i - j)
            refine ⟨K, f, ?_, ?_, i5⟩
            · clear i4 i1 i2; omega
            · refine Nat.le_trans i4 ?_
              clear i4 i1 i2; omega
    · rw [if_neg c]
      have := cost_own hT 0 i j hj hi (by omega)
      rw [ownK] at this; exact this
/-- **Encode's bytes are within Bound** -/
theorem enc_bound {T : List UInt8} (h : T.length ≤ 65536) : (encF T).1.length ≤ T.length + 5 ∧ (T.length < 16384 → (encF T).1.length ≤ T.length + 2) ∧ (T.length < 128 → (encF T).1.length ≤ T.length + 1) ∧ (T.length = 0 → (encF T).1.length = 0) := by
  rw [encF_ok h]
  obtain ⟨h1, h2, k, f, h3, h4, h5⟩ := cost_own h T.length 0 0 (by omega) (by omega) (by omega)
  simp only [Nat.sub_zero] at h1 h2 h3 h4
  refine ⟨?_, h2, h1, fun h0 => ?_⟩
  · show (toksB (ownK T T.length 0 0)).length ≤ _
    have : k + f ≤ 5 := by
      rcases Nat.lt_or_ge k 3 with c | c
      · omega
      · rcases Nat.lt_or_ge k 4 with c2 | c2
        · obtain rfl : k = 3 := by omega
          by_cases c3 : f = 3
          · rw [if_pos c3] at h4; omega
          · omega
        · have := Nat.mul_le_mul_right 16388 c2; omega
    omega
  · have : T = [] := List.length_eq_zero_iff.1 h0
    subst this; rfl
theorem enc_len {T : List UInt8} : (encF T).1.length ≤ 65541 := by
  by_cases c : 65536 < T.length
  · rw [encF_long c]; simp
  · have := (enc_bound (T := T) (by omega)).1; omega

/-! ### a text of one byte -/
theorem rep_getD {n i : Nat} {c : UInt8} (h : i < n) : (List.replicate n c).getD i 0 = c := repG 0 h
theorem rep_best {n i : Nat} {c : UInt8} (h1 : 1 ≤ i) (h : i + 4 ≤ n) : bestF (List.replicate n c) i = (1, min 259 (n - i)) := by
  have hlc : lcF (List.replicate n c) i (i - 1) = min 259 (n - i) := lcF_is (by omega) (by omega) (by rw [List.length_replicate]; omega) (fun k hk => by rw [rep_getD (by omega), rep_getD (by omega)]) (by rw [List.length_replicate]; omega)
  have hal : alk (List.replicate n c) i (i - 1) := (alk_lc (by omega) (by rw [List.length_replicate]; omega)).2 (by rw [hlc]; omega)
  unfold bestF
  rw [List.length_replicate, if_pos h]
  obtain ⟨j, rfl⟩ : ∃ j, i = j + 1 := ⟨i - 1, by omega⟩
  rw [Nat.add_sub_cancel] at hlc hal
  have hp : plen 1 = 1 := by decide
  rw [cands, if_pos hal, pick, if_pos ⟨by omega, by omega⟩, hlc, show j + 1 - j = 1 by omega, hp, if_pos ⟨by omega, by omega⟩, pick_most]
  rw [List.length_replicate]; omega
theorem own_tail {T : List UInt8} : ∀ (k i j : Nat), T.length < i + 4 → T.length ≤ i + k → ownK T k i j = if j < T.length then [(T.drop j, 0, 0)] else []
  | 0, _, _, _, _ => rfl
  | k + 1, i, j, h, hk => by
    rw [ownK]
    split
    · have e : bestF T i = (0, 0) := by unfold bestF; rw [if_neg (by omega)]
      rw [e, if_pos rfl]; exact own_tail k (i + 1) j (by omega) (by omega)
    · rfl
theorem lit_len {T : List UInt8} {j : Nat} (h : T.length ≤ j + 127) : (toksB (if j < T.length then [((T.drop j, 0, 0) : Pk)] else [])).length ≤ T.length - j + 1 := by
  split
  · rw [toksB_cons, tokP_none ⟨rfl, rfl⟩]
    show (putI ((T.drop j).length : Nat) ++ T.drop j ++ []).length ≤ _
    rw [List.append_nil, List.length_append, putI_lt (by omega) (by rw [List.length_drop]; omega), List.length_drop]
    simp only [List.length_cons, List.length_nil]; omega
  · simp [toksB]
theorem run_tok {l : List UInt8} {m : Nat} (hl : l.length ≤ 1) (h4 : 4 ≤ m) (hm : m ≤ 259) : (tokB (l, ((1 : Nat) : Int), (m : Int))).length ≤ 4 + l.length := by
  rw [tokP_some (fun hn => by have := hn.2; simp only at this; omega)]
  simp only [List.length_append]
  rw [putI_lt (v := ((l.length : Nat) : Int)) (by omega) (by omega), putI_lt (v := ((1 : Nat) : Int)) (by omega) (by omega), plen_put (by omega) (by omega)]
  have : plen ((m : Int) - 4).toNat ≤ 2 := by have := plen_cases ((m : Int) - 4).toNat; omega
  simp only [List.length_cons, List.length_nil]; omega
theorem rep_rest {n : Nat} {c : UInt8} (hn : n ≤ 65536) : ∀ (k i : Nat), 1 ≤ i → i ≤ n → n ≤ i + k → (toksB (ownK (List.replicate n c) k i i)).length ≤ 4 * ((n - i) / 259) + 4
  | 0, i, _, hi, hk => by
    rw [own_tail _ _ _ (by rw [List.length_replicate]; omega) (by rw [List.length_replicate]; omega)]
    have := lit_len (T := List.replicate n c) (j := i) (by rw [List.length_replicate]; omega)
    rw [List.length_replicate] at this ⊢; omega
  | k + 1, i, h1, hi, hk => by
    by_cases c4 : i + 4 ≤ n
    · rw [ownK, List.length_replicate, if_pos (by omega), rep_best h1 c4, if_neg (by simp only; omega)]
      rw [toksB_cons, List.length_append]
      have ht := run_tok (l := ((List.replicate n c).take i).drop i) (m := min 259 (n - i)) (by rw [List.length_drop, List.length_take]; omega) (by omega) (by omega)
      have e0 : (((List.replicate n c).take i).drop i).length = 0 := by rw [List.length_drop, List.length_take]; omega
      rw [e0] at ht
      simp only at ht ⊢
      have ih := rep_rest (c := c) hn k (i + min 259 (n - i)) (by omega) (by omega) (by omega)
      rcases Nat.lt_or_ge 259 (n - i) with q | q
      · rw [show min 259 (n - i) = 259 by omega] at ih ht ⊢
        have : (n - i) / 259 = (n - (i + 259)) / 259 + 1 := by omega
        omega
      · rw [show min 259 (n - i) = n - i by omega, show i + (n - i) = n by omega] at ih ⊢
        rw [show min 259 (n - i) = n - i by omega] at ht
        have e : ownK (List.replicate n c) k n n = [] := by
          rw [own_tail _ _ _ (by rw [List.length_replicate]; omega) (by rw [List.length_replicate]; omega), if_neg (by rw [List.length_replicate]; omega)]
        rw [e]
        have : (toksB []).length = 0 := rfl
        omega
    · rw [own_tail _ _ _ (by rw [List.length_replicate]; omega) (by rw [List.length_replicate]; omega)]
      have := lit_len (T := List.replicate n c) (j := i) (by rw [List.length_replicate]; omega)
      rw [List.length_replicate] at this ⊢; omega
theorem rep_len {n : Nat} {c : UInt8} (hn : n ≤ 65536) : (encF (List.replicate n c)).1.length ≤ 12 + n / 32 := by
  rw [encF_ok (by rw [List.length_replicate]; exact hn)]
  show (toksB (ownK (List.replicate n c) (List.replicate n c).length 0 0)).length ≤ _
  rw [List.length_replicate]
  rcases Nat.lt_or_ge n 5 with h | h
  · have : ∀ k i, n ≤ i + k → (toksB (ownK (List.replicate n c) k i 0)).length ≤ 6 := by
      intro k
      induction k with
      | zero =>
        intro i hk
        rw [ownK]
        have := lit_len (T := List.replicate n c) (j := 0) (by rw [List.length_replicate]; omega)
        rw [List.length_replicate] at this ⊢; omega
      | succ k ih =>
        intro i hk
        rw [ownK]
        have hz : (bestF (List.replicate n c) i).2 = 0 := by
          unfold bestF
          rw [List.length_replicate]
          split
          · obtain rfl : i = 0 := by omega
            rfl
          · rfl
        rw [hz, if_pos rfl]
        split
        · exact ih (i + 1) (by omega)
        · have := lit_len (T := List.replicate n c) (j := 0) (by rw [List.length_replicate]; omega)
          rw [List.length_replicate] at this ⊢; omega
    have := this n 0 (by omega); omega
  · obtain ⟨k, rfl⟩ : ∃ k, n = k + 2 := ⟨n - 2, by omega⟩
    have hz : bestF (List.replicate (k + 2) c) 0 = (0, 0) := by
      unfold bestF; split <;> rfl
    rw [ownK, List.length_replicate, if_pos (by omega), hz, if_pos rfl, ownK, List.length_replicate, if_pos (by omega), rep_best (by omega) (by omega), if_neg (by simp only; omega)]
    rw [toksB_cons, List.length_append]
    have ht := run_tok (l := ((List.replicate (k + 2) c).take (0 + 1)).drop 0) (m := min 259 (k + 2 - (0 + 1))) (by rw [List.length_drop, List.length_take]; omega) (by omega) (by omega)
    have e0 : (((List.replicate (k + 2) c).take (0 + 1)).drop 0).length ≤ 1 := by rw [List.length_drop, List.length_take]; omega
    have ih := rep_rest (n := k + 2) (c := c) hn k (0 + 1 + min 259 (k + 2 - (0 + 1))) (by omega) (by omega) (by omega)
    simp only at ht ih ⊢
    have : 4 * ((k + 2 - (0 + 1 + min 259 (k + 2 - (0 + 1)))) / 259) ≤ (k + 2) / 32 := by omega
    omega
/-! ### the small text that is tried first -/
abbrev wkT : List UInt8 := [97, 98, 99, 100, 97, 98, 99, 100, 97, 98, 99, 100, 97, 98, 99, 100]
theorem wk_own : ownF wkT = [([97, 98, 99, 100], 4, 12)] := by decide +kernel
theorem wk_enc : (encF wkT).1.length = 7 ∧ (encF wkT).2 = 0 := by
  rw [encF_ok (by decide), wk_own, toksB_cons, tokP_some (by decide)]
  refine ⟨?_, rfl⟩
  simp only [List.length_append]
  rw [putI_lt (by decide) (by decide), putI_lt (by decide) (by decide), putI_lt (by decide) (by decide)]; rfl
/-- what Encode tells is taken back -/
theorem dec_enc {T : List UInt8} (h : T.length ≤ 65536) : decF (encF T).1 (T.length : Nat) = (T, 0) ∧ tksF (encF T).1 (T.length : Nat) = (ownF T, 0) := by
  have e := enc_dec h
  have e2 : tksF (encF T).1 (T.length : Nat) = (ownF T, 0) := tksF_some (by omega) (by rw [Int.toNat_natCast]; exact e)
  refine ⟨?_, e2⟩
  rw [decF_yes (by rw [e2]), e2]
  have := own_text h
  rw [expF_text (by rw [this])] at this
  exact this
theorem dec_other {T : List UInt8} {n : Int} (h : T.length ≤ 65536) (hn : ¬ n = (T.length : Nat)) : (decF (encF T).1 n).2 = 30 ∨ (decF (encF T).1 n).2 = 3 := by
  by_cases c : n < 0 ∨ 65536 < n
  · right; rw [decF_arg c]
  · left
    cases hr : rdF (encF T).1 n.toNat with
    | none => rw [decF_none c hr]
    | some qs => exact absurd (rd_len (by omega) h hr (enc_dec h)) (by omega)
theorem wr_enc {T : List UInt8} (h : T.length ≤ 65536) : wrF (ownF T) = ((encF T).1, 0) := by rw [wrF_ok (by rw [own_text h]), encF_ok h]
