/- Footers: damage is told. -/
import Derived.Test.YthhmhmnhbababaaD20
import Derived.Test.YthhmhmnhbababaaD24
namespace Go.Proofs.Ythhmhmnhbababaa.E
open Go
theorem tlsG_get : ∀ (q : Nat) (a left : Int) (k : Nat), left ≤ q → 4100 * (k : Int) < left → (tlsG q a left).getD k ti0 = ⟨1, a + 4100 * k, a + 4100 * k + min (left - 4100 * k) 4100⟩ ∧ k < (tlsG q a left).length
  | 0, a, left, k, hq, hk => by omega
  | q + 1, a, left, k, hq, hk => by
    rw [tlsG_cons (by omega) hq]
    cases k with
    | zero => exact ⟨by simp, by simp⟩
    | succ k =>
      have hm : min left 4100 = 4100 := by omega
      have ih := tlsG_get q (a + 4100) (left - 4100) k (by omega) (by omega)
      rw [hm, Nat.add_sub_cancel]
      refine ⟨?_, by rw [List.length_cons]; omega⟩
      rw [List.getD_cons_succ, ih.1, show a + 4100 + 4100 * (k : Int) = a + 4100 * ((k + 1 : Nat) : Int) by omega, show left - 4100 - 4100 * (k : Int) = left - 4100 * ((k + 1 : Nat) : Int) by omega]
theorem tlsG_length : ∀ (q : Nat) (a left : Int), 0 ≤ left → left ≤ q → ((tlsG q a left).length : Int) = (left + 4099) / 4100
  | 0, a, left, h0, hq => by
    rw [tlsG_end (by omega), List.length_nil]; omega
  | q + 1, a, left, h0, hq => by
    by_cases c : 0 < left
    · rw [tlsG_cons c hq, List.length_cons, Nat.add_sub_cancel]
      have ih := tlsG_length q (a + min left 4100) (left - min left 4100) (by omega) (by omega)
      omega
    · rw [tlsG_end (by omega), List.length_nil]; omega
theorem getD_tail {α : Type} (l : List α) (x z : α) (j : Nat) : (l ++ [x]).getD j z = if j < l.length then l.getD j z else if j = l.length then x else z := by
  rw [List.getD_eq_getElem?_getD, List.getD_eq_getElem?_getD]
  split
  · rename_i h; rw [List.getElem?_append_left h]
  · rename_i h
    rw [List.getElem?_append_right (by omega)]
    split
    · rename_i h2; rw [h2]; simp
    · rename_i h2
      rw [List.getElem?_eq_none (by simp; omega)]; rfl
/-- the tiles behind the blocks: pages, the trailer -/
theorem tail_get {sp : Int} {n k : Nat} (hk : k < (tailT sp n).length) : (∃ d : Nat, (tailT sp n).getD k ti0 = ⟨1, sp + (4100 * k : Nat), sp + (4100 * k : Nat) + (d : Nat)⟩ ∧ d = min (n - 4100 * k) 4100 ∧ 4100 * k < n) ∨ ((tailT sp n).getD k ti0 = ⟨2, sp + n, sp + n + 24⟩ ∧ k + 1 = (tailT sp n).length) := by
  have hl := tlsG_length n sp n (by omega) (by omega)
  unfold tailT at hk ⊢
  rw [List.length_append, List.length_singleton] at hk
  by_cases c : k < (tlsG n sp n).length
  · refine .inl ⟨min (n - 4100 * k) 4100, ?_, rfl, by omega⟩
    have hg := (tlsG_get n sp n k (by omega) (by omega)).1
    rw [getD_tail, if_pos c, hg]
    congr 1 <;> omega
  · refine .inr ⟨?_, by rw [List.length_append, List.length_singleton]; omega⟩
    rw [getD_tail, if_neg c, if_pos (by omega)]

def cutR (l : List UInt8) (r : Nat × Nat) : List UInt8 := (l.drop r.1).take r.2
def Rng (TL : List Ti) (base : Int) (k : Nat) : Nat × Nat := (((TL.getD k ti0).fr - base).toNat, ((TL.getD k ti0).to - (TL.getD k ti0).fr).toNat)
/-- what bursts have done so far -/
def DmS (TL : List Ti) (base : Int) (b b' : List UInt8) (h : List Bool) (s : Bool) : Prop := b'.length = b.length ∧ (∀ k, k < h.length → (h.getD k false = true → Hit (cutR b (Rng TL base k)) (cutR b' (Rng TL base k))) ∧ (h.getD k false = false → cutR b' (Rng TL base k) = cutR b (Rng TL base k))) ∧ (s = false → b' = b ∧ ∀ k, k < h.length → h.getD k false = false) ∧ (s = true → ∃ k, k < h.length ∧ h.getD k false = true)
theorem DmS.init (TL : List Ti) (base : Int) (b : List UInt8) (n : Nat) : DmS TL base b b (List.replicate n false) false := by
  have hg : ∀ k, (List.replicate n false).getD k false = false := fun k => by
    rw [List.getD_eq_getElem?_getD, List.getElem?_replicate]; split <;> rfl
  refine ⟨rfl, fun k hk => ⟨fun h => ?_, fun _ => rfl⟩, fun _ => ⟨rfl, fun k _ => hg k⟩, fun h => by cases h⟩
  rw [hg] at h; cases h
theorem getD_setB {h : List Bool} {k j : Nat} {x : Bool} (hk : k < h.length) : (h.set k x).getD j false = if j = k then x else h.getD j false := by
  rw [List.getD_eq_getElem?_getD, List.getD_eq_getElem?_getD, List.getElem?_set]
  by_cases c : k = j
  · subst c
    rw [if_pos rfl, if_pos rfl, if_pos hk]; rfl
  · rw [if_neg c, if_neg (fun e => c e.symm)]
theorem DmS.step {TL : List Ti} {base : Int} {b b' : List UInt8} {h : List Bool} {s : Bool} {k q m c : Nat} (hS : DmS TL base b b' h s) (hk : k < h.length) (h0 : h.getD k false = false) (hdis : ∀ j, j < h.length → j ≠ k → (Rng TL base j).1 + (Rng TL base j).2 ≤ (Rng TL base k).1 ∨ (Rng TL base k).1 + (Rng TL base k).2 ≤ (Rng TL base j).1)
    (hin : (Rng TL base k).1 + (Rng TL base k).2 ≤ b.length) (hc : c ≤ 32) (hq : q + c ≤ 8 * (Rng TL base k).2) :
    DmS TL base b (trn b' (8 * (Rng TL base k).1 + q) m c) (h.set k (decide (¬ m % 2 ^ c = 0))) (s || decide (¬ m % 2 ^ c = 0)) := by
  obtain ⟨s1, s2, s3, s4⟩ := hS
  by_cases hz : m % 2 ^ c = 0
  · have e1 : trn b' (8 * (Rng TL base k).1 + q) m c = b' := by unfold trn; rw [hz, Nat.mul_zero, xor_zero]
    have e2 : decide (¬ m % 2 ^ c = 0) = false := decide_eq_false (fun f => f hz)
    have e3 : ∀ j, (h.set k false).getD j false = h.getD j false := fun j => by
      rw [getD_setB hk]; split
      · rename_i e; rw [e, h0]
      · rfl
    rw [e1, e2, Bool.or_false]
    refine ⟨s1, fun j hj => ?_, fun hs => ⟨(s3 hs).1, fun j hj => ?_⟩, fun hs => ?_⟩
    · rw [List.length_set] at hj; rw [e3]; exact s2 j hj
    · rw [List.length_set] at hj; rw [e3]; exact (s3 hs).2 j hj
    · obtain ⟨j, h1, h2⟩ := s4 hs
      exact ⟨j, by rw [List.length_set]; exact h1, by rw [e3]; exact h2⟩
  · have e2 : decide (¬ m % 2 ^ c = 0) = true := decide_eq_true hz
    have hB : m % 2 ^ c < 2 ^ c := Nat.mod_lt _ (Nat.pow_pos (by omega))
    have hX : 2 ^ q * (m % 2 ^ c) < 2 ^ (8 * (Rng TL base k).2) := Nat.lt_of_lt_of_le (Nat.mul_lt_mul_of_pos_left hB (Nat.pow_pos (by omega))) (by rw [← Nat.pow_add]; exact Nat.pow_le_pow_right (by omega) hq)
    have ht : trn b' (8 * (Rng TL base k).1 + q) m c = xorL b' (fixed b'.length (2 ^ (8 * (Rng TL base k).1) * (2 ^ q * (m % 2 ^ c)))) := by unfold trn; rw [Nat.pow_add, Nat.mul_assoc]
    have hlb : (cutR b (Rng TL base k)).length = (Rng TL base k).2 := by unfold cutR; rw [List.length_take, List.length_drop]; omega
    rw [e2, Bool.or_true]
    refine ⟨by rw [trn_len]; exact s1, fun j hj => ?_, fun hs => (by cases hs), fun _ => ⟨k, by rw [List.length_set]; exact hk, by rw [getD_setB hk, if_pos rfl]⟩⟩
    rw [List.length_set] at hj
    rw [getD_setB hk, ht]
    by_cases e : j = k
    · subst e
      rw [if_pos rfl]
      refine ⟨fun _ => ⟨q, m % 2 ^ c, ⟨by omega, Nat.lt_of_lt_of_le hB ?_⟩, ?_, ?_⟩, fun f => (by cases f)⟩
      · exact Nat.le_trans (Nat.pow_le_pow_right (by omega) hc) (by decide)
      · rw [hlb, powB8]; exact hX
      · have hsl := slice_in (L := b') (a := (Rng TL base j).1) (n := (Rng TL base j).2) (X := 2 ^ q * (m % 2 ^ c)) (by omega)
        rw [hlb, ← (s2 j hj).2 h0]
        exact hsl
    · rw [if_neg e]
      have hso := slice_out (L := b') (a := (Rng TL base k).1) (n := (Rng TL base k).2) (c := (Rng TL base j).1) (d := (Rng TL base j).2) hX (hdis j hj e)
      have e5 : cutR (xorL b' (fixed b'.length (2 ^ (8 * (Rng TL base k).1) * (2 ^ q * (m % 2 ^ c))))) (Rng TL base j) = cutR b' (Rng TL base j) := hso
      rw [e5]
      exact s2 j hj

theorem rng_page {sp : Int} {n k : Nat} (h : 4100 * k < n) (hk : k < (tailT sp n).length) (hne : ¬ k + 1 = (tailT sp n).length) : Rng (tailT sp n) sp k = (4100 * k, min (n - 4100 * k) 4100) := by
  rcases tail_get hk with ⟨d, h1, h2, h3⟩ | ⟨h1, h2⟩
  · unfold Rng; rw [h1]; dsimp only
    rw [h2]
    congr 1 <;> omega
  · exact absurd h2 hne
theorem rng_last {sp : Int} {n k : Nat} (hk : k + 1 = (tailT sp n).length) : Rng (tailT sp n) sp k = (n, 24) := by
  have hl := tlsG_length n sp n (by omega) (by omega)
  have ht : (tailT sp n).length = (tlsG n sp n).length + 1 := by unfold tailT; rw [List.length_append, List.length_singleton]
  rcases tail_get (sp := sp) (n := n) (k := k) (by omega) with ⟨d, h1, h2, h3⟩ | ⟨h1, h2⟩
  · omega
  · unfold Rng; rw [h1]; dsimp only
    congr 1 <;> omega
theorem tail_pages {sp : Int} {n k : Nat} (hk : k < (tailT sp n).length) : 4100 * k < n ∨ k + 1 = (tailT sp n).length := by
  rcases tail_get hk with ⟨d, h1, h2, h3⟩ | ⟨h1, h2⟩
  · exact .inl h3
  · exact .inr h2
theorem tail_last {sp : Int} {n k : Nat} (hk : k < (tailT sp n).length) (h : 4100 * k < n) : ¬ k + 1 = (tailT sp n).length := by
  have hl := tlsG_length n sp n (by omega) (by omega)
  have ht : (tailT sp n).length = (tlsG n sp n).length + 1 := by unfold tailT; rw [List.length_append, List.length_singleton]
  omega
theorem tail_dis {sp : Int} {n k j : Nat} (hk : k < (tailT sp n).length) (hj : j < (tailT sp n).length) (hne : j ≠ k) : (Rng (tailT sp n) sp j).1 + (Rng (tailT sp n) sp j).2 ≤ (Rng (tailT sp n) sp k).1 ∨ (Rng (tailT sp n) sp k).1 + (Rng (tailT sp n) sp k).2 ≤ (Rng (tailT sp n) sp j).1 := by
  rcases tail_pages hk with h1 | h1 <;> rcases tail_pages hj with h2 | h2
  · rw [rng_page h1 hk (tail_last hk h1), rng_page h2 hj (tail_last hj h2)]; dsimp only; omega
  · rw [rng_page h1 hk (tail_last hk h1), rng_last h2]; dsimp only; omega
  · rw [rng_last h1, rng_page h2 hj (tail_last hj h2)]; dsimp only; omega
  · omega
theorem tail_in {sp : Int} {n k : Nat} (hk : k < (tailT sp n).length) : (Rng (tailT sp n) sp k).1 + (Rng (tailT sp n) sp k).2 ≤ n + 24 := by
  rcases tail_pages hk with h1 | h1
  · rw [rng_page h1 hk (tail_last hk h1)]; dsimp only; omega
  · rw [rng_last h1]; dsimp only; omega

theorem take_drop_min {α : Type} (l : List α) (n a : Nat) (h : n ≤ l.length) : ((l.take n).drop a).take 4100 = (l.drop a).take (min (n - a) 4100) := by
  rw [List.drop_take, List.take_take, Nat.min_comm]
theorem DmS.trail {sp : Int} {n : Nat} {P b' : List UInt8} {h : List Bool} {s : Bool} (hS : DmS (tailT sp n) sp (P ++ trF sp n) b' h s) (hP : P.length = n) (hh : h.length = (tailT sp n).length) : (¬ (openF (b'.drop n)).2 = 0 ∧ s = true) ∨ b'.drop n = trF sp n := by
  obtain ⟨s1, s2, s3, s4⟩ := hS
  have ht : (tailT sp n).length = (tlsG n sp n).length + 1 := by unfold tailT; rw [List.length_append, List.length_singleton]
  have hlen := trF_len sp n
  rw [List.length_append] at s1
  have hr := rng_last (sp := sp) (n := n) (k := (tlsG n sp n).length) (by omega)
  have h1 := s2 (tlsG n sp n).length (by omega)
  have e1 : cutR (P ++ trF sp n) (n, 24) = trF sp n := by
    show ((P ++ trF sp n).drop n).take 24 = _
    rw [List.drop_left' hP, List.take_of_length_le (by omega)]
  have e2 : cutR b' (n, 24) = b'.drop n := by
    show (b'.drop n).take 24 = _
    rw [List.take_of_length_le (by rw [List.length_drop]; omega)]
  rw [hr, e1, e2] at h1
  cases hk : h.getD (tlsG n sp n).length false with
  | false => exact .inr (h1.2 hk)
  | true =>
    refine .inl ⟨hit_open (h1.1 hk), ?_⟩
    cases s with
    | true => rfl
    | false => rw [(s3 rfl).2 _ (by omega)] at hk; cases hk
theorem DmS.pages {sp : Int} {n : Nat} {body b' : List UInt8} {h : List Bool} (hS : DmS (tailT sp n) sp (pagesF body ++ trF sp n) b' h true) (hP : (pagesF body).length = n) (hh : h.length = (tailT sp n).length) (hT : b'.drop n = trF sp n) : unpF (b'.take n) = none := by
  obtain ⟨s1, s2, -, s4⟩ := hS
  have hlen := trF_len sp n
  rw [List.length_append] at s1
  obtain ⟨k, hk, hkt⟩ := s4 rfl
  have h1 := (s2 k hk).1 hkt
  rcases tail_pages (sp := sp) (n := n) (k := k) (by omega) with c | c
  · rw [rng_page c (by omega) (tail_last (by omega) c)] at h1
    refine unp_hit k body (b'.take n) (by rw [List.length_take]; omega) (by omega) ?_
    rw [take_drop_min _ _ _ (by omega)]
    have e1 : ((pagesF body).drop (4100 * k)).take 4100 = cutR (pagesF body ++ trF sp n) (4100 * k, min (n - 4100 * k) 4100) := by
      show _ = ((pagesF body ++ trF sp n).drop (4100 * k)).take (min (n - 4100 * k) 4100)
      have := take_drop_min (pagesF body ++ trF sp n) n (4100 * k) (by rw [List.length_append]; omega)
      rw [← this, List.take_left' hP]
    rw [e1]
    exact h1
  · exfalso
    rw [rng_last c] at h1
    have e1 : cutR (pagesF body ++ trF sp n) (n, 24) = trF sp n := by
      show ((pagesF body ++ trF sp n).drop n).take 24 = _
      rw [List.drop_left' hP, List.take_of_length_le (by omega)]
    have e2 : cutR b' (n, 24) = trF sp n := by
      show (b'.drop n).take 24 = _
      rw [hT, List.take_of_length_le (by omega)]
    rw [e1, e2] at h1
    have h2 := hit_open (x := magic ++ fixedI sp 8 ++ fixedI (n : Nat) 8) h1
    have h3 : openF (trF sp n) = (magic ++ fixedI sp 8 ++ fixedI (n : Nat) 8, 0) := by unfold trF; exact open_seal _
    rw [h3] at h2
    exact h2 rfl
theorem dc_none {pages : List UInt8} {bk pg P e : Int} {PS : List Pp} (h : DcSpec pages bk pg P PS e) (hm : mayT bk pg) (hu : unpF pages = none) : e = 80 := by
  rcases h with ⟨h0, h1, h2, h3, h4, h5, h6⟩ | ⟨h0, h1, h2, h3⟩
  · rw [h3, unp_pages _ _ (Nat.le_refl _)] at hu; cases hu
  · rcases h0 with h0 | h0
    · exact h0.1
    · exact absurd hm h0.2
