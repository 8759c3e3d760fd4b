/- Rows of items: what is laid down is read. -/
import Derived.Test.YtdjdhplacfemfaaR1
namespace Go.Proofs.Ytdjdhplacfemfaa.E
open Go
theorem read_num {b rest : List UInt8} {a : Nat} {v : Int} (h0 : 0 ≤ v) (hv : v ≤ 9223372036854775807) (h : b.drop a = putI v ++ rest) : cNum b a 0 v = v ∧ cNumA b a 0 v = a + (putI v).length ∧ cNumE b a 0 v = 0 := by
  have hg := get_put h0 hv rest
  rw [← h] at hg
  have hE : numE (b.drop a) v = 0 := by unfold numE; rw [hg]; simp only [if_pos]; rw [if_neg (by omega)]
  refine ⟨?_, ?_, ?_⟩
  · unfold cNum numV; rw [if_pos rfl, if_pos hE, hg]; simp only []; omega
  · unfold cNumA; rw [if_pos ⟨rfl, hE⟩, hg]
  · unfold cNumE; rw [if_pos rfl, hE]
theorem read_take {b rest s : List UInt8} {a : Nat} (h : b.drop a = s ++ rest) : cTk b a 0 (s.length : Nat) = s ∧ cTkA b a 0 (s.length : Nat) = a + s.length ∧ cTkE b a 0 (s.length : Nat) = 0 := by
  have hl : (b.drop a).length = s.length + rest.length := by rw [h, List.length_append]
  have hf := tk_fine (l := b.drop a) (n := (s.length : Nat)) (by omega) (by omega)
  refine ⟨?_, ?_, ?_⟩
  · unfold cTk; rw [if_pos rfl, hf.2, h, Int.toNat_natCast, List.take_left]
  · unfold cTkA tkN; rw [if_pos ⟨rfl, hf.1⟩, if_pos hf.1, Int.toNat_natCast]
  · unfold cTkE; rw [if_pos rfl, hf.1]
theorem read_text {b rest s : List UInt8} {a : Nat} (hs : s.length ≤ 140737488351232) (h : b.drop a = putI (s.length : Nat) ++ s ++ rest) : cTx b a 0 (s.length : Nat) = s ∧ cTxA b a 0 (s.length : Nat) = a + ((putI (s.length : Nat)).length + s.length) ∧ cTxE b a 0 (s.length : Nat) = 0 := by
  have hg := get_put (v := (s.length : Nat)) (by omega) (by omega) (s ++ rest)
  rw [List.append_assoc] at h
  rw [← h, Int.toNat_natCast] at hg
  have hl : (b.drop a).length = (putI (s.length : Nat)).length + (s.length + rest.length) := by rw [h, List.length_append, List.length_append]
  have hf := tx_fine (l := b.drop a) (m := (s.length : Nat)) (by rw [hg]) (by rw [hg]; simp) (by rw [hg]; simp only []; omega)
  rw [hg] at hf
  refine ⟨?_, ?_, ?_⟩
  · unfold cTx; rw [if_pos rfl, hf.2.2]; simp only []; rw [h, List.drop_left, List.take_left]
  · unfold cTxA; rw [if_pos ⟨rfl, hf.1⟩, hf.2.1]
  · unfold cTxE; rw [if_pos rfl, hf.1]

theorem word_short {l : List UInt8} (h : l.length ≤ 8) : word l = le l := by unfold word; rw [List.take_of_length_le h]
theorem read_fix {b rest : List UInt8} {a n v : Nat} (hn : 1 ≤ n ∧ n ≤ 8) (h : b.drop a = fixed n v ++ rest) : cFix b a 0 n = v % 256 ^ n ∧ cFixA b a 0 n = a + n ∧ cFixE b a 0 n = 0 := by
  have hl : (b.drop a).length = n + rest.length := by rw [h, List.length_append, fixed_length]
  have hf := fix_fine (l := b.drop a) (n := n) (by omega) (by omega)
  have ht : (b.drop a).take n = fixed n v := by rw [h, List.take_left' (fixed_length n v)]
  refine ⟨?_, ?_, ?_⟩
  · unfold cFix; rw [if_pos rfl, hf.2, Int.toNat_natCast, ht, word_short (by rw [fixed_length]; omega), le_fixed]
  · unfold cFixA fixN; rw [if_pos ⟨rfl, hf.1⟩, if_pos hf.1, Int.toNat_natCast]
  · unfold cFixE; rw [if_pos rfl, hf.1]
theorem wI_mod {x : Itm} (h : 1 ≤ x.n ∧ x.n ≤ 8) : (((x.v % 18446744073709551616).toNat % 256 ^ x.n.toNat : Nat) : Int) = wI x := by
  have e : (256 : Nat) ^ x.n.toNat = 2 ^ (8 * x.n.toNat) := by rw [Nat.pow_mul]
  unfold wI
  rw [e]
  by_cases c : x.n < 8
  · rw [if_pos c, Int.natCast_emod, Int.toNat_of_nonneg (by omega)]
  · rw [if_neg c]
    have e8 : x.n.toNat = 8 := by omega
    rw [e8, Nat.mod_eq_of_lt (by have : (2 : Nat) ^ (8 * 8) = 18446744073709551616 := by decide
                                 omega)]
    omega
theorem found_at {b rest : List UInt8} {a : Nat} {x : Itm} (hg : goodI x) (hk : x.ok) (h : b.drop a = laidB x ++ rest) : fndV b a 0 x = true ∧ fndS b a 0 x = (a + (laidB x).length, 0) := by
  obtain ⟨_, k2, _, k4⟩ := hk
  simp only [inK] at k2
  unfold goodI at hg
  unfold fndV fndS
  by_cases c0 : x.kind = 0
  · rw [laid_0 c0] at h ⊢
    have r := read_num (by omega) (by omega) h
    rw [if_pos c0, if_pos c0, r.1, r.2.1, r.2.2]; exact ⟨decide_eq_true rfl, rfl⟩
  · rw [if_neg c0, if_neg c0]
    by_cases c1 : x.kind = 1
    · rw [laid_1 c1, fixedI_some (by omega)] at h
      rw [laid_1 c1, fixedI_some (by omega), fixed_length]
      have r := read_fix (n := x.n.toNat) (by omega) h
      rw [Int.toNat_of_nonneg (by omega)] at r
      rw [if_pos c1, if_pos c1, r.1, r.2.1, r.2.2, wI_mod (by omega)]; exact ⟨decide_eq_true rfl, rfl⟩
    · rw [if_neg c1, if_neg c1]
      by_cases c2 : x.kind = 2
      · rw [laid_2 c2] at h ⊢
        have r := read_take h
        rw [if_pos c2, if_pos c2, r.1, r.2.1, r.2.2]; exact ⟨decide_eq_true rfl, rfl⟩
      · rw [laid_3 c0 c1 c2] at h ⊢
        have r := read_text k4 h
        rw [if_neg c2, if_neg c2, r.1, r.2.1, r.2.2, List.length_append]; exact ⟨decide_eq_true rfl, rfl⟩
