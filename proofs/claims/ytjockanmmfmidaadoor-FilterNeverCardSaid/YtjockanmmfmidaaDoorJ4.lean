/- The bits of filters: order changes nothing, few are set, joining sets those of both. -/
import Derived.Test.YtjockanmmfmidaaDoorJ3
namespace Go.Proofs.YtjockanmmfmidaaDoor.E
open Go
theorem pow_bit {p q : Nat} (hp : p < 8) : ((2 ^ p : Nat).toUInt8).toNat.testBit q = decide (p = q) := by
  have h2 : 2 ^ p < 256 := by
    calc 2 ^ p ≤ 2 ^ 7 := Nat.pow_le_pow_right (by omega) (by omega)
      _ < 256 := by decide
  have e : ((2 ^ p : Nat).toUInt8).toNat = 2 ^ p := by simp; omega
  rw [e, Nat.testBit_two_pow]
theorem setG_get {c : List UInt8} {j k : Nat} {q : UInt8} (h : j < c.length) : (c.set j q).getD k 0 = if j = k then q else c.getD k 0 := by
  rw [List.getD_eq_getElem?_getD, List.getElem?_set]
  split
  · rename_i e; subst e; first | rfl | (rw [if_pos h]; rfl)
  · rw [List.getD_eq_getElem?_getD]
theorem testB_set {d : List UInt8} {p q : Nat} (h : p / 8 < d.length) : testB (setB d p) q = (decide (q = p) || testB d q) := by
  unfold testB setB
  rw [setG_get h]
  by_cases e : p / 8 = q / 8
  · rw [if_pos e, UInt8.toNat_or, Nat.testBit_or, pow_bit (by omega), e, Bool.or_comm]
    congr 1
    rw [decide_eq_decide]; omega
  · rw [if_neg e, decide_eq_false (by intro k; exact e (by rw [k]))]; rfl
theorem testB_fold : ∀ {ps : List Nat} {d : List UInt8}, (∀ p ∈ ps, p < 8 * d.length) → ∀ q, testB (ps.foldl setB d) q = (decide (q ∈ ps) || testB d q)
  | [], d, _, q => by simp
  | p :: ps, d, h, q => by
    have hp := h p (by simp)
    rw [List.foldl_cons, testB_fold (fun x hx => by rw [setB_length]; exact h x (List.mem_cons_of_mem _ hx)), testB_set (by omega)]
    by_cases e : q = p
    · subst e; simp
    · simp [e]
theorem places_lt {key : List UInt8} {hs n : Nat} (hn : 0 < n) : ∀ p ∈ places key hs n, p < 8 * n := by
  intro p hp
  obtain ⟨k, _, rfl⟩ := List.mem_map.1 hp
  exact bitN_lt hn
theorem places_len (key : List UInt8) (hs n : Nat) : (places key hs n).length = hs := by unfold places; simp
theorem testB_add {hs : Nat} {d key : List UInt8} (hn : 0 < d.length) (q : Nat) : testB (addK hs d key) q = (decide (q ∈ places key hs d.length) || testB d q) := testB_fold (places_lt hn) q
theorem testB_fill {hs : Nat} : ∀ {keys : List (List UInt8)} {d : List UInt8}, 0 < d.length → ∀ q, testB (fillK hs d keys) q = (keys.any (fun k => decide (q ∈ places k hs d.length)) || testB d q)
  | [], d, _, q => by simp [fillK]
  | k :: ks, d, hn, q => by
    show testB (fillK hs (addK hs d k) ks) q = _
    rw [testB_fill (by rw [addK_length]; exact hn), addK_length, testB_add hn, List.any_cons]
    cases (ks.any fun k => decide (q ∈ places k hs d.length)) <;> cases decide (q ∈ places k hs d.length) <;> rfl
theorem byte_ext {a b : UInt8} (h : ∀ i, i < 8 → a.toNat.testBit i = b.toNat.testBit i) : a = b := by
  apply UInt8.toNat_inj.1
  apply Nat.eq_of_testBit_eq
  intro i
  by_cases hi : i < 8
  · exact h i hi
  · have hp : 2 ^ 8 ≤ 2 ^ i := Nat.pow_le_pow_right (by omega) (by omega)
    have ha := a.toNat_lt
    have hb := b.toNat_lt
    rw [Nat.testBit_lt_two_pow (by omega), Nat.testBit_lt_two_pow (by omega)]
theorem bits_ext {d e : List UInt8} (hl : d.length = e.length) (h : ∀ q, testB d q = testB e q) : d = e := by
  apply List.ext_getElem hl
  intro i h1 h2
  apply byte_ext
  intro k hk
  have := h (8 * i + k)
  unfold testB at this
  rw [show (8 * i + k) / 8 = i by omega, show (8 * i + k) % 8 = k by omega, List.getD_eq_getElem?_getD, List.getD_eq_getElem?_getD, List.getElem?_eq_getElem h1, List.getElem?_eq_getElem h2] at this
  exact this
theorem orL_length {d e : List UInt8} (h : d.length = e.length) : (orL d e).length = d.length := by unfold orL; rw [List.length_zipWith, h]; omega
theorem orL_get {d e : List UInt8} (h : d.length = e.length) (i : Nat) : (orL d e).getD i 0 = d.getD i 0 ||| e.getD i 0 := by
  unfold orL
  rw [List.getD_eq_getElem?_getD, List.getD_eq_getElem?_getD, List.getD_eq_getElem?_getD, List.getElem?_zipWith]
  by_cases hi : i < d.length
  · rw [List.getElem?_eq_getElem hi, List.getElem?_eq_getElem (by omega)]; rfl
  · rw [List.getElem?_eq_none (by omega), List.getElem?_eq_none (by omega)]; rfl
theorem testB_or {d e : List UInt8} (h : d.length = e.length) (q : Nat) : testB (orL d e) q = (testB d q || testB e q) := by
  unfold testB
  rw [orL_get h, UInt8.toNat_or, Nat.testBit_or]
theorem orL_comm {d e : List UInt8} (h : d.length = e.length) : orL d e = orL e d := by
  apply bits_ext (by rw [orL_length h, orL_length h.symm, h])
  intro q
  rw [testB_or h, testB_or h.symm, Bool.or_comm]
theorem orL_self (d : List UInt8) : orL d d = d := by
  apply bits_ext (orL_length rfl)
  intro q
  rw [testB_or rfl, Bool.or_self]
theorem fill_rev {hs : Nat} {d : List UInt8} (hn : 0 < d.length) (keys : List (List UInt8)) : fillK hs d keys.reverse = fillK hs d keys := by
  apply bits_ext (by rw [fillK_length, fillK_length])
  intro q
  rw [testB_fill hn, testB_fill hn, List.any_reverse]
theorem build_cases (keys : List (List UInt8)) {p : Int} (h : 0 ≤ p ∧ p ≤ 16) : (keys.length = 0 ∧ buildF keys p = (false, 0, [], 0)) ∨ (¬ keys.length = 0 ∧ (p = 0 ∨ 65536 < keys.length) ∧ buildF keys p = (true, 0, [], 0)) ∨
    (¬ keys.length = 0 ∧ ¬ (p = 0 ∨ 65536 < keys.length) ∧ 0 < byN keys.length p ∧ byN keys.length p ≤ 4096 ∧ buildF keys p = (false, ((hsN p : Nat) : Int), fillK (hsN p) (List.replicate (byN keys.length p) 0) keys, 0)) := by
  by_cases h0 : keys.length = 0
  · exact .inl ⟨h0, build_nil (by omega) h0⟩
  · by_cases h1 : p = 0 ∨ 65536 < keys.length
    · exact .inr (.inl ⟨h0, h1, build_all (by omega) h0 h1⟩)
    · have := byN_bd (m := keys.length) (p := p) (by omega) (by omega)
      exact .inr (.inr ⟨h0, h1, by omega, by omega, build_bits (by omega) h0 h1⟩)
theorem build_err (keys : List (List UInt8)) {p : Int} (h : 0 ≤ p ∧ p ≤ 16) : (buildF keys p).2.2.2 = 0 := by
  rcases build_cases keys h with ⟨_, e⟩ | ⟨_, _, e⟩ | ⟨_, _, _, _, e⟩ <;> rw [e]
theorem build_fk (keys : List (List UInt8)) {p : Int} (h : 0 ≤ p ∧ p ≤ 16) : ¬ fk (buildF keys p).1 (buildF keys p).2.1 (buildF keys p).2.2.1 = 0 := by
  rcases build_cases keys h with ⟨_, e⟩ | ⟨_, _, e⟩ | ⟨_, _, h1, h2, e⟩
  · rw [e]; decide
  · rw [e]; decide
  · rw [e]
    dsimp only
    have hb := hsN_bd p
    rw [fk_bits ⟨by omega, by omega, by rw [fillK_length, List.length_replicate]; exact h1, by rw [fillK_length, List.length_replicate]; exact h2⟩]; decide
theorem build_chk (keys : List (List UInt8)) {p : Int} (h : 0 ≤ p ∧ p ≤ 16) : chk (buildF keys p).1 (buildF keys p).2.1 (buildF keys p).2.2.1 = 0 := by unfold chk; rw [if_neg (build_fk keys h)]
theorem build_rev (keys : List (List UInt8)) {p : Int} (h : 0 ≤ p ∧ p ≤ 16) : buildF keys.reverse p = buildF keys p := by
  rcases build_cases keys h with ⟨h0, e⟩ | ⟨h0, h1, e⟩ | ⟨h0, h1, h2, _, e⟩
  · rw [e, build_nil (by omega) (by rw [List.length_reverse]; exact h0)]
  · rw [e, build_all (by omega) (by rw [List.length_reverse]; exact h0) (by rw [List.length_reverse]; exact h1)]
  · rw [e, build_bits (by omega) (by rw [List.length_reverse]; exact h0) (by rw [List.length_reverse]; exact h1), List.length_reverse, fill_rev (by rw [List.length_replicate]; exact h2)]
/-- how many of the first m bits are set -/
def onesU (d : List UInt8) (m : Nat) : Nat := ((List.range m).filter (testB d)).length
theorem onesU_succ (d : List UInt8) (m : Nat) : onesU d (m + 1) = onesU d m + (if testB d m then 1 else 0) := by
  unfold onesU
  rw [List.range_succ, List.filter_append, List.length_append]
  cases h : testB d m <;> simp [h]
theorem onesU_le (d : List UInt8) (m : Nat) : onesU d m ≤ m := by
  unfold onesU
  have := List.length_filter_le (testB d) (List.range m)
  rwa [List.length_range] at this
theorem onesU_set {d : List UInt8} {p : Nat} (h : p / 8 < d.length) : ∀ m, onesU (setB d p) m ≤ onesU d m + (if p < m then 1 else 0)
  | 0 => by simp [onesU]
  | m + 1 => by
    have ih := onesU_set h m
    rw [onesU_succ, onesU_succ, testB_set h]
    by_cases e : m = p
    · subst e
      rw [if_neg (Nat.lt_irrefl m)] at ih
      rw [if_pos (Nat.lt_succ_self m)]
      have h3 : (if (decide (m = m) || testB d m) = true then 1 else 0) = 1 := by simp
      rw [h3]
      omega
    · rw [decide_eq_false e, Bool.false_or]
      by_cases c : p < m
      · rw [if_pos c] at ih; rw [if_pos (show p < m + 1 by omega)]; omega
      · rw [if_neg c] at ih; rw [if_neg (show ¬ p < m + 1 by omega)]; omega
theorem onesU_fold (m : Nat) : ∀ {ps : List Nat} {d : List UInt8}, (∀ p ∈ ps, p < 8 * d.length) → onesU (ps.foldl setB d) m ≤ onesU d m + ps.length
  | [], d, _ => by simp
  | p :: ps, d, h => by
    have hp := h p (by simp)
    rw [List.foldl_cons, List.length_cons]
    have h1 := onesU_fold m (ps := ps) (d := setB d p) (fun x hx => by rw [setB_length]; exact h x (List.mem_cons_of_mem _ hx))
    have h2 := onesU_set (d := d) (p := p) (by omega) m
    split at h2 <;> omega
theorem onesU_fill (m hs : Nat) : ∀ {keys : List (List UInt8)} {d : List UInt8}, 0 < d.length → onesU (fillK hs d keys) m ≤ onesU d m + hs * keys.length
  | [], d, _ => by simp [fillK]
  | k :: ks, d, hn => by
    show onesU (fillK hs (addK hs d k) ks) m ≤ _
    have h1 := onesU_fill m hs (keys := ks) (d := addK hs d k) (by rw [addK_length]; exact hn)
    have h2 : onesU (addK hs d k) m ≤ onesU d m + (places k hs d.length).length := onesU_fold m (places_lt hn)
    rw [places_len] at h2
    rw [List.length_cons, Nat.mul_succ]; omega
theorem testB_zero (n q : Nat) : testB (List.replicate n 0) q = false := by
  unfold testB
  rw [List.getD_eq_getElem?_getD, List.getElem?_replicate]
  split <;> simp
theorem onesU_zero (n : Nat) : ∀ m, onesU (List.replicate n 0) m = 0
  | 0 => rfl
  | m + 1 => by rw [onesU_succ, onesU_zero n m, testB_zero]; rfl
theorem onesU_nil : ∀ m, onesU [] m = 0 := onesU_zero 0
theorem build_ones (keys : List (List UInt8)) {p : Int} (h : 0 ≤ p ∧ p ≤ 16) (m : Nat) : ((onesU (buildF keys p).2.2.1 m : Nat) : Int) ≤ (buildF keys p).2.1 * (keys.length : Nat) ∧ 0 ≤ (buildF keys p).2.1 ∧ (buildF keys p).2.1 ≤ 8 := by
  rcases build_cases keys h with ⟨_, e⟩ | ⟨_, _, e⟩ | ⟨_, _, h1, h2, e⟩
  · rw [e]; dsimp only; rw [onesU_nil]; omega
  · rw [e]; dsimp only; rw [onesU_nil]; omega
  · rw [e]; dsimp only
    have hb := hsN_bd p
    have := onesU_fill m (hsN p) (keys := keys) (d := List.replicate (byN keys.length p) 0) (by rw [List.length_replicate]; exact h1)
    rw [onesU_zero] at this
    have e2 : ((hsN p : Nat) : Int) * ((keys.length : Nat) : Int) = ((hsN p * keys.length : Nat) : Int) := by simp
    rw [e2]; omega
/-- of as many keys each: what joining makes -/
theorem few_join {A B : List (List UInt8)} {p : Int} (h : 0 ≤ p ∧ p ≤ 16) (hl : A.length = B.length) :
    (joinF (buildF A p).1 (buildF A p).2.1 (buildF A p).2.2.1 (buildF B p).1 (buildF B p).2.1 (buildF B p).2.2.1).2.2.2 = 0 ∧
    (joinF (buildF A p).1 (buildF A p).2.1 (buildF A p).2.2.1 (buildF B p).1 (buildF B p).2.1 (buildF B p).2.2.1).2.2.1 = orL (buildF A p).2.2.1 (buildF B p).2.2.1 ∧ (buildF A p).2.2.1.length = (buildF B p).2.2.1.length := by
  rcases build_cases A h with ⟨h0, e⟩ | ⟨h0, h1, e⟩ | ⟨h0, h1, h2, h3, e⟩
  · rw [e, build_nil (keys := B) (by omega) (by omega)]; decide
  · rw [e, build_all (keys := B) (by omega) (by omega) (by omega)]; decide
  · have eB := build_bits (keys := B) (p := p) (by omega) (by omega) (by omega)
    rw [← hl] at eB
    rw [e, eB]
    have hb := hsN_bd p
    have lA : (fillK (hsN p) (List.replicate (byN A.length p) 0) A).length = byN A.length p := by rw [fillK_length, List.length_replicate]
    have lB : (fillK (hsN p) (List.replicate (byN A.length p) 0) B).length = byN A.length p := by rw [fillK_length, List.length_replicate]
    have kA := fk_bits (h := ((hsN p : Nat) : Int)) (d := fillK (hsN p) (List.replicate (byN A.length p) 0) A) (by omega)
    have kB := fk_bits (h := ((hsN p : Nat) : Int)) (d := fillK (hsN p) (List.replicate (byN A.length p) 0) B) (by omega)
    dsimp only
    rw [join_4 (by omega) (by omega) (by omega) (by omega) ⟨rfl, by omega⟩]
    exact ⟨rfl, rfl, by omega⟩
theorem none_has (p : Int) (h : 0 ≤ p ∧ p ≤ 16) (k : List UInt8) : hasF (buildF [] p).1 (buildF [] p).2.1 (buildF [] p).2.2.1 k = false := by
  rw [build_nil (by omega) rfl]
  exact hasF_0 (by decide) (by decide)
theorem build_has {keys : List (List UInt8)} {p : Int} (h : 0 ≤ p ∧ p ≤ 16) {k : List UInt8} (hk : k ∈ keys) : hasF (buildF keys p).1 (buildF keys p).2.1 (buildF keys p).2.2.1 k = true := by
  rcases build_cases keys h with ⟨h0, e⟩ | ⟨h0, h1, e⟩ | ⟨h0, h1, h2, h3, e⟩
  · have : 0 < keys.length := List.length_pos_of_mem hk
    omega
  · rw [e]; exact hasF_1 rfl
  · rw [e]
    have hb := hsN_bd p
    have lA : (fillK (hsN p) (List.replicate (byN keys.length p) 0) keys).length = byN keys.length p := by rw [fillK_length, List.length_replicate]
    have kA := fk_bits (h := ((hsN p : Nat) : Int)) (d := fillK (hsN p) (List.replicate (byN keys.length p) 0) keys) (by omega)
    dsimp only
    rw [hasF_3 kA, lA, Int.toNat_natCast, List.all_eq_true]
    intro q hq
    rw [testB_fill (by rw [List.length_replicate]; exact h2), List.length_replicate, Bool.or_eq_true]
    exact .inl (List.any_eq_true.2 ⟨k, hk, decide_eq_true hq⟩)
section
variable {a b : Bool} {h k : Int} {d e : List UInt8}
theorem join_comm (ha : ¬ fk a h d = 0) (hb : ¬ fk b k e = 0) : joinF a h d b k e = joinF b k e a h d := by
  by_cases c1 : fk a h d = 1 ∨ fk b k e = 1
  · rw [join_1 (by omega) c1, join_1 (by omega) c1.symm]
  · by_cases c2 : fk a h d = 2
    · by_cases c3 : fk b k e = 2
      · obtain ⟨rfl, rfl, rfl⟩ := fkk2 c2
        obtain ⟨rfl, rfl, rfl⟩ := fkk2 c3
        rfl
      · rw [join_2 (by omega) c1 c2, join_3 (by omega) (by omega) c3 c2]
    · by_cases c3 : fk b k e = 2
      · rw [join_3 (by omega) c1 c2 c3, join_2 (by omega) (by omega) c3]
      · by_cases c4 : h = k ∧ d.length = e.length
        · rw [join_4 (by omega) c1 c2 c3 c4, join_4 (by omega) (by omega) c3 c2 ⟨c4.1.symm, c4.2.symm⟩, orL_comm c4.2]
          have f1 := fk_lt (a := a) (h := h) (d := d)
          have f2 := fk_lt (a := b) (h := k) (d := e)
          rw [(fk3 (show fk a h d = 3 by omega)).1, (fk3 (show fk b k e = 3 by omega)).1, c4.1]
        · rw [join_5 (by omega) c1 c2 c3 c4, join_5 (by omega) (by omega) c3 c2 (fun q => c4 ⟨q.1.symm, q.2.symm⟩)]
theorem join_err (ha : ¬ fk a h d = 0) (hb : ¬ fk b k e = 0) : (joinF a h d b k e).2.2.2 = 0 ∨ (joinF a h d b k e).2.2.2 = 3 := by
  unfold joinF
  rw [if_neg (by omega)]
  split
  · exact .inl rfl
  · split
    · exact .inl rfl
    · split
      · exact .inl rfl
      · split
        · exact .inl rfl
        · exact .inr rfl
theorem join_self (ha : ¬ fk a h d = 0) : joinF a h d a h d = (a, h, d, 0) := by
  by_cases c1 : fk a h d = 1
  · rw [join_1 (by omega) (.inl c1), (fkk1 c1).1, (fkk1 c1).2.1, (fkk1 c1).2.2]
  · by_cases c2 : fk a h d = 2
    · rw [join_2 (by omega) (by omega) c2]
    · rw [join_4 (by omega) (by omega) c2 c2 ⟨rfl, rfl⟩, orL_self]
/-- no key that the first has is denied by both in one -/
theorem join_has (ha : ¬ fk a h d = 0) (hb : ¬ fk b k e = 0) (h0 : (joinF a h d b k e).2.2.2 = 0) {key : List UInt8} (hk : hasF a h d key = true) : hasF (joinF a h d b k e).1 (joinF a h d b k e).2.1 (joinF a h d b k e).2.2.1 key = true := by
  by_cases c1 : fk a h d = 1 ∨ fk b k e = 1
  · rw [join_1 (by omega) c1]; exact hasF_1 rfl
  · by_cases c2 : fk a h d = 2
    · rw [hasF_0 (by omega) (by omega)] at hk; cases hk
    · by_cases c3 : fk b k e = 2
      · rw [join_3 (by omega) c1 c2 c3]; exact hk
      · have f1 := fk_lt (a := a) (h := h) (d := d)
        have k3 := fk3 (show fk a h d = 3 by omega)
        by_cases c4 : h = k ∧ d.length = e.length
        · rw [join_4 (by omega) c1 c2 c3 c4]
          dsimp only
          have lo := orL_length c4.2
          rw [hasF_3 (show fk a h d = 3 by omega)] at hk
          rw [k3.1, hasF_3 (fk_bits (d := orL d e) (by omega)), lo, List.all_eq_true]
          intro q hq
          rw [testB_or c4.2, List.all_eq_true.1 hk q hq]; rfl
        · rw [join_5 (by omega) c1 c2 c3 c4] at h0; simp at h0
end
