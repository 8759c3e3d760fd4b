/- There and back. -/
import Derived.Test.YtojnkjnebejodaaS15
import Derived.Test.YtojnkjnebejodaaH7
namespace Go.Proofs.Ytojnkjnebejodaa.E
open Go
theorem bitW_test (w : List UInt8) (i : Nat) : bitW w i = ((w.getD (i / 8) 0).toNat.testBit (i % 8)).toNat := by
  unfold bitW
  rw [Nat.testBit_eq_decide_div_mod_eq]
  by_cases c : (w.getD (i / 8) 0).toNat / 2 ^ (i % 8) % 2 = 1
  · rw [decide_eq_true c, c]; rfl
  · rw [decide_eq_false c, show (w.getD (i / 8) 0).toNat / 2 ^ (i % 8) % 2 = 0 by omega]; rfl
theorem getD_snocU {l : List UInt8} {x : UInt8} {j : Nat} : (l ++ [x]).getD j 0 = if j < l.length then l.getD j 0 else if j = l.length then x else 0 := by
  rw [List.getD_eq_getElem?_getD, List.getD_eq_getElem?_getD]
  by_cases c : j < l.length
  · rw [if_pos c, List.getElem?_append_left c]
  · rw [if_neg c, List.getElem?_append_right (by omega)]
    by_cases d : j = l.length
    · rw [if_pos d, d, Nat.sub_self]; rfl
    · rw [if_neg d, List.getElem?_eq_none (by simp; omega)]; rfl
theorem getD_over {l : List UInt8} {j : Nat} (h : l.length ≤ j) : l.getD j 0 = 0 := by
  rw [List.getD_eq_getElem?_getD, List.getElem?_eq_none h]; rfl
theorem bit_pk1 {l : List UInt8} {n b : Nat} (h : PkI l n) (hb : b ≤ 1) (h0 : ∀ q, n ≤ q → bitW l q = 0) (p : Nat) : bitW (pk1 l n b) p = if p = n then b else bitW l p := by
  have hlen := h.len
  unfold pk1
  by_cases c : n % 8 = 0
  · rw [if_pos c]
    unfold bitW
    rw [getD_snocU]
    by_cases d : p / 8 < l.length
    · rw [if_pos d, if_neg (by omega)]
    · rw [if_neg d]
      by_cases e : p / 8 = l.length
      · rw [if_pos e, toU8 (by omega)]
        by_cases f : p = n
        · rw [if_pos f, f, c, Nat.pow_zero, Nat.div_one]; omega
        · rw [if_neg f, getD_over (by omega)]
          have h8 : 1 ≤ p % 8 := by omega
          have : b < 2 ^ (p % 8) := Nat.lt_of_lt_of_le (by omega) (Nat.pow_le_pow_right (show 0 < 2 by omega) h8)
          rw [Nat.div_eq_of_lt this]; simp
      · rw [if_neg e, if_neg (by omega), getD_over (by omega)]
  · rw [if_neg c]
    by_cases d : p / 8 = n / 8
    · have hlow := h.low c
      have hp2 := pow_lt8 (k := n % 8) (by omega)
      have hb2 := b_pow hb (k := n % 8) (by omega)
      have hg : (l.set (n / 8) ((l.getD (n / 8) 0).toNat + b * 2 ^ (n % 8)).toUInt8).getD (p / 8) 0 = ((l.getD (n / 8) 0).toNat + b * 2 ^ (n % 8)).toUInt8 := by
        rw [d, List.getD_eq_getElem?_getD, List.getElem?_set, if_pos rfl, if_pos (by omega)]; rfl
      rw [bitW_test, bitW_test, hg, toU8 (by omega), d, ← or_add hlow, Nat.testBit_or]
      have hb01 : b = 0 ∨ b = 1 := by omega
      by_cases f : p = n
      · rw [if_pos f, f, Nat.testBit_lt_two_pow hlow]
        rcases hb01 with rfl | rfl
        · simp
        · rw [Nat.one_mul, Nat.testBit_two_pow_self]; rfl
      · rw [if_neg f]
        have : (b * 2 ^ (n % 8)).testBit (p % 8) = false := by
          rcases hb01 with rfl | rfl
          · simp
          · rw [Nat.one_mul, Nat.testBit_two_pow_of_ne (by omega)]
        rw [this, Bool.or_false]
    · rw [if_neg (by intro e; rw [e] at d; exact d rfl)]
      unfold bitW
      rw [List.getD_eq_getElem?_getD, List.getElem?_set, if_neg (fun e => d e.symm), ← List.getD_eq_getElem?_getD]
theorem bit_pkA {bs : List Nat} (hb : ∀ i, bs.getD i 0 ≤ 1) : ∀ n p, bitW (pkA bs n) p = if p < n then bs.getD p 0 else 0
  | 0, p => by
    rw [if_neg (by omega)]
    unfold bitW
    rw [show (pkA bs 0) = [] from rfl, getD_over (Nat.zero_le _)]; simp
  | n + 1, p => by
    have ih := bit_pkA hb n
    rw [pkA, bit_pk1 (pkA_ok hb n) (hb n) (fun q hq => by rw [ih, if_neg (by omega)]), ih]
    by_cases c : p = n
    · rw [if_pos c, if_pos (by omega), c]
    · rw [if_neg c]
      by_cases d : p < n
      · rw [if_pos d, if_pos (by omega)]
      · rw [if_neg d, if_neg (by omega)]
/-! words -/
theorem first_ge (l : List Int) (k : Nat) : ∀ n, (firstW l k + cntW l k) * 2 ^ (n + 1) ≤ firstW l (k + n + 1)
  | 0 => by rw [firstW, Nat.pow_one]; omega
  | n + 1 => by
    have ih := first_ge l k n
    have e : firstW l (k + (n + 1) + 1) = 2 * (firstW l (k + n + 1) + cntW l (k + n + 1)) := rfl
    have e2 := Nat.pow_succ 2 (n + 1)
    rw [e, e2, ← Nat.mul_assoc]; omega
theorem rank_lt {l : List Int} {n s : Nat} (h : l.getD s 0 = (n : Int)) (hs : s < l.length) : (symN l n s).length < (symN l n l.length).length ∧ (symN l n l.length).getD (symN l n s).length 0 = s := by
  have key : ∀ m, s < m → ∃ r, symN l n m = symN l n s ++ s :: r := by
    intro m
    induction m with
    | zero => intro h; omega
    | succ m ih =>
      intro hm
      rw [symN_succ]
      by_cases c : s = m
      · subst c; rw [if_pos h]; exact ⟨[], rfl⟩
      · obtain ⟨r, hr⟩ := ih (by omega)
        rw [hr]
        split
        · exact ⟨r ++ [m], by simp⟩
        · exact ⟨r, by simp⟩
  obtain ⟨r, hr⟩ := key l.length hs
  rw [hr]
  constructor
  · rw [List.length_append, List.length_cons]; omega
  · rw [List.getD_eq_getElem?_getD, List.getElem?_append_right (Nat.le_refl _), Nat.sub_self]; rfl
/-- the word of a symbol is read back -/
theorem dec_word {l : List Int} {w : List UInt8} {p s n : Nat} (h : l.getD s 0 = (n : Int)) (hs : s < l.length) (hn : 1 ≤ n) (hw : p + n ≤ 8 * w.length) (hbit : ∀ k, k < n → bitW w (p + k) = (firstW l n + (symN l n s).length) / 2 ^ (n - 1 - k) % 2) :
    ∀ (j k : Nat), k + j = n → ∀ q, j ≤ q → dec1 l w q (k + 1) ((firstW l n + (symN l n s).length) / 2 ^ (n - k)) (p + k) = if j = 0 then dec1 l w q (k + 1) ((firstW l n + (symN l n s).length) / 2 ^ (n - k)) (p + k) else some (s, p + n)
  | 0, k, _, q, _ => by rw [if_pos rfl]
  | j + 1, k, hk, q, hq => by
    obtain ⟨q, rfl⟩ : ∃ q', q = q' + 1 := ⟨q - 1, by omega⟩
    rw [if_neg (by omega)]
    have hb := hbit k (by omega)
    have e1 : n - k = (n - (k + 1)) + 1 := by omega
    have hval : 2 * ((firstW l n + (symN l n s).length) / 2 ^ (n - k)) + bitW w (p + k) = (firstW l n + (symN l n s).length) / 2 ^ (n - (k + 1)) := by
      rw [hb, e1, Nat.pow_succ, ← Nat.div_div_eq_div_mul, show n - 1 - k = n - (k + 1) by omega]; omega
    have hr := rank_lt h hs
    have hc : cntW l n = (symN l n l.length).length := by unfold cntW; rw [if_neg (by omega)]
    by_cases c : j = 0
    · subst c
      have e2 : k + 1 = n := by omega
      rw [dec1_yes (by omega) (by rw [hval, e2, Nat.sub_self, Nat.pow_zero, Nat.div_one, hc]; omega), hval, e2, Nat.sub_self, Nat.pow_zero, Nat.div_one, Nat.add_sub_cancel_left, hr.2, show p + k + 1 = p + n by omega]
    · have hno : ¬ (firstW l n + (symN l n s).length) / 2 ^ (n - (k + 1)) < firstW l (k + 1) + cntW l (k + 1) := by
        have hf := first_ge l (k + 1) (n - (k + 1) - 1)
        rw [show n - (k + 1) - 1 + 1 = n - (k + 1) by omega, show k + 1 + (n - (k + 1) - 1) + 1 = n by omega] at hf
        have := (Nat.le_div_iff_mul_le (Nat.pow_pos (n := n - (k + 1)) (show 0 < 2 by omega))).2 (Nat.le_trans hf (Nat.le_add_right _ (symN l n s).length))
        omega
      rw [dec1_no (by omega) (by rw [hval]; exact hno), hval]
      have ih := dec_word h hs hn hw hbit j (k + 1) (by omega) q (by omega)
      rw [if_neg c] at ih
      exact ih
theorem dec_sym {l : List Int} {w : List UInt8} {p s n : Nat} (hu : usedB l 15 ≤ 32768) (h : l.getD s 0 = (n : Int)) (hs : s < l.length) (hn : 1 ≤ n) (h15 : n ≤ 15) (hw : p + n ≤ 8 * w.length) (hbit : ∀ k, k < n → bitW w (p + k) = (firstW l n + (symN l n s).length) / 2 ^ (n - 1 - k) % 2) : dec1 l w 15 1 0 p = some (s, p + n) := by
  have h1 := dec_word h hs hn hw hbit n 0 (by omega) 15 h15
  rw [if_neg (by omega), Nat.sub_zero, Nat.add_zero] at h1
  have hlt : firstW l n + (symN l n s).length < 2 ^ n := by
    have h2 := word_used l n h15
    have h3 : usedB l n ≤ 32768 := by
      have mono : ∀ b, usedB l n ≤ usedB l (n + b) := by
        intro b
        induction b with
        | zero => exact Nat.le_refl _
        | succ b ih => exact Nat.le_trans ih (Nat.le_add_right _ _)
      have := mono (15 - n)
      rw [show n + (15 - n) = 15 by omega] at this
      omega
    have hr := (rank_lt h hs).1
    have hc : cntW l n = (symN l n l.length).length := by unfold cntW; rw [if_neg (by omega)]
    have e : 2 ^ n * 2 ^ (15 - n) = 32768 := by rw [← Nat.pow_add, show n + (15 - n) = 15 by omega]
    have h5 : (firstW l n + cntW l n) * 2 ^ (15 - n) ≤ 2 ^ n * 2 ^ (15 - n) := by omega
    have := Nat.le_of_mul_le_mul_right h5 (Nat.pow_pos (show 0 < 2 by omega))
    omega
  rw [Nat.div_eq_of_lt hlt] at h1
  exact h1
/-- a text whose symbols all have words is read back -/
theorem dec_text {L : List Int} {w : List UInt8} {t : List UInt8} (hu : usedB L 15 ≤ 32768) (hB : inB 0 15 L = true) (hpos : ∀ c ∈ t, c.toNat < L.length ∧ 1 ≤ L.getD c.toNat 0) (hw : (bitsF L t).length ≤ 8 * w.length) (hbit : ∀ p, p < (bitsF L t).length → bitW w p = (bitsF L t).getD p 0) : ∀ (m q : Nat), q + m = t.length → decA L w m (bitsF L (t.take q)).length = some (t.drop q, (bitsF L t).length)
  | 0, q, h => by
    rw [decA, List.take_of_length_le (by omega), List.drop_eq_nil_of_le (by omega)]
  | m + 1, q, h => by
    have hq : q < t.length := by omega
    obtain ⟨h1, h2⟩ := hpos (t.getD q 0) (getD_memG 0 hq)
    have hb := inB_iff.1 hB _ h1
    have hcode : codeAt L (t.getD q 0).toNat = (L.getD (t.getD q 0).toNat 0, ((firstW L (L.getD (t.getD q 0).toNat 0).toNat + (symN L (L.getD (t.getD q 0).toNat 0).toNat (t.getD q 0).toNat).length : Nat) : Int)) := by
      unfold codeAt; rw [if_neg (by omega)]
    have hnx := bits_next (L := L) hq
    rw [hcode] at hnx
    dsimp only at hnx
    have hle : (bitsF L (t.take (q + 1))).length ≤ (bitsF L t).length := by
      have : bitsF L t = bitsF L (t.take (q + 1)) ++ bitsF L (t.drop (q + 1)) := by
        unfold bitsF; rw [← List.flatMap_append, List.take_append_drop]
      rw [this, List.length_append]; omega
    have hd := dec_sym (w := w) (p := (bitsF L (t.take q)).length) (s := (t.getD q 0).toNat) (n := (L.getD (t.getD q 0).toNat 0).toNat) hu (by omega) h1 (by omega) (by omega) (by omega) (fun k hk => by
      rw [hbit _ (by omega), bits_at hq (by rw [hcode]; exact hk), hcode]; rfl)
    have ih := dec_text hu hB hpos hw hbit m (q + 1) (by omega)
    rw [hnx] at ih
    rw [decA, hd]
    dsimp only
    rw [ih]
    dsimp only
    rw [dropG 0 hq]
    congr 3
    exact UInt8.toNat_inj.1 (toU8 (t.getD q 0).toNat_lt)

/-! the header is read back -/
theorem put_head {v : Int} (h1 : 1 ≤ v) (h2 : v ≤ 256) (r : List UInt8) : ¬ (putI v ++ r).getD 0 0 = 0 := by
  by_cases c : v < 128
  · rw [putI_lt (by omega) c]
    show ¬ v.toNat.toUInt8 = 0
    intro e
    have := congrArg UInt8.toNat e
    rw [toU8 (by omega)] at this
    have h0 : (0 : UInt8).toNat = 0 := rfl
    omega
  · rw [putI_ge (by omega)]
    show ¬ (v % 128 + 128).toNat.toUInt8 = 0
    intro e
    have := congrArg UInt8.toNat e
    rw [toU8 (by omega)] at this
    have h0 : (0 : UInt8).toNat = 0 := rfl
    omega
theorem getD_drop0 {b : List UInt8} {a i : Nat} : b.getD (a + i) 0 = (b.drop a).getD i 0 := by
  rw [List.getD_eq_getElem?_getD, List.getD_eq_getElem?_getD, List.getElem?_drop]
theorem run_take {L : List Int} {i k : Nat} (hr : IsRun L i k) : L.take i ++ List.replicate (k - i) (L.getD i 0) = L.take k := by
  obtain ⟨h1, h2, h3, -⟩ := hr
  apply List.ext_getElem
  · simp; omega
  · intro q k1 k2
    rw [List.length_take] at k2
    rw [List.getElem_take]
    by_cases c : q < i
    · rw [List.getElem_append_left (by rw [List.length_take]; omega), List.getElem_take]
    · rw [List.getElem_append_right (by rw [List.length_take]; omega), List.getElem_replicate]
      have := h3 q (by omega) (by omega)
      rw [← this, List.getD_eq_getElem?_getD, List.getElem?_eq_getElem (by omega)]; rfl
theorem last_take {L : List Int} {i : Nat} (h : 0 < i) (hi : i ≤ L.length) : lastI (L.take i) = L.getD (i - 1) 0 := by
  unfold lastI
  rw [List.getLast?_eq_getElem?, List.length_take, Nat.min_eq_left hi, List.getElem?_take_of_lt (by omega), List.getD_eq_getElem?_getD, List.getElem?_eq_getElem (by omega)]; rfl
theorem hdr_back {L : List Int} (hB : inB 0 15 L = true) (h256 : L.length ≤ 256) (b w : List UInt8) : ∀ (n i a : Nat), L.length - i ≤ n → i ≤ L.length → (i = 0 ∨ ¬ L.getD (i - 1) 0 = L.getD i 0 ∨ (i = L.length ∧ ¬ L.getD (i - 1) 0 = 0)) → b.drop a = hdrE L i ++ (0 :: w) →
    ∃ m a', hdr b a (L.take i) = some (L.take m, a') ∧ m ≤ L.length ∧ (∀ q, m ≤ q → q < L.length → L.getD q 0 = 0) ∧ b.drop a' = w := by
  intro n
  induction n with
  | zero =>
    intro i a hn hi hbd hd
    rw [hdrE_end (by omega), List.nil_append] at hd
    have ha : a < b.length := by
      rcases Nat.lt_or_ge a b.length with k | k
      · exact k
      · rw [List.drop_eq_nil_of_le k] at hd; cases hd
    have h0 : b.getD a 0 = 0 := by have := getD_drop0 (b := b) (a := a) (i := 0); rw [Nat.add_zero, hd] at this; exact this
    refine ⟨i, a + 1, hdr_z1 ha h0 ?_, hi, fun q h1 h2 => by omega, by rw [← List.drop_drop, hd]; rfl⟩
    rcases Nat.eq_zero_or_pos i with c | c
    · rw [c, List.take_zero]; decide
    · rw [last_take c hi]
      rcases hbd with h | h | h
      · omega
      · have e : L.getD i 0 = 0 := by rw [List.getD_eq_getElem?_getD, List.getElem?_eq_none (by omega)]; rfl
        rw [e] at h; exact h
      · exact h.2
  | succ n ih =>
    intro i a hn hi hbd hd
    by_cases c : i < L.length
    · have hr := runK_spec c
      by_cases z : runK L i = L.length ∧ L.getD i 0 = 0
      · rw [hdrE_zero hr z.1 z.2, List.nil_append] at hd
        have ha : a < b.length := by
          rcases Nat.lt_or_ge a b.length with k | k
          · exact k
          · rw [List.drop_eq_nil_of_le k] at hd; cases hd
        have h0 : b.getD a 0 = 0 := by have := getD_drop0 (b := b) (a := a) (i := 0); rw [Nat.add_zero, hd] at this; exact this
        refine ⟨i, a + 1, hdr_z1 ha h0 ?_, hi, fun q h1 h2 => by rw [hr.2.2.1 q h1 (by omega)]; exact z.2, by rw [← List.drop_drop, hd]; rfl⟩
        rcases Nat.eq_zero_or_pos i with d | d
        · rw [d, List.take_zero]; decide
        · rw [last_take d hi]
          rcases hbd with h | h | h
          · omega
          · rw [z.2] at h; exact h
          · omega
      · rw [hdrE_run hr (by omega)] at hd
        obtain ⟨r1, r2, r3, r4⟩ := hr
        have hbi := inB_iff.1 hB i c
        have hp := putI_len (v := ((runK L i : Nat) : Int) - (i : Nat)) (by omega)
        have hp0 := putI_pos (v := ((runK L i : Nat) : Int) - (i : Nat)) (by omega)
        rw [List.append_assoc, List.append_assoc, List.singleton_append] at hd
        have hlen := congrArg List.length hd
        rw [List.length_drop, List.length_append, List.length_cons, List.length_append, List.length_cons] at hlen
        have ha : a < b.length := by omega
        have hg : get (b.drop a) = ((runK L i - i : Nat), (putI (((runK L i : Nat) : Int) - (i : Nat))).length, 0) := by
          rw [hd, get_put (by omega) (by omega)]; congr 1; omega
        have h0 : ¬ b.getD a 0 = 0 := by
          have := getD_drop0 (b := b) (a := a) (i := 0)
          rw [Nat.add_zero] at this
          rw [this, hd]; exact put_head (by omega) (by omega) _
        have hx : b.getD (a + (putI (((runK L i : Nat) : Int) - (i : Nat))).length) 0 = (L.getD i 0).toNat.toUInt8 := by
          rw [getD_drop0, hd, List.getD_eq_getElem?_getD, List.getElem?_append_right (Nat.le_refl _), Nat.sub_self]; rfl
        have hx2 : ((b.getD (a + (putI (((runK L i : Nat) : Int) - (i : Nat))).length) 0).toNat : Int) = L.getD i 0 := by
          rw [hx, toU8 (by omega), Int.toNat_of_nonneg hbi.1]
        have hP : hdrP b a (L.take i) := by
          unfold hdrP
          rw [hg]
          refine ⟨rfl, ?_, ?_, ?_, ?_⟩
          · dsimp only; rw [List.length_take]; omega
          · dsimp only; omega
          · dsimp only; rw [hx2]; exact hbi.2
          · dsimp only
            rw [hx2]
            rcases Nat.eq_zero_or_pos i with d | d
            · rw [d]; intro e
              have : lastI (L.take 0) = -1 := rfl
              rw [this] at e
              rw [d] at hbi; omega
            · rw [last_take d hi]
              rcases hbd with h | h | h
              · omega
              · exact h
              · omega
        have hL : hdrL b a (L.take i) = L.take (runK L i) := by
          unfold hdrL
          rw [hg]
          dsimp only
          rw [hx2]; exact run_take ⟨r1, r2, r3, r4⟩
        rw [hdr_more ha h0 hP, hg, hL]
        dsimp only
        refine ih (runK L i) _ (by omega) r2 ?_ ?_
        · have e : L.getD (runK L i - 1) 0 = L.getD i 0 := r3 _ (by omega) (by omega)
          rcases r4 with k | k
          · exact .inr (.inr ⟨k, by rw [e]; intro e0; exact z ⟨k, e0⟩⟩)
          · exact .inr (.inl (by rw [e]; exact fun e2 => k e2.symm))
        · rw [Nat.add_assoc, ← List.drop_drop, hd, ← List.drop_drop, List.drop_left]; rfl
    · have e : i = L.length := by omega
      exact ih i a (by omega) hi hbd hd
theorem sym_take {L : List Int} {m : Nat} (hm : m ≤ L.length) (hz : ∀ q, m ≤ q → q < L.length → L.getD q 0 = 0) {n : Nat} (hn : 1 ≤ n) : symN (L.take m) n (L.take m).length = symN L n L.length := by
  have key : ∀ j, j ≤ L.length → symN (L.take m) n (min j m) = symN L n j := by
    intro j
    induction j with
    | zero => intro _; rw [Nat.zero_min]; rfl
    | succ j ih =>
      intro hj
      rw [symN_succ L]
      by_cases c : j < m
      · have e : (L.take m).getD j 0 = L.getD j 0 := by
          rw [List.getD_eq_getElem?_getD, List.getD_eq_getElem?_getD, List.getElem?_take_of_lt c]
        have ih' := ih (by omega)
        rw [Nat.min_eq_left (by omega)] at ih'
        rw [Nat.min_eq_left (by omega), symN_succ, ih', e]
      · have e := hz j (by omega) (by omega)
        have ih' := ih (by omega)
        rw [Nat.min_eq_right (by omega)] at ih'
        rw [Nat.min_eq_right (by omega), if_neg (by omega), List.append_nil, ih']
  have := key L.length (Nat.le_refl _)
  rw [List.length_take]
  rwa [Nat.min_comm] at this
section
variable {L : List Int} {m : Nat}
theorem first_take (hm : m ≤ L.length) (hz : ∀ q, m ≤ q → q < L.length → L.getD q 0 = 0) : ∀ n, firstW (L.take m) n = firstW L n ∧ cntW (L.take m) n = cntW L n
  | 0 => ⟨rfl, rfl⟩
  | n + 1 => by
    have ih := first_take hm hz n
    refine ⟨by rw [firstW, firstW, ih.1, ih.2], ?_⟩
    unfold cntW
    rw [if_neg (by omega), if_neg (by omega), sym_take hm hz (by omega)]
theorem used_take (hm : m ≤ L.length) (hz : ∀ q, m ≤ q → q < L.length → L.getD q 0 = 0) : ∀ n, usedB (L.take m) n = usedB L n
  | 0 => rfl
  | n + 1 => by rw [usedB, usedB, used_take hm hz n, sym_take hm hz (by omega)]
theorem dec1_take (hm : m ≤ L.length) (hz : ∀ q, m ≤ q → q < L.length → L.getD q 0 = 0) (w : List UInt8) : ∀ k n word p, 1 ≤ n → dec1 (L.take m) w k n word p = dec1 L w k n word p
  | 0, _, _, _, _ => rfl
  | k + 1, n, word, p, hn => by
    have hf := first_take hm hz n
    rw [dec1, dec1, hf.1, hf.2, sym_take hm hz hn, dec1_take hm hz w k (n + 1) _ _ (by omega)]
theorem decA_take (hm : m ≤ L.length) (hz : ∀ q, m ≤ q → q < L.length → L.getD q 0 = 0) (w : List UInt8) : ∀ k p, decA (L.take m) w k p = decA L w k p
  | 0, _ => rfl
  | k + 1, p => by
    rw [decA, decA, dec1_take hm hz w 15 1 0 p (by omega)]
    split
    · rfl
    · rename_i s e _
      rw [decA_take hm hz w k e]
theorem words_take (hm : m ≤ L.length) (hz : ∀ q, m ≤ q → q < L.length → L.getD q 0 = 0) (w : List UInt8) (n : Nat) : wordsF (L.take m) w n = wordsF L w n := by
  unfold wordsF
  rw [used_take hm hz, decA_take hm hz]
end
theorem cntP_mem {t : List UInt8} {c : UInt8} (h : c ∈ t) : 0 < (cntP t).getD c.toNat 0 := by
  unfold cntP
  rw [mapR_get c.toNat_lt]
  have : c ∈ t.filter fun d => decide (d.toNat = c.toNat) := List.mem_filter.2 ⟨h, by simp⟩
  have := List.length_pos_of_mem this
  omega
theorem lnF_pos {t : List UInt8} {c : UInt8} (h : c ∈ t) : 1 ≤ (lnF t).getD c.toNat 0 := by
  have hc := cntP_mem h
  have hlt : c.toNat < (cntP t).length := by rw [cntP_len]; exact c.toNat_lt
  unfold lnF
  rcases Nat.lt_or_ge (thF (cntP t)).length 2 with k | k
  · have h1 : (thF (cntP t)).length = 1 := by
      have hs := sumU_ge (g := fun i => if 0 < (cntP t).getD i 0 then 1 else 0) hlt
      rw [thF_count] at hs
      rw [if_pos hc] at hs; omega
    rw [lens_one h1, mapR_get hlt, if_pos hc]; exact Int.le_refl _
  · rw [lens_get hlt]
    have := dF_pos (cs := cntP t) (by rw [cntP_len]; omega) (fun i => (cntP_bd t i).1) (lim := 15) (by omega) (cntP_room t) k hlt hc
    omega
/-- **there and back** -/
theorem huff_back {t : List UInt8} (h : t.length ≤ 65536) : huffD (encF t) (t.length : Nat) = (t, 0) := by
  have hB := lnF_inB t
  have hu := (lnF_codes t).1
  have hL := lnF_len t
  obtain ⟨m, a', h1, h2, h3, h4⟩ := hdr_back hB (by omega) (encF t) (pkA (bitsF (lnF t) t) (bitsF (lnF t) t).length) (lnF t).length 0 0 (by omega) (Nat.zero_le _) (.inl rfl) (by rw [List.drop_zero]; unfold encF; rw [List.append_assoc]; rfl)
  rw [List.take_zero] at h1
  have hpl := (pkA_ok (bs := bitsF (lnF t) t) bits_le (bitsF (lnF t) t).length).len
  have hbit := bit_pkA (bs := bitsF (lnF t) t) bits_le (bitsF (lnF t) t).length
  have hd := dec_text (w := pkA (bitsF (lnF t) t) (bitsF (lnF t) t).length) (t := t) hu hB (fun c hc => ⟨by rw [hL]; exact c.toNat_lt, lnF_pos hc⟩) (by omega) (fun p hp => by rw [hbit, if_pos hp]) t.length 0 (by omega)
  rw [bitsF_zero, List.drop_zero] at hd
  have hw : wordsF ((lnF t).take m) (pkA (bitsF (lnF t) t) (bitsF (lnF t) t).length) t.length = some t := by
    rw [words_take h2 h3]
    unfold wordsF
    rw [if_neg (by omega), show decA (lnF t) (pkA (bitsF (lnF t) t) (bitsF (lnF t) t).length) t.length 0 = some (t, (bitsF (lnF t) t).length) from hd]
    dsimp only
    rw [if_pos ⟨hpl.symm, fun i _ hi => by rw [hbit, if_neg (by omega)]⟩]
  unfold huffD
  rw [if_neg (by omega), h1]
  dsimp only
  rw [h4, Int.toNat_natCast, hw]
theorem huffD_room {b : List UInt8} {n : Int} (h : (huffD b n).2 = 0) : 0 ≤ n ∧ n ≤ 65536 ∧ ((huffD b n).1.length : Int) = n ∧ n ≤ 8 * b.length := by
  unfold huffD at h ⊢
  by_cases c : n < 0 ∨ 65536 < n
  · rw [if_pos c] at h; simp at h
  · rw [if_neg c] at h ⊢
    cases h1 : hdr b 0 [] with
    | none => rw [h1] at h; simp at h
    | some la =>
      obtain ⟨l, a⟩ := la
      rw [h1] at h
      dsimp only at h ⊢
      cases h2 : wordsF l (b.drop a) n.toNat with
      | none => rw [h2] at h; simp at h
      | some t =>
        dsimp only
        have hw := h2
        unfold wordsF at hw
        split at hw
        · cases hw
        · split at hw
          · cases hw
          · rename_i t' e hd
            split at hw
            · rename_i hk
              injection hw with hw; subst hw
              have hb := decA_bd hd (Nat.zero_le _)
              rw [List.length_drop] at hb hk
              refine ⟨by omega, by omega, by omega, by omega⟩
            · cases hw
theorem huffD_bad {b : List UInt8} {n : Int} (h : ¬ (huffD b n).2 = 0) : (huffD b n).1.length = 0 := by
  unfold huffD at h ⊢
  by_cases c : n < 0 ∨ 65536 < n
  · rw [if_pos c]; rfl
  · rw [if_neg c] at h ⊢
    cases h1 : hdr b 0 [] with
    | none => rfl
    | some la =>
      obtain ⟨l, a⟩ := la
      rw [h1] at h
      dsimp only at h ⊢
      cases h2 : wordsF l (b.drop a) n.toNat with
      | none => rfl
      | some t => rw [h2] at h; exact absurd rfl h
