/- Tokens out of bytes. What is computed. -/
import Derived.Test.YteanplpnhlgjeaaT2
import Derived.Test.YteanplpnhlgjeaaK2
namespace Go.Proofs.Yteanplpnhlgjeaa.E
open Go
def nV (b : List UInt8) (a : Nat) : Nat := (get (b.drop a)).1
def nK (b : List UInt8) (a : Nat) : Nat := (get (b.drop a)).2.1
def nE (b : List UInt8) (a : Nat) : Int := (get (b.drop a)).2.2
/-- of a token at place a: where its bytes begin, where they end, where the second and the third number end -/
def aL (b : List UInt8) (a : Nat) : Nat := a + nK b a
def aM (b : List UInt8) (a : Nat) : Nat := aL b a + nV b a
def aD (b : List UInt8) (a : Nat) : Nat := aM b a + nK b (aM b a)
def aZ (b : List UInt8) (a : Nat) : Nat := aD b a + nK b (aD b a)
def litT (b : List UInt8) (a : Nat) : List UInt8 := (b.drop (aL b a)).take (nV b a)
def hdT (b : List UInt8) (n a made : Nat) : Prop := nE b a = 0 ∧ made + nV b a ≤ n ∧ aM b a ≤ b.length
instance (b : List UInt8) (n a made : Nat) : Decidable (hdT b n a made) := by unfold hdT; infer_instance
def mtT (b : List UInt8) (n a made : Nat) : Prop := nE b (aM b a) = 0 ∧ nE b (aD b a) = 0 ∧ nV b (aM b a) ≤ 255 ∧ made + nV b a + nV b (aM b a) + 4 ≤ n ∧ 1 ≤ nV b (aD b a) ∧ nV b (aD b a) ≤ 32768 ∧ nV b (aD b a) ≤ made + nV b a
instance (b : List UInt8) (n a made : Nat) : Decidable (mtT b n a made) := by unfold mtT; infer_instance
def mtP (b : List UInt8) (a : Nat) : Pk := (litT b a, (nV b (aD b a) : Int), (nV b (aM b a) : Int) + 4)
/-- the tokens from place a on, made bytes of the text's n being told -/
def rdK (b : List UInt8) (n : Nat) : Nat → Nat → Nat → Option (List Pk)
  | 0, _, _ => none
  | k + 1, a, made => if made = n then (if a = b.length then some [] else none)
    else if hdT b n a made then (if made + nV b a = n then (if aM b a = b.length ∧ 0 < nV b a then some [(litT b a, 0, 0)] else none)
      else if mtT b n a made then (rdK b n k (aZ b a) (made + nV b a + nV b (aM b a) + 4)).map (fun l => mtP b a :: l) else none) else none
def rdF (b : List UInt8) (n : Nat) : Option (List Pk) := rdK b n (n + 1) 0 0
theorem rdK_end {b : List UInt8} {n k : Nat} : rdK b n (k + 1) b.length n = some [] := by rw [rdK, if_pos rfl, if_pos rfl]
theorem rdK_over {b : List UInt8} {n k a : Nat} (h : ¬ a = b.length) : rdK b n (k + 1) a n = none := by rw [rdK, if_pos rfl, if_neg h]
theorem rdK_nohd {b : List UInt8} {n k a made : Nat} (h : ¬ made = n) (hd : ¬ hdT b n a made) : rdK b n (k + 1) a made = none := by rw [rdK, if_neg h, if_neg hd]
theorem rdK_last {b : List UInt8} {n k a made : Nat} (h : ¬ made = n) (hd : hdT b n a made) (hn : made + nV b a = n) (h2 : aM b a = b.length) (h3 : 0 < nV b a) : rdK b n (k + 1) a made = some [(litT b a, 0, 0)] := by rw [rdK, if_neg h, if_pos hd, if_pos hn, if_pos ⟨h2, h3⟩]
theorem rdK_bad {b : List UInt8} {n k a made : Nat} (h : ¬ made = n) (hn : made + nV b a = n) (h2 : ¬ (aM b a = b.length ∧ 0 < nV b a)) : rdK b n (k + 1) a made = none := by
  by_cases hd : hdT b n a made
  · rw [rdK, if_neg h, if_pos hd, if_pos hn, if_neg h2]
  · exact rdK_nohd h hd
theorem rdK_nomt {b : List UInt8} {n k a made : Nat} (h : ¬ made = n) (hn : ¬ made + nV b a = n) (h2 : ¬ mtT b n a made) : rdK b n (k + 1) a made = none := by
  by_cases hd : hdT b n a made
  · rw [rdK, if_neg h, if_pos hd, if_neg hn, if_neg h2]
  · exact rdK_nohd h hd
theorem rdK_go {b : List UInt8} {n k a made : Nat} (h : ¬ made = n) (hd : hdT b n a made) (hn : ¬ made + nV b a = n) (h2 : mtT b n a made) : rdK b n (k + 1) a made = (rdK b n k (aZ b a) (made + nV b a + nV b (aM b a) + 4)).map (fun l => mtP b a :: l) := by rw [rdK, if_neg h, if_pos hd, if_neg hn, if_pos h2]
theorem nE_end (b : List UInt8) : ¬ nE b b.length = 0 := by unfold nE; rw [List.drop_length]; decide
theorem nE_22 (b : List UInt8) (a : Nat) : ¬ nE b a = 22 := by
  have h : (get (b.drop a)).2.2 = 0 ∨ (get (b.drop a)).2.2 = 20 ∨ (get (b.drop a)).2.2 = 21 := (getA_err (b.drop a) 0 0).1
  unfold nE; omega
theorem nK_le {b : List UInt8} {a : Nat} (h : a ≤ b.length) : a + nK b a ≤ b.length := by
  have : (get (b.drop a)).2.1 ≤ (b.drop a).length := by
    by_cases c : (get (b.drop a)).2.2 = 0
    · exact (get_ok c).2.1
    · have h : (get (b.drop a)).2.1 = 0 := ((getA_err (b.drop a) 0 0).2 c).2
      omega
  rw [List.length_drop] at this
  unfold nK; omega
/-- how far the walk has come -/
structure RdI (b : List UInt8) (n : Nat) (toks : List Pk) (k a made : Nat) : Prop where
  e : rdF b n = (rdK b n k a made).map (fun l => toks ++ l)
  k : n < made + k
  m : made ≤ n
  a : a ≤ b.length
theorem RdI.init (b : List UInt8) (n : Nat) : RdI b n [] (n + 1) 0 0 := ⟨by unfold rdF; cases rdK b n (n + 1) 0 0 <;> rfl, by omega, by omega, by omega⟩
theorem RdI.no {b : List UInt8} {n k a made : Nat} {toks : List Pk} (h : RdI b n toks k a made) (hn : ∀ j, rdK b n (j + 1) a made = none) : rdF b n = none := by
  have hk := h.k; have hm := h.m
  have e := hn (k - 1)
  rw [show k - 1 + 1 = k by omega] at e
  rw [h.e, e]; rfl
theorem RdI.over {b : List UInt8} {n k a : Nat} {toks : List Pk} (h : RdI b n toks k a n) (hl : a < b.length) : rdF b n = none := h.no fun j => rdK_over (by omega)
theorem RdI.done {b : List UInt8} {n k : Nat} {toks : List Pk} (h : RdI b n toks k b.length n) : rdF b n = some toks := by
  have hk := h.k
  rw [h.e, show k = k - 1 + 1 by omega, rdK_end]; simp
theorem RdI.short {b : List UInt8} {n k made : Nat} {toks : List Pk} (h : RdI b n toks k b.length made) (hm : ¬ made = n) : rdF b n = none := h.no fun j => rdK_nohd hm fun p => nE_end b p.1
theorem RdI.nohd {b : List UInt8} {n k a made : Nat} {toks : List Pk} (h : RdI b n toks k a made) (hl : a < b.length) (hd : ¬ (nE b a = 0 ∧ nV b a ≤ n - made ∧ aM b a ≤ b.length)) : rdF b n = none := by
  have hm := h.m
  by_cases c : made = n
  · subst c; exact h.over hl
  · exact h.no fun j => rdK_nohd c fun p => hd ⟨p.1, by have := p.2.1; omega, p.2.2⟩
theorem RdI.bad {b : List UInt8} {n k a made : Nat} {toks : List Pk} (h : RdI b n toks k a made) (hl : a < b.length) (hz : aM b a = b.length) (h0 : nV b a = 0 ∨ ¬ made + nV b a = n) : rdF b n = none := by
  by_cases c : made = n
  · subst c; exact h.over hl
  · by_cases c2 : made + nV b a = n
    · exact h.no fun j => rdK_bad c c2 (by omega)
    · exact h.no fun j => rdK_nomt c c2 fun p => nE_end b (by rw [← hz]; exact p.1)
theorem RdI.last {b : List UInt8} {n k a made : Nat} {toks : List Pk} (h : RdI b n toks k a made) (hl : a < b.length) (hd : nE b a = 0) (hz : aM b a = b.length) (h0 : 0 < nV b a) (hn : made + nV b a = n) : RdI b n (toks ++ [(litT b a, 0, 0)]) 1 b.length n := by
  have hk := h.k
  refine ⟨?_, by omega, Nat.le_refl _, Nat.le_refl _⟩
  rw [h.e, show k = k - 1 + 1 by omega, rdK_last (by omega) ⟨hd, by omega, by omega⟩ hn hz h0, rdK_end]; simp
theorem RdI.nomt {b : List UInt8} {n k a made : Nat} {toks : List Pk} (h : RdI b n toks k a made) (hl : a < b.length) (hz : aM b a < b.length) (h2 : ¬ mtT b n a made) : rdF b n = none := by
  by_cases c : made = n
  · subst c; exact h.over hl
  · by_cases c2 : made + nV b a = n
    · exact h.no fun j => rdK_bad c c2 (by omega)
    · exact h.no fun j => rdK_nomt c c2 h2
theorem RdI.go {b : List UInt8} {n k a made : Nat} {toks : List Pk} (h : RdI b n toks k a made) (hd : nE b a = 0) (hz : aM b a ≤ b.length) (h2 : mtT b n a made) : RdI b n (toks ++ [mtP b a]) (k - 1) (aZ b a) (made + nV b a + nV b (aM b a) + 4) := by
  have hk := h.k
  obtain ⟨p1, p2, p3, p4, p5, p6, p7⟩ := h2
  refine ⟨?_, by omega, by omega, ?_⟩
  · rw [h.e, show k = k - 1 + 1 by omega, rdK_go (by omega) ⟨hd, by omega, hz⟩ (by omega) ⟨p1, p2, p3, p4, p5, p6, p7⟩, Nat.add_sub_cancel]
    cases rdK b n (k - 1) (aZ b a) (made + nV b a + nV b (aM b a) + 4) <;> simp
  · have := nK_le (b := b) (a := aM b a) hz
    unfold aZ
    refine nK_le ?_
    unfold aD; exact this

/-- behind a token's bytes -/
def St2 (b : List UInt8) (a left : Nat) (lt : List UInt8) (A2 : Nat) (E2 : Int) : Prop := (E2 = 0 ∧ nE b a = 0 ∧ nV b a ≤ left ∧ aM b a ≤ b.length ∧ A2 = aM b a ∧ lt = litT b a ∧ lt.length = nV b a) ∨ (¬ E2 = 0 ∧ ¬ E2 = 22 ∧ ¬ (nE b a = 0 ∧ nV b a ≤ left ∧ aM b a ≤ b.length) ∧ lt = [])
/-- behind its numbers -/
def St4 (b : List UInt8) (a2 mx : Nat) (v3 v4 : Int) (A4 : Nat) (E4 : Int) : Prop := (E4 = 0 ∧ nE b a2 = 0 ∧ nE b (a2 + nK b a2) = 0 ∧ nV b a2 ≤ 255 ∧ nV b (a2 + nK b a2) ≤ mx ∧ v3 = (nV b a2 : Nat) ∧ v4 = (nV b (a2 + nK b a2) : Nat) ∧ A4 = a2 + nK b a2 + nK b (a2 + nK b a2)) ∨ (¬ E4 = 0 ∧ ¬ E4 = 22 ∧ ¬ (nE b a2 = 0 ∧ nE b (a2 + nK b a2) = 0 ∧ nV b a2 ≤ 255 ∧ nV b (a2 + nK b a2) ≤ mx))
theorem num_at {b : List UInt8} {a m : Nat} : (nE b a = 0 ∧ nV b a ≤ m ∧ cNum b a 0 m = (nV b a : Nat) ∧ cNumA b a 0 m = a + nK b a ∧ cNumE b a 0 m = 0) ∨ (¬ (nE b a = 0 ∧ nV b a ≤ m) ∧ cNum b a 0 m = 0 ∧ cNumA b a 0 m = a ∧ ¬ cNumE b a 0 m = 0 ∧ ¬ cNumE b a 0 m = 22) := by
  by_cases hE : (get (b.drop a)).2.2 = 0
  · by_cases hM : ((m : Nat) : Int) < ((get (b.drop a)).1 : Nat)
    · have hf := num_much hE hM
      refine .inr ⟨fun h => by have := h.2; unfold nV at this; omega, by unfold cNum; rw [if_pos rfl, hf.2], by unfold cNumA; rw [if_neg (by rw [hf.1]; omega)], by unfold cNumE; rw [if_pos rfl, hf.1]; omega, by unfold cNumE; rw [if_pos rfl, hf.1]; omega⟩
    · have hf := num_fine hE hM
      exact .inl ⟨hE, by unfold nV; omega, by unfold cNum; rw [if_pos rfl, hf.2]; rfl, by unfold cNumA; rw [if_pos ⟨rfl, by rw [hf.1, hE]⟩]; rfl, by unfold cNumE; rw [if_pos rfl, hf.1, hE]⟩
  · have hf := num_bad (m := ((m : Nat) : Int)) hE
    have h22 := nE_22 b a
    unfold nE at h22
    refine .inr ⟨fun h => hE h.1, by unfold cNum; rw [if_pos rfl, hf.2], by unfold cNumA; rw [if_neg (by rw [hf.1]; omega)], by unfold cNumE; rw [if_pos rfl, hf.1]; exact hE, by unfold cNumE; rw [if_pos rfl, hf.1]; exact h22⟩
theorem num_err {b : List UInt8} {a : Nat} {e m : Int} (h : ¬ e = 0) : cNum b a e m = 0 ∧ cNumA b a e m = a ∧ cNumE b a e m = e := by
  unfold cNum cNumA cNumE; rw [if_neg h, if_neg (fun k => h k.1), if_neg h]; exact ⟨rfl, rfl, rfl⟩
theorem st2_of {b : List UInt8} {a left : Nat} {V1 E1 E2 : Int} {A1 A2 : Nat} {lt : List UInt8} (hV : V1 = cNum b a 0 left) (hA : A1 = cNumA b a 0 left) (hE : E1 = cNumE b a 0 left) (hl : lt = cTk b A1 E1 V1) (hA2 : A2 = cTkA b A1 E1 V1) (hE2 : E2 = cTkE b A1 E1 V1) (ha : a ≤ b.length) : St2 b a left lt A2 E2 := by
  subst hl hA2 hE2
  rcases num_at (b := b) (a := a) (m := left) with ⟨h1, h2, h3, h4, h5⟩ | ⟨h1, h3, h4, h5, h6⟩
  · rw [h3] at hV; rw [h4] at hA; rw [h5] at hE
    subst hV hA hE
    have hk := nK_le ha
    by_cases hs : ((b.drop (a + nK b a)).length : Int) < ((nV b a : Nat) : Int)
    · have hf := tk_short (l := b.drop (a + nK b a)) (n := ((nV b a : Nat) : Int)) (by omega) hs
      rw [List.length_drop] at hs
      refine .inr ⟨by unfold cTkE; rw [if_pos rfl, hf.1]; omega, by unfold cTkE; rw [if_pos rfl, hf.1]; omega, fun h => by have := h.2.2; unfold aM aL at this; omega, by unfold cTk; rw [if_pos rfl, hf.2]⟩
    · have hf := tk_fine (l := b.drop (a + nK b a)) (n := ((nV b a : Nat) : Int)) (by omega) hs
      rw [List.length_drop] at hs
      have hlt : cTk b (a + nK b a) 0 ((nV b a : Nat) : Int) = litT b a := by unfold cTk; rw [if_pos rfl, hf.2, Int.toNat_natCast]; rfl
      refine .inl ⟨by unfold cTkE; rw [if_pos rfl, hf.1], h1, h2, by unfold aM aL; omega, ?_, hlt, ?_⟩
      · unfold cTkA tkN; rw [if_pos ⟨rfl, hf.1⟩, if_pos hf.1, Int.toNat_natCast]; rfl
      · rw [hlt]; unfold litT aL; rw [List.length_take, List.length_drop]; omega
  · rw [h3] at hV; rw [h4] at hA
    subst hV hA
    rw [← hE] at h5 h6
    refine .inr ⟨by unfold cTkE; rw [if_neg h5]; exact h5, by unfold cTkE; rw [if_neg h5]; exact h6, fun h => h1 ⟨h.1, h.2.1⟩, by unfold cTk; rw [if_neg h5]⟩
theorem st4_of {b : List UInt8} {a2 mx : Nat} {v3 v4 E3 E4 : Int} {A3 A4 : Nat} (h3 : v3 = cNum b a2 0 255) (hA3 : A3 = cNumA b a2 0 255) (hE3 : E3 = cNumE b a2 0 255) (h4 : v4 = cNum b A3 E3 mx) (hA4 : A4 = cNumA b A3 E3 mx) (hE4 : E4 = cNumE b A3 E3 mx) : St4 b a2 mx v3 v4 A4 E4 := by
  subst h4 hA4 hE4
  rcases num_at (b := b) (a := a2) (m := 255) with ⟨k1, k2, k3, k4, k5⟩ | ⟨k1, k3, k4, k5, k6⟩
  · rw [show ((255 : Nat) : Int) = 255 from rfl] at k3 k4 k5
    rw [k4] at hA3; rw [k5] at hE3; rw [k3] at h3
    subst hA3 hE3 h3
    rcases num_at (b := b) (a := a2 + nK b a2) (m := mx) with ⟨j1, j2, j3, j4, j5⟩ | ⟨j1, j3, j4, j5, j6⟩
    · exact .inl ⟨j5, k1, j1, k2, j2, rfl, j3, j4⟩
    · exact .inr ⟨j5, j6, fun h => j1 ⟨h.2.1, h.2.2.2⟩⟩
  · rw [show ((255 : Nat) : Int) = 255 from rfl] at k3 k4 k5 k6
    rw [← hE3] at k5 k6
    have := num_err (b := b) (a := A3) (m := ((mx : Nat) : Int)) k5
    exact .inr ⟨by rw [this.2.2]; exact k5, by rw [this.2.2]; exact k6, fun h => k1 ⟨h.1, h.2.2.1⟩⟩
theorem cNum_le {b : List UInt8} {a : Nat} {e : Int} {m : Nat} : 0 ≤ cNum b a e m ∧ cNum b a e m ≤ (m : Nat) := by
  by_cases c : e = 0
  · subst c
    rcases num_at (b := b) (a := a) (m := m) with ⟨_, k2, k3, _⟩ | ⟨_, k3, _⟩
    · rw [k3]; omega
    · rw [k3]; omega
  · rw [(num_err c).1]; omega
/-- how many bytes tokens tell -/
def lenP (ps : List Pk) : Nat := (ps.map fun t => t.1.length + t.2.2.toNat).sum
theorem lenP_app (ps : List Pk) (t : Pk) : lenP (ps ++ [t]) = lenP ps + t.1.length + t.2.2.toNat := by
  unfold lenP; rw [List.map_append, List.sum_append]; simp; omega
/-- their text -/
def textP (ps : List Pk) : List UInt8 := ps.foldl (fun T t => agn (T ++ t.1) t.2.1.toNat t.2.2.toNat) []
theorem textP_app (ps : List Pk) (t : Pk) : textP (ps ++ [t]) = agn (textP ps ++ t.1) t.2.1.toNat t.2.2.toNat := by
  unfold textP; rw [List.foldl_append]; rfl
theorem fold_len : ∀ (ps : List Pk) (T : List UInt8), (ps.foldl (fun T t => agn (T ++ t.1) t.2.1.toNat t.2.2.toNat) T).length = T.length + lenP ps
  | [], T => by simp [lenP]
  | t :: ps, T => by
    rw [List.foldl_cons, fold_len ps, agn_len, List.length_append]
    unfold lenP; simp only [List.map_cons, List.sum_cons]; omega
theorem textP_len (ps : List Pk) : (textP ps).length = lenP ps := by unfold textP; rw [fold_len]; simp
theorem exp_rdK {b : List UInt8} {n : Nat} (hn : n ≤ 65536) : ∀ (k a made : Nat) (ps : List Pk) (T : List UInt8), rdK b n k a made = some ps → T.length = made → made ≤ n → expG ps T = (ps.foldl (fun T t => agn (T ++ t.1) t.2.1.toNat t.2.2.toNat) T, 0) ∧ made + lenP ps = n ∧ ps.length + made ≤ n
  | 0, _, _, _, _, h, _, _ => by cases h
  | k + 1, a, made, ps, T, h, hT, hm => by
    by_cases c : made = n
    · subst c
      by_cases c2 : a = b.length
      · subst c2; rw [rdK_end] at h; injection h with h; subst h; exact ⟨rfl, by simp [lenP], by simp⟩
      · rw [rdK_over c2] at h; cases h
    · by_cases hd : hdT b n a made
      · obtain ⟨d1, d2, d3⟩ := hd
        have hlt : (litT b a).length = nV b a := by
          unfold litT; rw [List.length_take, List.length_drop]; unfold aM at d3; omega
        by_cases c2 : made + nV b a = n
        · by_cases c3 : aM b a = b.length ∧ 0 < nV b a
          · rw [rdK_last c ⟨d1, d2, d3⟩ c2 c3.1 c3.2] at h
            injection h with h; subst h
            refine ⟨?_, by simp [lenP, hlt]; omega, by simp only [List.length_cons, List.length_nil]; omega⟩
            rw [expG, if_neg, if_neg]
            · rfl
            · simp only [hlt, hT]; omega
            · refine fun h => h ((okT_none ⟨rfl, rfl⟩).2 ⟨rfl, ?_⟩)
              show 0 < (litT b a).length
              omega
          · rw [rdK_bad c c2 c3] at h; cases h
        · by_cases c3 : mtT b n a made
          · rw [rdK_go c ⟨d1, d2, d3⟩ c2 c3] at h
            obtain ⟨p1, p2, p3, p4, p5, p6, p7⟩ := c3
            cases hr : rdK b n k (aZ b a) (made + nV b a + nV b (aM b a) + 4) with
            | none => rw [hr] at h; cases h
            | some l =>
              rw [hr] at h
              injection h with h; subst h
              have e1 : (mtP b a).1 = litT b a := rfl
              have e2 : (mtP b a).2.1 = (nV b (aD b a) : Int) := rfl
              have e3 : (mtP b a).2.2 = (nV b (aM b a) : Int) + 4 := rfl
              have ih := exp_rdK hn k _ _ l (agn (T ++ (mtP b a).1) (mtP b a).2.1.toNat (mtP b a).2.2.toNat) hr (by rw [agn_len, List.length_append, e1, e3, hlt]; omega) (by omega)
              refine ⟨?_, ?_, ?_⟩
              · rw [expG, if_neg, if_neg]
                · exact ih.1
                · rw [e1, e3, hlt, hT]; omega
                · refine fun h => h ((okT_some (fun hn => ?_)).2 ?_)
                  · have := hn.2; rw [e3] at this; omega
                  · rw [e1, e2, e3, hlt, hT]; omega
              · have e4 : lenP (mtP b a :: l) = (litT b a).length + ((nV b (aM b a) : Int) + 4).toNat + lenP l := by simp [lenP, mtP]
                rw [e4, hlt]; omega
              · simp only [List.length_cons]; omega
          · rw [rdK_nomt c c2 c3] at h; cases h
      · rw [rdK_nohd c hd] at h; cases h
theorem exp_rd {b : List UInt8} {n : Nat} {ps : List Pk} (hn : n ≤ 65536) (h : rdF b n = some ps) : expF ps = (textP ps, 0) ∧ lenP ps = n ∧ ps.length ≤ n := by
  have := exp_rdK hn (n + 1) 0 0 ps [] h rfl (by omega)
  refine ⟨this.1, by omega, by omega⟩
/-- what Tokens and Decode tell -/
def tksF (b : List UInt8) (n : Int) : List Pk × Int := if n < 0 ∨ 65536 < n then ([], 3) else match rdF b n.toNat with
  | none => ([], 30)
  | some ps => (ps, 0)
def decF (b : List UInt8) (n : Int) : List UInt8 × Int := if (tksF b n).2 = 0 then (textP (tksF b n).1, 0) else ([], (tksF b n).2)
theorem tksF_arg {b : List UInt8} {n : Int} (h : n < 0 ∨ 65536 < n) : tksF b n = ([], 3) := by unfold tksF; rw [if_pos h]
theorem tksF_none {b : List UInt8} {n : Int} (h : ¬ (n < 0 ∨ 65536 < n)) (h1 : rdF b n.toNat = none) : tksF b n = ([], 30) := by unfold tksF; rw [if_neg h, h1]
theorem tksF_some {b : List UInt8} {n : Int} {ps : List Pk} (h : ¬ (n < 0 ∨ 65536 < n)) (h1 : rdF b n.toNat = some ps) : tksF b n = (ps, 0) := by unfold tksF; rw [if_neg h, h1]
theorem decF_no {b : List UInt8} {n : Int} (h : ¬ (tksF b n).2 = 0) : decF b n = ([], (tksF b n).2) := by unfold decF; rw [if_neg h]
theorem decF_yes {b : List UInt8} {n : Int} (h : (tksF b n).2 = 0) : decF b n = (textP (tksF b n).1, 0) := by unfold decF; rw [if_pos h]
