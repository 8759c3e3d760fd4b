/- Tokens, there and back: plain laws. -/
import Derived.Test.YteanplpnhlgjeaaT9
namespace Go.Proofs.Yteanplpnhlgjeaa.E
open Go
theorem get_at {b pre suf : List UInt8} {v : Int} {a : Nat} (h0 : 0 ≤ v) (h1 : v ≤ 9223372036854775807) (hb : b = pre ++ (putI v ++ suf)) (ha : a = pre.length) : nE b a = 0 ∧ nV b a = v.toNat ∧ nK b a = (putI v).length := by
  have e : b.drop a = putI v ++ suf := by rw [hb, ha]; exact List.drop_left' rfl
  have g := get_put h0 h1 suf
  unfold nE nV nK
  rw [e, g]
  exact ⟨rfl, rfl, rfl⟩
theorem num_cut {b : List UInt8} {a : Nat} (h : nE b a = 0) : putI ((nV b a : Nat) : Int) ++ b.drop (a + nK b a) = b.drop a := by
  have g := (get_ok h).2.2
  unfold nV nK
  rw [g, ← List.drop_drop]
  exact List.take_append_drop _ _
theorem tokP_none {t : Pk} (h : noneT t) : tokB t = putI (t.1.length : Nat) ++ t.1 := by unfold tokB; rw [if_pos h, List.append_nil]
theorem tokP_some {t : Pk} (h : ¬ noneT t) : tokB t = putI (t.1.length : Nat) ++ (t.1 ++ (putI (t.2.2 - 4) ++ putI t.2.1)) := by unfold tokB; rw [if_neg h, List.append_assoc]
theorem toksB_cons (t : Pk) (ts : List Pk) : toksB (t :: ts) = tokB t ++ toksB ts := by simp [toksB]
theorem expG_ok {t : Pk} {ts : List Pk} {T : List UInt8} (h : (expG (t :: ts) T).2 = 0) : okT t (T.length + t.1.length : Nat) (decide (ts = [])) ∧ ((T.length + t.1.length : Nat) : Int) + t.2.2 ≤ 65536 ∧ expG (t :: ts) T = expG ts (agn (T ++ t.1) t.2.1.toNat t.2.2.toNat) := by
  by_cases h1 : okT t (T.length + t.1.length : Nat) (decide (ts = []))
  · by_cases h2 : 65536 < ((T.length + t.1.length : Nat) : Int) + t.2.2
    · rw [expG, if_neg (fun h => h h1), if_pos h2] at h; simp at h
    · exact ⟨h1, by omega, by rw [expG, if_neg (fun h => h h1), if_neg h2]⟩
  · rw [expG, if_pos h1] at h; simp at h
/-- what tokens' bytes tell is they themselves; with more behind them nothing -/
theorem rdK_toks {n : Nat} {suf : List UInt8} : ∀ (ts : List Pk) (T pre b : List UInt8) (k : Nat), (expG ts T).2 = 0 → (expG ts T).1.length = n → b = pre ++ (toksB ts ++ suf) → ts.length < k → rdK b n k pre.length T.length = if suf = [] then some ts else none
  | [], T, pre, b, k, _, hl, hb, hk => by
    have e : T.length = n := hl
    have hb' : b.length = pre.length + suf.length := by rw [hb]; simp [toksB]
    rw [show k = k - 1 + 1 by omega, rdK, if_pos e]
    cases suf with
    | nil => rw [if_pos (by simp at hb'; omega), if_pos rfl]
    | cons x xs => rw [if_neg (by simp at hb'; omega), if_neg (by simp)]
  | t :: ts, T, pre, b, k, h, hl, hb, hk => by
    obtain ⟨ho, hle, he⟩ := expG_ok h
    rw [he] at h hl
    obtain ⟨hb1, hb2, hb3⟩ := expG_bd ts _ h
    rw [agn_len, List.length_append] at hb2 hb3
    rw [hl] at hb2 hb3
    have hbd := okT_bd ho
    simp only [List.length_cons] at hk
    rw [toksB_cons] at hb
    by_cases c : noneT t
    · rw [okT_none c] at ho
      have hts : ts = [] := by simpa using ho.1
      subst hts
      have hn : T.length + t.1.length = n := by
        rw [← hl]; show _ = (agn _ _ _).length
        rw [agn_len, List.length_append, show t.2.2 = 0 from c.2]; rfl
      rw [tokP_none c] at hb
      have hb' : b = pre ++ (putI (t.1.length : Nat) ++ (t.1 ++ suf)) := by rw [hb]; simp [toksB]
      obtain ⟨g1, g2, g3⟩ := get_at (a := pre.length) (by omega) (by omega) hb' rfl
      rw [Int.toNat_natCast] at g2
      have hlen : b.length = pre.length + (putI (t.1.length : Nat)).length + t.1.length + suf.length := by rw [hb']; simp only [List.length_append]; omega
      have hM : aM b pre.length = pre.length + (putI (t.1.length : Nat)).length + t.1.length := by unfold aM aL; omega
      have hL : litT b pre.length = t.1 := by
        unfold litT aL
        rw [g2, g3, hb', show pre ++ (putI (t.1.length : Nat) ++ (t.1 ++ suf)) = (pre ++ putI (t.1.length : Nat)) ++ (t.1 ++ suf) by simp, List.drop_left' (by simp), List.take_left' rfl]
      cases suf with
      | nil =>
        rw [show k = k - 1 + 1 by omega, rdK_last (by omega) ⟨g1, by omega, by omega⟩ (by omega) (by simp at hlen; omega) (by omega), if_pos rfl, hL]
        obtain ⟨x, y, z⟩ := t
        obtain ⟨c1, c2⟩ := c
        simp only at c1 c2
        subst c1 c2; rfl
      | cons x xs => rw [show k = k - 1 + 1 by omega, rdK_bad (by omega) (by omega) (fun h => by have := h.1; simp at hlen; omega), if_neg (by simp)]
    · rw [okT_some c] at ho
      rw [tokP_some c] at hb
      have ha0 : b = pre ++ (putI (t.1.length : Nat) ++ (t.1 ++ (putI (t.2.2 - 4) ++ (putI t.2.1 ++ (toksB ts ++ suf))))) := by rw [hb]; simp
      obtain ⟨g1, g2, g3⟩ := get_at (a := pre.length) (by omega) (by omega) ha0 rfl
      rw [Int.toNat_natCast] at g2
      have hM : aM b pre.length = (pre ++ (putI (t.1.length : Nat) ++ t.1)).length := by unfold aM aL; rw [List.length_append, List.length_append]; omega
      have ha1 : b = (pre ++ (putI (t.1.length : Nat) ++ t.1)) ++ (putI (t.2.2 - 4) ++ (putI t.2.1 ++ (toksB ts ++ suf))) := by rw [ha0]; simp
      obtain ⟨k1, k2, k3⟩ := get_at (a := aM b pre.length) (by omega) (by omega) ha1 hM
      have hD : aD b pre.length = (pre ++ (putI (t.1.length : Nat) ++ t.1) ++ putI (t.2.2 - 4)).length := by unfold aD; rw [List.length_append, ← hM]; omega
      have ha2 : b = (pre ++ (putI (t.1.length : Nat) ++ t.1) ++ putI (t.2.2 - 4)) ++ (putI t.2.1 ++ (toksB ts ++ suf)) := by rw [ha0]; simp
      obtain ⟨j1, j2, j3⟩ := get_at (a := aD b pre.length) (by omega) (by omega) ha2 hD
      have hZ : aZ b pre.length = (pre ++ tokB t).length := by unfold aZ; rw [tokP_some c, j3, hD]; simp only [List.length_append]; omega
      have ha3 : b = (pre ++ tokB t) ++ (toksB ts ++ suf) := by rw [hb, tokP_some c]; simp
      have hL : litT b pre.length = t.1 := by
        unfold litT aL
        rw [g2, g3, show b = (pre ++ putI (t.1.length : Nat)) ++ (t.1 ++ (putI (t.2.2 - 4) ++ (putI t.2.1 ++ (toksB ts ++ suf)))) by rw [ha0]; simp, List.drop_left' (by simp), List.take_left' rfl]
      have hml : aM b pre.length ≤ b.length := by rw [hM]; conv => rhs; rw [ha1, List.length_append]
                                                  omega
      have hmt : mtP b pre.length = t := by
        unfold mtP
        rw [hL, j2, k2]
        obtain ⟨x, y, z⟩ := t
        simp only at *
        rw [Int.toNat_of_nonneg (by omega), Int.toNat_of_nonneg (by omega), show z - 4 + 4 = z by omega]
      have hA : (agn (T ++ t.1) t.2.1.toNat t.2.2.toNat).length = T.length + nV b pre.length + nV b (aM b pre.length) + 4 := by rw [agn_len, List.length_append, g2, k2]; omega
      rw [show k = k - 1 + 1 by omega, rdK_go (by omega) ⟨g1, by omega, hml⟩ (by omega) ⟨k1, j1, by omega, by omega, by omega, by omega, by omega⟩, hZ, ← hA, rdK_toks ts _ _ b (k - 1) h hl ha3 (by omega), hmt]
      cases suf with
      | nil => rfl
      | cons x xs => rfl
theorem litT_len {b : List UInt8} {a : Nat} (h : aM b a ≤ b.length) : (litT b a).length = nV b a := by
  unfold litT; rw [List.length_take, List.length_drop]; unfold aM at h; omega
theorem cut_lit2 {b : List UInt8} {a : Nat} : litT b a ++ b.drop (aM b a) = b.drop (aL b a) := by
  unfold litT aM
  rw [← List.drop_drop]; exact List.take_append_drop _ _
/-- and the bytes that tell tokens are those tokens' -/
theorem toks_rdK {b : List UInt8} {n : Nat} : ∀ (k a made : Nat) (ps : List Pk), rdK b n k a made = some ps → a ≤ b.length → toksB ps = b.drop a
  | 0, _, _, _, h, _ => by cases h
  | k + 1, a, made, ps, h, ha => by
    by_cases c : made = n
    · subst c
      by_cases c2 : a = b.length
      · subst c2; rw [rdK_end] at h; injection h with h; subst h; rw [List.drop_length]; rfl
      · rw [rdK_over c2] at h; cases h
    · by_cases hd : hdT b n a made
      · obtain ⟨d1, d2, d3⟩ := hd
        by_cases c2 : made + nV b a = n
        · by_cases c3 : aM b a = b.length ∧ 0 < nV b a
          · rw [rdK_last c ⟨d1, d2, d3⟩ c2 c3.1 c3.2] at h
            injection h with h; subst h
            rw [toksB_cons, tokP_none ⟨rfl, rfl⟩]
            show putI ((litT b a).length : Nat) ++ litT b a ++ [] = _
            rw [litT_len d3, List.append_nil, ← num_cut d1]
            congr 1
            have := cut_lit2 (b := b) (a := a)
            rw [c3.1, List.drop_length, List.append_nil] at this
            exact this
          · rw [rdK_bad c c2 c3] at h; cases h
        · by_cases c3 : mtT b n a made
          · rw [rdK_go c ⟨d1, d2, d3⟩ c2 c3] at h
            obtain ⟨p1, p2, p3, p4, p5, p6, p7⟩ := c3
            cases hr : rdK b n k (aZ b a) (made + nV b a + nV b (aM b a) + 4) with
            | none => rw [hr] at h; cases h
            | some l =>
              rw [hr] at h
              injection h with h; subst h
              have hz : aZ b a ≤ b.length := by
                have := nK_le (b := b) (a := aM b a) d3
                unfold aZ; exact nK_le this
              have ih := toks_rdK k _ _ l hr hz
              rw [toksB_cons, tokP_some (fun hn => by have := hn.2; show False; unfold mtP at this; simp only at this; omega), ih]
              show putI ((litT b a).length : Nat) ++ (litT b a ++ (putI ((nV b (aM b a) : Int) + 4 - 4) ++ putI (nV b (aD b a) : Int))) ++ b.drop (aZ b a) = _
              rw [litT_len d3, show ((nV b (aM b a) : Int) + 4 - 4) = (nV b (aM b a) : Nat) by omega]
              have e3 := num_cut p2
              have e2 := num_cut p1
              have e1 := num_cut d1
              have e4 := cut_lit2 (b := b) (a := a)
              rw [show aD b a + nK b (aD b a) = aZ b a from rfl] at e3
              rw [show aM b a + nK b (aM b a) = aD b a from rfl] at e2
              rw [show a + nK b a = aL b a from rfl] at e1
              rw [← e1, ← e4, ← e2, ← e3]
              simp only [List.append_assoc]
          · rw [rdK_nomt c c2 c3] at h; cases h
      · rw [rdK_nohd c hd] at h; cases h
theorem toks_rd {b : List UInt8} {n : Nat} {ps : List Pk} (h : rdF b n = some ps) : toksB ps = b := by
  have := toks_rdK _ _ _ _ h (Nat.zero_le _)
  simpa using this
theorem rd_toks {n : Nat} {suf b : List UInt8} {ts : List Pk} (h : (expF ts).2 = 0) (hl : (expF ts).1.length = n) (hb : b = toksB ts ++ suf) : rdF b n = if suf = [] then some ts else none := by
  have h3 := (expG_bd ts [] h).2.2
  unfold expF at h hl
  rw [hl] at h3
  exact rdK_toks ts [] [] b (n + 1) h hl (by rw [hb]; rfl) (by simp at h3; omega)
theorem exp_text : ∀ (ts : List Pk) (T : List UInt8), (expG ts T).2 = 0 → (expG ts T).1 = ts.foldl (fun T t => agn (T ++ t.1) t.2.1.toNat t.2.2.toNat) T
  | [], T, _ => rfl
  | t :: ts, T, h => by
    obtain ⟨_, _, he⟩ := expG_ok h
    rw [he] at h ⊢
    exact exp_text ts _ h
theorem expF_text {ts : List Pk} (h : (expF ts).2 = 0) : expF ts = (textP ts, 0) := by
  have := exp_text ts [] h
  unfold expF at h ⊢
  exact Prod.ext this h
/-- two rows of tokens with the same bytes are the same -/
theorem toks_inj : ∀ (ts ts' : List Pk) (T T' : List UInt8), (expG ts T).2 = 0 → (expG ts' T').2 = 0 → toksB ts = toksB ts' → ts = ts'
  | [], [], _, _, _, _, _ => rfl
  | [], t :: ts, _, T', _, h', he => by
    have hp : 0 < (putI (t.1.length : Nat)).length := putI_pos (by omega)
    have : 0 < (tokB t).length := by unfold tokB; simp only [List.length_append]; omega
    rw [toksB_cons] at he
    have h9 := congrArg List.length he
    rw [List.length_append, show (toksB []).length = 0 from rfl] at h9
    omega
  | t :: ts, [], T, _, h, _, he => by
    have hp : 0 < (putI (t.1.length : Nat)).length := putI_pos (by omega)
    have : 0 < (tokB t).length := by unfold tokB; simp only [List.length_append]; omega
    rw [toksB_cons] at he
    have h9 := congrArg List.length he
    rw [List.length_append, show (toksB []).length = 0 from rfl] at h9
    omega
  | t :: ts, t' :: ts', T, T', h, h', he => by
    obtain ⟨ho, hle, hee⟩ := expG_ok h
    obtain ⟨ho', hle', hee'⟩ := expG_ok h'
    rw [hee] at h; rw [hee'] at h'
    have hbd := okT_bd ho
    have hbd' := okT_bd ho'
    rw [toksB_cons, toksB_cons] at he
    have rest : ∀ (t : Pk) (ts : List Pk) (m : Int), okT t m (decide (ts = [])) → ∃ r, tokB t ++ toksB ts = putI (t.1.length : Nat) ++ (t.1 ++ r) ∧ (noneT t → r = [] ∧ ts = []) ∧ (¬ noneT t → r = putI (t.2.2 - 4) ++ (putI t.2.1 ++ toksB ts)) := by
      intro t ts m ho
      by_cases c : noneT t
      · rw [okT_none c] at ho
        have hts : ts = [] := by simpa using ho.1
        subst hts
        exact ⟨[], by rw [tokP_none c]; simp [toksB], fun _ => ⟨rfl, rfl⟩, fun h => absurd c h⟩
      · exact ⟨_, by rw [tokP_some c]; simp, fun h => absurd h c, fun _ => rfl⟩
    obtain ⟨r, e1, e2, e3⟩ := rest t ts _ ho
    obtain ⟨r', e1', e2', e3'⟩ := rest t' ts' _ ho'
    rw [e1, e1'] at he
    have g := get_put (v := (t.1.length : Nat)) (by omega) (by omega) (t.1 ++ r)
    have g' := get_put (v := (t'.1.length : Nat)) (by omega) (by omega) (t'.1 ++ r')
    rw [he, g'] at g
    have hl : t'.1.length = t.1.length := by have := congrArg (·.1) g; simpa using this
    rw [hl] at he
    have he := List.append_cancel_left he
    obtain ⟨hl1, hr⟩ := List.append_inj he hl.symm
    by_cases c : noneT t
    · obtain ⟨hr0, hts⟩ := e2 c
      have c' : noneT t' := by
        by_cases c' : noneT t'
        · exact c'
        · have hp : 0 < (putI (t'.2.2 - 4)).length := putI_pos (by have := hbd'.2.2.2.2.2.2.2; have := hbd'.2.2.2.2.2.1; rw [← this] at c'; omega)
          rw [hr0, e3' c'] at hr
          have h9 := congrArg List.length hr
          rw [List.length_append, List.length_nil] at h9
          omega
      obtain ⟨_, hts'⟩ := e2' c'
      subst hts hts'
      obtain ⟨x, y, z⟩ := t
      obtain ⟨x', y', z'⟩ := t'
      obtain ⟨q1, q2⟩ := c
      obtain ⟨q1', q2'⟩ := c'
      simp only at q1 q2 q1' q2' hl1
      subst q1 q2 q1' q2' hl1; rfl
    · have c' : ¬ noneT t' := by
        intro c'
        obtain ⟨hr0, _⟩ := e2' c'
        have hp : 0 < (putI (t.2.2 - 4)).length := putI_pos (by have := hbd.2.2.2.2.2.2.2; have := hbd.2.2.2.2.2.1; rw [← this] at c; omega)
        rw [hr0, e3 c] at hr
        have h9 := congrArg List.length hr
        rw [List.length_append, List.length_nil] at h9
        omega
      rw [e3 c, e3' c'] at hr
      rw [okT_some c] at ho
      rw [okT_some c'] at ho'
      have g := get_put (v := t.2.2 - 4) (by omega) (by omega) (putI t.2.1 ++ toksB ts)
      have g' := get_put (v := t'.2.2 - 4) (by omega) (by omega) (putI t'.2.1 ++ toksB ts')
      rw [hr, g'] at g
      have hz : t'.2.2 = t.2.2 := by have := congrArg (·.1) g; simp only at this; omega
      rw [hz] at hr
      have hr := List.append_cancel_left hr
      have g := get_put (v := t.2.1) (by omega) (by omega) (toksB ts)
      have g' := get_put (v := t'.2.1) (by omega) (by omega) (toksB ts')
      rw [hr, g'] at g
      have hy : t'.2.1 = t.2.1 := by have := congrArg (·.1) g; simp only at this; omega
      rw [hy] at hr
      have hr := List.append_cancel_left hr
      have ih := toks_inj ts ts' _ _ h h' hr
      subst ih
      have : t = t' := by
        obtain ⟨x, y, z⟩ := t
        obtain ⟨x', y', z'⟩ := t'
        simp only at hl1 hy hz
        subst hl1 hy hz; rfl
      rw [this]
theorem rd_len {b : List UInt8} {n m : Nat} {ps qs : List Pk} (hn : n ≤ 65536) (hm : m ≤ 65536) (h : rdF b n = some ps) (h' : rdF b m = some qs) : n = m := by
  have e := exp_rd hn h
  have e' := exp_rd hm h'
  have hq : ps = qs := toks_inj ps qs [] [] (by show (expF ps).2 = 0; rw [e.1]) (by show (expF qs).2 = 0; rw [e'.1]) (by rw [toks_rd h, toks_rd h'])
  subst hq
  omega
theorem rd_more {b : List UInt8} {n : Nat} {ps : List Pk} {c : UInt8} (hn : n ≤ 65536) (h : rdF b n = some ps) : rdF (b ++ [c]) n = none := by
  have e := exp_rd hn h
  have := rd_toks (suf := [c]) (n := n) (b := b ++ [c]) (ts := ps) (by rw [e.1]) (by rw [e.1]; show (textP ps).length = n; rw [textP_len]; exact e.2.1) (by rw [toks_rd h])
  rw [if_neg (by simp)] at this; exact this
theorem rd_fewer {b : List UInt8} {n : Nat} {ps : List Pk} (hn : n ≤ 65536) (h : rdF b n = some ps) (hb : 0 < b.length) : rdF (b.take (b.length - 1)) n = none := by
  cases hr : rdF (b.take (b.length - 1)) n with
  | none => rfl
  | some qs =>
    have := rd_more (c := b.getD (b.length - 1) 0) hn hr
    rw [← takeG 0 (by omega), show b.length - 1 + 1 = b.length by omega, List.take_length, h] at this
    cases this
/-- a text is at most 65 times as long as its bytes -/
theorem rd_65 : ∀ (ps : List Pk) (T : List UInt8), (expG ps T).2 = 0 → lenP ps ≤ 65 * (toksB ps).length
  | [], _, _ => by simp [lenP, toksB]
  | t :: ps, T, h => by
    obtain ⟨ho, hle, he⟩ := expG_ok h
    rw [he] at h
    have ih := rd_65 ps _ h
    have hp := putI_pos (v := (t.1.length : Nat)) (by omega)
    have e : lenP (t :: ps) = t.1.length + t.2.2.toNat + lenP ps := by simp [lenP]
    rw [e, toksB_cons, List.length_append]
    by_cases c : noneT t
    · rw [tokP_none c, List.length_append]
      have := c.2
      omega
    · rw [tokP_some c]
      rw [okT_some c] at ho
      simp only [List.length_append]
      have hq := putI_pos (v := t.2.1) (by omega)
      by_cases c2 : t.2.2 - 4 < 128
      · have := putI_pos (v := t.2.2 - 4) (by omega)
        omega
      · have hg := putI_ge (v := t.2.2 - 4) (by omega)
        have := putI_pos (v := (t.2.2 - 4) / 128) (by omega)
        have hh : (putI (t.2.2 - 4)).length = (putI ((t.2.2 - 4) / 128)).length + 1 := by rw [hg, List.length_cons]
        omega
theorem toksB_lt {ps : List Pk} (h : (expF ps).2 = 0) : (toksB ps).length ≤ 1835008 := by
  have := wrF_len ps
  rwa [wrF_ok h] at this
