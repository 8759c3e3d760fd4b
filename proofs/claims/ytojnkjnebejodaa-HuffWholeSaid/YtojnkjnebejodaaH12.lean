/- Decoding: Decode, the program's and the reference's. -/
import Derived.Test.YtojnkjnebejodaaH11
namespace Go.Proofs.Ytojnkjnebejodaa.E
open Go
theorem huffD_arg {b : List UInt8} {n : Int} (h : n < 0 ∨ 65536 < n) : huffD b n = ([], 3) := by unfold huffD; rw [if_pos h]
theorem huffD_hdr {b : List UInt8} {n : Int} (h : ¬ (n < 0 ∨ 65536 < n)) (h1 : hdr b 0 [] = none) : huffD b n = ([], 40) := by unfold huffD; rw [if_neg h, h1]
theorem huffD_none {b : List UInt8} {n : Int} {l : List Int} {a : Nat} (h : ¬ (n < 0 ∨ 65536 < n)) (h1 : hdr b 0 [] = some (l, a)) (h2 : wordsF l (b.drop a) n.toNat = none) : huffD b n = ([], 40) := by unfold huffD; rw [if_neg h, h1]; simp only []; rw [h2]
theorem huffD_some {b : List UInt8} {n : Int} {l : List Int} {a : Nat} {t : List UInt8} (h : ¬ (n < 0 ∨ 65536 < n)) (h1 : hdr b 0 [] = some (l, a)) (h2 : wordsF l (b.drop a) n.toNat = some t) : huffD b n = (t, 0) := by unfold huffD; rw [if_neg h, h1]; simp only []; rw [h2]
/-- within one symbol, as the reference goes -/
def DecS (l : List Int) (w : List UInt8) (p0 k W : Nat) (s : Int) (q : Nat) : Prop := (s = -1 ∧ Dec l w p0 k W q) ∨ (0 ≤ s ∧ s ≤ 255 ∧ dec1 l w 15 1 0 p0 = some (s.toNat, q))
theorem DecS.neg {l : List Int} {w : List UInt8} {p0 k W : Nat} {s : Int} {q : Nat} (h : DecS l w p0 k W s q) (hs : s < 0) : Dec l w p0 k W q := by
  rcases h with h | h
  · exact h.2
  · omega
theorem DecS.pos {l : List Int} {w : List UInt8} {p0 k W : Nat} {s : Int} {q : Nat} (h : DecS l w p0 k W s q) (hs : ¬ s < 0) : s ≤ 255 ∧ dec1 l w 15 1 0 p0 = some (s.toNat, q) := by
  rcases h with h | h
  · omega
  · exact h.2
theorem DecS.step {l : List Int} {w : List UInt8} {p0 k W q : Nat} (hl : l.length ≤ 256) (h : Dec l w p0 k W q) (hk : k ≤ 15) (hq : q < 8 * w.length) : DecS l w p0 (k + 1) (2 * W + bitW w q) (findV l k (2 * W + bitW w q)) (q + 1) := by
  by_cases c : 2 * W + bitW w q < firstW l k + cntW l k
  · refine .inr ?_
    have h1 := h.yes hk hq c
    have hlo := h.low
    have hr : 2 * W + bitW w q - firstW l k < (symN l k l.length).length := by rw [cntW_pos h.k1] at c; omega
    have := sym_lt hl hr
    rw [findV_yes h c]
    exact ⟨by omega, by omega, by rw [Int.toNat_natCast]; exact h1⟩
  · exact .inl ⟨findV_no c, h.no hk hq c⟩
theorem s_byte {s : Int} (h : ¬ s < 0) (h2 : s ≤ 255) : Value.int .u8 (s % 256) = byteV s.toNat.toUInt8 := by
  rw [byteV_of (by omega) (by omega)]; congr 2; omega
theorem codes_hdr {b : List UInt8} {l : List Int} {a : Nat} (h : hdr b 0 [] = some (l, a)) : (¬ (codes l).2 = 0 → 32768 < usedB l 15) ∧ ((codes l).2 = 0 → ¬ 32768 < usedB l 15 ∧ (codes l).1 = codesL l) := by
  obtain ⟨h1, h2, _⟩ := hdr_ok h
  by_cases c : 32768 < usedB l 15
  · rw [codes_much (by omega) h2 c]; exact ⟨fun _ => c, fun h => by simp at h⟩
  · rw [codes_ok (by omega) h2 c]; exact ⟨fun h => absurd rfl h, fun _ => ⟨c, rfl⟩⟩
theorem take_rest {b : List UInt8} {a : Nat} (h : a ≤ b.length) : cTk b a 0 (restV b a 0) = b.drop a := by
  unfold restV
  rw [if_pos rfl]
  have hf := tk_fine (l := b.drop a) (n := ((b.length - a : Nat) : Int)) (by omega) (by rw [List.length_drop]; omega)
  unfold cTk
  rw [if_pos rfl, hf.2, Int.toNat_natCast, List.take_of_length_le (by rw [List.length_drop]; omega)]
/-- the bits from p to q are 0 -/
def zeros (w : List UInt8) (p q : Nat) : Prop := ∀ i, i < 8 * w.length → p ≤ i → i < q → bitW w i = 0
theorem zeros_none {w : List UInt8} {p : Nat} : zeros w p p := fun i _ h1 h2 => by omega
theorem zeros_succ {w : List UInt8} {p q : Nat} (h : zeros w p q) (hz : bitW w q = 0) : zeros w p (q + 1) := fun i h1 h2 h3 => by
  by_cases e : i = q
  · subst e; exact hz
  · exact h i h1 h2 (by omega)
theorem zeros_all {w : List UInt8} {p q : Nat} (h : zeros w p q) (hq : 8 * w.length ≤ q) : tailZ w p := fun i h1 h2 => h i h1 h2 (by omega)
theorem mul_u32 {a : Nat} (h : a ≤ 1000000) : binI .mul .u32 ((a : Nat) : Int) 2 = .int .u32 ((2 * a : Nat) : Int) := by
  have : IntKind.u32.wrap ((a : Int) * 2) = ((2 * a : Nat) : Int) := by rw [wrap_u32]; omega
  simp [binI, this]
theorem add_u32 {a b : Nat} (h : a + b ≤ 1000000) : binI .add .u32 ((a : Nat) : Int) ((b : Nat) : Int) = .int .u32 ((a + b : Nat) : Int) := by
  have : IntKind.u32.wrap ((a : Int) + (b : Int)) = ((a + b : Nat) : Int) := by rw [wrap_u32]; omega
  simp [binI, this]
theorem words_okD (x y : Value) (b m : List UInt8) (L : List Int) (aq : Nat) (n : Int) (w : World) (hx : RdE i64V w x L) (hy : RdE byteV w y m) (he : m = b.drop aq) (hl : L.length ≤ 256) (hb : b.length ≤ 140737488355328) (h0 : 0 ≤ n) (hn : n ≤ 65536) : Calls Try.prog 46 [x, y, .int .i64 n].toArray w (Rt fun r w' => ∃ v ok T rs, r = .tuple [v, .bool ok].toArray ∧ SlE byteV 5 v T rs ∧ (if ok then some T else none) = wordsF L (b.drop aq) n.toNat ∧ Mem w [] w' [rs]) := by
  subst he
  have hw := words_ok x y L (b.drop aq) n.toNat w hx hy hl (by rw [List.length_drop]; omega) (by omega)
  rw [Int.toNat_of_nonneg h0] at hw
  exact hw
theorem Decode_ok (x : Value) (b : List UInt8) (n : Int) (w : World) (hx : RdE byteV w x b) (hl : b.length ≤ 140737488355328) (hn : inK .i64 n) : Calls Try.prog 24 [x, .int .i64 n].toArray w (Rt fun r w' => ∃ v rs, r = .tuple [v, .int .i64 (huffD b n).2].toArray ∧ SlE byteV 5 v (huffD b n).1 rs ∧ Mem w [] w' [rs]) := by
  have hM0 : Mem w [] w [] := Mem.nil w []
  simp only [inK] at hn
  refine calls_vc mixed Try.func24 rfl C24 (by simp [Try.ntmps24]) ?_
  refine seq fun K1 h1 => ?_
  refine stp (v := .slice none 0 0) (o_mv rfl) ?_
  refine stp (v := .int .i64 0) (o_mv rfl) ?_
  refine h1 _ _ ?_
  clear h1
  refine seq fun K2 h2 => ?_
  refine seq fun K3 h3 => ?_
  refine stp (v := .int .i64 n) (o_mv rfl) ?_
  refine stp (v := .bool (decide (n < 0))) (o_bin rfl rfl rfl) ?_
  refine stp (v := .bool (decide (n < 0))) (o_mv rfl) ?_
  refine splitP rfl (fun c4 => ?_) (fun c4 => ?_)
  ·
    refine gno rfl (by simp) ?_
    refine gno rfl (by simp) ?_
    refine stp (v := .bool true) (o_pickT rfl rfl) ?_
    refine h3 _ _ ?_
    clear h3
    refine cndT rfl ?_
    refine seq fun K5 h5 => ?_
    refine stp (v := .slice none 0 0) (o_mv rfl) ?_
    refine stp (v := .int .i64 3) (o_mv rfl) ?_
    refine h5 _ _ ?_
    clear h5
    refine ⟨(.tuple [.slice none 0 0, .int .i64 3].toArray), rfl, ?_⟩
    exact ⟨.slice none 0 0, [], by rw [huffD_arg (by omega)], by rw [huffD_arg (by omega)]; exact Sl.nil 1 5, hM0.keep (by simp)⟩
  ·
    refine stg rfl (v := .int .i64 n) (o_mv rfl) ?_
    refine stg rfl (v := .bool (decide ((65536 : Int) < n))) (o_bin rfl rfl rfl) ?_
    refine stp (v := .bool (decide ((65536 : Int) < n))) (o_pickF rfl rfl) ?_
    refine h3 _ _ ?_
    clear h3
    refine cndP rfl (fun c6 => ?_) (fun c6 => ?_)
    ·
      refine seq fun K7 h7 => ?_
      refine stp (v := .slice none 0 0) (o_mv rfl) ?_
      refine stp (v := .int .i64 3) (o_mv rfl) ?_
      refine h7 _ _ ?_
      clear h7
      refine ⟨(.tuple [.slice none 0 0, .int .i64 3].toArray), rfl, ?_⟩
      exact ⟨.slice none 0 0, [], by rw [huffD_arg (by omega)], by rw [huffD_arg (by omega)]; exact Sl.nil 1 5, hM0.keep (by simp)⟩
    ·
      refine h2 _ _ ?_
      clear h2
      refine seq fun K8 h8 => ?_
      refine stp (v := x) (o_mv rfl) ?_
      refine m_call (NewCursor_ok _ b w (hx.upd hM0.upd) (by first | omega | (simp; done) | (simp; omega))) rfl fun v9 w9 ⟨bc9, rs9, hr9, hc9, hm9⟩ => ?_
      have hM9 : Mem w [] w9 [rs9] := hM0.add hm9
      subst hr9
      refine stp (v := .pointer (some ⟨bc9, 0, none⟩)) (o_mv rfl) ?_
      refine h8 _ _ ?_
      clear h8
      refine seq fun K10 h10 => ?_
      refine stp (v := .pointer (some ⟨bc9, 0, none⟩)) (o_mv rfl) ?_
      refine m_call (lengths_ok _ b rs9 w9 hc9 (hM9.res (i := 0) rfl) (by omega)) rfl fun v11 w11 ⟨y11, okq, L, aq, eq, r'11, rs11, hr11, hs11, hc11, hq, hez, hm11⟩ => ?_
      have hM11 : Mem w [] w11 [r'11, rs11] := hM9.stepAdd 0 rfl hm11
      subst hr11
      refine stp (v := .tuple [y11, .bool okq].toArray) (o_mv rfl) ?_
      refine stp (v := y11) (o_ext rfl rfl) ?_
      refine stp (v := .bool okq) (o_ext rfl rfl) ?_
      refine stp (v := y11) (o_mv rfl) ?_
      refine stp (v := .bool okq) (o_mv rfl) ?_
      refine h10 _ _ ?_
      clear h10
      refine seq fun K12 h12 => ?_
      refine seq fun K13 h13 => ?_
      refine stp (v := .bool okq) (o_mv rfl) ?_
      refine stp (v := .bool (!okq)) (o_not rfl rfl) ?_
      refine h13 _ _ ?_
      clear h13
      refine cnd rfl (fun hkT => ?_) (fun hkF => ?_)
      ·
        refine seq fun K15 h15 => ?_
        refine stp (v := .slice none 0 0) (o_mv rfl) ?_
        refine stp (v := .int .i64 40) (o_mv rfl) ?_
        refine h15 _ _ ?_
        clear h15
        refine ⟨(.tuple [.slice none 0 0, .int .i64 40].toArray), rfl, ?_⟩
        have hok : okq = false := by simpa using hkT
        rw [hok] at hq
        exact ⟨.slice none 0 0, [], by rw [huffD_hdr (by omega) hq.symm], by rw [huffD_hdr (by omega) hq.symm]; exact Sl.nil 1 5, hM11.keep (by simp)⟩
      ·
        refine h12 _ _ ?_
        clear h12
        refine seq fun K16 h16 => ?_
        have hok : okq = true := by simpa using hkF
        rw [if_pos hok] at hq
        have hqs := hq.symm
        have hkk := hdr_ok hqs
        have htk : cTk b aq eq (restV b aq eq) = b.drop aq := by rw [hez hok]; exact take_rest hkk.2.2
        refine stp (v := y11) (o_mv rfl) ?_
        refine stp (v := .pointer (some ⟨bc9, 0, none⟩)) (o_mv rfl) ?_
        refine stp (v := .pointer (some ⟨bc9, 0, none⟩)) (o_mv rfl) ?_
        refine m_call (Rest_ok _ b aq eq r'11 w11 hc11 (hM11.res (i := 0) rfl) (by first | omega | (simp; done) | (simp; omega))) rfl fun v17 w17 ⟨hr17, hm17⟩ => ?_
        have hM17 : Mem w [] w17 [r'11, rs11] := hM11.step 0 rfl hm17
        subst hr17
        refine m_call (Take_ok _ b aq eq (restV b aq eq) r'11 w17 hc11 (hM17.res (i := 0) rfl) (by first | omega | (simp; done) | (simp; omega))) rfl fun v18 w18 ⟨r'18, rs18, hc18, hs18, hm18⟩ => ?_
        have hM18 : Mem w [] w18 [r'18, rs11, rs18] := hM17.stepAdd 0 rfl hm18
        refine stp (v := .int .i64 n) (o_mv rfl) ?_
        refine m_call (words_okD _ _ b _ L aq n w18 (hs11.rd hM18 (i := 1) rfl) (hs18.rd hM18 (i := 2) rfl) htk (by omega) (by omega) (by omega) (by omega)) rfl fun v19 w19 ⟨y19, okw, T, rs19, hr19, hs19, hw, hm19⟩ => ?_
        have hM19 : Mem w [] w19 [r'18, rs11, rs18, rs19] := hM18.add hm19
        subst hr19
        refine stp (v := .tuple [y19, .bool okw].toArray) (o_mv rfl) ?_
        refine stp (v := y19) (o_ext rfl rfl) ?_
        refine stp (v := .bool okw) (o_ext rfl rfl) ?_
        refine stp (v := y19) (o_mv rfl) ?_
        refine stp (v := .bool okw) (o_mv rfl) ?_
        refine h16 _ _ ?_
        clear h16
        refine seq fun K20 h20 => ?_
        refine seq fun K21 h21 => ?_
        refine stp (v := .bool okw) (o_mv rfl) ?_
        refine stp (v := .bool (!okw)) (o_not rfl rfl) ?_
        refine h21 _ _ ?_
        clear h21
        refine cnd rfl (fun hwT => ?_) (fun hwF => ?_)
        ·
          refine seq fun K23 h23 => ?_
          refine stp (v := .slice none 0 0) (o_mv rfl) ?_
          refine stp (v := .int .i64 40) (o_mv rfl) ?_
          refine h23 _ _ ?_
          clear h23
          refine ⟨(.tuple [.slice none 0 0, .int .i64 40].toArray), rfl, ?_⟩
          have hok2 : okw = false := by simpa using hwT
          rw [hok2] at hw
          exact ⟨.slice none 0 0, [], by rw [huffD_none (by omega) hqs hw.symm], by rw [huffD_none (by omega) hqs hw.symm]; exact Sl.nil 1 5, hM19.keep (by simp)⟩
        ·
          refine h20 _ _ ?_
          clear h20
          refine seq fun K24 h24 => ?_
          refine stp (v := y19) (o_mv rfl) ?_
          refine stp (v := y19) (o_mv rfl) ?_
          refine stp (v := .int .i64 0) (o_mv rfl) ?_
          refine h24 _ _ ?_
          clear h24
          refine ⟨(.tuple [y19, .int .i64 0].toArray), rfl, ?_⟩
          have hok2 : okw = true := by simpa using hwF
          rw [hok2, if_pos rfl] at hw
          have hr := huffD_some (n := n) (by omega) hqs hw.symm
          rw [hr]
          exact ⟨_, _, rfl, hs19, hM19.keep (by simp only [List.flatten_cons, List.flatten_nil, List.append_nil, ← List.append_assoc]; exact List.sublist_append_right _ _)⟩
