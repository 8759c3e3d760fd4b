/- Decoding: Decode, the program's and the reference's. -/
import Derived.Test.YtojnkjnebejodaaH11
namespace Go.Proofs.Ytojnkjnebejodaa.E
open Go
theorem huffD_arg {b : List UInt8} {n : Int} (h : n < 0 ∨ 65536 < n) : huffD b n = ([], 3) := by unfold huffD; rw [if_pos h]
theorem huffD_hdr {b : List UInt8} {n : Int} (h : ¬ (n < 0 ∨ 65536 < n)) (h1 : hdr b 0 [] = none) : huffD b n = ([], 40) := by unfold huffD; rw [if_neg h, h1]
theorem huffD_none {b : List UInt8} {n : Int} {l : List Int} {a : Nat} (h : ¬ (n < 0 ∨ 65536 < n)) (h1 : hdr b 0 [] = some (l, a)) (h2 : wordsF l (b.drop a) n.toNat = none) : huffD b n = ([], 40) := by unfold huffD; rw [if_neg h, h1]; simp only []; rw [h2]
theorem huffD_some {b : List UInt8} {n : Int} {l : List Int} {a : Nat} {t : List UInt8} (h : ¬ (n < 0 ∨ 65536 < n)) (h1 : hdr b 0 [] = some (l, a)) (h2 : wordsF l (b.drop a) n.toNat = some t) : huffD b n = (t, 0) := by unfold huffD; rw [if_neg h, h1]; simp only []; rw [h2]
/-- within one symbol, as the reference goes -/
def DecS (l : List Int) (w : List UInt8) (p0 k W : Nat) (s : Int) (q : Nat) : Prop := (s = -1 ∧ Dec l w p0 k W q) ∨ (0 ≤ s ∧ s ≤ 255 ∧ dec1 l w 15 1 0 p0 = some (s.toNat, q))
theorem DecS.neg {l : List Int} {w : List UInt8} {p0 k W : Nat} {s : Int} {q : Nat} (h : DecS l w p0 k W s q) (hs : s < 0) : Dec l w p0 k W q := by
  rcases h with h | h
  · exact h.2
  · omega
theorem DecS.pos {l : List Int} {w : List UInt8} {p0 k W : Nat} {s : Int} {q : Nat} (h : DecS l w p0 k W s q) (hs : ¬ s < 0) : s ≤ 255 ∧ dec1 l w 15 1 0 p0 = some (s.toNat, q) := by
  rcases h with h | h
  · omega
  · exact h.2
theorem DecS.step {l : List Int} {w : List UInt8} {p0 k W q : Nat} (hl : l.length ≤ 256) (h : Dec l w p0 k W q) (hk : k ≤ 15) (hq : q < 8 * w.length) : DecS l w p0 (k + 1) (2 * W + bitW w q) (findV l k (2 * W + bitW w q)) (q + 1) := by
  by_cases c : 2 * W + bitW w q < firstW l k + cntW l k
  · refine .inr ?_
    have h1 := h.yes hk hq c
    have hlo := h.low
    have hr : 2 * W + bitW w q - firstW l k < (symN l k l.length).length := by rw [cntW_pos h.k1] at c; omega
    have := sym_lt hl hr
    rw [findV_yes h c]
    exact ⟨by omega, by omega, by rw [Int.toNat_natCast]; exact h1⟩
  · exact .inl ⟨findV_no c, h.no hk hq c⟩
theorem s_byte {s : Int} (h : ¬ s < 0) (h2 : s ≤ 255) : Value.int .u8 (s % 256) = byteV s.toNat.toUInt8 := by
  rw [byteV_of (by omega) (by omega)]; congr 2; omega
theorem codes_hdr {b : List UInt8} {l : List Int} {a : Nat} (h : hdr b 0 [] = some (l, a)) : (¬ (codes l).2 = 0 → 32768 < usedB l 15) ∧ ((codes l).2 = 0 → ¬ 32768 < usedB l 15 ∧ (codes l).1 = codesL l) := by
  obtain ⟨h1, h2, _⟩ := hdr_ok h
  by_cases c : 32768 < usedB l 15
  · rw [codes_much (by omega) h2 c]; exact ⟨fun _ => c, fun h => by simp at h⟩
  · rw [codes_ok (by omega) h2 c]; exact ⟨fun h => absurd rfl h, fun _ => ⟨c, rfl⟩⟩
theorem take_rest {b : List UInt8} {a : Nat} (h : a ≤ b.length) : cTk b a 0 (restV b a 0) = b.drop a := by
  unfold restV
  rw [if_pos rfl]
  have hf := tk_fine (l := b.drop a) (n := ((b.length - a : Nat) : Int)) (by omega) (by rw [List.length_drop]; omega)
  unfold cTk
  rw [if_pos rfl, hf.2, Int.toNat_natCast, List.take_of_length_le (by rw [List.length_drop]; omega)]
/-- the bits from p to q are 0 -/
def zeros (w : List UInt8) (p q : Nat) : Prop := ∀ i, i < 8 * w.length → p ≤ i → i < q → bitW w i = 0
theorem zeros_none {w : List UInt8} {p : Nat} : zeros w p p := fun i _ h1 h2 => by omega
theorem zeros_succ {w : List UInt8} {p q : Nat} (h : zeros w p q) (hz : bitW w q = 0) : zeros w p (q + 1) := fun i h1 h2 h3 => by
  by_cases e : i = q
  · subst e; exact hz
  · exact h i h1 h2 (by omega)
theorem zeros_all {w : List UInt8} {p q : Nat} (h : zeros w p q) (hq : 8 * w.length ≤ q) : tailZ w p := fun i h1 h2 => h i h1 h2 (by omega)
theorem mul_u32 {a : Nat} (h : a ≤ 1000000) : binI .mul .u32 ((a : Nat) : Int) 2 = .int .u32 ((2 * a : Nat) : Int) := by
  have : IntKind.u32.wrap ((a : Int) * 2) = ((2 * a : Nat) : Int) := by rw [wrap_u32]; omega
  simp [binI, this]
theorem add_u32 {a b : Nat} (h : a + b ≤ 1000000) : binI .add .u32 ((a : Nat) : Int) ((b : Nat) : Int) = .int .u32 ((a + b : Nat) : Int) := by
  have : IntKind.u32.wrap ((a : Int) + (b : Int)) = ((a + b : Nat) : Int) := by rw [wrap_u32]; omega
  simp [binI, this]
theorem words_okD (x y : Value) (b m : List UInt8) (L : List Int) (aq : Nat) (n : Int) (w : World) (hx : RdE i64V w x L) (hy : RdE byteV w y m) (he : m = b.drop aq) (hl : L.length ≤ 256) (hb : b.length ≤ 140737488355328) (h0 : 0 ≤ n) (hn : n ≤ 65536) : Calls Try.prog 46 [x, y, .int .i64 n].toArray w (Rt fun r w' => ∃ v ok T rs, r = .tuple [v, .bool ok].toArray ∧ SlE byteV 5 v T rs ∧ (if ok then some T else none) = wordsF L (b.drop aq) n.toNat ∧ Mem w [] w' [rs]) := by
  subst he
  have hw := words_ok x y L (b.drop aq) n.toNat w hx hy hl (by rw [List.length_drop]; omega) (by omega)
  rw [Int.toNat_of_nonneg h0] at hw
  exact hw
theorem find_okD (x : Value) (l : List Int) (cs : List (Int × Int)) (n W : Nat) (w : World) (hx : RdS codeC w x cs) (he : cs = codesL l) (hl : l.length ≤ 256) (hn : 1 ≤ n ∧ n ≤ 15) (hW : W ≤ 4294967295) : Calls Try.prog 51 [x, .int .i64 ((n : Nat) : Int), .int .u32 ((W : Nat) : Int)].toArray w (Rt fun r w' => r = .int .i64 (findV l n W) ∧ Upd [] w w') := by
  subst he
  exact find_ok x l n W w hx hl hn hW

/-- huff.Decode -/
theorem Decode_ok (x : Value) (b : List UInt8) (n : Int) (w : World) (hx : RdE byteV w x b) (hl : b.length ≤ 140737488355328) (hn : inK .i64 n) : Calls Try.prog 24 [x, .int .i64 n].toArray w (Rt fun r w' => ∃ v rs, r = .tuple [v, .int .i64 (huffD b n).2].toArray ∧ SlE byteV 5 v (huffD b n).1 rs ∧ Mem w [] w' [rs]) := by
  have hM0 : Mem w [] w [] := Mem.nil w []
  simp only [inK] at hn
  refine calls_vc mixed Try.func24 rfl C24 (by simp [Try.ntmps24]) ?_
  refine seq fun K1 h1 => ?_
  refine stp (v := .slice none 0 0) (o_mv rfl) ?_
  refine stp (v := .int .i64 0) (o_mv rfl) ?_
  refine h1 _ _ ?_
  clear h1
  refine seq fun K2 h2 => ?_
  refine seq fun K3 h3 => ?_
  refine stp (v := .int .i64 n) (o_mv rfl) ?_
  refine stp (v := .bool (decide (n < 0))) (o_bin rfl rfl rfl) ?_
  refine stp (v := .bool (decide (n < 0))) (o_mv rfl) ?_
  refine splitP rfl (fun c4 => ?_) (fun c4 => ?_)
  ·
    refine gno rfl (by simp) ?_
    refine gno rfl (by simp) ?_
    refine stp (v := .bool true) (o_pickT rfl rfl) ?_
    refine h3 _ _ ?_
    clear h3
    refine cndT rfl ?_
    refine seq fun K5 h5 => ?_
    refine stp (v := .slice none 0 0) (o_mv rfl) ?_
    refine stp (v := .int .i64 3) (o_mv rfl) ?_
    refine h5 _ _ ?_
    clear h5
    refine ⟨(.tuple [.slice none 0 0, .int .i64 3].toArray), rfl, ?_⟩
    exact ⟨.slice none 0 0, [], by rw [huffD_arg (by omega)], by rw [huffD_arg (by omega)]; exact Sl.nil 1 5, hM0.keep (by simp)⟩
  ·
    refine stg rfl (v := .int .i64 n) (o_mv rfl) ?_
    refine stg rfl (v := .bool (decide ((65536 : Int) < n))) (o_bin rfl rfl rfl) ?_
    refine stp (v := .bool (decide ((65536 : Int) < n))) (o_pickF rfl rfl) ?_
    refine h3 _ _ ?_
    clear h3
    refine cndP rfl (fun c6 => ?_) (fun c6 => ?_)
    ·
      refine seq fun K7 h7 => ?_
      refine stp (v := .slice none 0 0) (o_mv rfl) ?_
      refine stp (v := .int .i64 3) (o_mv rfl) ?_
      refine h7 _ _ ?_
      clear h7
      refine ⟨(.tuple [.slice none 0 0, .int .i64 3].toArray), rfl, ?_⟩
      exact ⟨.slice none 0 0, [], by rw [huffD_arg (by omega)], by rw [huffD_arg (by omega)]; exact Sl.nil 1 5, hM0.keep (by simp)⟩
    ·
      refine h2 _ _ ?_
      clear h2
      refine seq fun K8 h8 => ?_
      refine stp (v := x) (o_mv rfl) ?_
      refine m_call (NewCursor_ok _ b w (hx.upd hM0.upd) (by first | omega | (simp; done) | (simp; omega))) rfl fun v9 w9 ⟨bc9, rs9, hr9, hc9, hm9⟩ => ?_
      have hM9 : Mem w [] w9 [rs9] := hM0.add hm9
      subst hr9
      refine stp (v := .pointer (some ⟨bc9, 0, none⟩)) (o_mv rfl) ?_
      refine h8 _ _ ?_
      clear h8
      refine seq fun K10 h10 => ?_
      refine stp (v := .pointer (some ⟨bc9, 0, none⟩)) (o_mv rfl) ?_
      refine m_call (lengths_ok _ b rs9 w9 hc9 (hM9.res (i := 0) rfl) (by omega)) rfl fun v11 w11 ⟨y11, okq, L, aq, eq, r'11, rs11, hr11, hs11, hc11, hq, hez, hm11⟩ => ?_
      have hM11 : Mem w [] w11 [r'11, rs11] := hM9.stepAdd 0 rfl hm11
      subst hr11
      refine stp (v := .tuple [y11, .bool okq].toArray) (o_mv rfl) ?_
      refine stp (v := y11) (o_ext rfl rfl) ?_
      refine stp (v := .bool okq) (o_ext rfl rfl) ?_
      refine stp (v := y11) (o_mv rfl) ?_
      refine stp (v := .bool okq) (o_mv rfl) ?_
      refine h10 _ _ ?_
      clear h10
      refine seq fun K12 h12 => ?_
      refine seq fun K13 h13 => ?_
      refine stp (v := .bool okq) (o_mv rfl) ?_
      refine stp (v := .bool (!okq)) (o_not rfl rfl) ?_
      refine h13 _ _ ?_
      clear h13
      refine cnd rfl (fun hkT => ?_) (fun hkF => ?_)
      ·
        refine seq fun K15 h15 => ?_
        refine stp (v := .slice none 0 0) (o_mv rfl) ?_
        refine stp (v := .int .i64 40) (o_mv rfl) ?_
        refine h15 _ _ ?_
        clear h15
        refine ⟨(.tuple [.slice none 0 0, .int .i64 40].toArray), rfl, ?_⟩
        have hok : okq = false := by simpa using hkT
        rw [hok] at hq
        exact ⟨.slice none 0 0, [], by rw [huffD_hdr (by omega) hq.symm], by rw [huffD_hdr (by omega) hq.symm]; exact Sl.nil 1 5, hM11.keep (by simp)⟩
      ·
        refine h12 _ _ ?_
        clear h12
        refine seq fun K16 h16 => ?_
        have hok : okq = true := by simpa using hkF
        rw [if_pos hok] at hq
        have hqs := hq.symm
        have hkk := hdr_ok hqs
        have htk : cTk b aq eq (restV b aq eq) = b.drop aq := by rw [hez hok]; exact take_rest hkk.2.2
        refine stp (v := y11) (o_mv rfl) ?_
        refine stp (v := .pointer (some ⟨bc9, 0, none⟩)) (o_mv rfl) ?_
        refine stp (v := .pointer (some ⟨bc9, 0, none⟩)) (o_mv rfl) ?_
        refine m_call (Rest_ok _ b aq eq r'11 w11 hc11 (hM11.res (i := 0) rfl) (by first | omega | (simp; done) | (simp; omega))) rfl fun v17 w17 ⟨hr17, hm17⟩ => ?_
        have hM17 : Mem w [] w17 [r'11, rs11] := hM11.step 0 rfl hm17
        subst hr17
        refine m_call (Take_ok _ b aq eq (restV b aq eq) r'11 w17 hc11 (hM17.res (i := 0) rfl) (by first | omega | (simp; done) | (simp; omega))) rfl fun v18 w18 ⟨r'18, rs18, hc18, hs18, hm18⟩ => ?_
        have hM18 : Mem w [] w18 [r'18, rs11, rs18] := hM17.stepAdd 0 rfl hm18
        refine stp (v := .int .i64 n) (o_mv rfl) ?_
        refine m_call (words_okD _ _ b _ L aq n w18 (hs11.rd hM18 (i := 1) rfl) (hs18.rd hM18 (i := 2) rfl) htk (by omega) (by omega) (by omega) (by omega)) rfl fun v19 w19 ⟨y19, okw, T, rs19, hr19, hs19, hw, hm19⟩ => ?_
        have hM19 : Mem w [] w19 [r'18, rs11, rs18, rs19] := hM18.add hm19
        subst hr19
        refine stp (v := .tuple [y19, .bool okw].toArray) (o_mv rfl) ?_
        refine stp (v := y19) (o_ext rfl rfl) ?_
        refine stp (v := .bool okw) (o_ext rfl rfl) ?_
        refine stp (v := y19) (o_mv rfl) ?_
        refine stp (v := .bool okw) (o_mv rfl) ?_
        refine h16 _ _ ?_
        clear h16
        refine seq fun K20 h20 => ?_
        refine seq fun K21 h21 => ?_
        refine stp (v := .bool okw) (o_mv rfl) ?_
        refine stp (v := .bool (!okw)) (o_not rfl rfl) ?_
        refine h21 _ _ ?_
        clear h21
        refine cnd rfl (fun hwT => ?_) (fun hwF => ?_)
        ·
          refine seq fun K23 h23 => ?_
          refine stp (v := .slice none 0 0) (o_mv rfl) ?_
          refine stp (v := .int .i64 40) (o_mv rfl) ?_
          refine h23 _ _ ?_
          clear h23
          refine ⟨(.tuple [.slice none 0 0, .int .i64 40].toArray), rfl, ?_⟩
          have hok2 : okw = false := by simpa using hwT
          rw [hok2] at hw
          exact ⟨.slice none 0 0, [], by rw [huffD_none (by omega) hqs hw.symm], by rw [huffD_none (by omega) hqs hw.symm]; exact Sl.nil 1 5, hM19.keep (by simp)⟩
        ·
          refine h20 _ _ ?_
          clear h20
          refine seq fun K24 h24 => ?_
          refine stp (v := y19) (o_mv rfl) ?_
          refine stp (v := y19) (o_mv rfl) ?_
          refine stp (v := .int .i64 0) (o_mv rfl) ?_
          refine h24 _ _ ?_
          clear h24
          refine ⟨(.tuple [y19, .int .i64 0].toArray), rfl, ?_⟩
          have hok2 : okw = true := by simpa using hwF
          rw [hok2, if_pos rfl] at hw
          have hr := huffD_some (n := n) (by omega) hqs hw.symm
          rw [hr]
          exact ⟨_, _, rfl, hs19, hM19.keep (by simp only [List.flatten_cons, List.flatten_nil, List.append_nil, ← List.append_assoc]; exact List.sublist_append_right _ _)⟩

/-- winnowref4.Decode -/
theorem refDecode_ok (x : Value) (b : List UInt8) (n : Int) (w : World) (hx : RdE byteV w x b) (hl : b.length ≤ 140737488355328) (hn : inK .i64 n) : Calls Try.prog 26 [x, .int .i64 n].toArray w (Rt fun r w' => ∃ v rs, r = .tuple [v, .int .i64 (huffD b n).2].toArray ∧ SlE byteV 5 v (huffD b n).1 rs ∧ Mem w [] w' [rs]) := by
  have hM0 : Mem w [] w [] := Mem.nil w []
  simp only [inK] at hn
  refine calls_vc mixed Try.func26 rfl C26 (by simp [Try.ntmps26]) ?_
  refine seq fun K1 h1 => ?_
  refine stp (v := .slice none 0 0) (o_mv rfl) ?_
  refine stp (v := .int .i64 0) (o_mv rfl) ?_
  refine h1 _ _ ?_
  clear h1
  refine seq fun K2 h2 => ?_
  refine seq fun K3 h3 => ?_
  refine stp (v := .int .i64 n) (o_mv rfl) ?_
  refine stp (v := .bool (decide (n < 0))) (o_bin rfl rfl rfl) ?_
  refine stp (v := .bool (decide (n < 0))) (o_mv rfl) ?_
  refine splitP rfl (fun c4 => ?_) (fun c4 => ?_)
  ·
    refine gno rfl (by simp) ?_
    refine gno rfl (by simp) ?_
    refine stp (v := .bool true) (o_pickT rfl rfl) ?_
    refine h3 _ _ ?_
    clear h3
    refine cndT rfl ?_
    refine seq fun K5 h5 => ?_
    refine stp (v := .slice none 0 0) (o_mv rfl) ?_
    refine stp (v := .int .i64 3) (o_mv rfl) ?_
    refine h5 _ _ ?_
    clear h5
    refine ⟨(.tuple [.slice none 0 0, .int .i64 3].toArray), rfl, ?_⟩
    exact ⟨.slice none 0 0, [], by rw [huffD_arg (by omega)], by rw [huffD_arg (by omega)]; exact Sl.nil 1 5, hM0.keep (by simp)⟩
  ·
    refine stg rfl (v := .int .i64 n) (o_mv rfl) ?_
    refine stg rfl (v := .bool (decide ((65536 : Int) < n))) (o_bin rfl rfl rfl) ?_
    refine stp (v := .bool (decide ((65536 : Int) < n))) (o_pickF rfl rfl) ?_
    refine h3 _ _ ?_
    clear h3
    refine cndP rfl (fun c6 => ?_) (fun c6 => ?_)
    ·
      refine seq fun K7 h7 => ?_
      refine stp (v := .slice none 0 0) (o_mv rfl) ?_
      refine stp (v := .int .i64 3) (o_mv rfl) ?_
      refine h7 _ _ ?_
      clear h7
      refine ⟨(.tuple [.slice none 0 0, .int .i64 3].toArray), rfl, ?_⟩
      exact ⟨.slice none 0 0, [], by rw [huffD_arg (by omega)], by rw [huffD_arg (by omega)]; exact Sl.nil 1 5, hM0.keep (by simp)⟩
    ·
      refine h2 _ _ ?_
      clear h2
      refine seq fun K8 h8 => ?_
      refine stp (v := x) (o_mv rfl) ?_
      refine m_call (readLens_ok _ b w (hx.upd hM0.upd) (by omega)) rfl fun v9 w9 ⟨y9, okq, L, aq, rs9, hr9, hs9, hq, hm9⟩ => ?_
      have hM9 : Mem w [] w9 [rs9] := hM0.add hm9
      subst hr9
      refine stp (v := .tuple [y9, .int .i64 (aq : Nat), .bool okq].toArray) (o_mv rfl) ?_
      refine stp (v := y9) (o_ext rfl rfl) ?_
      refine stp (v := .int .i64 (aq : Nat)) (o_ext rfl rfl) ?_
      refine stp (v := .bool okq) (o_ext rfl rfl) ?_
      refine stp (v := y9) (o_mv rfl) ?_
      refine stp (v := .int .i64 (aq : Nat)) (o_mv rfl) ?_
      refine stp (v := .bool okq) (o_mv rfl) ?_
      refine h8 _ _ ?_
      clear h8
      refine seq fun K10 h10 => ?_
      refine seq fun K11 h11 => ?_
      refine stp (v := .bool okq) (o_mv rfl) ?_
      refine stp (v := .bool (!okq)) (o_not rfl rfl) ?_
      refine h11 _ _ ?_
      clear h11
      refine cnd rfl (fun hkT => ?_) (fun hkF => ?_)
      ·
        refine seq fun K13 h13 => ?_
        refine stp (v := .slice none 0 0) (o_mv rfl) ?_
        refine stp (v := .int .i64 40) (o_mv rfl) ?_
        refine h13 _ _ ?_
        clear h13
        refine ⟨(.tuple [.slice none 0 0, .int .i64 40].toArray), rfl, ?_⟩
        have hok : okq = false := by simpa using hkT
        rw [hok] at hq
        exact ⟨.slice none 0 0, [], by rw [huffD_hdr (by omega) hq.symm], by rw [huffD_hdr (by omega) hq.symm]; exact Sl.nil 1 5, hM9.keep (by simp)⟩
      ·
        refine h10 _ _ ?_
        clear h10
        refine seq fun K14 h14 => ?_
        have hok : okq = true := by simpa using hkF
        rw [if_pos hok] at hq
        have hqs := hq.symm
        have hkk := hdr_ok hqs
        refine stp (v := y9) (o_mv rfl) ?_
        refine m_call (refCodes_ok _ L w9 (hs9.rd hM9 (i := 0) rfl) (by first | omega | (simp; done) | (simp; omega))) rfl fun v15 w15 ⟨y15, rs15, hr15, hs15, hm15⟩ => ?_
        have hM15 : Mem w [] w15 [rs9, rs15] := hM9.add hm15
        subst hr15
        refine stp (v := .tuple [y15, .int .i64 ((codes L).2)].toArray) (o_mv rfl) ?_
        refine stp (v := y15) (o_ext rfl rfl) ?_
        refine stp (v := .int .i64 ((codes L).2)) (o_ext rfl rfl) ?_
        refine stp (v := y15) (o_mv rfl) ?_
        refine stp (v := .int .i64 ((codes L).2)) (o_mv rfl) ?_
        refine h14 _ _ ?_
        clear h14
        refine seq fun K16 h16 => ?_
        refine seq fun K17 h17 => ?_
        refine stp (v := .int .i64 ((codes L).2)) (o_mv rfl) ?_
        refine stp (v := .bool (decide (¬ ((codes L).2) = 0))) (o_bin rfl rfl v_neq) ?_
        refine h17 _ _ ?_
        clear h17
        refine cndP rfl (fun c18 => ?_) (fun c18 => ?_)
        ·
          refine seq fun K19 h19 => ?_
          refine stp (v := .slice none 0 0) (o_mv rfl) ?_
          refine stp (v := .int .i64 40) (o_mv rfl) ?_
          refine h19 _ _ ?_
          clear h19
          refine ⟨(.tuple [.slice none 0 0, .int .i64 40].toArray), rfl, ?_⟩
          exact ⟨.slice none 0 0, [], by rw [huffD_none (by omega) hqs (wordsF_none (.inl ((codes_hdr hqs).1 (by omega))))], by rw [huffD_none (by omega) hqs (wordsF_none (.inl ((codes_hdr hqs).1 (by omega))))]; exact Sl.nil 1 5, hM15.keep (by simp)⟩
        ·
          refine h16 _ _ ?_
          clear h16
          refine seq fun K20 h20 => ?_
          have hcu := ((codes_hdr hqs).2 (by omega)).1
          have hcd := ((codes_hdr hqs).2 (by omega)).2
          have hbl : (b.drop aq).length ≤ 140737488355328 := by rw [List.length_drop]; omega
          refine stp (v := x) (o_mv rfl) ?_
          refine stp (v := .int .i64 (aq : Nat)) (o_mv rfl) ?_
          refine m_slcE aq b.length (hx) rfl (by omega) (by omega) rfl ⟨_, v_int (by omega)⟩ fun u21 hu21 => ?_
          have hu21' : RdE byteV w u21 (b.drop aq) := by
            have e : (b.take b.length).drop aq = (b.drop aq) := by rw [List.take_length]
            rw [e] at hu21; exact hu21
          refine stp (v := u21) (o_mv rfl) ?_
          refine h20 _ _ ?_
          clear h20
          refine seq fun K22 h22 => ?_
          refine stp (v := .int .i64 0) (o_mv rfl) ?_
          refine h22 _ _ ?_
          clear h22
          refine seq fun K23 h23 => ?_
          refine stp (v := .slice none 0 0) (o_mv rfl) ?_
          refine h23 _ _ ?_
          clear h23
          refine seq fun K24 h24 => ?_
          have hM25 : Mem w [] w15 [rs9, rs15, []] := hM15.addNil
          have hs25 : SlE byteV 5 (.slice none 0 0) [] [] := Sl.nil 1 5
          refine lp (n := fun _ _ => False) (ι := (List UInt8) × (Nat) × (Value) × (List Ent)) (fun ⟨T, p, y13_, r13_⟩ f w' => f 12 = .int .i64 (p : Nat) ∧ f 13 = y13_ ∧ f 1 = .int .i64 n ∧ f 9 = y15 ∧ f 11 = u21 ∧ Mem w [] w' [rs9, rs15, r13_] ∧ (Dcs L (b.drop aq) n.toNat T p) ∧ (SlE byteV 5 y13_ (T) r13_)) (fun ⟨T, p, y13_, r13_⟩ => n.toNat - T.length) ([], 0, ((.slice none 0 0)), ([])) ?_ ?_
          · exact ⟨by first | rfl | exact v_int (by omega) | exact v_int (by simp) | exact v_int (by simp; omega), rfl, by first | rfl | exact v_int (by omega) | exact v_int (by simp) | exact v_int (by simp; omega), rfl, rfl, hM25, Dcs.init, by first | exact hs25 | simpa using hs25⟩
          · rintro ⟨T, p, y13_, r13_⟩ f w26 ⟨e26_12, e26_13, e26_1, e26_9, e26_11, hM26, hD, hy13_⟩ K27 h27
            obtain ⟨frm, rfl⟩ : ∃ frm, f = (upd (upd (upd (upd (upd frm 12 (.int .i64 (p : Nat))) 13 (y13_)) 1 (.int .i64 n)) 9 (y15)) 11 (u21)) := ⟨f, by rw [upd_self e26_12, upd_self e26_13, upd_self e26_1, upd_self e26_9, upd_self e26_11]⟩
            clear e26_12 e26_13 e26_1 e26_9 e26_11
            refine seq fun K28 h28 => ?_
            refine seq fun K29 h29 => ?_
            refine stp (v := y13_) (o_mv rfl) ?_
            refine stp (v := .int .i64 (T.length : Nat)) (o_lenR (hy13_.rd hM26 (i := 2) rfl) rfl rfl) ?_
            refine stp (v := .int .i64 n) (o_mv rfl) ?_
            refine stp (v := .bool (decide (((T.length : Nat) : Int) < n))) (o_bin rfl rfl rfl) ?_
            refine h29 _ _ ?_
            clear h29
            refine cndP rfl (fun c30 => ?_) (fun c30 => ?_)
            ·
              refine h28 _ _ ?_
              clear h28
              refine seq fun K31 h31 => ?_
              refine stp (v := .int .u32 0) (o_mv rfl) ?_
              refine h31 _ _ ?_
              clear h31
              refine seq fun K32 h32 => ?_
              refine stp (v := .int .i64 (-1)) (o_mv rfl) ?_
              refine h32 _ _ ?_
              clear h32
              refine seq fun K33 h33 => ?_
              refine seq fun K34 h34 => ?_
              refine stp (v := .int .i64 1) (o_mv rfl) ?_
              refine h34 _ _ ?_
              clear h34
              refine lp (n := fun _ _ => False) (ι := (Nat) × (Nat) × (Int) × (Nat)) (fun ⟨W, k, s, q⟩ f w' => f 12 = .int .i64 (q : Nat) ∧ f 14 = .int .u32 (W : Nat) ∧ f 15 = .int .i64 s ∧ f 16 = .int .i64 (k : Nat) ∧ f 1 = .int .i64 n ∧ f 9 = y15 ∧ f 11 = u21 ∧ f 13 = y13_ ∧ Mem w [] w' [rs9, rs15, r13_] ∧ (DecS L (b.drop aq) p k W s q) ∧ (1 ≤ k ∧ k ≤ 16) ∧ (q ≤ 8 * (b.drop aq).length)) (fun ⟨W, k, s, q⟩ => 16 - k) (0, 1, -1, p) ?_ ?_
              · exact ⟨by first | rfl | exact v_int (by omega) | exact v_int (by simp) | exact v_int (by simp; omega), by first | rfl | exact v_int (by omega) | exact v_int (by simp) | exact v_int (by simp; omega), by first | rfl | exact v_int (by omega) | exact v_int (by simp) | exact v_int (by simp; omega), by first | rfl | exact v_int (by omega) | exact v_int (by simp) | exact v_int (by simp; omega), by first | rfl | exact v_int (by omega) | exact v_int (by simp) | exact v_int (by simp; omega), rfl, rfl, rfl, hM26, .inl ⟨rfl, Dec.init hD.p⟩, by omega, hD.p⟩
              · rintro ⟨W, k, s, q⟩ f w35 ⟨e35_12, e35_14, e35_15, e35_16, e35_1, e35_9, e35_11, e35_13, hM35, hd, hk, hqb⟩ K36 h36
                obtain ⟨frm, rfl⟩ : ∃ frm, f = (upd (upd (upd (upd (upd (upd (upd (upd frm 12 (.int .i64 (q : Nat))) 14 (.int .u32 (W : Nat))) 15 (.int .i64 s)) 16 (.int .i64 (k : Nat))) 1 (.int .i64 n)) 9 (y15)) 11 (u21)) 13 (y13_)) := ⟨f, by rw [upd_self e35_12, upd_self e35_14, upd_self e35_15, upd_self e35_16, upd_self e35_1, upd_self e35_9, upd_self e35_11, upd_self e35_13]⟩
                clear e35_12 e35_14 e35_15 e35_16 e35_1 e35_9 e35_11 e35_13
                refine seq fun K37 h37 => ?_
                refine seq fun K38 h38 => ?_
                refine stp (v := .int .i64 (k : Nat)) (o_mv rfl) ?_
                refine stp (v := .bool (decide (((k : Nat) : Int) ≤ 15))) (o_bin rfl rfl rfl) ?_
                refine stp (v := .bool (decide (((k : Nat) : Int) ≤ 15))) (o_mv rfl) ?_
                refine splitP rfl (fun c39 => ?_) (fun c39 => ?_)
                ·
                  refine stg rfl (v := .int .i64 s) (o_mv rfl) ?_
                  refine stg rfl (v := .bool (decide (s < 0))) (o_bin rfl rfl rfl) ?_
                  refine stp (v := .bool (decide (s < 0))) (o_pickT rfl rfl) ?_
                  refine h38 _ _ ?_
                  clear h38
                  refine cndP rfl (fun c40 => ?_) (fun c40 => ?_)
                  ·
                    refine h37 _ _ ?_
                    clear h37
                    refine seq fun K41 h41 => ?_
                    refine seq fun K42 h42 => ?_
                    refine seq fun K43 h43 => ?_
                    refine stp (v := .int .i64 (q : Nat)) (o_mv rfl) ?_
                    refine stp (v := u21) (o_mv rfl) ?_
                    refine stp (v := .int .i64 ((b.drop aq).length : Nat)) (o_lenR ((hu21'.upd hM35.upd)) rfl rfl) ?_
                    refine stp (v := .int .i64 (8 * ((b.drop aq).length : Nat))) (o_bin rfl rfl (v_mul64 (by constructor <;> omega))) ?_
                    refine stp (v := .bool (decide (((8 * ((b.drop aq).length : Nat) : Int) : Int) ≤ ((q : Nat) : Int)))) (o_bin rfl rfl rfl) ?_
                    refine h43 _ _ ?_
                    clear h43
                    refine cndP rfl (fun c44 => ?_) (fun c44 => ?_)
                    ·
                      refine seq fun K45 h45 => ?_
                      refine stp (v := .slice none 0 0) (o_mv rfl) ?_
                      refine stp (v := .int .i64 40) (o_mv rfl) ?_
                      refine h45 _ _ ?_
                      clear h45
                      refine ⟨(.tuple [.slice none 0 0, .int .i64 40].toArray), rfl, ?_⟩
                      exact ⟨.slice none 0 0, [], by rw [huffD_none (by omega) hqs (wordsF_none (.inr (hD.fail (by omega) ((hd.neg (by omega)).out (.inr (by omega))))))], by rw [huffD_none (by omega) hqs (wordsF_none (.inr (hD.fail (by omega) ((hd.neg (by omega)).out (.inr (by omega))))))]; exact Sl.nil 1 5, hM35.keep (by simp)⟩
                    ·
                      refine h42 _ _ ?_
                      clear h42
                      refine seq fun K46 h46 => ?_
                      have hWb := (hd.neg (by omega)).bd
                      have hbw := bitW_le (b.drop aq) q
                      refine stp (v := .int .u32 (W : Nat)) (o_mv rfl) ?_
                      refine stp (v := .int .u32 (2 * W : Nat)) (o_bin rfl rfl (mul_u32 (by omega))) ?_
                      refine stp (v := u21) (o_mv rfl) ?_
                      refine stp (v := .int .i64 (q : Nat)) (o_mv rfl) ?_
                      refine m_call (bit_ok _ (b.drop aq) q w35 ((hu21'.upd hM35.upd)) (by omega) (by omega)) rfl fun v47 w47 ⟨hr47, hu47⟩ => ?_
                      have hM47 : Mem w [] w47 [rs9, rs15, r13_] := hM35.pure hu47
                      subst hr47
                      refine stp (v := .int .u32 (2 * W + bitW (b.drop aq) q : Nat)) (o_bin rfl rfl (add_u32 (by omega))) ?_
                      refine stp (v := .int .u32 (2 * W + bitW (b.drop aq) q : Nat)) (o_mv rfl) ?_
                      refine h46 _ _ ?_
                      clear h46
                      refine seq fun K48 h48 => ?_
                      refine stp (v := .int .i64 (q : Nat)) (o_mv rfl) ?_
                      refine stp (v := .int .i64 ((q : Nat) + 1)) (o_bin rfl rfl (v_add64 (by constructor <;> omega))) ?_
                      refine stp (v := .int .i64 ((q : Nat) + 1)) (o_mv rfl) ?_
                      refine h48 _ _ ?_
                      clear h48
                      refine stp (v := y15) (o_mv rfl) ?_
                      refine stp (v := .int .i64 (k : Nat)) (o_mv rfl) ?_
                      refine stp (v := .int .u32 (2 * W + bitW (b.drop aq) q : Nat)) (o_mv rfl) ?_
                      refine m_call (find_okD _ L _ k (2 * W + bitW (b.drop aq) q) w47 (hs15.rd hM47 (i := 1) rfl) hcd (by omega) (by omega) (by omega)) rfl fun v49 w49 ⟨hr49, hu49⟩ => ?_
                      have hM49 : Mem w [] w49 [rs9, rs15, r13_] := hM47.pure hu49
                      subst hr49
                      refine stp (v := .int .i64 (findV L k (2 * W + bitW (b.drop aq) q))) (o_mv rfl) ?_
                      refine h41 _ _ ?_
                      clear h41
                      refine stp (v := .int .i64 (k : Nat)) (o_mv rfl) ?_
                      refine stp (v := .int .i64 ((k : Nat) + 1)) (o_bin rfl rfl (v_add64 (by constructor <;> omega))) ?_
                      refine stp (v := .int .i64 ((k : Nat) + 1)) (o_mv rfl) ?_
                      refine h36 (2 * W + bitW (b.drop aq) q, k + 1, findV L k (2 * W + bitW (b.drop aq) q), q + 1) _ _ ⟨by first | rfl | exact v_int (by omega) | exact v_int (by simp) | exact v_int (by simp; omega), by first | rfl | exact v_int (by omega) | exact v_int (by simp) | exact v_int (by simp; omega), by first | rfl | exact v_int (by omega) | exact v_int (by simp) | exact v_int (by simp; omega), by first | rfl | exact v_int (by omega) | exact v_int (by simp) | exact v_int (by simp; omega), by first | rfl | exact v_int (by omega) | exact v_int (by simp) | exact v_int (by simp; omega), rfl, rfl, rfl, hM49, DecS.step (by omega) (hd.neg (by omega)) (by omega) (by omega), by omega, by omega⟩ (by (try dsimp only); omega)
                  ·
                    refine h33 _ _ ?_
                    clear h33
                    refine seq fun K50 h50 => ?_
                    refine seq fun K51 h51 => ?_
                    refine stp (v := .int .i64 s) (o_mv rfl) ?_
                    refine stp (v := .bool (decide (s < 0))) (o_bin rfl rfl rfl) ?_
                    refine h51 _ _ ?_
                    clear h51
                    refine cndP rfl (fun c52 => ?_) (fun c52 => ?_)
                    ·
                      refine seq fun K53 h53 => ?_
                      refine stp (v := .slice none 0 0) (o_mv rfl) ?_
                      refine stp (v := .int .i64 40) (o_mv rfl) ?_
                      refine h53 _ _ ?_
                      clear h53
                      refine ⟨(.tuple [.slice none 0 0, .int .i64 40].toArray), rfl, ?_⟩
                      exfalso
                      omega
                    ·
                      refine h50 _ _ ?_
                      clear h50
                      have hsb := (hd.pos (by omega)).1
                      refine stp (v := y13_) (o_mv rfl) ?_
                      refine stp (v := .int .i64 s) (o_mv rfl) ?_
                      refine stp (v := .int .u8 (s % 256)) (o_conv rfl (v_u8 _)) ?_
                      refine m_app1 (E := byteV) (q := s.toNat.toUInt8) hM35 (i := 2) rfl hy13_ rfl (by simp) (s_byte (by omega) hsb) (by omega) (by omega) fun v54 w54 r54 u54 (hs54 : SlE byteV 5 v54 (T ++ [s.toNat.toUInt8]) r54) (hM54 : Mem w [] w54 [rs9, rs15, r54]) => ?_
                      refine stp (v := v54) (o_mv rfl) ?_
                      refine h27 (T ++ [s.toNat.toUInt8], q, v54, r54) _ _ ⟨by first | rfl | exact v_int (by omega) | exact v_int (by simp) | exact v_int (by simp; omega), rfl, by first | rfl | exact v_int (by omega) | exact v_int (by simp) | exact v_int (by simp; omega), rfl, rfl, hM54, hD.step (by omega) (hd.pos (by omega)).2, by first | exact hs54 | simpa using hs54⟩ (by dsimp only; rw [List.length_append, List.length_singleton]; omega)
                ·
                  refine gno rfl (by simp) ?_
                  refine gno rfl (by simp) ?_
                  refine stp (v := .bool false) (o_pickF rfl rfl) ?_
                  refine h38 _ _ ?_
                  clear h38
                  refine cndF rfl ?_
                  refine h33 _ _ ?_
                  clear h33
                  refine seq fun K55 h55 => ?_
                  refine seq fun K56 h56 => ?_
                  refine stp (v := .int .i64 s) (o_mv rfl) ?_
                  refine stp (v := .bool (decide (s < 0))) (o_bin rfl rfl rfl) ?_
                  refine h56 _ _ ?_
                  clear h56
                  refine cndP rfl (fun c57 => ?_) (fun c57 => ?_)
                  ·
                    refine seq fun K58 h58 => ?_
                    refine stp (v := .slice none 0 0) (o_mv rfl) ?_
                    refine stp (v := .int .i64 40) (o_mv rfl) ?_
                    refine h58 _ _ ?_
                    clear h58
                    refine ⟨(.tuple [.slice none 0 0, .int .i64 40].toArray), rfl, ?_⟩
                    exact ⟨.slice none 0 0, [], by rw [huffD_none (by omega) hqs (wordsF_none (.inr (hD.fail (by omega) ((hd.neg (by omega)).out (.inl (by omega))))))], by rw [huffD_none (by omega) hqs (wordsF_none (.inr (hD.fail (by omega) ((hd.neg (by omega)).out (.inl (by omega))))))]; exact Sl.nil 1 5, hM35.keep (by simp)⟩
                  ·
                    refine h55 _ _ ?_
                    clear h55
                    have hsb := (hd.pos (by omega)).1
                    refine stp (v := y13_) (o_mv rfl) ?_
                    refine stp (v := .int .i64 s) (o_mv rfl) ?_
                    refine stp (v := .int .u8 (s % 256)) (o_conv rfl (v_u8 _)) ?_
                    refine m_app1 (E := byteV) (q := s.toNat.toUInt8) hM35 (i := 2) rfl hy13_ rfl (by simp) (s_byte (by omega) hsb) (by omega) (by omega) fun v59 w59 r59 u59 (hs59 : SlE byteV 5 v59 (T ++ [s.toNat.toUInt8]) r59) (hM59 : Mem w [] w59 [rs9, rs15, r59]) => ?_
                    refine stp (v := v59) (o_mv rfl) ?_
                    refine h27 (T ++ [s.toNat.toUInt8], q, v59, r59) _ _ ⟨by first | rfl | exact v_int (by omega) | exact v_int (by simp) | exact v_int (by simp; omega), rfl, by first | rfl | exact v_int (by omega) | exact v_int (by simp) | exact v_int (by simp; omega), rfl, rfl, hM59, hD.step (by omega) (hd.pos (by omega)).2, by first | exact hs59 | simpa using hs59⟩ (by dsimp only; rw [List.length_append, List.length_singleton]; omega)
            ·
              refine h24 _ _ ?_
              clear h24
              refine seq fun K60 h60 => ?_
              refine seq fun K61 h61 => ?_
              have hpp := hD.p
              refine stp (v := u21) (o_mv rfl) ?_
              refine stp (v := .int .i64 ((b.drop aq).length : Nat)) (o_lenR ((hu21'.upd hM26.upd)) rfl rfl) ?_
              refine stp (v := .int .i64 (p : Nat)) (o_mv rfl) ?_
              refine stp (v := .int .i64 ((p : Nat) + 7)) (o_bin rfl rfl (v_add64 (by constructor <;> omega))) ?_
              refine stp (v := .int .i64 (((p : Nat) + 7) / 8)) (o_quo rfl rfl (by omega) (v_quo (by omega) (by omega) (by simp only [inK]; omega))) ?_
              refine stp (v := .bool (decide (¬ (((b.drop aq).length : Nat) : Int) = (((p : Nat) + 7) / 8)))) (o_bin rfl rfl v_neq) ?_
              refine h61 _ _ ?_
              clear h61
              refine cndP rfl (fun c62 => ?_) (fun c62 => ?_)
              ·
                refine seq fun K63 h63 => ?_
                refine stp (v := .slice none 0 0) (o_mv rfl) ?_
                refine stp (v := .int .i64 40) (o_mv rfl) ?_
                refine h63 _ _ ?_
                clear h63
                refine ⟨(.tuple [.slice none 0 0, .int .i64 40].toArray), rfl, ?_⟩
                exact ⟨.slice none 0 0, [], by rw [huffD_none (by omega) hqs ((wordsF_some hcu (hD.done (by omega))).trans (if_neg (fun h => by have := h.1; omega)))], by rw [huffD_none (by omega) hqs ((wordsF_some hcu (hD.done (by omega))).trans (if_neg (fun h => by have := h.1; omega)))]; exact Sl.nil 1 5, hM26.keep (by simp)⟩
              ·
                refine h60 _ _ ?_
                clear h60
                refine seq fun K64 h64 => ?_
                refine lp (n := fun _ _ => False) (ι := (Nat)) (fun q f w' => f 12 = .int .i64 (q : Nat) ∧ f 11 = u21 ∧ f 13 = y13_ ∧ Mem w [] w' [rs9, rs15, r13_] ∧ (zeros (b.drop aq) p q) ∧ (p ≤ q ∧ q ≤ 8 * (b.drop aq).length)) (fun q => 8 * (b.drop aq).length - q) (p) ?_ ?_
                · exact ⟨by first | rfl | exact v_int (by omega) | exact v_int (by simp) | exact v_int (by simp; omega), rfl, rfl, hM26, zeros_none, by omega⟩
                · rintro q f w65 ⟨e65_12, e65_11, e65_13, hM65, hz, hq⟩ K66 h66
                  obtain ⟨frm, rfl⟩ : ∃ frm, f = (upd (upd (upd frm 12 (.int .i64 (q : Nat))) 11 (u21)) 13 (y13_)) := ⟨f, by rw [upd_self e65_12, upd_self e65_11, upd_self e65_13]⟩
                  clear e65_12 e65_11 e65_13
                  refine seq fun K67 h67 => ?_
                  refine seq fun K68 h68 => ?_
                  refine stp (v := .int .i64 (q : Nat)) (o_mv rfl) ?_
                  refine stp (v := u21) (o_mv rfl) ?_
                  refine stp (v := .int .i64 ((b.drop aq).length : Nat)) (o_lenR ((hu21'.upd hM65.upd)) rfl rfl) ?_
                  refine stp (v := .int .i64 (8 * ((b.drop aq).length : Nat))) (o_bin rfl rfl (v_mul64 (by constructor <;> omega))) ?_
                  refine stp (v := .bool (decide (((q : Nat) : Int) < (8 * ((b.drop aq).length : Nat))))) (o_bin rfl rfl rfl) ?_
                  refine h68 _ _ ?_
                  clear h68
                  refine cndP rfl (fun c69 => ?_) (fun c69 => ?_)
                  ·
                    refine h67 _ _ ?_
                    clear h67
                    refine seq fun K70 h70 => ?_
                    refine seq fun K71 h71 => ?_
                    refine stp (v := u21) (o_mv rfl) ?_
                    refine stp (v := .int .i64 (q : Nat)) (o_mv rfl) ?_
                    refine m_call (bit_ok _ (b.drop aq) q w65 ((hu21'.upd hM65.upd)) (by omega) (by omega)) rfl fun v72 w72 ⟨hr72, hu72⟩ => ?_
                    have hM72 : Mem w [] w72 [rs9, rs15, r13_] := hM65.pure hu72
                    subst hr72
                    refine stp (v := .bool (decide (¬ ((bitW (b.drop aq) q : Nat) : Int) = 0))) (o_bin rfl rfl v_neq) ?_
                    refine h71 _ _ ?_
                    clear h71
                    refine cndP rfl (fun c73 => ?_) (fun c73 => ?_)
                    ·
                      refine seq fun K74 h74 => ?_
                      refine stp (v := .slice none 0 0) (o_mv rfl) ?_
                      refine stp (v := .int .i64 40) (o_mv rfl) ?_
                      refine h74 _ _ ?_
                      clear h74
                      refine ⟨(.tuple [.slice none 0 0, .int .i64 40].toArray), rfl, ?_⟩
                      exact ⟨.slice none 0 0, [], by rw [huffD_none (by omega) hqs ((wordsF_some hcu (hD.done (by omega))).trans (if_neg (fun h => by have := h.2 q (by omega) (by omega); omega)))], by rw [huffD_none (by omega) hqs ((wordsF_some hcu (hD.done (by omega))).trans (if_neg (fun h => by have := h.2 q (by omega) (by omega); omega)))]; exact Sl.nil 1 5, hM72.keep (by simp)⟩
                    ·
                      refine h70 _ _ ?_
                      clear h70
                      refine stp (v := .int .i64 (q : Nat)) (o_mv rfl) ?_
                      refine stp (v := .int .i64 ((q : Nat) + 1)) (o_bin rfl rfl (v_add64 (by constructor <;> omega))) ?_
                      refine stp (v := .int .i64 ((q : Nat) + 1)) (o_mv rfl) ?_
                      refine h66 (q + 1) _ _ ⟨by first | rfl | exact v_int (by omega) | exact v_int (by simp) | exact v_int (by simp; omega), rfl, rfl, hM72, zeros_succ hz (by omega), by omega⟩ (by (try dsimp only); omega)
                  ·
                    refine h64 _ _ ?_
                    clear h64
                    refine seq fun K75 h75 => ?_
                    refine stp (v := y13_) (o_mv rfl) ?_
                    refine stp (v := y13_) (o_mv rfl) ?_
                    refine stp (v := .int .i64 0) (o_mv rfl) ?_
                    refine h75 _ _ ?_
                    clear h75
                    refine ⟨(.tuple [y13_, .int .i64 0].toArray), rfl, ?_⟩
                    have hw := (wordsF_some hcu (hD.done (by omega))).trans (if_pos ⟨by omega, zeros_all hz (by omega)⟩)
                    exact ⟨_, _, by rw [huffD_some (by omega) hqs hw], by rw [huffD_some (by omega) hqs hw]; exact hy13_, hM65.keep (by simp)⟩
