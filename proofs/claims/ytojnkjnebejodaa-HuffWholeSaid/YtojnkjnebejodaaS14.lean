/- Bits into bytes; the words of a text. -/
import Derived.Test.YtojnkjnebejodaaS13
namespace Go.Proofs.Ytojnkjnebejodaa.E
open Go
/-- one more bit -/
def pk1 (l : List UInt8) (n b : Nat) : List UInt8 := if n % 8 = 0 then l ++ [b.toUInt8] else l.set (n / 8) ((l.getD (n / 8) 0).toNat + b * 2 ^ (n % 8)).toUInt8
def pkA (bs : List Nat) : Nat → List UInt8
  | 0 => []
  | n + 1 => pk1 (pkA bs n) n (bs.getD n 0)
structure PkI (l : List UInt8) (n : Nat) : Prop where
  len : l.length = (n + 7) / 8
  low : ¬ n % 8 = 0 → (l.getD (n / 8) 0).toNat < 2 ^ (n % 8)
theorem pow_lt8 {k : Nat} (h : k ≤ 7) : 2 ^ k ≤ 128 := Nat.le_trans (Nat.pow_le_pow_right (n := 2) (by omega) h) (by decide)
theorem b_pow {b k : Nat} (hb : b ≤ 1) (h : k ≤ 7) : b * 2 ^ k ≤ 128 := by
  have h1 := pow_lt8 h
  have h2 := Nat.mul_le_mul_right (2 ^ k) hb
  omega
theorem toU8 {x : Nat} (h : x < 256) : x.toUInt8.toNat = x := by
  show x % 256 = x
  omega
theorem PkI.step {l : List UInt8} {n b : Nat} (h : PkI l n) (hb : b ≤ 1) : PkI (pk1 l n b) (n + 1) := by
  obtain ⟨h1, h2⟩ := h
  unfold pk1
  by_cases c : n % 8 = 0
  · rw [if_pos c]
    refine ⟨by rw [List.length_append, List.length_singleton]; omega, fun _ => ?_⟩
    rw [show (n + 1) / 8 = l.length by omega, List.getD_eq_getElem?_getD, List.getElem?_append_right (Nat.le_refl _), Nat.sub_self, show (n + 1) % 8 = 1 by omega]
    show b.toUInt8.toNat < 2 ^ 1
    rw [toU8 (by omega)]; omega
  · rw [if_neg c]
    refine ⟨by rw [List.length_set]; omega, fun d => ?_⟩
    have h3 := h2 c
    have hp : 2 ^ (n % 8) ≤ 64 := Nat.le_trans (Nat.pow_le_pow_right (show 0 < 2 by omega) (show n % 8 ≤ 6 by omega)) (by decide)
    have h4 := Nat.mul_le_mul_right (2 ^ (n % 8)) hb
    rw [show (n + 1) / 8 = n / 8 by omega, List.getD_eq_getElem?_getD, List.getElem?_set, if_pos rfl, if_pos (by omega), show (n + 1) % 8 = n % 8 + 1 by omega, Nat.pow_succ]
    show ((l.getD (n / 8) 0).toNat + b * 2 ^ (n % 8)).toUInt8.toNat < _
    rw [toU8 (by omega)]; omega
theorem pkA_ok {bs : List Nat} (hb : ∀ i, bs.getD i 0 ≤ 1) : ∀ n, PkI (pkA bs n) n
  | 0 => ⟨rfl, fun h => absurd rfl h⟩
  | n + 1 => (pkA_ok hb n).step (hb n)
theorem shl32b {b n : Nat} (hb : b ≤ 1) : Value.int .u32 (IntKind.u32.wrap ((b : Int) * 2 ^ min ((n % 8 : Nat) : Int).toNat IntKind.u32.bits)) = .int .u32 ((b * 2 ^ (n % 8) : Nat) : Int) := by
  have h := b_pow hb (k := n % 8) (by omega)
  exact v_int (shlI_nat (k := .u32) (a := b) (n := n % 8) (by simp only [IntKind.bits]; omega) (by simp only [inK]; omega))
theorem or_T {b n : Nat} (hb : b ≤ 1) (hn : n % 8 = 0) {x : UInt8} (hx : x = 0) : binI .or .u8 (x.toNat : Int) ((b * 2 ^ (n % 8) : Nat) : Int) = .int .u8 ((b.toUInt8.toNat : Nat) : Int) := by
  subst hx
  rw [hn, Nat.pow_zero, Nat.mul_one]
  have := orI_nat (k := .u8) (a := 0) (b := b) (by decide) (Nat.lt_of_le_of_lt hb (by decide)) (by rw [Nat.zero_or]; simp only [inK]; omega)
  rw [Nat.zero_or] at this
  refine (v_int this).trans (v_int ?_)
  rw [toU8 (by omega)]
theorem or_F {b n : Nat} (hb : b ≤ 1) {x y : UInt8} (hx : x = y) (hl : y.toNat < 2 ^ (n % 8)) : binI .or .u8 (x.toNat : Int) ((b * 2 ^ (n % 8) : Nat) : Int) = .int .u8 (((y.toNat + b * 2 ^ (n % 8)).toUInt8.toNat : Nat) : Int) := by
  subst hx
  have h1 := b_pow hb (k := n % 8) (by omega)
  have h2 := pow_lt8 (k := n % 8) (by omega)
  have := orI_nat (k := .u8) (a := x.toNat) (b := b * 2 ^ (n % 8)) (Nat.lt_of_lt_of_le hl (Nat.le_trans h2 (by decide))) (Nat.lt_of_le_of_lt h1 (by decide)) (by rw [or_add hl]; simp only [inK]; omega)
  rw [or_add hl] at this
  refine (v_int this).trans (v_int ?_)
  rw [toU8 (by omega)]
theorem set_T {H l : List UInt8} {n b : Nat} (hn : n % 8 = 0) : (H ++ l ++ [0]).set (H.length + l.length) b.toUInt8 = H ++ pk1 l n b := by
  unfold pk1
  rw [if_pos hn, ← List.length_append, List.set_append_right _ _ (Nat.le_refl _), Nat.sub_self, List.append_assoc]; rfl
theorem set_F {H l : List UInt8} {n b : Nat} (hn : ¬ n % 8 = 0) : (H ++ l).set (H.length + n / 8) ((l.getD (n / 8) 0).toNat + b * 2 ^ (n % 8)).toUInt8 = H ++ pk1 l n b := by
  unfold pk1
  rw [if_neg hn, List.set_append_right _ _ (by omega), Nat.add_sub_cancel_left]
theorem get_T {H l : List UInt8} : (H ++ l ++ [0]).getD (H.length + l.length) 0 = 0 := by
  rw [List.getD_eq_getElem?_getD, List.getElem?_append_right (by rw [List.length_append]; omega), List.length_append, Nat.sub_self]; rfl
theorem get_F {H l : List UInt8} {i : Nat} : (H ++ l).getD (H.length + i) 0 = l.getD i 0 := by
  rw [List.getD_eq_getElem?_getD, List.getElem?_append_right (by omega), Nat.add_sub_cancel_left, ← List.getD_eq_getElem?_getD]
/-- the bits of the word of symbol s -/
def wordB (L : List Int) (s : Nat) : List Nat := (List.range (codeAt L s).1.toNat).map fun k => (codeAt L s).2.toNat / 2 ^ ((codeAt L s).1.toNat - 1 - k) % 2
def bitsF (L : List Int) (t : List UInt8) : List Nat := t.flatMap fun c => wordB L c.toNat
theorem wordB_len (L : List Int) (s : Nat) : (wordB L s).length = (codeAt L s).1.toNat := by simp [wordB]
theorem bits_next {L : List Int} {t : List UInt8} {q : Nat} (h : q < t.length) : (bitsF L (t.take (q + 1))).length = (bitsF L (t.take q)).length + (codeAt L (t.getD q 0).toNat).1.toNat := by
  have : t.take (q + 1) = t.take q ++ [t.getD q 0] := by
    rw [List.take_add_one, List.getElem?_eq_getElem h, List.getD_eq_getElem?_getD, List.getElem?_eq_getElem h]; rfl
  unfold bitsF
  rw [this, List.flatMap_append, List.length_append, List.flatMap_cons, List.flatMap_nil, List.append_nil, wordB_len]
theorem bits_at {L : List Int} {t : List UInt8} {q k : Nat} (h : q < t.length) (hk : k < (codeAt L (t.getD q 0).toNat).1.toNat) : (bitsF L t).getD ((bitsF L (t.take q)).length + k) 0 = (codeAt L (t.getD q 0).toNat).2.toNat / 2 ^ ((codeAt L (t.getD q 0).toNat).1.toNat - 1 - k) % 2 := by
  have e : bitsF L t = bitsF L (t.take q) ++ (wordB L (t.getD q 0).toNat ++ bitsF L (t.drop (q + 1))) := by
    unfold bitsF
    rw [← List.flatMap_cons (f := fun c : UInt8 => wordB L c.toNat), ← List.flatMap_append, ← dropG 0 h, List.take_append_drop]
  rw [e, List.getD_eq_getElem?_getD, List.getElem?_append_right (by omega), Nat.add_sub_cancel_left, List.getElem?_append_left (by rw [wordB_len]; exact hk)]
  unfold wordB
  rw [List.getElem?_map, List.getElem?_range hk]; rfl
theorem bits_mem {L : List Int} {t : List UInt8} : ∀ x ∈ bitsF L t, x ≤ 1 := fun x hm => by
  unfold bitsF at hm
  obtain ⟨c, _, hm⟩ := List.mem_flatMap.1 hm
  unfold wordB at hm
  obtain ⟨k, _, hk⟩ := List.mem_map.1 hm
  omega
theorem bits_le {L : List Int} {t : List UInt8} (i : Nat) : (bitsF L t).getD i 0 ≤ 1 := by
  rw [List.getD_eq_getElem?_getD]
  rcases Nat.lt_or_ge i (bitsF L t).length with h | h
  · rw [List.getElem?_eq_getElem h]
    exact bits_mem _ (List.getElem_mem h)
  · rw [List.getElem?_eq_none h]; exact Nat.zero_le _
theorem bits_len_le {L : List Int} (hB : inB 0 15 L = true) (t : List UInt8) (ht : ∀ c : UInt8, c.toNat < L.length) : ∀ q, q ≤ t.length → (bitsF L (t.take q)).length ≤ 15 * q
  | 0, _ => by simp [bitsF]
  | q + 1, h => by
    have ih := bits_len_le hB t ht q (by omega)
    rw [bits_next (by omega)]
    have hb := inB_iff.1 hB (t.getD q 0).toNat (ht _)
    have hc : (codeAt L (t.getD q 0).toNat).1.toNat ≤ 15 := by
      unfold codeAt
      split
      · exact Nat.zero_le _
      · show (L.getD (t.getD q 0).toNat 0).toNat ≤ 15
        omega
    omega

/-- huff.Encode$1 -/
theorem put_ok (b n b1 b2 : Nat) (v : Value) (rb : List Ent) (H l : List UInt8) (w : World) (hs : SlE byteV 5 v (H ++ l) rb) (hr : Res w ([⟨b2, 40, [v]⟩, ⟨b1, 3, [.int .i64 (n : Nat)]⟩] ++ rb)) (hb : b ≤ 1) (hp : PkI l n) (hn : n ≤ 10000000) (hH : H.length ≤ 1000000) : Calls Try.prog 58 [.int .u32 (b : Nat), .pointer (some ⟨b1, 0, none⟩), .pointer (some ⟨b2, 0, none⟩)].toArray w (Rt fun _ w' => ∃ v' rb', SlE byteV 5 v' (H ++ pk1 l n b) rb' ∧ Mem w (ids ([⟨b2, 40, [v]⟩, ⟨b1, 3, [.int .i64 (n : Nat)]⟩] ++ rb)) w' [[⟨b2, 40, [v']⟩, ⟨b1, 3, [.int .i64 (n + 1 : Nat)]⟩], rb']) := by
  have hM0 : Mem w (ids ([⟨b2, 40, [v]⟩, ⟨b1, 3, [.int .i64 (n : Nat)]⟩] ++ rb)) w [[⟨b2, 40, [v]⟩], [⟨b1, 3, [.int .i64 (n : Nat)]⟩], rb] := (Mem.start hr).keep (by simp)
  have hpl := hp.len
  have hL1 : (H ++ l ++ [0]).length = H.length + l.length + 1 := by rw [List.length_append, List.length_append, List.length_singleton]
  have hL2 : (H ++ l).length = H.length + l.length := List.length_append
  have hpw := b_pow hb (k := n % 8) (by omega)
  refine calls_vc mixed Try.func58 rfl C58 (by simp [Try.ntmps58]) ?_
  refine seq fun K1 h1 => ?_
  refine seq fun K2 h2 => ?_
  refine m_ld (v := .int .i64 (n : Nat)) hM0 (i := 1) (j := 0) rfl rfl rfl rfl ?_
  refine stp (v := .int .i64 (n % 8 : Nat)) (o_rem rfl rfl (by omega) ((v_rem (by omega)).trans (v_int (by omega)))) ?_
  refine stp (v := .bool (decide (((n % 8 : Nat) : Int) = 0))) (o_bin rfl rfl rfl) ?_
  refine h2 _ _ ?_
  clear h2
  refine cndP rfl (fun c3 => ?_) (fun c3 => ?_)
  ·
    refine m_ld (v := v) hM0 (i := 0) (j := 0) rfl rfl rfl rfl ?_
    refine m_app1 (E := byteV) (q := 0) hM0 (i := 2) rfl hs rfl (by simp) (rfl) (by omega) (by omega) fun v4 w4 r4 u4 (hs4 : SlE byteV 5 v4 ((H ++ l) ++ [0]) r4) (hM4 : Mem w (ids ([⟨b2, 40, [v]⟩, ⟨b1, 3, [.int .i64 (n : Nat)]⟩] ++ rb)) w4 [[⟨b2, 40, [v]⟩], [⟨b1, 3, [.int .i64 (n : Nat)]⟩], r4]) => ?_
    refine m_st (v := v4) hM4 (i := 0) rfl rfl rfl (Sl.one hs4) (by simp) fun w5 (hM5 : Mem w (ids ([⟨b2, 40, [v]⟩, ⟨b1, 3, [.int .i64 (n : Nat)]⟩] ++ rb)) w5 [[⟨b2, 40, [v4]⟩], [⟨b1, 3, [.int .i64 (n : Nat)]⟩], r4]) => ?_
    refine h1 _ _ ?_
    clear h1
    refine seq fun K6 h6 => ?_
    intro wd e1 e2 e3 e4
    have hd := Upd.same e1 e2 e3 e4 []
    have hM7 := hM5.pure hd
    clear e1 e2 e3 e4
    refine ⟨(some [b1, b2]), ?_⟩
    show vd _ _ _ _ _ _ _
    refine dq (v := .int .u32 (b : Nat)) (o_mv rfl) ?_
    refine dqld rfl (by simp [isHeld]) (v := .int .i64 (n : Nat)) ((hM7.at (i := 1) (j := 0) rfl rfl).cell 0) ?_
    refine dq (v := .int .i64 (n % 8 : Nat)) (o_rem rfl rfl (by omega) ((v_rem (by omega)).trans (v_int (by omega)))) ?_
    refine dq (v := .int .u32 (b * 2 ^ (n % 8) : Nat)) (o_shl rfl rfl (by omega) (shl32b hb)) ?_
    refine dq (v := .int .u8 (b * 2 ^ (n % 8) : Nat)) (o_conv rfl ((v_same (by simp only [inK]; omega)))) ?_
    refine dqld rfl (by simp [isHeld]) (v := v4) ((hM7.at (i := 0) (j := 0) rfl rfl).cell 0) ?_
    refine dq (v := .int .i64 (((H ++ l) ++ [0]).length : Nat)) (o_lenR (hs4.rd hM7 (i := 2) rfl) rfl rfl) ?_
    refine dq (v := .int .i64 ((((H ++ l) ++ [0]).length : Nat) - 1)) (o_bin rfl rfl (v_sub64 (by constructor <;> omega))) ?_
    refine dl (m_ld (v := v4) hM7 (i := 0) (j := 0) rfl rfl rfl rfl ?_)
    refine ⟨(fun b hb => rfl), ?_⟩
    refine dqp (m_idxE 0 (j := (H.length + l.length)) (hs4.rd hM7 (i := 2) rfl) rfl (v_int (by omega)) (by omega) fun b8 o8 hp8 => ?_)
    show vd _ _ _ _ _ _ _
    refine dl (ld (v := byteV (((H ++ l) ++ [0]).getD (H.length + l.length) 0)) rfl (hp8) ?_)
    refine ⟨(fun b hb => rfl), ?_⟩
    refine dq (v := .int .u8 ((b.toUInt8.toNat : Nat) : Int)) (o_bin rfl rfl (or_T hb (by omega) get_T)) ?_
    refine dset (m_setU (E := byteV) (q := b.toUInt8) (j := (H.length + l.length)) hM7 (i := 2) rfl hs4 rfl (v_int (by omega)) (by omega) (by simp) (rfl) fun w9 r9 u9 he9 hs9 (hM9 : Mem w (ids ([⟨b2, 40, [v]⟩, ⟨b1, 3, [.int .i64 (n : Nat)]⟩] ++ rb)) w9 [[⟨b2, 40, [v4]⟩], [⟨b1, 3, [.int .i64 (n : Nat)]⟩], r9]) hup9 => ?_)
    have hh9 := held_upd (wr := wd) (bs := [b1, b2]) hup9 (fun b hb => by
      simp only [List.mem_cons, List.not_mem_nil, or_false] at hb
      rcases hb with h | h
      · rw [h]; exact ⟨(hM7.at (i := 1) (j := 0) rfl rfl).lt, hM7.apart (i := 1) (j := 0) (k := 2) rfl rfl rfl (by decide)⟩
      · rw [h]; exact ⟨(hM7.at (i := 0) (j := 0) rfl rfl).lt, hM7.apart (i := 0) (j := 0) (k := 2) rfl rfl rfl (by decide)⟩) (fun b hb => rfl)
    refine ⟨hh9, ?_⟩
    show vd _ _ _ _ _ _ _
    refine h6 _ _ ?_
    clear h6
    refine m_ld (v := .int .i64 (n : Nat)) hM9 (i := 1) (j := 0) rfl rfl rfl rfl ?_
    refine stp (v := .int .i64 (n + 1 : Nat)) (o_bin rfl rfl ((v_add64 (by omega)).trans (v_int (by omega)))) ?_
    refine m_st (v := .int .i64 (n + 1 : Nat)) hM9 (i := 1) rfl rfl rfl rfl (by simp) fun w10 (hM10 : Mem w (ids ([⟨b2, 40, [v]⟩, ⟨b1, 3, [.int .i64 (n : Nat)]⟩] ++ rb)) w10 [[⟨b2, 40, [v4]⟩], [⟨b1, 3, [.int .i64 (n + 1 : Nat)]⟩], r9]) => ?_
    refine ⟨(.tuple [].toArray), rfl, ?_⟩
    exact ⟨_, _, SlE.eqL (hs9) (set_T (by omega)), hM10.keep (by simp)⟩
  ·
    refine h1 _ _ ?_
    clear h1
    refine seq fun K11 h11 => ?_
    intro wd e1 e2 e3 e4
    have hd := Upd.same e1 e2 e3 e4 []
    have hM12 := hM0.pure hd
    clear e1 e2 e3 e4
    refine ⟨(some [b1, b2]), ?_⟩
    show vd _ _ _ _ _ _ _
    refine dq (v := .int .u32 (b : Nat)) (o_mv rfl) ?_
    refine dqld rfl (by simp [isHeld]) (v := .int .i64 (n : Nat)) ((hM12.at (i := 1) (j := 0) rfl rfl).cell 0) ?_
    refine dq (v := .int .i64 (n % 8 : Nat)) (o_rem rfl rfl (by omega) ((v_rem (by omega)).trans (v_int (by omega)))) ?_
    refine dq (v := .int .u32 (b * 2 ^ (n % 8) : Nat)) (o_shl rfl rfl (by omega) (shl32b hb)) ?_
    refine dq (v := .int .u8 (b * 2 ^ (n % 8) : Nat)) (o_conv rfl ((v_same (by simp only [inK]; omega)))) ?_
    refine dqld rfl (by simp [isHeld]) (v := v) ((hM12.at (i := 0) (j := 0) rfl rfl).cell 0) ?_
    refine dq (v := .int .i64 ((H ++ l).length : Nat)) (o_lenR (hs.rd hM12 (i := 2) rfl) rfl rfl) ?_
    refine dq (v := .int .i64 (((H ++ l).length : Nat) - 1)) (o_bin rfl rfl (v_sub64 (by constructor <;> omega))) ?_
    refine dl (m_ld (v := v) hM12 (i := 0) (j := 0) rfl rfl rfl rfl ?_)
    refine ⟨(fun b hb => rfl), ?_⟩
    refine dqp (m_idxE 0 (j := (H.length + n / 8)) (hs.rd hM12 (i := 2) rfl) rfl (v_int (by omega)) (by omega) fun b13 o13 hp13 => ?_)
    show vd _ _ _ _ _ _ _
    refine dl (ld (v := byteV ((H ++ l).getD (H.length + n / 8) 0)) rfl (hp13) ?_)
    refine ⟨(fun b hb => rfl), ?_⟩
    refine dq (v := .int .u8 ((((l.getD (n / 8) 0).toNat + b * 2 ^ (n % 8)).toUInt8.toNat : Nat) : Int)) (o_bin rfl rfl (or_F hb get_F (hp.low (by omega)))) ?_
    refine dset (m_setU (E := byteV) (q := ((l.getD (n / 8) 0).toNat + b * 2 ^ (n % 8)).toUInt8) (j := (H.length + n / 8)) hM12 (i := 2) rfl hs rfl (v_int (by omega)) (by omega) (by simp) (rfl) fun w14 r14 u14 he14 hs14 (hM14 : Mem w (ids ([⟨b2, 40, [v]⟩, ⟨b1, 3, [.int .i64 (n : Nat)]⟩] ++ rb)) w14 [[⟨b2, 40, [v]⟩], [⟨b1, 3, [.int .i64 (n : Nat)]⟩], r14]) hup14 => ?_)
    have hh14 := held_upd (wr := wd) (bs := [b1, b2]) hup14 (fun b hb => by
      simp only [List.mem_cons, List.not_mem_nil, or_false] at hb
      rcases hb with h | h
      · rw [h]; exact ⟨(hM12.at (i := 1) (j := 0) rfl rfl).lt, hM12.apart (i := 1) (j := 0) (k := 2) rfl rfl rfl (by decide)⟩
      · rw [h]; exact ⟨(hM12.at (i := 0) (j := 0) rfl rfl).lt, hM12.apart (i := 0) (j := 0) (k := 2) rfl rfl rfl (by decide)⟩) (fun b hb => rfl)
    refine ⟨hh14, ?_⟩
    show vd _ _ _ _ _ _ _
    refine h11 _ _ ?_
    clear h11
    refine m_ld (v := .int .i64 (n : Nat)) hM14 (i := 1) (j := 0) rfl rfl rfl rfl ?_
    refine stp (v := .int .i64 (n + 1 : Nat)) (o_bin rfl rfl ((v_add64 (by omega)).trans (v_int (by omega)))) ?_
    refine m_st (v := .int .i64 (n + 1 : Nat)) hM14 (i := 1) rfl rfl rfl rfl (by simp) fun w15 (hM15 : Mem w (ids ([⟨b2, 40, [v]⟩, ⟨b1, 3, [.int .i64 (n : Nat)]⟩] ++ rb)) w15 [[⟨b2, 40, [v]⟩], [⟨b1, 3, [.int .i64 (n + 1 : Nat)]⟩], r14]) => ?_
    refine ⟨(.tuple [].toArray), rfl, ?_⟩
    exact ⟨_, _, SlE.eqL (hs14) (set_F (by omega)), hM15.keep (by simp)⟩
