/- The laws that do not ask the document's answer: what they need, and their walks. -/
import Derived.Test.YteanplpnhlgjeaaT17
namespace Go.Proofs.Yteanplpnhlgjeaa.E
open Go
theorem dec_encN {T : List UInt8} {n : Int} (h : T.length ≤ 65536) (hn : n = (T.length : Nat)) : decF (encF T).1 n = (T, 0) ∧ tksF (encF T).1 n = (ownF T, 0) := by subst hn; exact dec_enc h
theorem encF_0 {T : List UInt8} (h : T.length ≤ 65536) : (encF T).2 = 0 := by rw [encF_ok h]
theorem dec_err (b : List UInt8) (n : Int) : (decF b n).2 = (tksF b n).2 := by
  by_cases h : (tksF b n).2 = 0
  · rw [decF_yes h, h]
  · rw [decF_no h]
theorem dec_bad {b : List UInt8} {n : Int} (h : ¬ (n < 0 ∨ 65536 < n)) (h1 : ¬ (decF b n).2 = 0) : (decF b n).2 = 30 ∧ (decF b n).1 = [] ∧ (tksF b n).1 = [] := by
  cases hr : rdF b n.toNat with
  | none => rw [decF_none h hr, tksF_none h hr]; exact ⟨rfl, rfl, rfl⟩
  | some ps => rw [decF_some h hr] at h1; exact absurd rfl h1
theorem dec_good {b : List UInt8} {n : Int} (c : UInt8) (h : ¬ (n < 0 ∨ 65536 < n)) (h1 : (decF b n).2 = 0) : (decF b n).1.length = n.toNat ∧ n.toNat ≤ 65 * b.length ∧ wrF (tksF b n).1 = (b, 0) ∧ (decF (b ++ [c]) n).2 = 30 ∧ (0 < b.length → (decF (b.take (b.length - 1)) n).2 = 30) := by
  cases hr : rdF b n.toNat with
  | none => rw [decF_none h hr] at h1; simp at h1
  | some ps =>
    have e := exp_rd (by omega) hr
    rw [decF_some h hr, tksF_some h hr]
    refine ⟨?_, ?_, ?_, ?_, ?_⟩
    · show (textP ps).length = _; rw [textP_len]; exact e.2.1
    · have := rd_65 ps [] (by show (expF ps).2 = 0; rw [e.1])
      rw [toks_rd hr, e.2.1] at this; exact this
    · show wrF ps = _
      rw [wrF_ok (by rw [e.1]), toks_rd hr]
    · rw [decF_none h (rd_more (by omega) hr)]
    · intro hb; rw [decF_none h (rd_fewer (by omega) hr hb)]
theorem exp_lit {T : List UInt8} (h0 : 0 < T.length) (h : T.length ≤ 65536) : expF [(T, 0, 0)] = (T, 0) := by
  unfold expF
  rw [expG, if_neg, if_neg]
  · rfl
  · show ¬ 65536 < ((([] : List UInt8).length + T.length : Nat) : Int) + 0
    simp only [List.length_nil]; omega
  · exact fun k => k ((okT_none ⟨rfl, rfl⟩).2 ⟨by simp, h0⟩)
theorem lit_all {T : List UInt8} (h0 : 0 < T.length) (h : T.length ≤ 65536) : wrF [(T, 0, 0)] = (tokB (T, 0, 0), 0) ∧ decF (tokB (T, 0, 0)) (T.length : Nat) = (T, 0) ∧ T.length < (tokB (T, 0, 0)).length := by
  have e := exp_lit h0 h
  have hb : toksB [(T, 0, 0)] = tokB (T, 0, 0) := by rw [toksB_cons]; simp [toksB]
  have hr := rd_toks (suf := []) (b := tokB (T, 0, 0)) (n := T.length) (ts := [(T, 0, 0)]) (by rw [e]) (by rw [e]) (by rw [hb]; simp)
  rw [if_pos rfl] at hr
  refine ⟨by rw [wrF_ok (by rw [e]), hb], ?_, ?_⟩
  · rw [decF_some (by omega) (by rw [Int.toNat_natCast]; exact hr)]
    have := expF_text (ts := [(T, 0, 0)]) (by rw [e])
    rw [e] at this; exact this.symm
  · rw [tokP_none ⟨rfl, rfl⟩, List.length_append]
    have := putI_pos (v := (T.length : Nat)) (by omega)
    show T.length < (putI (T.length : Nat)).length + T.length
    omega
def bndF (n : Int) : Int := if n < 1 ∨ 65536 < n then 0 else if n < 128 then n + 1 else if n < 16384 then n + 2 else n + 5
theorem enc_bndF {T : List UInt8} (h : T.length ≤ 65536) : ((encF T).1.length : Int) ≤ bndF (T.length : Nat) := by
  obtain ⟨h1, h2, h3, h4⟩ := enc_bound h
  unfold bndF
  split
  · omega
  · split
    · omega
    · split <;> omega

/-- lz.Bound -/
theorem Bound_ok (n : Int) (w : World) (hn : inK .i64 n) : Calls Try.prog 11 [.int .i64 n].toArray w (Rt fun r w' => r = .int .i64 (bndF n) ∧ Upd [] w w') := by
  have hM0 : Mem w [] w [] := Mem.nil w []
  simp only [inK] at hn
  refine calls_vc mixed Try.func11 rfl C11 (by simp [Try.ntmps11]) ?_
  refine seq fun K1 h1 => ?_
  refine stp (v := .int .i64 0) (o_mv rfl) ?_
  refine h1 _ _ ?_
  clear h1
  refine seq fun K2 h2 => ?_
  refine seq fun K3 h3 => ?_
  refine stp (v := .int .i64 n) (o_mv rfl) ?_
  refine stp (v := .bool (decide (n < 1))) (o_bin rfl rfl rfl) ?_
  refine stp (v := .bool (decide (n < 1))) (o_mv rfl) ?_
  refine splitP rfl (fun c4 => ?_) (fun c4 => ?_)
  ·
    refine gno rfl (by simp) ?_
    refine gno rfl (by simp) ?_
    refine stp (v := .bool true) (o_pickT rfl rfl) ?_
    refine stp (v := .bool true) (o_mv rfl) ?_
    refine h3 _ _ ?_
    clear h3
    refine cndT rfl ?_
    refine seq fun K5 h5 => ?_
    refine stp (v := .int .i64 0) (o_mv rfl) ?_
    refine h5 _ _ ?_
    clear h5
    refine ⟨(.int .i64 0), rfl, ?_⟩
    exact ⟨v_int (by unfold bndF; first | (rw [if_pos (by omega)]) | (rw [if_neg (by omega), if_pos (by omega)]) | (rw [if_neg (by omega), if_neg (by omega), if_pos (by omega)]) | (rw [if_neg (by omega), if_neg (by omega), if_neg (by omega)])), hM0.upd⟩
  ·
    refine stg rfl (v := .int .i64 n) (o_mv rfl) ?_
    refine stg rfl (v := .bool (decide ((65536 : Int) < n))) (o_bin rfl rfl rfl) ?_
    refine stp (v := .bool (decide ((65536 : Int) < n))) (o_pickF rfl rfl) ?_
    refine stp (v := .bool (decide ((65536 : Int) < n))) (o_mv rfl) ?_
    refine h3 _ _ ?_
    clear h3
    refine cndP rfl (fun c6 => ?_) (fun c6 => ?_)
    ·
      refine seq fun K7 h7 => ?_
      refine stp (v := .int .i64 0) (o_mv rfl) ?_
      refine h7 _ _ ?_
      clear h7
      refine ⟨(.int .i64 0), rfl, ?_⟩
      exact ⟨v_int (by unfold bndF; first | (rw [if_pos (by omega)]) | (rw [if_neg (by omega), if_pos (by omega)]) | (rw [if_neg (by omega), if_neg (by omega), if_pos (by omega)]) | (rw [if_neg (by omega), if_neg (by omega), if_neg (by omega)])), hM0.upd⟩
    ·
      refine seq fun K8 h8 => ?_
      refine stp (v := .int .i64 n) (o_mv rfl) ?_
      refine stp (v := .bool (decide (n < 128))) (o_bin rfl rfl rfl) ?_
      refine stp (v := .bool (decide (n < 128))) (o_mv rfl) ?_
      refine h8 _ _ ?_
      clear h8
      refine cndP rfl (fun c9 => ?_) (fun c9 => ?_)
      ·
        refine seq fun K10 h10 => ?_
        refine stp (v := .int .i64 n) (o_mv rfl) ?_
        refine stp (v := .int .i64 (n + 1)) (o_bin rfl rfl (v_add64 (by constructor <;> omega))) ?_
        refine stp (v := .int .i64 (n + 1)) (o_mv rfl) ?_
        refine h10 _ _ ?_
        clear h10
        refine ⟨(.int .i64 (n + 1)), rfl, ?_⟩
        exact ⟨v_int (by unfold bndF; first | (rw [if_pos (by omega)]) | (rw [if_neg (by omega), if_pos (by omega)]) | (rw [if_neg (by omega), if_neg (by omega), if_pos (by omega)]) | (rw [if_neg (by omega), if_neg (by omega), if_neg (by omega)])), hM0.upd⟩
      ·
        refine seq fun K11 h11 => ?_
        refine stp (v := .int .i64 n) (o_mv rfl) ?_
        refine stp (v := .bool (decide (n < 16384))) (o_bin rfl rfl rfl) ?_
        refine stp (v := .bool (decide (n < 16384))) (o_mv rfl) ?_
        refine h11 _ _ ?_
        clear h11
        refine cndP rfl (fun c12 => ?_) (fun c12 => ?_)
        ·
          refine seq fun K13 h13 => ?_
          refine stp (v := .int .i64 n) (o_mv rfl) ?_
          refine stp (v := .int .i64 (n + 2)) (o_bin rfl rfl (v_add64 (by constructor <;> omega))) ?_
          refine stp (v := .int .i64 (n + 2)) (o_mv rfl) ?_
          refine h13 _ _ ?_
          clear h13
          refine ⟨(.int .i64 (n + 2)), rfl, ?_⟩
          exact ⟨v_int (by unfold bndF; first | (rw [if_pos (by omega)]) | (rw [if_neg (by omega), if_pos (by omega)]) | (rw [if_neg (by omega), if_neg (by omega), if_pos (by omega)]) | (rw [if_neg (by omega), if_neg (by omega), if_neg (by omega)])), hM0.upd⟩
        ·
          refine h2 _ _ ?_
          clear h2
          refine seq fun K14 h14 => ?_
          refine stp (v := .int .i64 n) (o_mv rfl) ?_
          refine stp (v := .int .i64 (n + 5)) (o_bin rfl rfl (v_add64 (by constructor <;> omega))) ?_
          refine stp (v := .int .i64 (n + 5)) (o_mv rfl) ?_
          refine h14 _ _ ?_
          clear h14
          refine ⟨(.int .i64 (n + 5)), rfl, ?_⟩
          exact ⟨v_int (by unfold bndF; first | (rw [if_pos (by omega)]) | (rw [if_neg (by omega), if_pos (by omega)]) | (rw [if_neg (by omega), if_neg (by omega), if_pos (by omega)]) | (rw [if_neg (by omega), if_neg (by omega), if_neg (by omega)])), hM0.upd⟩

attribute [local irreducible] vr in
set_option maxHeartbeats 4000000 in
/-- winnowlaw3.works -/
theorem works_ok (w : World) : Calls Try.prog 31 [].toArray w (Rt fun r w' => r = .bool true ∧ Upd [] w w') := by
  have hM0 : Mem w [] w [] := Mem.nil w []
  refine calls_vc mixed Try.func31 rfl C31 (by simp [Try.ntmps31]) ?_
  refine seq fun K1 h1 => ?_
  refine stp (v := .bool false) (o_mv rfl) ?_
  refine vnil ?_
  refine h1 _ _ ?_
  clear h1
  refine seq fun K2 h2 => ?_
  refine m_bsL (E := byteV) [97, 98, 99, 100, 97, 98, 99, 100, 97, 98, 99, 100, 97, 98, 99, 100] hM0 rfl rfl (fun _ => rfl) rfl fun L3 v3 w3 r3 hL3 hs3 (hM3 : Mem w [] w3 [r3]) => ?_
  have hl3 : L3.length = 16 := by rw [hL3]; rfl
  refine m_markE hM3 (i := 0) rfl hs3 (by omega) Try.underlying25 Try.underlying5 rfl fun w4 (hM4 : Mem w [] w4 [r3]) => ?_
  refine m_call (Encode_ok _ wkT w4 (by have h9 := hs3.rd hM4 (i := 0) rfl; rw [hL3] at h9; exact h9) (by decide)) rfl fun v5 w5 ⟨y5, rs5, hr5, hs5, hm5⟩ => ?_
  have hM5 : Mem w [] w5 [r3, rs5] := hM4.add hm5
  rw [wk_enc.2] at hr5
  subst hr5
  have hwl := wk_enc.1
  have hwd : decF (encF wkT).1 16 = (wkT, 0) := (dec_enc (T := wkT) (by decide)).1
  refine stp (v := .tuple [y5, .int .i64 0].toArray) (o_mv rfl) ?_
  refine stp (v := y5) (o_ext rfl rfl) ?_
  refine stp (v := .int .i64 0) (o_ext rfl rfl) ?_
  refine stp (v := y5) (o_mv rfl) ?_
  refine stp (v := .int .i64 0) (o_mv rfl) ?_
  refine vnil ?_
  refine h2 _ _ ?_
  clear h2
  refine seq fun K6 h6 => ?_
  refine stp (v := y5) (o_mv rfl) ?_
  refine m_call (Decode_ok _ (encF wkT).1 16 w5 (hs5.rd hM5 (i := 1) rfl) (by omega) (by simp only [inK]; omega)) rfl fun v7 w7 ⟨y7, rs7, hr7, hs7, hm7⟩ => ?_
  have hM7 : Mem w [] w7 [r3, rs5, rs7] := hM5.add hm7
  rw [hwd] at hr7 hs7
  subst hr7
  refine stp (v := .tuple [y7, .int .i64 0].toArray) (o_mv rfl) ?_
  refine stp (v := y7) (o_ext rfl rfl) ?_
  refine stp (v := .int .i64 0) (o_ext rfl rfl) ?_
  refine stp (v := y7) (o_mv rfl) ?_
  refine stp (v := .int .i64 0) (o_mv rfl) ?_
  refine vnil ?_
  refine h6 _ _ ?_
  clear h6
  refine seq fun K8 h8 => ?_
  refine stp (v := .int .i64 0) (o_mv rfl) ?_
  refine stp (v := .bool true) (o_bin rfl rfl v_eqT) ?_
  refine stp (v := .bool true) (o_mv rfl) ?_
  refine splitT rfl ?_
  refine stg rfl (v := .int .i64 0) (o_mv rfl) ?_
  refine stg rfl (v := .bool true) (o_bin rfl rfl v_eqT) ?_
  refine stp (v := .bool true) (o_pickT rfl rfl) ?_
  refine stp (v := .bool true) (o_mv rfl) ?_
  refine splitT rfl ?_
  refine stg rfl (v := y7) (o_mv rfl) ?_
  refine gyesl rfl ?_
  refine m_b2s rfl (hs7.rd hM7 (i := 2) rfl) ?_
  refine stg rfl (v := .bool (decide (wkT = ([97, 98, 99, 100, 97, 98, 99, 100, 97, 98, 99, 100, 97, 98, 99, 100])))) (o_seq rfl rfl rfl) ?_
  refine stp (v := .bool (decide (wkT = ([97, 98, 99, 100, 97, 98, 99, 100, 97, 98, 99, 100, 97, 98, 99, 100])))) (o_pickT rfl rfl) ?_
  refine stp (v := .bool (decide (wkT = ([97, 98, 99, 100, 97, 98, 99, 100, 97, 98, 99, 100, 97, 98, 99, 100])))) (o_mv rfl) ?_
  refine splitP rfl (fun c9 => ?_) (fun c9 => (c9 (rfl)).elim)
  refine stg rfl (v := y5) (o_mv rfl) ?_
  refine stg rfl (v := .int .i64 (((encF wkT).1).length : Nat)) (o_lenR (hs5.rd hM7 (i := 1) rfl) rfl rfl) ?_
  refine stg rfl (v := .bool (decide (((((encF wkT).1).length : Nat) : Int) < 16))) (o_bin rfl rfl rfl) ?_
  refine stp (v := .bool (decide (((((encF wkT).1).length : Nat) : Int) < 16))) (o_pickT rfl rfl) ?_
  refine stp (v := .bool (decide (((((encF wkT).1).length : Nat) : Int) < 16))) (o_mv rfl) ?_
  refine vnil ?_
  refine h8 _ _ ?_
  clear h8
  refine ⟨(.bool (decide (((((encF wkT).1).length : Nat) : Int) < 16))), rfl, ?_⟩
  exact ⟨by rw [decide_eq_true (by omega)], hM7.upd⟩

/-- winnowlaw3.LzBack -/
theorem LzBack_ok (x : Value) (b : List UInt8) (n : Int) (hn : inK .i64 n) (w : World) (hx : RdE byteV w x b) (hl : b.length ≤ 140737488351232) : Calls Try.prog 10 [x, .int .i64 n].toArray w (Rt fun r w' => r = .bool true ∧ Upd [] w w') := by
  have hM0 : Mem w [] w [] := Mem.nil w []
  simp only [inK] at hn
  refine calls_vc mixed Try.func10 rfl C10 (by simp [Try.ntmps10]) ?_
  refine seq fun K1 h1 => ?_
  refine stp (v := .bool false) (o_mv rfl) ?_
  refine h1 _ _ ?_
  clear h1
  refine seq fun K2 h2 => ?_
  refine m_call (works_ok w) rfl fun v3 w3 ⟨hr3, hu3⟩ => ?_
  have hM3 : Mem w [] w3 [] := hM0.pure hu3
  subst hr3
  refine stp (v := .bool true) (o_mv rfl) ?_
  refine h2 _ _ ?_
  clear h2
  refine seq fun K4 h4 => ?_
  refine stp (v := x) (o_mv rfl) ?_
  refine m_call (Encode_ok _ b w3 (hx.upd hM3.upd) (by first | omega | (simp; done) | (simp; omega))) rfl fun v5 w5 ⟨y5, rs5, hr5, hs5, hm5⟩ => ?_
  have hM5 : Mem w [] w5 [rs5] := hM3.add hm5
  subst hr5
  have hle5 := enc_len (T := b)
  refine stp (v := .tuple [y5, .int .i64 ((encF b).2)].toArray) (o_mv rfl) ?_
  refine stp (v := y5) (o_ext rfl rfl) ?_
  refine stp (v := .int .i64 ((encF b).2)) (o_ext rfl rfl) ?_
  refine stp (v := y5) (o_mv rfl) ?_
  refine stp (v := .int .i64 ((encF b).2)) (o_mv rfl) ?_
  refine h4 _ _ ?_
  clear h4
  refine seq fun K6 h6 => ?_
  refine seq fun K7 h7 => ?_
  refine stp (v := x) (o_mv rfl) ?_
  refine stp (v := .int .i64 (b.length : Nat)) (o_lenR (hx.upd hM5.upd) rfl rfl) ?_
  refine stp (v := .bool (decide ((65536 : Int) < ((b.length : Nat) : Int)))) (o_bin rfl rfl rfl) ?_
  refine h7 _ _ ?_
  clear h7
  refine cndP rfl (fun c8 => ?_) (fun c8 => ?_)
  ·
    refine seq fun K9 h9 => ?_
    have k0 := encF_long (T := b) (by omega)
    refine stp (v := .bool true) (o_mv rfl) ?_
    refine stp (v := .bool true) (o_mv rfl) ?_
    refine splitT rfl ?_
    refine stg rfl (v := .int .i64 ((encF b).2)) (o_mv rfl) ?_
    refine stg rfl (v := .bool (decide (((encF b).2) = 2))) (o_bin rfl rfl rfl) ?_
    refine stp (v := .bool (decide (((encF b).2) = 2))) (o_pickT rfl rfl) ?_
    refine stp (v := .bool (decide (((encF b).2) = 2))) (o_mv rfl) ?_
    refine splitP rfl (fun c10 => ?_) (fun c10 => (c10 (by rw [k0])).elim)
    refine stg rfl (v := y5) (o_mv rfl) ?_
    refine stg rfl (v := .int .i64 (((encF b).1).length : Nat)) (o_lenR (hs5.rd hM5 (i := 0) rfl) rfl rfl) ?_
    refine stg rfl (v := .bool (decide (((((encF b).1).length : Nat) : Int) = 0))) (o_bin rfl rfl rfl) ?_
    refine stp (v := .bool (decide (((((encF b).1).length : Nat) : Int) = 0))) (o_pickT rfl rfl) ?_
    refine stp (v := .bool (decide (((((encF b).1).length : Nat) : Int) = 0))) (o_mv rfl) ?_
    refine h9 _ _ ?_
    clear h9
    refine ⟨(.bool (decide (((((encF b).1).length : Nat) : Int) = 0))), rfl, ?_⟩
    first | exact ⟨rfl, hM5.upd⟩ | exact ⟨by rw [decide_eq_true (by rw [k0]; rfl)], hM5.upd⟩ | exact ⟨by rw [decide_eq_true (by rw [k5])], hM5.upd⟩
  ·
    refine h6 _ _ ?_
    clear h6
    refine seq fun K11 h11 => ?_
    have hT : b.length ≤ 65536 := by omega
    have k1 := encF_0 hT
    have k2 := dec_enc hT
    have k4 : expF (tksF (encF b).1 (b.length : Nat)).1 = (b, 0) := by rw [k2.2]; exact own_text hT
    have k5 : wrF (tksF (encF b).1 (b.length : Nat)).1 = ((encF b).1, 0) := by rw [k2.2]; exact wr_enc hT
    refine stp (v := y5) (o_mv rfl) ?_
    refine stp (v := x) (o_mv rfl) ?_
    refine stp (v := .int .i64 (b.length : Nat)) (o_lenR (hx.upd hM5.upd) rfl rfl) ?_
    refine m_call (Decode_ok _ ((encF b).1) (b.length : Nat) w5 (hs5.rd hM5 (i := 0) rfl) (by first | omega | (simp; done) | (simp; omega)) (by simp only [inK]; omega)) rfl fun v12 w12 ⟨y12, rs12, hr12, hs12, hm12⟩ => ?_
    have hM12 : Mem w [] w12 [rs5, rs12] := hM5.add hm12
    subst hr12
    have hld12 := decF_len ((encF b).1) (b.length : Nat)
    refine stp (v := .tuple [y12, .int .i64 ((decF ((encF b).1) (b.length : Nat)).2)].toArray) (o_mv rfl) ?_
    refine stp (v := y12) (o_ext rfl rfl) ?_
    refine stp (v := .int .i64 ((decF ((encF b).1) (b.length : Nat)).2)) (o_ext rfl rfl) ?_
    refine stp (v := y12) (o_mv rfl) ?_
    refine stp (v := .int .i64 ((decF ((encF b).1) (b.length : Nat)).2)) (o_mv rfl) ?_
    refine h11 _ _ ?_
    clear h11
    refine seq fun K13 h13 => ?_
    refine stp (v := y5) (o_mv rfl) ?_
    refine stp (v := x) (o_mv rfl) ?_
    refine stp (v := .int .i64 (b.length : Nat)) (o_lenR (hx.upd hM12.upd) rfl rfl) ?_
    refine m_call (Tokens_ok _ ((encF b).1) (b.length : Nat) w12 (hs5.rd hM12 (i := 0) rfl) (by first | omega | (simp; done) | (simp; omega)) (by simp only [inK]; omega)) rfl fun v14 w14 ⟨y14, us14, rA14, rB14, hr14, hs14, hn14, hp14, hm14⟩ => ?_
    have hM14 : Mem w [] w14 [rs5, rs12, rA14, rB14] := hM12.add2 hm14
    subst hr14
    have hlu14 := len_tks hp14
    refine stp (v := .tuple [y14, .int .i64 ((tksF ((encF b).1) (b.length : Nat)).2)].toArray) (o_mv rfl) ?_
    refine stp (v := y14) (o_ext rfl rfl) ?_
    refine stp (v := .int .i64 ((tksF ((encF b).1) (b.length : Nat)).2)) (o_ext rfl rfl) ?_
    refine stp (v := y14) (o_mv rfl) ?_
    refine stp (v := .int .i64 ((tksF ((encF b).1) (b.length : Nat)).2)) (o_mv rfl) ?_
    refine h13 _ _ ?_
    clear h13
    refine seq fun K15 h15 => ?_
    refine stp (v := y14) (o_mv rfl) ?_
    refine m_call (Expand_ok _ us14 w14 (hs14.rd hM14 (i := 2) rfl) ((ok_tks (w := w14) hp14 (hn14.rdE hM14 (i := 3) rfl) : ∀ t ∈ us14, Tk.ok w14 t)) (by first | omega | (simp; done) | (simp; omega))) rfl fun v16 w16 ⟨y16, rs16, hr16, hs16, hm16⟩ => ?_
    have hM16 : Mem w [] w16 [rs5, rs12, rA14, rB14, rs16] := hM14.add hm16
    rw [hp14] at hr16 hs16
    subst hr16
    have hln16 := expF_len (tksF ((encF b).1) (b.length : Nat)).1
    refine stp (v := .tuple [y16, .int .i64 ((expF (tksF ((encF b).1) (b.length : Nat)).1).2)].toArray) (o_mv rfl) ?_
    refine stp (v := y16) (o_ext rfl rfl) ?_
    refine stp (v := .int .i64 ((expF (tksF ((encF b).1) (b.length : Nat)).1).2)) (o_ext rfl rfl) ?_
    refine stp (v := y16) (o_mv rfl) ?_
    refine stp (v := .int .i64 ((expF (tksF ((encF b).1) (b.length : Nat)).1).2)) (o_mv rfl) ?_
    refine h15 _ _ ?_
    clear h15
    refine seq fun K17 h17 => ?_
    refine stp (v := y14) (o_mv rfl) ?_
    refine m_call (Write_ok _ us14 w16 (hs14.rd hM16 (i := 2) rfl) ((ok_tks (w := w16) hp14 (hn14.rdE hM16 (i := 3) rfl) : ∀ t ∈ us14, Tk.ok w16 t)) (by first | omega | (simp; done) | (simp; omega))) rfl fun v18 w18 ⟨y18, rs18, hr18, hs18, hm18⟩ => ?_
    have hM18 : Mem w [] w18 [rs5, rs12, rA14, rB14, rs16, rs18] := hM16.add hm18
    rw [hp14] at hr18 hs18
    subst hr18
    have hln18 := wrF_len (tksF ((encF b).1) (b.length : Nat)).1
    refine stp (v := .tuple [y18, .int .i64 ((wrF (tksF ((encF b).1) (b.length : Nat)).1).2)].toArray) (o_mv rfl) ?_
    refine stp (v := y18) (o_ext rfl rfl) ?_
    refine stp (v := .int .i64 ((wrF (tksF ((encF b).1) (b.length : Nat)).1).2)) (o_ext rfl rfl) ?_
    refine stp (v := y18) (o_mv rfl) ?_
    refine stp (v := .int .i64 ((wrF (tksF ((encF b).1) (b.length : Nat)).1).2)) (o_mv rfl) ?_
    refine h17 _ _ ?_
    clear h17
    refine seq fun K19 h19 => ?_
    refine stp (v := y5) (o_mv rfl) ?_
    refine stp (v := .int .i64 n) (o_mv rfl) ?_
    refine m_call (Decode_ok _ ((encF b).1) n w18 (hs5.rd hM18 (i := 0) rfl) (by first | omega | (simp; done) | (simp; omega)) (by simp only [inK]; omega)) rfl fun v20 w20 ⟨y20, rs20, hr20, hs20, hm20⟩ => ?_
    have hM20 : Mem w [] w20 [rs5, rs12, rA14, rB14, rs16, rs18, rs20] := hM18.add hm20
    subst hr20
    have hld20 := decF_len ((encF b).1) n
    refine stp (v := .tuple [y20, .int .i64 ((decF ((encF b).1) n).2)].toArray) (o_mv rfl) ?_
    refine stp (v := y20) (o_ext rfl rfl) ?_
    refine stp (v := .int .i64 ((decF ((encF b).1) n).2)) (o_ext rfl rfl) ?_
    refine stp (v := y20) (o_mv rfl) ?_
    refine stp (v := .int .i64 ((decF ((encF b).1) n).2)) (o_mv rfl) ?_
    refine h19 _ _ ?_
    clear h19
    refine seq fun K21 h21 => ?_
    refine seq fun K22 h22 => ?_
    refine stp (v := .bool true) (o_mv rfl) ?_
    refine stp (v := .bool false) (o_not rfl rfl) ?_
    refine stp (v := .bool false) (o_mv rfl) ?_
    refine splitF rfl ?_
    refine stg rfl (v := .int .i64 ((encF b).2)) (o_mv rfl) ?_
    refine stg rfl (v := .bool (decide (¬ ((encF b).2) = 0))) (o_bin rfl rfl v_neq) ?_
    refine stp (v := .bool (decide (¬ ((encF b).2) = 0))) (o_pickF rfl rfl) ?_
    refine stp (v := .bool (decide (¬ ((encF b).2) = 0))) (o_mv rfl) ?_
    refine splitP rfl (fun c23 => absurd c23 (fun h => h k1)) (fun c23 => ?_)
    refine stg rfl (v := .int .i64 ((decF ((encF b).1) (b.length : Nat)).2)) (o_mv rfl) ?_
    refine stg rfl (v := .bool (decide (¬ ((decF ((encF b).1) (b.length : Nat)).2 : Int) = 0))) (o_bin rfl rfl v_neq) ?_
    refine stp (v := .bool (decide (¬ ((decF ((encF b).1) (b.length : Nat)).2 : Int) = 0))) (o_pickF rfl rfl) ?_
    refine stp (v := .bool (decide (¬ ((decF ((encF b).1) (b.length : Nat)).2 : Int) = 0))) (o_mv rfl) ?_
    refine splitP rfl (fun c24 => absurd c24 (fun h => h (by rw [k2.1]))) (fun c24 => ?_)
    refine stg rfl (v := .int .i64 ((tksF ((encF b).1) (b.length : Nat)).2)) (o_mv rfl) ?_
    refine stg rfl (v := .bool (decide (¬ ((tksF ((encF b).1) (b.length : Nat)).2 : Int) = 0))) (o_bin rfl rfl v_neq) ?_
    refine stp (v := .bool (decide (¬ ((tksF ((encF b).1) (b.length : Nat)).2 : Int) = 0))) (o_pickF rfl rfl) ?_
    refine stp (v := .bool (decide (¬ ((tksF ((encF b).1) (b.length : Nat)).2 : Int) = 0))) (o_mv rfl) ?_
    refine splitP rfl (fun c25 => absurd c25 (fun h => h (by rw [k2.2]))) (fun c25 => ?_)
    refine stg rfl (v := .int .i64 ((expF (tksF ((encF b).1) (b.length : Nat)).1).2)) (o_mv rfl) ?_
    refine stg rfl (v := .bool (decide (¬ ((expF (tksF ((encF b).1) (b.length : Nat)).1).2 : Int) = 0))) (o_bin rfl rfl v_neq) ?_
    refine stp (v := .bool (decide (¬ ((expF (tksF ((encF b).1) (b.length : Nat)).1).2 : Int) = 0))) (o_pickF rfl rfl) ?_
    refine stp (v := .bool (decide (¬ ((expF (tksF ((encF b).1) (b.length : Nat)).1).2 : Int) = 0))) (o_mv rfl) ?_
    refine splitP rfl (fun c26 => absurd c26 (fun h => h (by rw [k4]))) (fun c26 => ?_)
    refine stg rfl (v := .int .i64 ((wrF (tksF ((encF b).1) (b.length : Nat)).1).2)) (o_mv rfl) ?_
    refine stg rfl (v := .bool (decide (¬ ((wrF (tksF ((encF b).1) (b.length : Nat)).1).2 : Int) = 0))) (o_bin rfl rfl v_neq) ?_
    refine stp (v := .bool (decide (¬ ((wrF (tksF ((encF b).1) (b.length : Nat)).1).2 : Int) = 0))) (o_pickF rfl rfl) ?_
    refine stp (v := .bool (decide (¬ ((wrF (tksF ((encF b).1) (b.length : Nat)).1).2 : Int) = 0))) (o_mv rfl) ?_
    refine splitP rfl (fun c27 => absurd c27 (fun h => h (by rw [k5]))) (fun c27 => ?_)
    refine stg rfl (v := y5) (o_mv rfl) ?_
    refine stg rfl (v := .int .i64 (((encF b).1).length : Nat)) (o_lenR (hs5.rd hM20 (i := 0) rfl) rfl rfl) ?_
    refine stg rfl (v := x) (o_mv rfl) ?_
    refine stg rfl (v := .int .i64 (b.length : Nat)) (o_lenR (hx.upd hM20.upd) rfl rfl) ?_
    refine gyesl rfl ?_
    refine m_call (Bound_ok (b.length : Nat) w20 (by simp only [inK]; omega)) rfl fun v28 w28 ⟨hr28, hu28⟩ => ?_
    have hM28 : Mem w [] w28 [rs5, rs12, rA14, rB14, rs16, rs18, rs20] := hM20.pure hu28
    subst hr28
    refine stg rfl (v := .bool (decide (((bndF (b.length : Nat) : Int) : Int) < ((((encF b).1).length : Nat) : Int)))) (o_bin rfl rfl rfl) ?_
    refine stp (v := .bool (decide (((bndF (b.length : Nat) : Int) : Int) < ((((encF b).1).length : Nat) : Int)))) (o_pickF rfl rfl) ?_
    refine h22 _ _ ?_
    clear h22
    refine cndP rfl (fun c29 => absurd c29 (by have := enc_bndF hT; omega)) (fun c29 => ?_)
    refine h21 _ _ ?_
    clear h21
    refine seq fun K30 h30 => ?_
    refine seq fun K31 h31 => ?_
    refine stp (v := .int .i64 n) (o_mv rfl) ?_
    refine stp (v := x) (o_mv rfl) ?_
    refine stp (v := .int .i64 (b.length : Nat)) (o_lenR (hx.upd hM28.upd) rfl rfl) ?_
    refine stp (v := .bool (decide (¬ n = (b.length : Nat)))) (o_bin rfl rfl v_neq) ?_
    refine stp (v := .bool (decide (¬ n = (b.length : Nat)))) (o_mv rfl) ?_
    refine splitP rfl (fun c32 => ?_) (fun c32 => ?_)
    ·
      refine stg rfl (v := .int .i64 ((decF ((encF b).1) n).2)) (o_mv rfl) ?_
      refine stg rfl (v := .bool (decide (¬ ((decF ((encF b).1) n).2) = 30))) (o_bin rfl rfl v_neq) ?_
      refine stp (v := .bool (decide (¬ ((decF ((encF b).1) n).2) = 30))) (o_pickT rfl rfl) ?_
      refine stp (v := .bool (decide (¬ ((decF ((encF b).1) n).2) = 30))) (o_mv rfl) ?_
      refine splitP rfl (fun c33 => ?_) (fun c33 => ?_)
      ·
        refine stg rfl (v := .int .i64 ((decF ((encF b).1) n).2)) (o_mv rfl) ?_
        refine stg rfl (v := .bool (decide (¬ ((decF ((encF b).1) n).2) = 3))) (o_bin rfl rfl v_neq) ?_
        refine stp (v := .bool (decide (¬ ((decF ((encF b).1) n).2) = 3))) (o_pickT rfl rfl) ?_
        refine h31 _ _ ?_
        clear h31
        refine cndP rfl (fun c34 => absurd c34 (fun h => h (by have := dec_other (T := b) (n := n) hT (by assumption); omega))) (fun c34 => ?_)
        refine h30 _ _ ?_
        clear h30
        refine seq fun K35 h35 => ?_
        refine stp (v := y12) (o_mv rfl) ?_
        refine stp (v := x) (o_mv rfl) ?_
        refine m_call (sameBytes_ok _ _ ((decF ((encF b).1) (b.length : Nat)).1) b w28 (hs12.rd hM28 (i := 1) rfl) (hx.upd hM28.upd) (by first | omega | (simp; done) | (simp; omega))) rfl fun v36 w36 ⟨hr36, hu36⟩ => ?_
        have hM36 : Mem w [] w36 [rs5, rs12, rA14, rB14, rs16, rs18, rs20] := hM28.pure hu36
        subst hr36
        refine stp (v := .bool (decide (((decF ((encF b).1) (b.length : Nat)).1) = b))) (o_mv rfl) ?_
        refine splitP rfl (fun c37 => ?_) (fun c37 => (c37 (by rw [k2.1])).elim)
        refine stg rfl (v := y16) (o_mv rfl) ?_
        refine stg rfl (v := x) (o_mv rfl) ?_
        refine gyesl rfl ?_
        refine m_call (sameBytes_ok _ _ ((expF (tksF ((encF b).1) (b.length : Nat)).1).1) b w36 (hs16.rd hM36 (i := 4) rfl) (hx.upd hM36.upd) (by first | omega | (simp; done) | (simp; omega))) rfl fun v38 w38 ⟨hr38, hu38⟩ => ?_
        have hM38 : Mem w [] w38 [rs5, rs12, rA14, rB14, rs16, rs18, rs20] := hM36.pure hu38
        subst hr38
        refine stp (v := .bool (decide (((expF (tksF ((encF b).1) (b.length : Nat)).1).1) = b))) (o_pickT rfl rfl) ?_
        refine stp (v := .bool (decide (((expF (tksF ((encF b).1) (b.length : Nat)).1).1) = b))) (o_mv rfl) ?_
        refine splitP rfl (fun c39 => ?_) (fun c39 => (c39 (by rw [k4])).elim)
        refine stg rfl (v := y18) (o_mv rfl) ?_
        refine stg rfl (v := y5) (o_mv rfl) ?_
        refine gyesl rfl ?_
        refine m_call (sameBytes_ok _ _ ((wrF (tksF ((encF b).1) (b.length : Nat)).1).1) ((encF b).1) w38 (hs18.rd hM38 (i := 5) rfl) (hs5.rd hM38 (i := 0) rfl) (by first | omega | (simp; done) | (simp; omega))) rfl fun v40 w40 ⟨hr40, hu40⟩ => ?_
        have hM40 : Mem w [] w40 [rs5, rs12, rA14, rB14, rs16, rs18, rs20] := hM38.pure hu40
        subst hr40
        refine stp (v := .bool (decide (((wrF (tksF ((encF b).1) (b.length : Nat)).1).1) = ((encF b).1)))) (o_pickT rfl rfl) ?_
        refine stp (v := .bool (decide (((wrF (tksF ((encF b).1) (b.length : Nat)).1).1) = ((encF b).1)))) (o_mv rfl) ?_
        refine h35 _ _ ?_
        clear h35
        refine ⟨(.bool (decide (((wrF (tksF ((encF b).1) (b.length : Nat)).1).1) = ((encF b).1)))), rfl, ?_⟩
        first | exact ⟨rfl, hM40.upd⟩ | exact ⟨by rw [decide_eq_true (by rw [k0]; rfl)], hM40.upd⟩ | exact ⟨by rw [decide_eq_true (by rw [k5])], hM40.upd⟩
      ·
        refine gno rfl (by simp) ?_
        refine gno rfl (by simp) ?_
        refine stp (v := .bool false) (o_pickF rfl rfl) ?_
        refine h31 _ _ ?_
        clear h31
        refine cndF rfl ?_
        refine h30 _ _ ?_
        clear h30
        refine seq fun K41 h41 => ?_
        refine stp (v := y12) (o_mv rfl) ?_
        refine stp (v := x) (o_mv rfl) ?_
        refine m_call (sameBytes_ok _ _ ((decF ((encF b).1) (b.length : Nat)).1) b w28 (hs12.rd hM28 (i := 1) rfl) (hx.upd hM28.upd) (by first | omega | (simp; done) | (simp; omega))) rfl fun v42 w42 ⟨hr42, hu42⟩ => ?_
        have hM42 : Mem w [] w42 [rs5, rs12, rA14, rB14, rs16, rs18, rs20] := hM28.pure hu42
        subst hr42
        refine stp (v := .bool (decide (((decF ((encF b).1) (b.length : Nat)).1) = b))) (o_mv rfl) ?_
        refine splitP rfl (fun c43 => ?_) (fun c43 => (c43 (by rw [k2.1])).elim)
        refine stg rfl (v := y16) (o_mv rfl) ?_
        refine stg rfl (v := x) (o_mv rfl) ?_
        refine gyesl rfl ?_
        refine m_call (sameBytes_ok _ _ ((expF (tksF ((encF b).1) (b.length : Nat)).1).1) b w42 (hs16.rd hM42 (i := 4) rfl) (hx.upd hM42.upd) (by first | omega | (simp; done) | (simp; omega))) rfl fun v44 w44 ⟨hr44, hu44⟩ => ?_
        have hM44 : Mem w [] w44 [rs5, rs12, rA14, rB14, rs16, rs18, rs20] := hM42.pure hu44
        subst hr44
        refine stp (v := .bool (decide (((expF (tksF ((encF b).1) (b.length : Nat)).1).1) = b))) (o_pickT rfl rfl) ?_
        refine stp (v := .bool (decide (((expF (tksF ((encF b).1) (b.length : Nat)).1).1) = b))) (o_mv rfl) ?_
        refine splitP rfl (fun c45 => ?_) (fun c45 => (c45 (by rw [k4])).elim)
        refine stg rfl (v := y18) (o_mv rfl) ?_
        refine stg rfl (v := y5) (o_mv rfl) ?_
        refine gyesl rfl ?_
        refine m_call (sameBytes_ok _ _ ((wrF (tksF ((encF b).1) (b.length : Nat)).1).1) ((encF b).1) w44 (hs18.rd hM44 (i := 5) rfl) (hs5.rd hM44 (i := 0) rfl) (by first | omega | (simp; done) | (simp; omega))) rfl fun v46 w46 ⟨hr46, hu46⟩ => ?_
        have hM46 : Mem w [] w46 [rs5, rs12, rA14, rB14, rs16, rs18, rs20] := hM44.pure hu46
        subst hr46
        refine stp (v := .bool (decide (((wrF (tksF ((encF b).1) (b.length : Nat)).1).1) = ((encF b).1)))) (o_pickT rfl rfl) ?_
        refine stp (v := .bool (decide (((wrF (tksF ((encF b).1) (b.length : Nat)).1).1) = ((encF b).1)))) (o_mv rfl) ?_
        refine h41 _ _ ?_
        clear h41
        refine ⟨(.bool (decide (((wrF (tksF ((encF b).1) (b.length : Nat)).1).1) = ((encF b).1)))), rfl, ?_⟩
        first | exact ⟨rfl, hM46.upd⟩ | exact ⟨by rw [decide_eq_true (by rw [k0]; rfl)], hM46.upd⟩ | exact ⟨by rw [decide_eq_true (by rw [k5])], hM46.upd⟩
    ·
      refine gno rfl (by simp) ?_
      refine gno rfl (by simp) ?_
      refine stp (v := .bool false) (o_pickF rfl rfl) ?_
      refine stp (v := .bool false) (o_mv rfl) ?_
      refine splitF rfl ?_
      refine gno rfl (by simp) ?_
      refine gno rfl (by simp) ?_
      refine stp (v := .bool false) (o_pickF rfl rfl) ?_
      refine h31 _ _ ?_
      clear h31
      refine cndF rfl ?_
      refine h30 _ _ ?_
      clear h30
      refine seq fun K47 h47 => ?_
      refine stp (v := y12) (o_mv rfl) ?_
      refine stp (v := x) (o_mv rfl) ?_
      refine m_call (sameBytes_ok _ _ ((decF ((encF b).1) (b.length : Nat)).1) b w28 (hs12.rd hM28 (i := 1) rfl) (hx.upd hM28.upd) (by first | omega | (simp; done) | (simp; omega))) rfl fun v48 w48 ⟨hr48, hu48⟩ => ?_
      have hM48 : Mem w [] w48 [rs5, rs12, rA14, rB14, rs16, rs18, rs20] := hM28.pure hu48
      subst hr48
      refine stp (v := .bool (decide (((decF ((encF b).1) (b.length : Nat)).1) = b))) (o_mv rfl) ?_
      refine splitP rfl (fun c49 => ?_) (fun c49 => (c49 (by rw [k2.1])).elim)
      refine stg rfl (v := y16) (o_mv rfl) ?_
      refine stg rfl (v := x) (o_mv rfl) ?_
      refine gyesl rfl ?_
      refine m_call (sameBytes_ok _ _ ((expF (tksF ((encF b).1) (b.length : Nat)).1).1) b w48 (hs16.rd hM48 (i := 4) rfl) (hx.upd hM48.upd) (by first | omega | (simp; done) | (simp; omega))) rfl fun v50 w50 ⟨hr50, hu50⟩ => ?_
      have hM50 : Mem w [] w50 [rs5, rs12, rA14, rB14, rs16, rs18, rs20] := hM48.pure hu50
      subst hr50
      refine stp (v := .bool (decide (((expF (tksF ((encF b).1) (b.length : Nat)).1).1) = b))) (o_pickT rfl rfl) ?_
      refine stp (v := .bool (decide (((expF (tksF ((encF b).1) (b.length : Nat)).1).1) = b))) (o_mv rfl) ?_
      refine splitP rfl (fun c51 => ?_) (fun c51 => (c51 (by rw [k4])).elim)
      refine stg rfl (v := y18) (o_mv rfl) ?_
      refine stg rfl (v := y5) (o_mv rfl) ?_
      refine gyesl rfl ?_
      refine m_call (sameBytes_ok _ _ ((wrF (tksF ((encF b).1) (b.length : Nat)).1).1) ((encF b).1) w50 (hs18.rd hM50 (i := 5) rfl) (hs5.rd hM50 (i := 0) rfl) (by first | omega | (simp; done) | (simp; omega))) rfl fun v52 w52 ⟨hr52, hu52⟩ => ?_
      have hM52 : Mem w [] w52 [rs5, rs12, rA14, rB14, rs16, rs18, rs20] := hM50.pure hu52
      subst hr52
      refine stp (v := .bool (decide (((wrF (tksF ((encF b).1) (b.length : Nat)).1).1) = ((encF b).1)))) (o_pickT rfl rfl) ?_
      refine stp (v := .bool (decide (((wrF (tksF ((encF b).1) (b.length : Nat)).1).1) = ((encF b).1)))) (o_mv rfl) ?_
      refine h47 _ _ ?_
      clear h47
      refine ⟨(.bool (decide (((wrF (tksF ((encF b).1) (b.length : Nat)).1).1) = ((encF b).1)))), rfl, ?_⟩
      first | exact ⟨rfl, hM52.upd⟩ | exact ⟨by rw [decide_eq_true (by rw [k0]; rfl)], hM52.upd⟩ | exact ⟨by rw [decide_eq_true (by rw [k5])], hM52.upd⟩

/-- winnowlaw3.LzTotal -/
theorem LzTotal_ok (x : Value) (b : List UInt8) (n : Int) (hn : inK .i64 n) (c : UInt8) (w : World) (hx : RdE byteV w x b) (hl : b.length ≤ 140737488351232) : Calls Try.prog 9 [x, .int .i64 n, byteV c].toArray w (Rt fun r w' => r = .bool true ∧ Upd [] w w') := by
  have hM0 : Mem w [] w [] := Mem.nil w []
  simp only [inK] at hn
  refine calls_vc mixed Try.func9 rfl C9 (by simp [Try.ntmps9]) ?_
  refine seq fun K1 h1 => ?_
  refine stp (v := .bool false) (o_mv rfl) ?_
  refine h1 _ _ ?_
  clear h1
  refine seq fun K2 h2 => ?_
  refine m_call (works_ok w) rfl fun v3 w3 ⟨hr3, hu3⟩ => ?_
  have hM3 : Mem w [] w3 [] := hM0.pure hu3
  subst hr3
  refine stp (v := .bool true) (o_mv rfl) ?_
  refine h2 _ _ ?_
  clear h2
  refine seq fun K4 h4 => ?_
  refine stp (v := x) (o_mv rfl) ?_
  refine stp (v := .int .i64 n) (o_mv rfl) ?_
  refine m_call (Decode_ok _ b n w3 (hx.upd hM3.upd) (by first | omega | (simp; done) | (simp; omega)) (by simp only [inK]; omega)) rfl fun v5 w5 ⟨y5, rs5, hr5, hs5, hm5⟩ => ?_
  have hM5 : Mem w [] w5 [rs5] := hM3.add hm5
  subst hr5
  have hld5 := decF_len b n
  refine stp (v := .tuple [y5, .int .i64 ((decF b n).2)].toArray) (o_mv rfl) ?_
  refine stp (v := y5) (o_ext rfl rfl) ?_
  refine stp (v := .int .i64 ((decF b n).2)) (o_ext rfl rfl) ?_
  refine stp (v := y5) (o_mv rfl) ?_
  refine stp (v := .int .i64 ((decF b n).2)) (o_mv rfl) ?_
  refine h4 _ _ ?_
  clear h4
  refine seq fun K6 h6 => ?_
  refine stp (v := x) (o_mv rfl) ?_
  refine stp (v := .int .i64 n) (o_mv rfl) ?_
  refine m_call (Tokens_ok _ b n w5 (hx.upd hM5.upd) (by first | omega | (simp; done) | (simp; omega)) (by simp only [inK]; omega)) rfl fun v7 w7 ⟨y7, us7, rA7, rB7, hr7, hs7, hn7, hp7, hm7⟩ => ?_
  have hM7 : Mem w [] w7 [rs5, rA7, rB7] := hM5.add2 hm7
  subst hr7
  have hlu7 := len_tks hp7
  refine stp (v := .tuple [y7, .int .i64 ((tksF b n).2)].toArray) (o_mv rfl) ?_
  refine stp (v := y7) (o_ext rfl rfl) ?_
  refine stp (v := .int .i64 ((tksF b n).2)) (o_ext rfl rfl) ?_
  refine stp (v := y7) (o_mv rfl) ?_
  refine stp (v := .int .i64 ((tksF b n).2)) (o_mv rfl) ?_
  refine h6 _ _ ?_
  clear h6
  refine seq fun K8 h8 => ?_
  refine seq fun K9 h9 => ?_
  refine stp (v := .bool true) (o_mv rfl) ?_
  refine stp (v := .bool false) (o_not rfl rfl) ?_
  refine stp (v := .bool false) (o_mv rfl) ?_
  refine splitF rfl ?_
  refine stg rfl (v := .int .i64 ((decF b n).2)) (o_mv rfl) ?_
  refine stg rfl (v := .int .i64 ((tksF b n).2)) (o_mv rfl) ?_
  refine stg rfl (v := .bool (decide (¬ ((decF b n).2) = ((tksF b n).2)))) (o_bin rfl rfl v_neq) ?_
  refine stp (v := .bool (decide (¬ ((decF b n).2) = ((tksF b n).2)))) (o_pickF rfl rfl) ?_
  refine h9 _ _ ?_
  clear h9
  refine cndP rfl (fun c10 => absurd c10 (fun h => h (dec_err b n))) (fun c10 => ?_)
  refine h8 _ _ ?_
  clear h8
  refine seq fun K11 h11 => ?_
  refine seq fun K12 h12 => ?_
  refine stp (v := .int .i64 n) (o_mv rfl) ?_
  refine stp (v := .bool (decide (n < 0))) (o_bin rfl rfl rfl) ?_
  refine stp (v := .bool (decide (n < 0))) (o_mv rfl) ?_
  refine splitP rfl (fun c13 => ?_) (fun c13 => ?_)
  ·
    refine gno rfl (by simp) ?_
    refine gno rfl (by simp) ?_
    refine stp (v := .bool true) (o_pickT rfl rfl) ?_
    refine h12 _ _ ?_
    clear h12
    refine cndT rfl ?_
    refine seq fun K14 h14 => ?_
    refine stp (v := .int .i64 ((decF b n).2)) (o_mv rfl) ?_
    refine stp (v := .bool (decide (((decF b n).2) = 3))) (o_bin rfl rfl rfl) ?_
    refine stp (v := .bool (decide (((decF b n).2) = 3))) (o_mv rfl) ?_
    refine splitP rfl (fun c15 => ?_) (fun c15 => (c15 (by rw [decF_arg (by omega)])).elim)
    refine stg rfl (v := y5) (o_mv rfl) ?_
    refine stg rfl (v := .int .i64 (((decF b n).1).length : Nat)) (o_lenR (hs5.rd hM7 (i := 0) rfl) rfl rfl) ?_
    refine stg rfl (v := .bool (decide (((((decF b n).1).length : Nat) : Int) = 0))) (o_bin rfl rfl rfl) ?_
    refine stp (v := .bool (decide (((((decF b n).1).length : Nat) : Int) = 0))) (o_pickT rfl rfl) ?_
    refine stp (v := .bool (decide (((((decF b n).1).length : Nat) : Int) = 0))) (o_mv rfl) ?_
    refine h14 _ _ ?_
    clear h14
    refine ⟨(.bool (decide (((((decF b n).1).length : Nat) : Int) = 0))), rfl, ?_⟩
    first | exact ⟨rfl, hM7.upd⟩ | exact ⟨by rw [decide_eq_true (kg.2.2.2.1)], hM7.upd⟩ | exact ⟨by rw [decide_eq_true (by rw [decF_arg (by omega)]; rfl)], hM7.upd⟩ | exact ⟨by rw [decide_eq_true (by have h9 := ‹List.map Tk.p _ = (tksF b n).1›; rw [(dec_bad (b := b) (n := n) (by omega) (by omega)).2.2] at h9; have h8 := congrArg List.length h9; simp at h8; rw [h8]; rfl)], hM7.upd⟩
  ·
    refine stg rfl (v := .int .i64 n) (o_mv rfl) ?_
    refine stg rfl (v := .bool (decide ((65536 : Int) < n))) (o_bin rfl rfl rfl) ?_
    refine stp (v := .bool (decide ((65536 : Int) < n))) (o_pickF rfl rfl) ?_
    refine h12 _ _ ?_
    clear h12
    refine cndP rfl (fun c16 => ?_) (fun c16 => ?_)
    ·
      refine seq fun K17 h17 => ?_
      refine stp (v := .int .i64 ((decF b n).2)) (o_mv rfl) ?_
      refine stp (v := .bool (decide (((decF b n).2) = 3))) (o_bin rfl rfl rfl) ?_
      refine stp (v := .bool (decide (((decF b n).2) = 3))) (o_mv rfl) ?_
      refine splitP rfl (fun c18 => ?_) (fun c18 => (c18 (by rw [decF_arg (by omega)])).elim)
      refine stg rfl (v := y5) (o_mv rfl) ?_
      refine stg rfl (v := .int .i64 (((decF b n).1).length : Nat)) (o_lenR (hs5.rd hM7 (i := 0) rfl) rfl rfl) ?_
      refine stg rfl (v := .bool (decide (((((decF b n).1).length : Nat) : Int) = 0))) (o_bin rfl rfl rfl) ?_
      refine stp (v := .bool (decide (((((decF b n).1).length : Nat) : Int) = 0))) (o_pickT rfl rfl) ?_
      refine stp (v := .bool (decide (((((decF b n).1).length : Nat) : Int) = 0))) (o_mv rfl) ?_
      refine h17 _ _ ?_
      clear h17
      refine ⟨(.bool (decide (((((decF b n).1).length : Nat) : Int) = 0))), rfl, ?_⟩
      first | exact ⟨rfl, hM7.upd⟩ | exact ⟨by rw [decide_eq_true (kg.2.2.2.1)], hM7.upd⟩ | exact ⟨by rw [decide_eq_true (by rw [decF_arg (by omega)]; rfl)], hM7.upd⟩ | exact ⟨by rw [decide_eq_true (by have h9 := ‹List.map Tk.p _ = (tksF b n).1›; rw [(dec_bad (b := b) (n := n) (by omega) (by omega)).2.2] at h9; have h8 := congrArg List.length h9; simp at h8; rw [h8]; rfl)], hM7.upd⟩
    ·
      refine h11 _ _ ?_
      clear h11
      refine seq fun K19 h19 => ?_
      refine seq fun K20 h20 => ?_
      refine stp (v := .int .i64 ((decF b n).2)) (o_mv rfl) ?_
      refine stp (v := .bool (decide (¬ ((decF b n).2) = 0))) (o_bin rfl rfl v_neq) ?_
      refine h20 _ _ ?_
      clear h20
      refine cndP rfl (fun c21 => ?_) (fun c21 => ?_)
      ·
        refine seq fun K22 h22 => ?_
        refine stp (v := .int .i64 ((decF b n).2)) (o_mv rfl) ?_
        refine stp (v := .bool (decide (((decF b n).2) = 30))) (o_bin rfl rfl rfl) ?_
        refine stp (v := .bool (decide (((decF b n).2) = 30))) (o_mv rfl) ?_
        refine splitP rfl (fun c23 => ?_) (fun c23 => (c23 ((dec_bad (by omega) (by omega)).1)).elim)
        refine stg rfl (v := y5) (o_mv rfl) ?_
        refine stg rfl (v := .int .i64 (((decF b n).1).length : Nat)) (o_lenR (hs5.rd hM7 (i := 0) rfl) rfl rfl) ?_
        refine stg rfl (v := .bool (decide (((((decF b n).1).length : Nat) : Int) = 0))) (o_bin rfl rfl rfl) ?_
        refine stp (v := .bool (decide (((((decF b n).1).length : Nat) : Int) = 0))) (o_pickT rfl rfl) ?_
        refine stp (v := .bool (decide (((((decF b n).1).length : Nat) : Int) = 0))) (o_mv rfl) ?_
        refine splitP rfl (fun c24 => ?_) (fun c24 => (c24 (by rw [(dec_bad (b := b) (n := n) (by omega) (by omega)).2.1]; rfl)).elim)
        refine stg rfl (v := y7) (o_mv rfl) ?_
        refine stg rfl (v := .int .i64 (us7.length : Nat)) (o_lenR (hs7.rd hM7 (i := 1) rfl) rfl rfl) ?_
        refine stg rfl (v := .bool (decide (((us7.length : Nat) : Int) = 0))) (o_bin rfl rfl rfl) ?_
        refine stp (v := .bool (decide (((us7.length : Nat) : Int) = 0))) (o_pickT rfl rfl) ?_
        refine stp (v := .bool (decide (((us7.length : Nat) : Int) = 0))) (o_mv rfl) ?_
        refine h22 _ _ ?_
        clear h22
        refine ⟨(.bool (decide (((us7.length : Nat) : Int) = 0))), rfl, ?_⟩
        first | exact ⟨rfl, hM7.upd⟩ | exact ⟨by rw [decide_eq_true (kg.2.2.2.1)], hM7.upd⟩ | exact ⟨by rw [decide_eq_true (by rw [decF_arg (by omega)]; rfl)], hM7.upd⟩ | exact ⟨by rw [decide_eq_true (by have h9 := ‹List.map Tk.p _ = (tksF b n).1›; rw [(dec_bad (b := b) (n := n) (by omega) (by omega)).2.2] at h9; have h8 := congrArg List.length h9; simp at h8; rw [h8]; rfl)], hM7.upd⟩
      ·
        refine h19 _ _ ?_
        clear h19
        refine seq fun K25 h25 => ?_
        have kg := dec_good c (b := b) (n := n) (by omega) (by omega)
        refine stp (v := y7) (o_mv rfl) ?_
        refine m_call (Write_ok _ us7 w7 (hs7.rd hM7 (i := 1) rfl) ((ok_tks (w := w7) hp7 (hn7.rdE hM7 (i := 2) rfl) : ∀ t ∈ us7, Tk.ok w7 t)) (by first | omega | (simp; done) | (simp; omega))) rfl fun v26 w26 ⟨y26, rs26, hr26, hs26, hm26⟩ => ?_
        have hM26 : Mem w [] w26 [rs5, rA7, rB7, rs26] := hM7.add hm26
        rw [hp7] at hr26 hs26
        subst hr26
        have hln26 := wrF_len (tksF b n).1
        refine stp (v := .tuple [y26, .int .i64 ((wrF (tksF b n).1).2)].toArray) (o_mv rfl) ?_
        refine stp (v := y26) (o_ext rfl rfl) ?_
        refine stp (v := .int .i64 ((wrF (tksF b n).1).2)) (o_ext rfl rfl) ?_
        refine stp (v := y26) (o_mv rfl) ?_
        refine stp (v := .int .i64 ((wrF (tksF b n).1).2)) (o_mv rfl) ?_
        refine h25 _ _ ?_
        clear h25
        refine seq fun K27 h27 => ?_
        refine m_bs hM26 rfl fun b28 w29 (hM29 : Mem w [] w29 [rs5, rA7, rB7, rs26, [⟨b28, 5, []⟩]]) => ?_
        refine stp (v := x) (o_mv rfl) ?_
        have hs30 : SlE byteV 5 (.slice (some ⟨b28, 0, none⟩) 0 0) [] [⟨b28, 5, []⟩] := SlE.lit (l := []) rfl
        refine m_appE hM29 (i := 4) rfl hs30 rfl rfl (hx.upd hM29.upd) (by first | omega | (simp; omega)) (by omega) fun v31 w31 r31 (hs31 : SlE byteV 5 v31 (b) r31) (hM31 : Mem w [] w31 [rs5, rA7, rB7, rs26, r31]) => ?_
        refine stp (v := byteV c) (o_mv rfl) ?_
        refine m_app1 (E := byteV) (q := c) hM31 (i := 4) rfl hs31 rfl (by simp) (rfl) (by omega) (by omega) fun v32 w32 r32 u32 (hs32 : SlE byteV 5 v32 (b ++ [c]) r32) (hM32 : Mem w [] w32 [rs5, rA7, rB7, rs26, r32]) => ?_
        refine stp (v := v32) (o_mv rfl) ?_
        refine h27 _ _ ?_
        clear h27
        refine seq fun K33 h33 => ?_
        refine stp (v := v32) (o_mv rfl) ?_
        refine stp (v := .int .i64 n) (o_mv rfl) ?_
        refine m_call (Decode_ok _ (b ++ [c]) n w32 (hs32.rd hM32 (i := 4) rfl) (by first | omega | (simp; done) | (simp; omega)) (by simp only [inK]; omega)) rfl fun v34 w34 ⟨y34, rs34, hr34, hs34, hm34⟩ => ?_
        have hM34 : Mem w [] w34 [rs5, rA7, rB7, rs26, r32, rs34] := hM32.add hm34
        subst hr34
        have hld34 := decF_len (b ++ [c]) n
        refine stp (v := .tuple [y34, .int .i64 ((decF (b ++ [c]) n).2)].toArray) (o_mv rfl) ?_
        refine stp (v := y34) (o_ext rfl rfl) ?_
        refine stp (v := .int .i64 ((decF (b ++ [c]) n).2)) (o_ext rfl rfl) ?_
        refine stp (v := y34) (o_mv rfl) ?_
        refine stp (v := .int .i64 ((decF (b ++ [c]) n).2)) (o_mv rfl) ?_
        refine h33 _ _ ?_
        clear h33
        refine seq fun K35 h35 => ?_
        refine seq fun K36 h36 => ?_
        refine stp (v := x) (o_mv rfl) ?_
        refine stp (v := .int .i64 (b.length : Nat)) (o_lenR (hx.upd hM34.upd) rfl rfl) ?_
        refine stp (v := .bool (decide ((0 : Int) < ((b.length : Nat) : Int)))) (o_bin rfl rfl rfl) ?_
        refine h36 _ _ ?_
        clear h36
        refine cndP rfl (fun c37 => ?_) (fun c37 => ?_)
        ·
          refine seq fun K38 h38 => ?_
          refine stp (v := x) (o_mv rfl) ?_
          refine stp (v := x) (o_mv rfl) ?_
          refine stp (v := .int .i64 (b.length : Nat)) (o_lenR (hx.upd hM34.upd) rfl rfl) ?_
          refine stp (v := .int .i64 ((b.length : Nat) - 1)) (o_bin rfl rfl (v_sub64 (by constructor <;> omega))) ?_
          refine m_slcE 0 (b.length - 1) (hx) rfl (by omega) (by omega) ⟨_, v_int (by omega)⟩ rfl fun u39 hu39 => ?_
          have hu39' : RdE byteV w u39 (b.take (b.length - 1)) := by
            have e : (b.take (b.length - 1)).drop 0 = (b.take (b.length - 1)) := by rw [List.drop_zero]
            rw [e] at hu39; exact hu39
          refine stp (v := .int .i64 n) (o_mv rfl) ?_
          refine m_call (Decode_ok _ (b.take (b.length - 1)) n w34 ((hu39'.upd hM34.upd)) (by first | omega | (simp; done) | (simp; omega)) (by simp only [inK]; omega)) rfl fun v40 w40 ⟨y40, rs40, hr40, hs40, hm40⟩ => ?_
          have hM40 : Mem w [] w40 [rs5, rA7, rB7, rs26, r32, rs34, rs40] := hM34.add hm40
          subst hr40
          have hld40 := decF_len (b.take (b.length - 1)) n
          refine stp (v := .tuple [y40, .int .i64 ((decF (b.take (b.length - 1)) n).2)].toArray) (o_mv rfl) ?_
          refine stp (v := y40) (o_ext rfl rfl) ?_
          refine stp (v := .int .i64 ((decF (b.take (b.length - 1)) n).2)) (o_ext rfl rfl) ?_
          refine stp (v := y40) (o_mv rfl) ?_
          refine stp (v := .int .i64 ((decF (b.take (b.length - 1)) n).2)) (o_mv rfl) ?_
          refine h38 _ _ ?_
          clear h38
          refine seq fun K41 h41 => ?_
          refine stp (v := .int .i64 ((decF (b.take (b.length - 1)) n).2)) (o_mv rfl) ?_
          refine stp (v := .bool (decide (¬ ((decF (b.take (b.length - 1)) n).2) = 30))) (o_bin rfl rfl v_neq) ?_
          refine h41 _ _ ?_
          clear h41
          refine cndP rfl (fun c42 => absurd c42 (fun h => h (kg.2.2.2.2 (by omega)))) (fun c42 => ?_)
          refine h35 _ _ ?_
          clear h35
          refine seq fun K43 h43 => ?_
          refine stp (v := y5) (o_mv rfl) ?_
          refine stp (v := .int .i64 (((decF b n).1).length : Nat)) (o_lenR (hs5.rd hM40 (i := 0) rfl) rfl rfl) ?_
          refine stp (v := .int .i64 n) (o_mv rfl) ?_
          refine stp (v := .bool (decide (((((decF b n).1).length : Nat) : Int) = n))) (o_bin rfl rfl rfl) ?_
          refine stp (v := .bool (decide (((((decF b n).1).length : Nat) : Int) = n))) (o_mv rfl) ?_
          refine splitP rfl (fun c44 => ?_) (fun c44 => (c44 (by have := kg.1; omega)).elim)
          refine stg rfl (v := .int .i64 n) (o_mv rfl) ?_
          refine stg rfl (v := x) (o_mv rfl) ?_
          refine stg rfl (v := .int .i64 (b.length : Nat)) (o_lenR (hx.upd hM40.upd) rfl rfl) ?_
          refine stg rfl (v := .int .i64 (65 * (b.length : Nat))) (o_bin rfl rfl (v_mul64 (by constructor <;> omega))) ?_
          refine stg rfl (v := .bool (decide (n ≤ (65 * (b.length : Nat))))) (o_bin rfl rfl rfl) ?_
          refine stp (v := .bool (decide (n ≤ (65 * (b.length : Nat))))) (o_pickT rfl rfl) ?_
          refine stp (v := .bool (decide (n ≤ (65 * (b.length : Nat))))) (o_mv rfl) ?_
          refine splitP rfl (fun c45 => ?_) (fun c45 => (c45 (by have := kg.2.1; omega)).elim)
          refine stg rfl (v := .int .i64 ((wrF (tksF b n).1).2)) (o_mv rfl) ?_
          refine stg rfl (v := .bool (decide (((wrF (tksF b n).1).2) = 0))) (o_bin rfl rfl rfl) ?_
          refine stp (v := .bool (decide (((wrF (tksF b n).1).2) = 0))) (o_pickT rfl rfl) ?_
          refine stp (v := .bool (decide (((wrF (tksF b n).1).2) = 0))) (o_mv rfl) ?_
          refine splitP rfl (fun c46 => ?_) (fun c46 => (c46 (by rw [kg.2.2.1])).elim)
          refine stg rfl (v := y26) (o_mv rfl) ?_
          refine stg rfl (v := x) (o_mv rfl) ?_
          refine gyesl rfl ?_
          refine m_call (sameBytes_ok _ _ ((wrF (tksF b n).1).1) b w40 (hs26.rd hM40 (i := 3) rfl) (hx.upd hM40.upd) (by first | omega | (simp; done) | (simp; omega))) rfl fun v47 w47 ⟨hr47, hu47⟩ => ?_
          have hM47 : Mem w [] w47 [rs5, rA7, rB7, rs26, r32, rs34, rs40] := hM40.pure hu47
          subst hr47
          refine stp (v := .bool (decide (((wrF (tksF b n).1).1) = b))) (o_pickT rfl rfl) ?_
          refine stp (v := .bool (decide (((wrF (tksF b n).1).1) = b))) (o_mv rfl) ?_
          refine splitP rfl (fun c48 => ?_) (fun c48 => (c48 (by rw [kg.2.2.1])).elim)
          refine stg rfl (v := .int .i64 ((decF (b ++ [c]) n).2)) (o_mv rfl) ?_
          refine stg rfl (v := .bool (decide (((decF (b ++ [c]) n).2) = 30))) (o_bin rfl rfl rfl) ?_
          refine stp (v := .bool (decide (((decF (b ++ [c]) n).2) = 30))) (o_pickT rfl rfl) ?_
          refine stp (v := .bool (decide (((decF (b ++ [c]) n).2) = 30))) (o_mv rfl) ?_
          refine h43 _ _ ?_
          clear h43
          refine ⟨(.bool (decide (((decF (b ++ [c]) n).2) = 30))), rfl, ?_⟩
          first | exact ⟨rfl, hM47.upd⟩ | exact ⟨by rw [decide_eq_true (kg.2.2.2.1)], hM47.upd⟩ | exact ⟨by rw [decide_eq_true (by rw [decF_arg (by omega)]; rfl)], hM47.upd⟩ | exact ⟨by rw [decide_eq_true (by have h9 := ‹List.map Tk.p _ = (tksF b n).1›; rw [(dec_bad (b := b) (n := n) (by omega) (by omega)).2.2] at h9; have h8 := congrArg List.length h9; simp at h8; rw [h8]; rfl)], hM47.upd⟩
        ·
          refine h35 _ _ ?_
          clear h35
          refine seq fun K49 h49 => ?_
          refine stp (v := y5) (o_mv rfl) ?_
          refine stp (v := .int .i64 (((decF b n).1).length : Nat)) (o_lenR (hs5.rd hM34 (i := 0) rfl) rfl rfl) ?_
          refine stp (v := .int .i64 n) (o_mv rfl) ?_
          refine stp (v := .bool (decide (((((decF b n).1).length : Nat) : Int) = n))) (o_bin rfl rfl rfl) ?_
          refine stp (v := .bool (decide (((((decF b n).1).length : Nat) : Int) = n))) (o_mv rfl) ?_
          refine splitP rfl (fun c50 => ?_) (fun c50 => (c50 (by have := kg.1; omega)).elim)
          refine stg rfl (v := .int .i64 n) (o_mv rfl) ?_
          refine stg rfl (v := x) (o_mv rfl) ?_
          refine stg rfl (v := .int .i64 (b.length : Nat)) (o_lenR (hx.upd hM34.upd) rfl rfl) ?_
          refine stg rfl (v := .int .i64 (65 * (b.length : Nat))) (o_bin rfl rfl (v_mul64 (by constructor <;> omega))) ?_
          refine stg rfl (v := .bool (decide (n ≤ (65 * (b.length : Nat))))) (o_bin rfl rfl rfl) ?_
          refine stp (v := .bool (decide (n ≤ (65 * (b.length : Nat))))) (o_pickT rfl rfl) ?_
          refine stp (v := .bool (decide (n ≤ (65 * (b.length : Nat))))) (o_mv rfl) ?_
          refine splitP rfl (fun c51 => ?_) (fun c51 => (c51 (by have := kg.2.1; omega)).elim)
          refine stg rfl (v := .int .i64 ((wrF (tksF b n).1).2)) (o_mv rfl) ?_
          refine stg rfl (v := .bool (decide (((wrF (tksF b n).1).2) = 0))) (o_bin rfl rfl rfl) ?_
          refine stp (v := .bool (decide (((wrF (tksF b n).1).2) = 0))) (o_pickT rfl rfl) ?_
          refine stp (v := .bool (decide (((wrF (tksF b n).1).2) = 0))) (o_mv rfl) ?_
          refine splitP rfl (fun c52 => ?_) (fun c52 => (c52 (by rw [kg.2.2.1])).elim)
          refine stg rfl (v := y26) (o_mv rfl) ?_
          refine stg rfl (v := x) (o_mv rfl) ?_
          refine gyesl rfl ?_
          refine m_call (sameBytes_ok _ _ ((wrF (tksF b n).1).1) b w34 (hs26.rd hM34 (i := 3) rfl) (hx.upd hM34.upd) (by first | omega | (simp; done) | (simp; omega))) rfl fun v53 w53 ⟨hr53, hu53⟩ => ?_
          have hM53 : Mem w [] w53 [rs5, rA7, rB7, rs26, r32, rs34] := hM34.pure hu53
          subst hr53
          refine stp (v := .bool (decide (((wrF (tksF b n).1).1) = b))) (o_pickT rfl rfl) ?_
          refine stp (v := .bool (decide (((wrF (tksF b n).1).1) = b))) (o_mv rfl) ?_
          refine splitP rfl (fun c54 => ?_) (fun c54 => (c54 (by rw [kg.2.2.1])).elim)
          refine stg rfl (v := .int .i64 ((decF (b ++ [c]) n).2)) (o_mv rfl) ?_
          refine stg rfl (v := .bool (decide (((decF (b ++ [c]) n).2) = 30))) (o_bin rfl rfl rfl) ?_
          refine stp (v := .bool (decide (((decF (b ++ [c]) n).2) = 30))) (o_pickT rfl rfl) ?_
          refine stp (v := .bool (decide (((decF (b ++ [c]) n).2) = 30))) (o_mv rfl) ?_
          refine h49 _ _ ?_
          clear h49
          refine ⟨(.bool (decide (((decF (b ++ [c]) n).2) = 30))), rfl, ?_⟩
          first | exact ⟨rfl, hM53.upd⟩ | exact ⟨by rw [decide_eq_true (kg.2.2.2.1)], hM53.upd⟩ | exact ⟨by rw [decide_eq_true (by rw [decF_arg (by omega)]; rfl)], hM53.upd⟩ | exact ⟨by rw [decide_eq_true (by have h9 := ‹List.map Tk.p _ = (tksF b n).1›; rw [(dec_bad (b := b) (n := n) (by omega) (by omega)).2.2] at h9; have h8 := congrArg List.length h9; simp at h8; rw [h8]; rfl)], hM53.upd⟩

/-- winnowlaw3.LzLiterals -/
theorem LzLiterals_ok (x : Value) (b : List UInt8) (w : World) (hx : RdE byteV w x b) (hl : b.length ≤ 140737488351232) : Calls Try.prog 8 [x].toArray w (Rt fun r w' => r = .bool true ∧ Upd [] w w') := by
  have hM0 : Mem w [] w [] := Mem.nil w []
  refine calls_vc mixed Try.func8 rfl C8 (by simp [Try.ntmps8]) ?_
  refine seq fun K1 h1 => ?_
  refine stp (v := .bool false) (o_mv rfl) ?_
  refine h1 _ _ ?_
  clear h1
  refine seq fun K2 h2 => ?_
  refine seq fun K3 h3 => ?_
  refine stp (v := x) (o_mv rfl) ?_
  refine stp (v := .int .i64 (b.length : Nat)) (o_lenR (hx.upd hM0.upd) rfl rfl) ?_
  refine stp (v := .bool (decide (((b.length : Nat) : Int) < 1))) (o_bin rfl rfl rfl) ?_
  refine stp (v := .bool (decide (((b.length : Nat) : Int) < 1))) (o_mv rfl) ?_
  refine splitP rfl (fun c4 => ?_) (fun c4 => ?_)
  ·
    refine gno rfl (by simp) ?_
    refine gno rfl (by simp) ?_
    refine gno rfl (by simp) ?_
    refine stp (v := .bool true) (o_pickT rfl rfl) ?_
    refine h3 _ _ ?_
    clear h3
    refine cndT rfl ?_
    refine seq fun K5 h5 => ?_
    refine m_call (works_ok w) rfl fun v6 w6 ⟨hr6, hu6⟩ => ?_
    have hM6 : Mem w [] w6 [] := hM0.pure hu6
    subst hr6
    refine stp (v := .bool true) (o_mv rfl) ?_
    refine h5 _ _ ?_
    clear h5
    refine ⟨(.bool true), rfl, ?_⟩
    first | exact ⟨rfl, hM6.upd⟩ | exact ⟨by rw [decide_eq_true (by rw [kl.2.1])], hM6.upd⟩ | exact ⟨by rw [decide_eq_true (by omega)], hM6.upd⟩
  ·
    refine stg rfl (v := x) (o_mv rfl) ?_
    refine stg rfl (v := .int .i64 (b.length : Nat)) (o_lenR (hx.upd hM0.upd) rfl rfl) ?_
    refine stg rfl (v := .bool (decide ((65536 : Int) < ((b.length : Nat) : Int)))) (o_bin rfl rfl rfl) ?_
    refine stp (v := .bool (decide ((65536 : Int) < ((b.length : Nat) : Int)))) (o_pickF rfl rfl) ?_
    refine h3 _ _ ?_
    clear h3
    refine cndP rfl (fun c7 => ?_) (fun c7 => ?_)
    ·
      refine seq fun K8 h8 => ?_
      refine m_call (works_ok w) rfl fun v9 w9 ⟨hr9, hu9⟩ => ?_
      have hM9 : Mem w [] w9 [] := hM0.pure hu9
      subst hr9
      refine stp (v := .bool true) (o_mv rfl) ?_
      refine h8 _ _ ?_
      clear h8
      refine ⟨(.bool true), rfl, ?_⟩
      first | exact ⟨rfl, hM9.upd⟩ | exact ⟨by rw [decide_eq_true (by rw [kl.2.1])], hM9.upd⟩ | exact ⟨by rw [decide_eq_true (by omega)], hM9.upd⟩
    ·
      refine h2 _ _ ?_
      clear h2
      refine seq fun K10 h10 => ?_
      have kl := lit_all (T := b) (by omega) (by omega)
      refine stp (v := x) (o_mv rfl) ?_
      obtain ⟨a11_, n11_, c11_, rfl⟩ := Rd.isSlice (hx.upd hM0.upd)
      refine stp (v := .agg ([(.slice a11_ n11_ c11_), .int .i64 0, .int .i64 0] : List Value).toArray) (o_bld rfl rfl) ?_
      refine m_bs hM0 rfl fun b12 w13 (hM13 : Mem w [] w13 [[⟨b12, 31, [(.slice a11_ n11_ c11_), .int .i64 0, .int .i64 0]⟩]]) => ?_
      refine m_call (Write_ok _ ([(⟨a11_, n11_, c11_, b, 0, 0⟩ : Tk)]) w13 (own_rdS (enc := tokC) (l := [(⟨a11_, n11_, c11_, b, 0, 0⟩ : Tk)]) (hM13.at (i := 0) (j := 0) rfl rfl) rfl) (fun t ht => by rw [List.mem_singleton.1 ht]; exact ⟨hx.upd hM13.upd, by simp only [inK]; omega, by simp only [inK]; omega, by omega⟩) (by simp)) rfl fun v14 w14 ⟨y14, rs14, hr14, hs14, hm14⟩ => ?_
      have hM14 : Mem w [] w14 [[⟨b12, 31, [(.slice a11_ n11_ c11_), .int .i64 0, .int .i64 0]⟩], rs14] := hM13.add hm14
      have kw : wrF (List.map Tk.p ([(⟨a11_, n11_, c11_, b, 0, 0⟩ : Tk)])) = (tokB (b, 0, 0), 0) := kl.1
      rw [kw] at hr14 hs14
      subst hr14
      have kb : (tokB (b, 0, 0)).length ≤ 1835008 := by have h9 := wrF_len [(b, 0, 0)]; rw [kl.1] at h9; exact h9
      refine stp (v := .tuple [y14, .int .i64 0].toArray) (o_mv rfl) ?_
      refine stp (v := y14) (o_ext rfl rfl) ?_
      refine stp (v := .int .i64 0) (o_ext rfl rfl) ?_
      refine stp (v := y14) (o_mv rfl) ?_
      refine stp (v := .int .i64 0) (o_mv rfl) ?_
      refine h10 _ _ ?_
      clear h10
      refine seq fun K15 h15 => ?_
      refine stp (v := y14) (o_mv rfl) ?_
      refine stp (v := (.slice a11_ n11_ c11_)) (o_mv rfl) ?_
      refine stp (v := .int .i64 (b.length : Nat)) (o_lenR (hx.upd hM14.upd) rfl rfl) ?_
      refine m_call (Decode_ok _ (tokB (b, 0, 0)) (b.length : Nat) w14 (hs14.rd hM14 (i := 1) rfl) (by first | omega | (simp; done) | (simp; omega)) (by simp only [inK]; omega)) rfl fun v16 w16 ⟨y16, rs16, hr16, hs16, hm16⟩ => ?_
      have hM16 : Mem w [] w16 [[⟨b12, 31, [(.slice a11_ n11_ c11_), .int .i64 0, .int .i64 0]⟩], rs14, rs16] := hM14.add hm16
      subst hr16
      have hld16 := decF_len (tokB (b, 0, 0)) (b.length : Nat)
      refine stp (v := .tuple [y16, .int .i64 ((decF (tokB (b, 0, 0)) (b.length : Nat)).2)].toArray) (o_mv rfl) ?_
      refine stp (v := y16) (o_ext rfl rfl) ?_
      refine stp (v := .int .i64 ((decF (tokB (b, 0, 0)) (b.length : Nat)).2)) (o_ext rfl rfl) ?_
      refine stp (v := y16) (o_mv rfl) ?_
      refine stp (v := .int .i64 ((decF (tokB (b, 0, 0)) (b.length : Nat)).2)) (o_mv rfl) ?_
      refine h15 _ _ ?_
      clear h15
      refine seq fun K17 h17 => ?_
      refine stp (v := .int .i64 0) (o_mv rfl) ?_
      refine stp (v := .bool true) (o_bin rfl rfl v_eqT) ?_
      refine stp (v := .bool true) (o_mv rfl) ?_
      refine splitT rfl ?_
      refine stg rfl (v := .int .i64 ((decF (tokB (b, 0, 0)) (b.length : Nat)).2)) (o_mv rfl) ?_
      refine stg rfl (v := .bool (decide (((decF (tokB (b, 0, 0)) (b.length : Nat)).2 : Int) = 0))) (o_bin rfl rfl rfl) ?_
      refine stp (v := .bool (decide (((decF (tokB (b, 0, 0)) (b.length : Nat)).2 : Int) = 0))) (o_pickT rfl rfl) ?_
      refine stp (v := .bool (decide (((decF (tokB (b, 0, 0)) (b.length : Nat)).2 : Int) = 0))) (o_mv rfl) ?_
      refine splitP rfl (fun c18 => ?_) (fun c18 => (c18 (by rw [kl.2.1])).elim)
      refine stg rfl (v := y14) (o_mv rfl) ?_
      refine stg rfl (v := .int .i64 ((tokB (b, 0, 0)).length : Nat)) (o_lenR (hs14.rd hM16 (i := 1) rfl) rfl rfl) ?_
      refine stg rfl (v := (.slice a11_ n11_ c11_)) (o_mv rfl) ?_
      refine stg rfl (v := .int .i64 (b.length : Nat)) (o_lenR (hx.upd hM16.upd) rfl rfl) ?_
      refine stg rfl (v := .bool (decide (((b.length : Nat) : Int) < (((tokB (b, 0, 0)).length : Nat) : Int)))) (o_bin rfl rfl rfl) ?_
      refine stp (v := .bool (decide (((b.length : Nat) : Int) < (((tokB (b, 0, 0)).length : Nat) : Int)))) (o_pickT rfl rfl) ?_
      refine stp (v := .bool (decide (((b.length : Nat) : Int) < (((tokB (b, 0, 0)).length : Nat) : Int)))) (o_mv rfl) ?_
      refine splitP rfl (fun c19 => ?_) (fun c19 => (c19 (by have := kl.2.2; omega)).elim)
      refine stg rfl (v := y16) (o_mv rfl) ?_
      refine stg rfl (v := (.slice a11_ n11_ c11_)) (o_mv rfl) ?_
      refine gyesl rfl ?_
      refine m_call (sameBytes_ok _ _ ((decF (tokB (b, 0, 0)) (b.length : Nat)).1) b w16 (hs16.rd hM16 (i := 2) rfl) (hx.upd hM16.upd) (by first | omega | (simp; done) | (simp; omega))) rfl fun v20 w20 ⟨hr20, hu20⟩ => ?_
      have hM20 : Mem w [] w20 [[⟨b12, 31, [(.slice a11_ n11_ c11_), .int .i64 0, .int .i64 0]⟩], rs14, rs16] := hM16.pure hu20
      subst hr20
      refine stp (v := .bool (decide (((decF (tokB (b, 0, 0)) (b.length : Nat)).1) = b))) (o_pickT rfl rfl) ?_
      refine stp (v := .bool (decide (((decF (tokB (b, 0, 0)) (b.length : Nat)).1) = b))) (o_mv rfl) ?_
      refine h17 _ _ ?_
      clear h17
      refine ⟨(.bool (decide (((decF (tokB (b, 0, 0)) (b.length : Nat)).1) = b))), rfl, ?_⟩
      first | exact ⟨rfl, hM20.upd⟩ | exact ⟨by rw [decide_eq_true (by rw [kl.2.1])], hM20.upd⟩ | exact ⟨by rw [decide_eq_true (by omega)], hM20.upd⟩

/-- winnowlaw3.LzRuns -/
theorem LzRuns_ok (c : UInt8) (n : Int) (hn : inK .i64 n) (w : World) : Calls Try.prog 7 [byteV c, .int .i64 n].toArray w (Rt fun r w' => r = .bool true ∧ Upd [] w w') := by
  have hM0 : Mem w [] w [] := Mem.nil w []
  simp only [inK] at hn
  refine calls_vc mixed Try.func7 rfl C7 (by simp [Try.ntmps7]) ?_
  refine seq fun K1 h1 => ?_
  refine stp (v := .bool false) (o_mv rfl) ?_
  refine h1 _ _ ?_
  clear h1
  refine seq fun K2 h2 => ?_
  refine seq fun K3 h3 => ?_
  refine stp (v := .int .i64 n) (o_mv rfl) ?_
  refine stp (v := .bool (decide (n < 0))) (o_bin rfl rfl rfl) ?_
  refine stp (v := .bool (decide (n < 0))) (o_mv rfl) ?_
  refine splitP rfl (fun c4 => ?_) (fun c4 => ?_)
  ·
    refine gno rfl (by simp) ?_
    refine gno rfl (by simp) ?_
    refine stp (v := .bool true) (o_pickT rfl rfl) ?_
    refine h3 _ _ ?_
    clear h3
    refine cndT rfl ?_
    refine seq fun K5 h5 => ?_
    refine m_call (works_ok w) rfl fun v6 w6 ⟨hr6, hu6⟩ => ?_
    have hM6 : Mem w [] w6 [] := hM0.pure hu6
    subst hr6
    refine stp (v := .bool true) (o_mv rfl) ?_
    refine h5 _ _ ?_
    clear h5
    refine ⟨(.bool true), rfl, ?_⟩
    exact ⟨rfl, hM6.upd⟩
  ·
    refine stg rfl (v := .int .i64 n) (o_mv rfl) ?_
    refine stg rfl (v := .bool (decide ((65536 : Int) < n))) (o_bin rfl rfl rfl) ?_
    refine stp (v := .bool (decide ((65536 : Int) < n))) (o_pickF rfl rfl) ?_
    refine h3 _ _ ?_
    clear h3
    refine cndP rfl (fun c7 => ?_) (fun c7 => ?_)
    ·
      refine seq fun K8 h8 => ?_
      refine m_call (works_ok w) rfl fun v9 w9 ⟨hr9, hu9⟩ => ?_
      have hM9 : Mem w [] w9 [] := hM0.pure hu9
      subst hr9
      refine stp (v := .bool true) (o_mv rfl) ?_
      refine h8 _ _ ?_
      clear h8
      refine ⟨(.bool true), rfl, ?_⟩
      exact ⟨rfl, hM9.upd⟩
    ·
      refine h2 _ _ ?_
      clear h2
      refine seq fun K10 h10 => ?_
      refine stp (v := .int .i64 n) (o_mv rfl) ?_
      refine m_mksE (E := byteV) (z := 0) (n := n.toNat) (c := n.toNat) rfl hM0 (v_int (by omega)) (v_int (by omega)) (by omega) (by omega) (by omega) fun v11 w11 r11 hs11 (hM11 : Mem w [] w11 [r11]) => ?_
      refine stp (v := v11) (o_mv rfl) ?_
      refine h10 _ _ ?_
      clear h10
      refine seq fun K12 h12 => ?_
      refine seq fun K13 h13 => ?_
      refine stp (v := .int .i64 0) (o_mv rfl) ?_
      refine h13 _ _ ?_
      clear h13
      refine lp (n := fun _ _ => False) (ι := (Nat) × (Value) × (List Ent)) (fun ⟨i, y5_, r5_⟩ f w' => f 5 = y5_ ∧ f 6 = .int .i64 (i : Nat) ∧ f 0 = byteV c ∧ f 1 = .int .i64 n ∧ Mem w [] w' [r5_] ∧ (i ≤ n.toNat) ∧ ((List.replicate i c ++ List.drop i (List.replicate n.toNat (0 : UInt8))).length = n.toNat) ∧ (SlE byteV 5 y5_ (List.replicate i c ++ List.drop i (List.replicate n.toNat 0)) r5_)) (fun ⟨i, y5_, r5_⟩ => n.toNat - i) (0, v11, r11) ?_ ?_
      · exact ⟨rfl, by first | rfl | exact v_int (by omega) | exact v_int (by simp) | exact v_int (by simp; omega), by first | rfl | exact v_int (by omega) | exact v_int (by simp) | exact v_int (by simp; omega), by first | rfl | exact v_int (by omega) | exact v_int (by simp) | exact v_int (by simp; omega), hM11, by omega, by simp, by first | exact hs11 | simpa using hs11⟩
      · rintro ⟨i, y5_, r5_⟩ f w14 ⟨e14_5, e14_6, e14_0, e14_1, hM14, hi, hq, hy5_⟩ K15 h15
        obtain ⟨frm, rfl⟩ : ∃ frm, f = (upd (upd (upd (upd frm 5 (y5_)) 6 (.int .i64 (i : Nat))) 0 (byteV c)) 1 (.int .i64 n)) := ⟨f, by rw [upd_self e14_5, upd_self e14_6, upd_self e14_0, upd_self e14_1]⟩
        clear e14_5 e14_6 e14_0 e14_1
        refine seq fun K16 h16 => ?_
        refine seq fun K17 h17 => ?_
        refine stp (v := .int .i64 (i : Nat)) (o_mv rfl) ?_
        refine stp (v := .int .i64 n) (o_mv rfl) ?_
        refine stp (v := .bool (decide (((i : Nat) : Int) < n))) (o_bin rfl rfl rfl) ?_
        refine h17 _ _ ?_
        clear h17
        refine cndP rfl (fun c18 => ?_) (fun c18 => ?_)
        ·
          refine h16 _ _ ?_
          clear h16
          refine seq fun K19 h19 => ?_
          refine stp (v := y5_) (o_mv rfl) ?_
          refine stp (v := .int .i64 (i : Nat)) (o_mv rfl) ?_
          refine stp (v := byteV c) (o_mv rfl) ?_
          refine m_set (E := byteV) (q := c) (j := i) hM14 (i := 0) rfl hy5_ rfl rfl (by omega) (by simp) (rfl) fun w20 r20 u20 he20 hs20 (hM20 : Mem w [] w20 [r20]) => ?_
          refine h19 _ _ ?_
          clear h19
          refine stp (v := .int .i64 (i : Nat)) (o_mv rfl) ?_
          refine stp (v := .int .i64 ((i : Nat) + 1)) (o_bin rfl rfl (v_add64 (by constructor <;> omega))) ?_
          refine stp (v := .int .i64 ((i : Nat) + 1)) (o_mv rfl) ?_
          refine h15 (i + 1, y5_, r20) _ _ ⟨rfl, by first | rfl | exact v_int (by omega) | exact v_int (by simp) | exact v_int (by simp; omega), by first | rfl | exact v_int (by omega) | exact v_int (by simp) | exact v_int (by simp; omega), by first | rfl | exact v_int (by omega) | exact v_int (by simp) | exact v_int (by simp; omega), hM20, by omega, by simp; omega, by rw [← wr_step (by simp; omega)]; exact hs20⟩ (by (try dsimp only); omega)
        ·
          refine h12 _ _ ?_
          clear h12
          refine seq fun K21 h21 => ?_
          have hs22 : SlE byteV 5 y5_ (List.replicate n.toNat c) r5_ := by
            have h9 := hy5_
            rw [show i = n.toNat by omega, List.drop_eq_nil_of_le (by simp), List.append_nil] at h9
            exact h9
          have hrl : (List.replicate n.toNat c).length = n.toNat := List.length_replicate
          have k1 := encF_0 (T := (List.replicate n.toNat c)) (by omega)
          have k2 := dec_encN (T := (List.replicate n.toNat c)) (n := n) (by omega) (by omega)
          have k3 := rep_len (n := n.toNat) (c := c) (by omega)
          refine stp (v := y5_) (o_mv rfl) ?_
          refine m_call (Encode_ok _ (List.replicate n.toNat c) w14 (hs22.rd hM14 (i := 0) rfl) (by first | omega | (simp; done) | (simp; omega))) rfl fun v23 w23 ⟨y23, rs23, hr23, hs23, hm23⟩ => ?_
          have hM23 : Mem w [] w23 [r5_, rs23] := hM14.add hm23
          subst hr23
          have hle23 := enc_len (T := (List.replicate n.toNat c))
          refine stp (v := .tuple [y23, .int .i64 ((encF (List.replicate n.toNat c)).2)].toArray) (o_mv rfl) ?_
          refine stp (v := y23) (o_ext rfl rfl) ?_
          refine stp (v := .int .i64 ((encF (List.replicate n.toNat c)).2)) (o_ext rfl rfl) ?_
          refine stp (v := y23) (o_mv rfl) ?_
          refine stp (v := .int .i64 ((encF (List.replicate n.toNat c)).2)) (o_mv rfl) ?_
          refine h21 _ _ ?_
          clear h21
          refine seq fun K24 h24 => ?_
          refine stp (v := y23) (o_mv rfl) ?_
          refine stp (v := .int .i64 n) (o_mv rfl) ?_
          refine m_call (Decode_ok _ ((encF (List.replicate n.toNat c)).1) n w23 (hs23.rd hM23 (i := 1) rfl) (by first | omega | (simp; done) | (simp; omega)) (by simp only [inK]; omega)) rfl fun v25 w25 ⟨y25, rs25, hr25, hs25, hm25⟩ => ?_
          have hM25 : Mem w [] w25 [r5_, rs23, rs25] := hM23.add hm25
          subst hr25
          have hld25 := decF_len ((encF (List.replicate n.toNat c)).1) n
          refine stp (v := .tuple [y25, .int .i64 ((decF ((encF (List.replicate n.toNat c)).1) n).2)].toArray) (o_mv rfl) ?_
          refine stp (v := y25) (o_ext rfl rfl) ?_
          refine stp (v := .int .i64 ((decF ((encF (List.replicate n.toNat c)).1) n).2)) (o_ext rfl rfl) ?_
          refine stp (v := y25) (o_mv rfl) ?_
          refine stp (v := .int .i64 ((decF ((encF (List.replicate n.toNat c)).1) n).2)) (o_mv rfl) ?_
          refine h24 _ _ ?_
          clear h24
          refine seq fun K26 h26 => ?_
          refine stp (v := .int .i64 ((encF (List.replicate n.toNat c)).2)) (o_mv rfl) ?_
          refine stp (v := .bool (decide (((encF (List.replicate n.toNat c)).2) = 0))) (o_bin rfl rfl rfl) ?_
          refine stp (v := .bool (decide (((encF (List.replicate n.toNat c)).2) = 0))) (o_mv rfl) ?_
          refine splitP rfl (fun c27 => ?_) (fun c27 => (c27 (k1)).elim)
          refine stg rfl (v := .int .i64 ((decF ((encF (List.replicate n.toNat c)).1) n).2)) (o_mv rfl) ?_
          refine stg rfl (v := .bool (decide (((decF ((encF (List.replicate n.toNat c)).1) n).2) = 0))) (o_bin rfl rfl rfl) ?_
          refine stp (v := .bool (decide (((decF ((encF (List.replicate n.toNat c)).1) n).2) = 0))) (o_pickT rfl rfl) ?_
          refine stp (v := .bool (decide (((decF ((encF (List.replicate n.toNat c)).1) n).2) = 0))) (o_mv rfl) ?_
          refine splitP rfl (fun c28 => ?_) (fun c28 => (c28 (by rw [k2.1])).elim)
          refine stg rfl (v := y23) (o_mv rfl) ?_
          refine stg rfl (v := .int .i64 (((encF (List.replicate n.toNat c)).1).length : Nat)) (o_lenR (hs23.rd hM25 (i := 1) rfl) rfl rfl) ?_
          refine stg rfl (v := .int .i64 n) (o_mv rfl) ?_
          refine stg rfl (v := .int .i64 (n / 32)) (o_quo rfl rfl (by omega) (v_quo (by omega) (by omega) (by simp only [inK]; omega))) ?_
          refine stg rfl (v := .int .i64 (12 + (n / 32))) (o_bin rfl rfl (v_add64 (by constructor <;> omega))) ?_
          refine stg rfl (v := .bool (decide (((((encF (List.replicate n.toNat c)).1).length : Nat) : Int) ≤ (12 + (n / 32))))) (o_bin rfl rfl rfl) ?_
          refine stp (v := .bool (decide (((((encF (List.replicate n.toNat c)).1).length : Nat) : Int) ≤ (12 + (n / 32))))) (o_pickT rfl rfl) ?_
          refine stp (v := .bool (decide (((((encF (List.replicate n.toNat c)).1).length : Nat) : Int) ≤ (12 + (n / 32))))) (o_mv rfl) ?_
          refine splitP rfl (fun c29 => ?_) (fun c29 => (c29 (by omega)).elim)
          refine stg rfl (v := y25) (o_mv rfl) ?_
          refine stg rfl (v := y5_) (o_mv rfl) ?_
          refine gyesl rfl ?_
          refine m_call (sameBytes_ok _ _ ((decF ((encF (List.replicate n.toNat c)).1) n).1) (List.replicate n.toNat c) w25 (hs25.rd hM25 (i := 2) rfl) (hs22.rd hM25 (i := 0) rfl) (by first | omega | (simp; done) | (simp; omega))) rfl fun v30 w30 ⟨hr30, hu30⟩ => ?_
          have hM30 : Mem w [] w30 [r5_, rs23, rs25] := hM25.pure hu30
          subst hr30
          refine stp (v := .bool (decide (((decF ((encF (List.replicate n.toNat c)).1) n).1) = (List.replicate n.toNat c)))) (o_pickT rfl rfl) ?_
          refine stp (v := .bool (decide (((decF ((encF (List.replicate n.toNat c)).1) n).1) = (List.replicate n.toNat c)))) (o_mv rfl) ?_
          refine h26 _ _ ?_
          clear h26
          refine ⟨(.bool (decide (((decF ((encF (List.replicate n.toNat c)).1) n).1) = (List.replicate n.toNat c)))), rfl, ?_⟩
          first | exact ⟨rfl, hM30.upd⟩ | exact ⟨by rw [decide_eq_true (by rw [k2.1])], hM30.upd⟩

theorem u8_of {c : Int} (h : inK .u8 c) : ∃ d : UInt8, c = (d.toNat : Int) := by
  simp only [inK] at h
  refine ⟨c.toNat.toUInt8, ?_⟩
  have : c.toNat.toUInt8.toNat = c.toNat := by simp [Nat.toUInt8]; omega
  omega
theorem LzRuns_row (c n : Int) (hc : inK .u8 c) (hn : inK .i64 n) (w : World) : Calls Try.prog 7 [.int .u8 c, .int .i64 n].toArray w (Rt fun r w' => r = .bool true ∧ Upd [] w w') := by
  obtain ⟨d, rfl⟩ := u8_of hc
  exact LzRuns_ok d n hn w
theorem LzTotal_row (x : Value) (b : List UInt8) (n c : Int) (hn : inK .i64 n) (hc : inK .u8 c) (w : World) (hx : RdE byteV w x b) (hl : b.length ≤ 140737488351232) : Calls Try.prog 9 [x, .int .i64 n, .int .u8 c].toArray w (Rt fun r w' => r = .bool true ∧ Upd [] w w') := by
  obtain ⟨d, rfl⟩ := u8_of hc
  exact LzTotal_ok x b n hn d w hx hl
