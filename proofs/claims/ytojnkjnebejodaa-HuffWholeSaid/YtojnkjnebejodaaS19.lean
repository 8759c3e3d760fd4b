/- HuffRound: the law's walk. -/
import Derived.Test.YtojnkjnebejodaaS17
import Derived.Test.YtojnkjnebejodaaS18
import Derived.Test.YtojnkjnebejodaaH12
namespace Go.Proofs.Ytojnkjnebejodaa.E
open Go
theorem encF_len {t : List UInt8} (h : t.length ≤ 65536) : (encF t).length ≤ 1000000 := by
  have := encR_len (t := t)
  rwa [encR_ok (by omega)] at this
theorem aab_back : huffD (encF [97, 97, 98]) 3 = ([97, 97, 98], 0) := huff_back (t := [97, 97, 98]) (by decide)

/-- winnowlaw4.works -/
theorem works_ok (w : World) : Calls Try.prog 38 [].toArray w (Rt fun r w' => r = .bool true ∧ Upd [] w w') := by
  have hM0 : Mem w [] w [] := Mem.nil w []
  refine calls_vc mixed Try.func38 rfl C38 (by simp [Try.ntmps38]) ?_
  refine seq fun K1 h1 => ?_
  refine stp (v := .bool false) (o_mv rfl) ?_
  refine h1 _ _ ?_
  clear h1
  refine seq fun K2 h2 => ?_
  refine m_bs hM0 rfl fun b3 w4 (hM4 : Mem w [] w4 [[⟨b3, 5, [.int .u8 97, .int .u8 97, .int .u8 98]⟩]]) => ?_
  refine m_mark hM4 (i := 0) rfl Try.underlying40 Try.underlying5 rfl fun w5 (hM5 : Mem w [] w5 [[⟨b3, 5, [.int .u8 97, .int .u8 97, .int .u8 98]⟩]]) => ?_
  refine m_call (Encode_ok _ ([97, 97, 98]) w5 (own_rdE (E := byteV) (l := [97, 97, 98]) (hM5.at (i := 0) (j := 0) rfl rfl) rfl) (by first | omega | decide)) rfl fun v6 w6 ⟨y6, rs6, hr6, hs6, hm6⟩ => ?_
  have hM6 : Mem w [] w6 [[⟨b3, 5, [.int .u8 97, .int .u8 97, .int .u8 98]⟩], rs6] := hM5.add hm6
  rw [encR_ok (by first | omega | decide)] at hr6 hs6
  dsimp only at hr6 hs6
  subst hr6
  have hel6 := encF_len (t := [97, 97, 98]) (by first | omega | decide)
  refine stp (v := .tuple [y6, .int .i64 0].toArray) (o_mv rfl) ?_
  refine stp (v := y6) (o_ext rfl rfl) ?_
  refine stp (v := .int .i64 0) (o_ext rfl rfl) ?_
  refine stp (v := y6) (o_mv rfl) ?_
  refine stp (v := .int .i64 0) (o_mv rfl) ?_
  refine h2 _ _ ?_
  clear h2
  refine seq fun K7 h7 => ?_
  refine stp (v := y6) (o_mv rfl) ?_
  refine m_call (Decode_ok _ (encF ([97, 97, 98])) 3 w6 (hs6.rd hM6 (i := 1) rfl) (by omega) (by simp only [inK]; omega)) rfl fun v8 w8 ⟨y8, rs8, hr8, hs8, hm8⟩ => ?_
  have hM8 : Mem w [] w8 [[⟨b3, 5, [.int .u8 97, .int .u8 97, .int .u8 98]⟩], rs6, rs8] := hM6.add hm8
  rw [aab_back] at hr8 hs8
  dsimp only at hr8 hs8
  subst hr8
  refine stp (v := .tuple [y8, .int .i64 0].toArray) (o_mv rfl) ?_
  refine stp (v := y8) (o_ext rfl rfl) ?_
  refine stp (v := .int .i64 0) (o_ext rfl rfl) ?_
  refine stp (v := y8) (o_mv rfl) ?_
  refine stp (v := .int .i64 0) (o_mv rfl) ?_
  refine h7 _ _ ?_
  clear h7
  refine seq fun K9 h9 => ?_
  refine stp (v := .int .i64 0) (o_mv rfl) ?_
  refine stp (v := .bool true) (o_bin rfl rfl v_eqT) ?_
  refine stp (v := .bool true) (o_mv rfl) ?_
  refine splitT rfl ?_
  refine stg rfl (v := .int .i64 0) (o_mv rfl) ?_
  refine stg rfl (v := .bool true) (o_bin rfl rfl v_eqT) ?_
  refine stp (v := .bool true) (o_pickT rfl rfl) ?_
  refine stp (v := .bool true) (o_mv rfl) ?_
  refine splitT rfl ?_
  refine stg rfl (v := y8) (o_mv rfl) ?_
  refine gyesl rfl ?_
  refine m_bs hM8 rfl fun b10 w11 (hM11 : Mem w [] w11 [[⟨b3, 5, [.int .u8 97, .int .u8 97, .int .u8 98]⟩], rs6, rs8, [⟨b10, 5, [.int .u8 97, .int .u8 97, .int .u8 98]⟩]]) => ?_
  refine gyesl rfl ?_
  refine m_mark hM11 (i := 3) rfl Try.underlying40 Try.underlying5 rfl fun w12 (hM12 : Mem w [] w12 [[⟨b3, 5, [.int .u8 97, .int .u8 97, .int .u8 98]⟩], rs6, rs8, [⟨b10, 5, [.int .u8 97, .int .u8 97, .int .u8 98]⟩]]) => ?_
  refine gyesl rfl ?_
  refine m_call (sameS_ok _ _ ([97, 97, 98]) ([97, 97, 98]) w12 (hs8.rd hM12 (i := 2) rfl) (own_rdE (E := byteV) (l := [97, 97, 98]) (hM12.at (i := 3) (j := 0) rfl rfl) rfl) (by first | omega | (simp; done) | (simp; omega))) rfl fun v13 w13 ⟨hr13, hu13⟩ => ?_
  have hM13 : Mem w [] w13 [[⟨b3, 5, [.int .u8 97, .int .u8 97, .int .u8 98]⟩], rs6, rs8, [⟨b10, 5, [.int .u8 97, .int .u8 97, .int .u8 98]⟩]] := hM12.pure hu13
  obtain rfl : v13 = .bool true := hr13.trans (by simp)
  clear hr13
  refine stp (v := .bool true) (o_pickT rfl rfl) ?_
  refine stp (v := .bool true) (o_mv rfl) ?_
  refine h9 _ _ ?_
  clear h9
  refine ⟨(.bool true), rfl, ?_⟩
  exact ⟨by first | rfl | simp, hM13.upd⟩

/-- winnowlaw4.HuffRound -/
theorem HuffRound_ok (x : Value) (t : List UInt8) (y : Value) (b : List UInt8) (n : Int) (hn : inK .i64 n) (w : World) (hx : RdE byteV w x t) (hl : t.length ≤ 140737488351232) (hy : RdE byteV w y b) (hlb : b.length ≤ 140737488351232) : Calls Try.prog 9 [x, y, .int .i64 n].toArray w (Rt fun r w' => r = .bool true ∧ Upd [] w w') := by
  have hM0 : Mem w [] w [] := Mem.nil w []
  simp only [inK] at hn
  refine calls_vc mixed Try.func9 rfl C9 (by simp [Try.ntmps9]) ?_
  refine seq fun K1 h1 => ?_
  refine stp (v := .bool false) (o_mv rfl) ?_
  refine h1 _ _ ?_
  clear h1
  refine seq fun K2 h2 => ?_
  refine seq fun K3 h3 => ?_
  refine stp (v := x) (o_mv rfl) ?_
  refine stp (v := .int .i64 (t.length : Nat)) (o_lenR (hx.upd hM0.upd) rfl rfl) ?_
  refine stp (v := .bool (decide (((t.length : Nat) : Int) ≤ 65536))) (o_bin rfl rfl rfl) ?_
  refine h3 _ _ ?_
  clear h3
  refine cndP rfl (fun c4 => ?_) (fun c4 => ?_)
  ·
    refine seq fun K5 h5 => ?_
    refine stp (v := x) (o_mv rfl) ?_
    refine m_call (Encode_ok _ t w (hx.upd hM0.upd) (by first | omega | decide)) rfl fun v6 w6 ⟨y6, rs6, hr6, hs6, hm6⟩ => ?_
    have hM6 : Mem w [] w6 [rs6] := hM0.add hm6
    rw [encR_ok (by first | omega | decide)] at hr6 hs6
    dsimp only at hr6 hs6
    subst hr6
    have hel6 := encF_len (t := t) (by first | omega | decide)
    refine stp (v := .tuple [y6, .int .i64 0].toArray) (o_mv rfl) ?_
    refine stp (v := y6) (o_ext rfl rfl) ?_
    refine stp (v := .int .i64 0) (o_ext rfl rfl) ?_
    refine stp (v := y6) (o_mv rfl) ?_
    refine stp (v := .int .i64 0) (o_mv rfl) ?_
    refine h5 _ _ ?_
    clear h5
    refine seq fun K7 h7 => ?_
    refine stp (v := y6) (o_mv rfl) ?_
    refine stp (v := x) (o_mv rfl) ?_
    refine stp (v := .int .i64 (t.length : Nat)) (o_lenR (hx.upd hM6.upd) rfl rfl) ?_
    refine m_call (Decode_ok _ (encF t) (t.length : Nat) w6 (hs6.rd hM6 (i := 0) rfl) (by omega) (by simp only [inK]; omega)) rfl fun v8 w8 ⟨y8, rs8, hr8, hs8, hm8⟩ => ?_
    have hM8 : Mem w [] w8 [rs6, rs8] := hM6.add hm8
    rw [huff_back (by omega)] at hr8 hs8
    dsimp only at hr8 hs8
    subst hr8
    refine stp (v := .tuple [y8, .int .i64 0].toArray) (o_mv rfl) ?_
    refine stp (v := y8) (o_ext rfl rfl) ?_
    refine stp (v := .int .i64 0) (o_ext rfl rfl) ?_
    refine stp (v := y8) (o_mv rfl) ?_
    refine stp (v := .int .i64 0) (o_mv rfl) ?_
    refine h7 _ _ ?_
    clear h7
    refine seq fun K9 h9 => ?_
    refine stp (v := .int .i64 0) (o_mv rfl) ?_
    refine stp (v := .bool false) (o_bin rfl rfl v_neF) ?_
    refine stp (v := .bool false) (o_mv rfl) ?_
    refine splitF rfl ?_
    refine stg rfl (v := .int .i64 0) (o_mv rfl) ?_
    refine stg rfl (v := .bool false) (o_bin rfl rfl v_neF) ?_
    refine stp (v := .bool false) (o_pickF rfl rfl) ?_
    refine stp (v := .bool false) (o_mv rfl) ?_
    refine splitF rfl ?_
    refine stg rfl (v := y8) (o_mv rfl) ?_
    refine stg rfl (v := x) (o_mv rfl) ?_
    refine gyesl rfl ?_
    refine m_call (sameS_ok _ _ t t w8 (hs8.rd hM8 (i := 1) rfl) (hx.upd hM8.upd) (by first | omega | (simp; done) | (simp; omega))) rfl fun v10 w10 ⟨hr10, hu10⟩ => ?_
    have hM10 : Mem w [] w10 [rs6, rs8] := hM8.pure hu10
    obtain rfl : v10 = .bool true := hr10.trans (by simp)
    clear hr10
    refine stg rfl (v := .bool false) (o_not rfl rfl) ?_
    refine stp (v := .bool false) (o_pickF rfl rfl) ?_
    refine h9 _ _ ?_
    clear h9
    refine cndF rfl ?_
    refine h2 _ _ ?_
    clear h2
    refine seq fun K11 h11 => ?_
    refine stp (v := y) (o_mv rfl) ?_
    refine stp (v := .int .i64 n) (o_mv rfl) ?_
    refine m_call (Decode_ok _ b n w10 (hy.upd hM10.upd) (by omega) (by simp only [inK]; omega)) rfl fun v12 w12 ⟨y12, rs12, hr12, hs12, hm12⟩ => ?_
    have hM12 : Mem w [] w12 [rs6, rs8, rs12] := hM10.add hm12
    subst hr12
    refine stp (v := .tuple [y12, .int .i64 ((huffD b n).2)].toArray) (o_mv rfl) ?_
    refine stp (v := y12) (o_ext rfl rfl) ?_
    refine stp (v := .int .i64 ((huffD b n).2)) (o_ext rfl rfl) ?_
    refine stp (v := y12) (o_mv rfl) ?_
    refine stp (v := .int .i64 ((huffD b n).2)) (o_mv rfl) ?_
    refine h11 _ _ ?_
    clear h11
    refine seq fun K13 h13 => ?_
    refine seq fun K14 h14 => ?_
    refine stp (v := .int .i64 ((huffD b n).2)) (o_mv rfl) ?_
    refine stp (v := .bool (decide (¬ ((huffD b n).2) = 0))) (o_bin rfl rfl v_neq) ?_
    refine h14 _ _ ?_
    clear h14
    refine cndP rfl (fun c15 => ?_) (fun c15 => ?_)
    ·
      refine seq fun K16 h16 => ?_
      have hbad := huffD_bad (b := b) (n := n) (by assumption)
      refine stp (v := y12) (o_mv rfl) ?_
      refine stp (v := .int .i64 (((huffD b n).1).length : Nat)) (o_lenR (hs12.rd hM12 (i := 2) rfl) rfl rfl) ?_
      refine stp (v := .bool (decide (((((huffD b n).1).length : Nat) : Int) = 0))) (o_bin rfl rfl rfl) ?_
      refine stp (v := .bool (decide (((((huffD b n).1).length : Nat) : Int) = 0))) (o_mv rfl) ?_
      refine splitP rfl (fun c17 => ?_) (fun c17 => (c17 (by omega)).elim)
      refine gyesl rfl ?_
      refine m_call (works_ok w12) rfl fun v18 w18 ⟨hr18, hu18⟩ => ?_
      have hM18 : Mem w [] w18 [rs6, rs8, rs12] := hM12.pure hu18
      subst hr18
      refine stp (v := .bool true) (o_pickT rfl rfl) ?_
      refine stp (v := .bool true) (o_mv rfl) ?_
      refine h16 _ _ ?_
      clear h16
      refine ⟨(.bool true), rfl, ?_⟩
      exact ⟨by first | rfl | simp, hM18.upd⟩
    ·
      refine h13 _ _ ?_
      clear h13
      refine seq fun K19 h19 => ?_
      have hrm := huffD_room (b := b) (n := n) (Decidable.not_not.1 (by assumption))
      refine stp (v := .int .i64 n) (o_mv rfl) ?_
      refine stp (v := .bool (decide ((0 : Int) ≤ n))) (o_bin rfl rfl rfl) ?_
      refine stp (v := .bool (decide ((0 : Int) ≤ n))) (o_mv rfl) ?_
      refine splitP rfl (fun c20 => ?_) (fun c20 => (c20 (by omega)).elim)
      refine stg rfl (v := .int .i64 n) (o_mv rfl) ?_
      refine stg rfl (v := .bool (decide (n ≤ 65536))) (o_bin rfl rfl rfl) ?_
      refine stp (v := .bool (decide (n ≤ 65536))) (o_pickT rfl rfl) ?_
      refine stp (v := .bool (decide (n ≤ 65536))) (o_mv rfl) ?_
      refine splitP rfl (fun c21 => ?_) (fun c21 => (c21 (by omega)).elim)
      refine stg rfl (v := y12) (o_mv rfl) ?_
      refine stg rfl (v := .int .i64 (((huffD b n).1).length : Nat)) (o_lenR (hs12.rd hM12 (i := 2) rfl) rfl rfl) ?_
      refine stg rfl (v := .int .i64 n) (o_mv rfl) ?_
      refine stg rfl (v := .bool (decide (((((huffD b n).1).length : Nat) : Int) = n))) (o_bin rfl rfl rfl) ?_
      refine stp (v := .bool (decide (((((huffD b n).1).length : Nat) : Int) = n))) (o_pickT rfl rfl) ?_
      refine stp (v := .bool (decide (((((huffD b n).1).length : Nat) : Int) = n))) (o_mv rfl) ?_
      refine splitP rfl (fun c22 => ?_) (fun c22 => (c22 (by omega)).elim)
      refine stg rfl (v := .int .i64 n) (o_mv rfl) ?_
      refine stg rfl (v := y) (o_mv rfl) ?_
      refine stg rfl (v := .int .i64 (b.length : Nat)) (o_lenR (hy.upd hM12.upd) rfl rfl) ?_
      refine stg rfl (v := .int .i64 (8 * (b.length : Nat))) (o_bin rfl rfl (v_mul64 (by constructor <;> omega))) ?_
      refine stg rfl (v := .bool (decide (n ≤ (8 * (b.length : Nat))))) (o_bin rfl rfl rfl) ?_
      refine stp (v := .bool (decide (n ≤ (8 * (b.length : Nat))))) (o_pickT rfl rfl) ?_
      refine stp (v := .bool (decide (n ≤ (8 * (b.length : Nat))))) (o_mv rfl) ?_
      refine splitP rfl (fun c23 => ?_) (fun c23 => (c23 (by omega)).elim)
      refine gyesl rfl ?_
      refine m_call (works_ok w12) rfl fun v24 w24 ⟨hr24, hu24⟩ => ?_
      have hM24 : Mem w [] w24 [rs6, rs8, rs12] := hM12.pure hu24
      subst hr24
      refine stp (v := .bool true) (o_pickT rfl rfl) ?_
      refine stp (v := .bool true) (o_mv rfl) ?_
      refine h19 _ _ ?_
      clear h19
      refine ⟨(.bool true), rfl, ?_⟩
      exact ⟨by first | rfl | simp, hM24.upd⟩
  ·
    refine h2 _ _ ?_
    clear h2
    refine seq fun K25 h25 => ?_
    refine stp (v := y) (o_mv rfl) ?_
    refine stp (v := .int .i64 n) (o_mv rfl) ?_
    refine m_call (Decode_ok _ b n w (hy.upd hM0.upd) (by omega) (by simp only [inK]; omega)) rfl fun v26 w26 ⟨y26, rs26, hr26, hs26, hm26⟩ => ?_
    have hM26 : Mem w [] w26 [rs26] := hM0.add hm26
    subst hr26
    refine stp (v := .tuple [y26, .int .i64 ((huffD b n).2)].toArray) (o_mv rfl) ?_
    refine stp (v := y26) (o_ext rfl rfl) ?_
    refine stp (v := .int .i64 ((huffD b n).2)) (o_ext rfl rfl) ?_
    refine stp (v := y26) (o_mv rfl) ?_
    refine stp (v := .int .i64 ((huffD b n).2)) (o_mv rfl) ?_
    refine h25 _ _ ?_
    clear h25
    refine seq fun K27 h27 => ?_
    refine seq fun K28 h28 => ?_
    refine stp (v := .int .i64 ((huffD b n).2)) (o_mv rfl) ?_
    refine stp (v := .bool (decide (¬ ((huffD b n).2) = 0))) (o_bin rfl rfl v_neq) ?_
    refine h28 _ _ ?_
    clear h28
    refine cndP rfl (fun c29 => ?_) (fun c29 => ?_)
    ·
      refine seq fun K30 h30 => ?_
      have hbad := huffD_bad (b := b) (n := n) (by assumption)
      refine stp (v := y26) (o_mv rfl) ?_
      refine stp (v := .int .i64 (((huffD b n).1).length : Nat)) (o_lenR (hs26.rd hM26 (i := 0) rfl) rfl rfl) ?_
      refine stp (v := .bool (decide (((((huffD b n).1).length : Nat) : Int) = 0))) (o_bin rfl rfl rfl) ?_
      refine stp (v := .bool (decide (((((huffD b n).1).length : Nat) : Int) = 0))) (o_mv rfl) ?_
      refine splitP rfl (fun c31 => ?_) (fun c31 => (c31 (by omega)).elim)
      refine gyesl rfl ?_
      refine m_call (works_ok w26) rfl fun v32 w32 ⟨hr32, hu32⟩ => ?_
      have hM32 : Mem w [] w32 [rs26] := hM26.pure hu32
      subst hr32
      refine stp (v := .bool true) (o_pickT rfl rfl) ?_
      refine stp (v := .bool true) (o_mv rfl) ?_
      refine h30 _ _ ?_
      clear h30
      refine ⟨(.bool true), rfl, ?_⟩
      exact ⟨by first | rfl | simp, hM32.upd⟩
    ·
      refine h27 _ _ ?_
      clear h27
      refine seq fun K33 h33 => ?_
      have hrm := huffD_room (b := b) (n := n) (Decidable.not_not.1 (by assumption))
      refine stp (v := .int .i64 n) (o_mv rfl) ?_
      refine stp (v := .bool (decide ((0 : Int) ≤ n))) (o_bin rfl rfl rfl) ?_
      refine stp (v := .bool (decide ((0 : Int) ≤ n))) (o_mv rfl) ?_
      refine splitP rfl (fun c34 => ?_) (fun c34 => (c34 (by omega)).elim)
      refine stg rfl (v := .int .i64 n) (o_mv rfl) ?_
      refine stg rfl (v := .bool (decide (n ≤ 65536))) (o_bin rfl rfl rfl) ?_
      refine stp (v := .bool (decide (n ≤ 65536))) (o_pickT rfl rfl) ?_
      refine stp (v := .bool (decide (n ≤ 65536))) (o_mv rfl) ?_
      refine splitP rfl (fun c35 => ?_) (fun c35 => (c35 (by omega)).elim)
      refine stg rfl (v := y26) (o_mv rfl) ?_
      refine stg rfl (v := .int .i64 (((huffD b n).1).length : Nat)) (o_lenR (hs26.rd hM26 (i := 0) rfl) rfl rfl) ?_
      refine stg rfl (v := .int .i64 n) (o_mv rfl) ?_
      refine stg rfl (v := .bool (decide (((((huffD b n).1).length : Nat) : Int) = n))) (o_bin rfl rfl rfl) ?_
      refine stp (v := .bool (decide (((((huffD b n).1).length : Nat) : Int) = n))) (o_pickT rfl rfl) ?_
      refine stp (v := .bool (decide (((((huffD b n).1).length : Nat) : Int) = n))) (o_mv rfl) ?_
      refine splitP rfl (fun c36 => ?_) (fun c36 => (c36 (by omega)).elim)
      refine stg rfl (v := .int .i64 n) (o_mv rfl) ?_
      refine stg rfl (v := y) (o_mv rfl) ?_
      refine stg rfl (v := .int .i64 (b.length : Nat)) (o_lenR (hy.upd hM26.upd) rfl rfl) ?_
      refine stg rfl (v := .int .i64 (8 * (b.length : Nat))) (o_bin rfl rfl (v_mul64 (by constructor <;> omega))) ?_
      refine stg rfl (v := .bool (decide (n ≤ (8 * (b.length : Nat))))) (o_bin rfl rfl rfl) ?_
      refine stp (v := .bool (decide (n ≤ (8 * (b.length : Nat))))) (o_pickT rfl rfl) ?_
      refine stp (v := .bool (decide (n ≤ (8 * (b.length : Nat))))) (o_mv rfl) ?_
      refine splitP rfl (fun c37 => ?_) (fun c37 => (c37 (by omega)).elim)
      refine gyesl rfl ?_
      refine m_call (works_ok w26) rfl fun v38 w38 ⟨hr38, hu38⟩ => ?_
      have hM38 : Mem w [] w38 [rs26] := hM26.pure hu38
      subst hr38
      refine stp (v := .bool true) (o_pickT rfl rfl) ?_
      refine stp (v := .bool true) (o_mv rfl) ?_
      refine h33 _ _ ?_
      clear h33
      refine ⟨(.bool true), rfl, ?_⟩
      exact ⟨by first | rfl | simp, hM38.upd⟩
