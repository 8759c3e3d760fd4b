/- Tokens: Expand and Write, the program's and the reference's: the walks. -/
import Derived.Test.YteanplpnhlgjeaaT1
namespace Go.Proofs.Yteanplpnhlgjeaa.E
open Go

/-- lz.none -/
theorem none_ok (t : Tk) (w : World) : Calls Try.prog 45 [.agg (tokC t).toArray].toArray w (Rt fun r w' => r = .bool (decide (noneT t.p)) ∧ Upd [] w w') := by
  have hM0 : Mem w [] w [] := Mem.nil w []
  refine calls_vc mixed Try.func45 rfl C45 (by simp [Try.ntmps45]) ?_
  refine seq fun K1 h1 => ?_
  refine m_bx (v := .agg ([t.lit, .int .i64 t.d, .int .i64 t.n] : List Value).toArray) hM0 rfl rfl fun b2 w3 (hM3 : Mem w [] w3 [[⟨b2, 31, [t.lit, .int .i64 t.d, .int .i64 t.n]⟩]]) => ?_
  refine stp (v := .bool false) (o_mv rfl) ?_
  refine h1 _ _ ?_
  clear h1
  refine seq fun K4 h4 => ?_
  refine stp (v := .pointer (some ⟨b2, 1, none⟩)) (o_fa rfl rfl) ?_
  refine m_ld (v := .int .i64 t.d) hM3 (i := 0) (j := 0) rfl rfl rfl rfl ?_
  refine stp (v := .bool (decide (t.d = 0))) (o_bin rfl rfl rfl) ?_
  refine stp (v := .bool (decide (t.d = 0))) (o_mv rfl) ?_
  refine splitP rfl (fun c5 => ?_) (fun c5 => ?_)
  ·
    refine stg rfl (v := .pointer (some ⟨b2, 2, none⟩)) (o_fa rfl rfl) ?_
    refine gyesl rfl ?_
    refine m_ld (v := .int .i64 t.n) hM3 (i := 0) (j := 0) rfl rfl rfl rfl ?_
    refine stg rfl (v := .bool (decide (t.n = 0))) (o_bin rfl rfl rfl) ?_
    refine stp (v := .bool (decide (t.n = 0))) (o_pickT rfl rfl) ?_
    refine stp (v := .bool (decide (t.n = 0))) (o_mv rfl) ?_
    refine h4 _ _ ?_
    clear h4
    refine ⟨(.bool (decide (t.n = 0))), rfl, ?_⟩
    first | exact ⟨bool_no (by rw [noneK]; omega), hM3.upd⟩ | exact ⟨bool_iff (by rw [noneK]; omega), hM3.upd⟩
  ·
    refine gno rfl (by simp) ?_
    refine gnol rfl (by simp) ?_
    refine gno rfl (by simp) ?_
    refine stp (v := .bool false) (o_pickF rfl rfl) ?_
    refine stp (v := .bool false) (o_mv rfl) ?_
    refine h4 _ _ ?_
    clear h4
    refine ⟨(.bool false), rfl, ?_⟩
    first | exact ⟨bool_no (by rw [noneK]; omega), hM3.upd⟩ | exact ⟨bool_iff (by rw [noneK]; omega), hM3.upd⟩

/-- lz.right -/
theorem right_ok (t : Tk) (m : Int) (last : Bool) (w : World) (ht : RdE byteV w t.lit t.bs) (hm : 0 ≤ m ∧ m ≤ 9223372036854775807) : Calls Try.prog 34 [.agg (tokC t).toArray, .int .i64 m, .bool last].toArray w (Rt fun r w' => r = .bool (decide (okT t.p m last)) ∧ Upd [] w w') := by
  have hM0 : Mem w [] w [] := Mem.nil w []
  refine calls_vc mixed Try.func34 rfl C34 (by simp [Try.ntmps34]) ?_
  refine seq fun K1 h1 => ?_
  refine m_bx (v := .agg ([t.lit, .int .i64 ((t).d), .int .i64 ((t).n)] : List Value).toArray) hM0 rfl rfl fun b2 w3 (hM3 : Mem w [] w3 [[⟨b2, 31, [t.lit, .int .i64 ((t).d), .int .i64 ((t).n)]⟩]]) => ?_
  refine stp (v := .bool false) (o_mv rfl) ?_
  refine h1 _ _ ?_
  clear h1
  refine seq fun K4 h4 => ?_
  refine seq fun K5 h5 => ?_
  refine m_ldA (l := [t.lit, .int .i64 ((t).d), .int .i64 ((t).n)]) hM3 (i := 0) (j := 0) rfl rfl rfl rfl rfl ?_
  refine m_call (none_ok t w3) rfl fun v6 w6 ⟨hr6, hu6⟩ => ?_
  have hM6 : Mem w [] w6 [[⟨b2, 31, [t.lit, .int .i64 ((t).d), .int .i64 ((t).n)]⟩]] := hM3.pure hu6
  subst hr6
  refine h5 _ _ ?_
  clear h5
  refine cndP rfl (fun c7 => ?_) (fun c7 => ?_)
  ·
    refine seq fun K8 h8 => ?_
    refine stp (v := .bool last) (o_mv rfl) ?_
    refine stp (v := .bool last) (o_mv rfl) ?_
    refine split rfl (fun c9 => ?_) (fun c9 => ?_)
    ·
      refine stg rfl (v := .pointer (some ⟨b2, 0, none⟩)) (o_fa rfl rfl) ?_
      refine gyesl rfl ?_
      refine m_ld (v := t.lit) hM6 (i := 0) (j := 0) rfl rfl rfl rfl ?_
      refine stg rfl (v := .int .i64 (t.bs.length : Nat)) (o_lenR (ht.upd hM6.upd) rfl rfl) ?_
      refine stg rfl (v := .bool (decide ((0 : Int) < ((t.bs.length : Nat) : Int)))) (o_bin rfl rfl rfl) ?_
      refine stp (v := .bool (decide ((0 : Int) < ((t.bs.length : Nat) : Int)))) (o_pickT rfl rfl) ?_
      refine stp (v := .bool (decide ((0 : Int) < ((t.bs.length : Nat) : Int)))) (o_mv rfl) ?_
      refine h8 _ _ ?_
      clear h8
      refine ⟨(.bool (decide ((0 : Int) < ((t.bs.length : Nat) : Int)))), rfl, ?_⟩
      first | (exfalso; omega) | exact ⟨bool_no (by rw [okK_none (by first | assumption | (rw [noneK]; omega))]; intro h; exact absurd h.1 (by simp [*])), hM6.upd⟩ | exact ⟨bool_iff (by rw [okK_none (by first | assumption | (rw [noneK]; omega))]; exact ⟨fun h => ⟨by assumption, by omega⟩, fun h => by have := h.2; omega⟩), hM6.upd⟩ | exact ⟨bool_no (by rw [okK_some (by first | assumption | (rw [noneK]; omega))]; omega), hM6.upd⟩ | exact ⟨bool_iff (by rw [okK_some (by first | assumption | (rw [noneK]; omega))]; omega), hM6.upd⟩
    ·
      refine gno rfl (by simp) ?_
      refine gnol rfl (by simp) ?_
      refine gno rfl (by simp) ?_
      refine gno rfl (by simp) ?_
      refine stp (v := .bool false) (o_pickF rfl rfl) ?_
      refine stp (v := .bool false) (o_mv rfl) ?_
      refine h8 _ _ ?_
      clear h8
      refine ⟨(.bool false), rfl, ?_⟩
      first | (exfalso; omega) | exact ⟨bool_no (by rw [okK_none (by first | assumption | (rw [noneK]; omega))]; intro h; exact absurd h.1 (by simp [*])), hM6.upd⟩ | exact ⟨bool_iff (by rw [okK_none (by first | assumption | (rw [noneK]; omega))]; exact ⟨fun h => ⟨by assumption, by omega⟩, fun h => by have := h.2; omega⟩), hM6.upd⟩ | exact ⟨bool_no (by rw [okK_some (by first | assumption | (rw [noneK]; omega))]; omega), hM6.upd⟩ | exact ⟨bool_iff (by rw [okK_some (by first | assumption | (rw [noneK]; omega))]; omega), hM6.upd⟩
  ·
    refine h4 _ _ ?_
    clear h4
    refine seq fun K10 h10 => ?_
    refine stp (v := .pointer (some ⟨b2, 2, none⟩)) (o_fa rfl rfl) ?_
    refine m_ld (v := .int .i64 ((t).n)) hM6 (i := 0) (j := 0) rfl rfl rfl rfl ?_
    refine stp (v := .bool (decide ((4 : Int) ≤ ((t).n)))) (o_bin rfl rfl rfl) ?_
    refine stp (v := .bool (decide ((4 : Int) ≤ ((t).n)))) (o_mv rfl) ?_
    refine splitP rfl (fun c11 => ?_) (fun c11 => ?_)
    ·
      refine stg rfl (v := .pointer (some ⟨b2, 2, none⟩)) (o_fa rfl rfl) ?_
      refine gyesl rfl ?_
      refine m_ld (v := .int .i64 ((t).n)) hM6 (i := 0) (j := 0) rfl rfl rfl rfl ?_
      refine stg rfl (v := .bool (decide (((t).n) ≤ 259))) (o_bin rfl rfl rfl) ?_
      refine stp (v := .bool (decide (((t).n) ≤ 259))) (o_pickT rfl rfl) ?_
      refine stp (v := .bool (decide (((t).n) ≤ 259))) (o_mv rfl) ?_
      refine splitP rfl (fun c12 => ?_) (fun c12 => ?_)
      ·
        refine stg rfl (v := .pointer (some ⟨b2, 1, none⟩)) (o_fa rfl rfl) ?_
        refine gyesl rfl ?_
        refine m_ld (v := .int .i64 ((t).d)) hM6 (i := 0) (j := 0) rfl rfl rfl rfl ?_
        refine stg rfl (v := .bool (decide ((1 : Int) ≤ ((t).d)))) (o_bin rfl rfl rfl) ?_
        refine stp (v := .bool (decide ((1 : Int) ≤ ((t).d)))) (o_pickT rfl rfl) ?_
        refine stp (v := .bool (decide ((1 : Int) ≤ ((t).d)))) (o_mv rfl) ?_
        refine splitP rfl (fun c13 => ?_) (fun c13 => ?_)
        ·
          refine stg rfl (v := .pointer (some ⟨b2, 1, none⟩)) (o_fa rfl rfl) ?_
          refine gyesl rfl ?_
          refine m_ld (v := .int .i64 ((t).d)) hM6 (i := 0) (j := 0) rfl rfl rfl rfl ?_
          refine stg rfl (v := .int .i64 m) (o_mv rfl) ?_
          refine stg rfl (v := .int .i64 (min (32768 : Int) (m : Int))) (o_mm rfl rfl rfl) ?_
          refine stg rfl (v := .bool (decide (((t).d) ≤ (min (32768 : Int) (m : Int))))) (o_bin rfl rfl rfl) ?_
          refine stp (v := .bool (decide (((t).d) ≤ (min (32768 : Int) (m : Int))))) (o_pickT rfl rfl) ?_
          refine stp (v := .bool (decide (((t).d) ≤ (min (32768 : Int) (m : Int))))) (o_mv rfl) ?_
          refine h10 _ _ ?_
          clear h10
          refine ⟨(.bool (decide (((t).d) ≤ (min (32768 : Int) (m : Int))))), rfl, ?_⟩
          first | (exfalso; omega) | exact ⟨bool_no (by rw [okK_none (by first | assumption | (rw [noneK]; omega))]; intro h; exact absurd h.1 (by simp [*])), hM6.upd⟩ | exact ⟨bool_iff (by rw [okK_none (by first | assumption | (rw [noneK]; omega))]; exact ⟨fun h => ⟨by assumption, by omega⟩, fun h => by have := h.2; omega⟩), hM6.upd⟩ | exact ⟨bool_no (by rw [okK_some (by first | assumption | (rw [noneK]; omega))]; omega), hM6.upd⟩ | exact ⟨bool_iff (by rw [okK_some (by first | assumption | (rw [noneK]; omega))]; omega), hM6.upd⟩
        ·
          refine gno rfl (by simp) ?_
          refine gnol rfl (by simp) ?_
          refine gno rfl (by simp) ?_
          refine gno rfl (by simp) ?_
          refine gno rfl (by simp) ?_
          refine stp (v := .bool false) (o_pickF rfl rfl) ?_
          refine stp (v := .bool false) (o_mv rfl) ?_
          refine h10 _ _ ?_
          clear h10
          refine ⟨(.bool false), rfl, ?_⟩
          first | (exfalso; omega) | exact ⟨bool_no (by rw [okK_none (by first | assumption | (rw [noneK]; omega))]; intro h; exact absurd h.1 (by simp [*])), hM6.upd⟩ | exact ⟨bool_iff (by rw [okK_none (by first | assumption | (rw [noneK]; omega))]; exact ⟨fun h => ⟨by assumption, by omega⟩, fun h => by have := h.2; omega⟩), hM6.upd⟩ | exact ⟨bool_no (by rw [okK_some (by first | assumption | (rw [noneK]; omega))]; omega), hM6.upd⟩ | exact ⟨bool_iff (by rw [okK_some (by first | assumption | (rw [noneK]; omega))]; omega), hM6.upd⟩
      ·
        refine gno rfl (by simp) ?_
        refine gnol rfl (by simp) ?_
        refine gno rfl (by simp) ?_
        refine stp (v := .bool false) (o_pickF rfl rfl) ?_
        refine stp (v := .bool false) (o_mv rfl) ?_
        refine splitF rfl ?_
        refine gno rfl (by simp) ?_
        refine gnol rfl (by simp) ?_
        refine gno rfl (by simp) ?_
        refine gno rfl (by simp) ?_
        refine gno rfl (by simp) ?_
        refine stp (v := .bool false) (o_pickF rfl rfl) ?_
        refine stp (v := .bool false) (o_mv rfl) ?_
        refine h10 _ _ ?_
        clear h10
        refine ⟨(.bool false), rfl, ?_⟩
        first | (exfalso; omega) | exact ⟨bool_no (by rw [okK_none (by first | assumption | (rw [noneK]; omega))]; intro h; exact absurd h.1 (by simp [*])), hM6.upd⟩ | exact ⟨bool_iff (by rw [okK_none (by first | assumption | (rw [noneK]; omega))]; exact ⟨fun h => ⟨by assumption, by omega⟩, fun h => by have := h.2; omega⟩), hM6.upd⟩ | exact ⟨bool_no (by rw [okK_some (by first | assumption | (rw [noneK]; omega))]; omega), hM6.upd⟩ | exact ⟨bool_iff (by rw [okK_some (by first | assumption | (rw [noneK]; omega))]; omega), hM6.upd⟩
    ·
      refine gno rfl (by simp) ?_
      refine gnol rfl (by simp) ?_
      refine gno rfl (by simp) ?_
      refine stp (v := .bool false) (o_pickF rfl rfl) ?_
      refine stp (v := .bool false) (o_mv rfl) ?_
      refine splitF rfl ?_
      refine gno rfl (by simp) ?_
      refine gnol rfl (by simp) ?_
      refine gno rfl (by simp) ?_
      refine stp (v := .bool false) (o_pickF rfl rfl) ?_
      refine stp (v := .bool false) (o_mv rfl) ?_
      refine splitF rfl ?_
      refine gno rfl (by simp) ?_
      refine gnol rfl (by simp) ?_
      refine gno rfl (by simp) ?_
      refine gno rfl (by simp) ?_
      refine gno rfl (by simp) ?_
      refine stp (v := .bool false) (o_pickF rfl rfl) ?_
      refine stp (v := .bool false) (o_mv rfl) ?_
      refine h10 _ _ ?_
      clear h10
      refine ⟨(.bool false), rfl, ?_⟩
      first | (exfalso; omega) | exact ⟨bool_no (by rw [okK_none (by first | assumption | (rw [noneK]; omega))]; intro h; exact absurd h.1 (by simp [*])), hM6.upd⟩ | exact ⟨bool_iff (by rw [okK_none (by first | assumption | (rw [noneK]; omega))]; exact ⟨fun h => ⟨by assumption, by omega⟩, fun h => by have := h.2; omega⟩), hM6.upd⟩ | exact ⟨bool_no (by rw [okK_some (by first | assumption | (rw [noneK]; omega))]; omega), hM6.upd⟩ | exact ⟨bool_iff (by rw [okK_some (by first | assumption | (rw [noneK]; omega))]; omega), hM6.upd⟩

/-- winnowref3.fits -/
theorem fits_ok (t : Tk) (m : Nat) (last : Bool) (w : World) (ht : RdE byteV w t.lit t.bs) (hm : m ≤ 140737488355328) (hl : t.bs.length ≤ 140737488355328) : Calls Try.prog 32 [.agg (tokC t).toArray, .int .i64 ((m : Nat) : Int), .bool last].toArray w (Rt fun r w' => r = .bool (decide (okT t.p ((m + t.bs.length : Nat) : Int) last)) ∧ Upd [] w w') := by
  have hM0 : Mem w [] w [] := Mem.nil w []
  refine calls_vc mixed Try.func32 rfl C32 (by simp [Try.ntmps32]) ?_
  refine seq fun K1 h1 => ?_
  refine m_bx (v := .agg ([t.lit, .int .i64 ((t).d), .int .i64 ((t).n)] : List Value).toArray) hM0 rfl rfl fun b2 w3 (hM3 : Mem w [] w3 [[⟨b2, 31, [t.lit, .int .i64 ((t).d), .int .i64 ((t).n)]⟩]]) => ?_
  refine stp (v := .bool false) (o_mv rfl) ?_
  refine h1 _ _ ?_
  clear h1
  refine seq fun K4 h4 => ?_
  refine seq fun K5 h5 => ?_
  refine stp (v := .pointer (some ⟨b2, 1, none⟩)) (o_fa rfl rfl) ?_
  refine m_ld (v := .int .i64 ((t).d)) hM3 (i := 0) (j := 0) rfl rfl rfl rfl ?_
  refine stp (v := .bool (decide (((t).d) = 0))) (o_bin rfl rfl rfl) ?_
  refine stp (v := .bool (decide (((t).d) = 0))) (o_mv rfl) ?_
  refine splitP rfl (fun c6 => ?_) (fun c6 => ?_)
  ·
    refine stg rfl (v := .pointer (some ⟨b2, 2, none⟩)) (o_fa rfl rfl) ?_
    refine gyesl rfl ?_
    refine m_ld (v := .int .i64 ((t).n)) hM3 (i := 0) (j := 0) rfl rfl rfl rfl ?_
    refine stg rfl (v := .bool (decide (((t).n) = 0))) (o_bin rfl rfl rfl) ?_
    refine stp (v := .bool (decide (((t).n) = 0))) (o_pickT rfl rfl) ?_
    refine h5 _ _ ?_
    clear h5
    refine cndP rfl (fun c7 => ?_) (fun c7 => ?_)
    ·
      refine seq fun K8 h8 => ?_
      refine stp (v := .bool last) (o_mv rfl) ?_
      refine stp (v := .bool last) (o_mv rfl) ?_
      refine split rfl (fun c9 => ?_) (fun c9 => ?_)
      ·
        refine stg rfl (v := .pointer (some ⟨b2, 0, none⟩)) (o_fa rfl rfl) ?_
        refine gyesl rfl ?_
        refine m_ld (v := t.lit) hM3 (i := 0) (j := 0) rfl rfl rfl rfl ?_
        refine stg rfl (v := .int .i64 (t.bs.length : Nat)) (o_lenR (ht.upd hM3.upd) rfl rfl) ?_
        refine stg rfl (v := .bool (decide ((0 : Int) < ((t.bs.length : Nat) : Int)))) (o_bin rfl rfl rfl) ?_
        refine stp (v := .bool (decide ((0 : Int) < ((t.bs.length : Nat) : Int)))) (o_pickT rfl rfl) ?_
        refine stp (v := .bool (decide ((0 : Int) < ((t.bs.length : Nat) : Int)))) (o_mv rfl) ?_
        refine h8 _ _ ?_
        clear h8
        refine ⟨(.bool (decide ((0 : Int) < ((t.bs.length : Nat) : Int)))), rfl, ?_⟩
        first | (exfalso; omega) | exact ⟨bool_no (by rw [okK_none (by first | assumption | (rw [noneK]; omega))]; intro h; exact absurd h.1 (by simp [*])), hM3.upd⟩ | exact ⟨bool_iff (by rw [okK_none (by first | assumption | (rw [noneK]; omega))]; exact ⟨fun h => ⟨by assumption, by omega⟩, fun h => by have := h.2; omega⟩), hM3.upd⟩ | exact ⟨bool_no (by rw [okK_some (by first | assumption | (rw [noneK]; omega))]; omega), hM3.upd⟩ | exact ⟨bool_iff (by rw [okK_some (by first | assumption | (rw [noneK]; omega))]; omega), hM3.upd⟩
      ·
        refine gno rfl (by simp) ?_
        refine gnol rfl (by simp) ?_
        refine gno rfl (by simp) ?_
        refine gno rfl (by simp) ?_
        refine stp (v := .bool false) (o_pickF rfl rfl) ?_
        refine stp (v := .bool false) (o_mv rfl) ?_
        refine h8 _ _ ?_
        clear h8
        refine ⟨(.bool false), rfl, ?_⟩
        first | (exfalso; omega) | exact ⟨bool_no (by rw [okK_none (by first | assumption | (rw [noneK]; omega))]; intro h; exact absurd h.1 (by simp [*])), hM3.upd⟩ | exact ⟨bool_iff (by rw [okK_none (by first | assumption | (rw [noneK]; omega))]; exact ⟨fun h => ⟨by assumption, by omega⟩, fun h => by have := h.2; omega⟩), hM3.upd⟩ | exact ⟨bool_no (by rw [okK_some (by first | assumption | (rw [noneK]; omega))]; omega), hM3.upd⟩ | exact ⟨bool_iff (by rw [okK_some (by first | assumption | (rw [noneK]; omega))]; omega), hM3.upd⟩
    ·
      refine h4 _ _ ?_
      clear h4
      refine seq fun K10 h10 => ?_
      refine stp (v := .int .i64 (m : Nat)) (o_mv rfl) ?_
      refine stp (v := .pointer (some ⟨b2, 0, none⟩)) (o_fa rfl rfl) ?_
      refine m_ld (v := t.lit) hM3 (i := 0) (j := 0) rfl rfl rfl rfl ?_
      refine stp (v := .int .i64 (t.bs.length : Nat)) (o_lenR (ht.upd hM3.upd) rfl rfl) ?_
      refine stp (v := .int .i64 ((m : Nat) + (t.bs.length : Nat))) (o_bin rfl rfl (v_add64 (by constructor <;> omega))) ?_
      refine stp (v := .int .i64 ((m : Nat) + (t.bs.length : Nat))) (o_mv rfl) ?_
      refine h10 _ _ ?_
      clear h10
      refine seq fun K11 h11 => ?_
      refine stp (v := .pointer (some ⟨b2, 2, none⟩)) (o_fa rfl rfl) ?_
      refine m_ld (v := .int .i64 ((t).n)) hM3 (i := 0) (j := 0) rfl rfl rfl rfl ?_
      refine stp (v := .bool (decide ((4 : Int) ≤ ((t).n)))) (o_bin rfl rfl rfl) ?_
      refine stp (v := .bool (decide ((4 : Int) ≤ ((t).n)))) (o_mv rfl) ?_
      refine splitP rfl (fun c12 => ?_) (fun c12 => ?_)
      ·
        refine stg rfl (v := .pointer (some ⟨b2, 2, none⟩)) (o_fa rfl rfl) ?_
        refine gyesl rfl ?_
        refine m_ld (v := .int .i64 ((t).n)) hM3 (i := 0) (j := 0) rfl rfl rfl rfl ?_
        refine stg rfl (v := .bool (decide (((t).n) ≤ 259))) (o_bin rfl rfl rfl) ?_
        refine stp (v := .bool (decide (((t).n) ≤ 259))) (o_pickT rfl rfl) ?_
        refine stp (v := .bool (decide (((t).n) ≤ 259))) (o_mv rfl) ?_
        refine splitP rfl (fun c13 => ?_) (fun c13 => ?_)
        ·
          refine stg rfl (v := .pointer (some ⟨b2, 1, none⟩)) (o_fa rfl rfl) ?_
          refine gyesl rfl ?_
          refine m_ld (v := .int .i64 ((t).d)) hM3 (i := 0) (j := 0) rfl rfl rfl rfl ?_
          refine stg rfl (v := .bool (decide ((1 : Int) ≤ ((t).d)))) (o_bin rfl rfl rfl) ?_
          refine stp (v := .bool (decide ((1 : Int) ≤ ((t).d)))) (o_pickT rfl rfl) ?_
          refine stp (v := .bool (decide ((1 : Int) ≤ ((t).d)))) (o_mv rfl) ?_
          refine splitP rfl (fun c14 => ?_) (fun c14 => ?_)
          ·
            refine stg rfl (v := .pointer (some ⟨b2, 1, none⟩)) (o_fa rfl rfl) ?_
            refine gyesl rfl ?_
            refine m_ld (v := .int .i64 ((t).d)) hM3 (i := 0) (j := 0) rfl rfl rfl rfl ?_
            refine stg rfl (v := .bool (decide (((t).d) ≤ 32768))) (o_bin rfl rfl rfl) ?_
            refine stp (v := .bool (decide (((t).d) ≤ 32768))) (o_pickT rfl rfl) ?_
            refine stp (v := .bool (decide (((t).d) ≤ 32768))) (o_mv rfl) ?_
            refine splitP rfl (fun c15 => ?_) (fun c15 => ?_)
            ·
              refine stg rfl (v := .pointer (some ⟨b2, 1, none⟩)) (o_fa rfl rfl) ?_
              refine gyesl rfl ?_
              refine m_ld (v := .int .i64 ((t).d)) hM3 (i := 0) (j := 0) rfl rfl rfl rfl ?_
              refine stg rfl (v := .int .i64 ((m : Nat) + (t.bs.length : Nat))) (o_mv rfl) ?_
              refine stg rfl (v := .bool (decide (((t).d) ≤ ((m : Nat) + (t.bs.length : Nat))))) (o_bin rfl rfl rfl) ?_
              refine stp (v := .bool (decide (((t).d) ≤ ((m : Nat) + (t.bs.length : Nat))))) (o_pickT rfl rfl) ?_
              refine stp (v := .bool (decide (((t).d) ≤ ((m : Nat) + (t.bs.length : Nat))))) (o_mv rfl) ?_
              refine h11 _ _ ?_
              clear h11
              refine ⟨(.bool (decide (((t).d) ≤ ((m : Nat) + (t.bs.length : Nat))))), rfl, ?_⟩
              first | (exfalso; omega) | exact ⟨bool_no (by rw [okK_none (by first | assumption | (rw [noneK]; omega))]; intro h; exact absurd h.1 (by simp [*])), hM3.upd⟩ | exact ⟨bool_iff (by rw [okK_none (by first | assumption | (rw [noneK]; omega))]; exact ⟨fun h => ⟨by assumption, by omega⟩, fun h => by have := h.2; omega⟩), hM3.upd⟩ | exact ⟨bool_no (by rw [okK_some (by first | assumption | (rw [noneK]; omega))]; omega), hM3.upd⟩ | exact ⟨bool_iff (by rw [okK_some (by first | assumption | (rw [noneK]; omega))]; omega), hM3.upd⟩
            ·
              refine gno rfl (by simp) ?_
              refine gnol rfl (by simp) ?_
              refine gno rfl (by simp) ?_
              refine gno rfl (by simp) ?_
              refine stp (v := .bool false) (o_pickF rfl rfl) ?_
              refine stp (v := .bool false) (o_mv rfl) ?_
              refine h11 _ _ ?_
              clear h11
              refine ⟨(.bool false), rfl, ?_⟩
              first | (exfalso; omega) | exact ⟨bool_no (by rw [okK_none (by first | assumption | (rw [noneK]; omega))]; intro h; exact absurd h.1 (by simp [*])), hM3.upd⟩ | exact ⟨bool_iff (by rw [okK_none (by first | assumption | (rw [noneK]; omega))]; exact ⟨fun h => ⟨by assumption, by omega⟩, fun h => by have := h.2; omega⟩), hM3.upd⟩ | exact ⟨bool_no (by rw [okK_some (by first | assumption | (rw [noneK]; omega))]; omega), hM3.upd⟩ | exact ⟨bool_iff (by rw [okK_some (by first | assumption | (rw [noneK]; omega))]; omega), hM3.upd⟩
          ·
            refine gno rfl (by simp) ?_
            refine gnol rfl (by simp) ?_
            refine gno rfl (by simp) ?_
            refine stp (v := .bool false) (o_pickF rfl rfl) ?_
            refine stp (v := .bool false) (o_mv rfl) ?_
            refine splitF rfl ?_
            refine gno rfl (by simp) ?_
            refine gnol rfl (by simp) ?_
            refine gno rfl (by simp) ?_
            refine gno rfl (by simp) ?_
            refine stp (v := .bool false) (o_pickF rfl rfl) ?_
            refine stp (v := .bool false) (o_mv rfl) ?_
            refine h11 _ _ ?_
            clear h11
            refine ⟨(.bool false), rfl, ?_⟩
            first | (exfalso; omega) | exact ⟨bool_no (by rw [okK_none (by first | assumption | (rw [noneK]; omega))]; intro h; exact absurd h.1 (by simp [*])), hM3.upd⟩ | exact ⟨bool_iff (by rw [okK_none (by first | assumption | (rw [noneK]; omega))]; exact ⟨fun h => ⟨by assumption, by omega⟩, fun h => by have := h.2; omega⟩), hM3.upd⟩ | exact ⟨bool_no (by rw [okK_some (by first | assumption | (rw [noneK]; omega))]; omega), hM3.upd⟩ | exact ⟨bool_iff (by rw [okK_some (by first | assumption | (rw [noneK]; omega))]; omega), hM3.upd⟩
        ·
          refine gno rfl (by simp) ?_
          refine gnol rfl (by simp) ?_
          refine gno rfl (by simp) ?_
          refine stp (v := .bool false) (o_pickF rfl rfl) ?_
          refine stp (v := .bool false) (o_mv rfl) ?_
          refine splitF rfl ?_
          refine gno rfl (by simp) ?_
          refine gnol rfl (by simp) ?_
          refine gno rfl (by simp) ?_
          refine stp (v := .bool false) (o_pickF rfl rfl) ?_
          refine stp (v := .bool false) (o_mv rfl) ?_
          refine splitF rfl ?_
          refine gno rfl (by simp) ?_
          refine gnol rfl (by simp) ?_
          refine gno rfl (by simp) ?_
          refine gno rfl (by simp) ?_
          refine stp (v := .bool false) (o_pickF rfl rfl) ?_
          refine stp (v := .bool false) (o_mv rfl) ?_
          refine h11 _ _ ?_
          clear h11
          refine ⟨(.bool false), rfl, ?_⟩
          first | (exfalso; omega) | exact ⟨bool_no (by rw [okK_none (by first | assumption | (rw [noneK]; omega))]; intro h; exact absurd h.1 (by simp [*])), hM3.upd⟩ | exact ⟨bool_iff (by rw [okK_none (by first | assumption | (rw [noneK]; omega))]; exact ⟨fun h => ⟨by assumption, by omega⟩, fun h => by have := h.2; omega⟩), hM3.upd⟩ | exact ⟨bool_no (by rw [okK_some (by first | assumption | (rw [noneK]; omega))]; omega), hM3.upd⟩ | exact ⟨bool_iff (by rw [okK_some (by first | assumption | (rw [noneK]; omega))]; omega), hM3.upd⟩
      ·
        refine gno rfl (by simp) ?_
        refine gnol rfl (by simp) ?_
        refine gno rfl (by simp) ?_
        refine stp (v := .bool false) (o_pickF rfl rfl) ?_
        refine stp (v := .bool false) (o_mv rfl) ?_
        refine splitF rfl ?_
        refine gno rfl (by simp) ?_
        refine gnol rfl (by simp) ?_
        refine gno rfl (by simp) ?_
        refine stp (v := .bool false) (o_pickF rfl rfl) ?_
        refine stp (v := .bool false) (o_mv rfl) ?_
        refine splitF rfl ?_
        refine gno rfl (by simp) ?_
        refine gnol rfl (by simp) ?_
        refine gno rfl (by simp) ?_
        refine stp (v := .bool false) (o_pickF rfl rfl) ?_
        refine stp (v := .bool false) (o_mv rfl) ?_
        refine splitF rfl ?_
        refine gno rfl (by simp) ?_
        refine gnol rfl (by simp) ?_
        refine gno rfl (by simp) ?_
        refine gno rfl (by simp) ?_
        refine stp (v := .bool false) (o_pickF rfl rfl) ?_
        refine stp (v := .bool false) (o_mv rfl) ?_
        refine h11 _ _ ?_
        clear h11
        refine ⟨(.bool false), rfl, ?_⟩
        first | (exfalso; omega) | exact ⟨bool_no (by rw [okK_none (by first | assumption | (rw [noneK]; omega))]; intro h; exact absurd h.1 (by simp [*])), hM3.upd⟩ | exact ⟨bool_iff (by rw [okK_none (by first | assumption | (rw [noneK]; omega))]; exact ⟨fun h => ⟨by assumption, by omega⟩, fun h => by have := h.2; omega⟩), hM3.upd⟩ | exact ⟨bool_no (by rw [okK_some (by first | assumption | (rw [noneK]; omega))]; omega), hM3.upd⟩ | exact ⟨bool_iff (by rw [okK_some (by first | assumption | (rw [noneK]; omega))]; omega), hM3.upd⟩
  ·
    refine gno rfl (by simp) ?_
    refine gnol rfl (by simp) ?_
    refine gno rfl (by simp) ?_
    refine stp (v := .bool false) (o_pickF rfl rfl) ?_
    refine h5 _ _ ?_
    clear h5
    refine cndF rfl ?_
    refine h4 _ _ ?_
    clear h4
    refine seq fun K16 h16 => ?_
    refine stp (v := .int .i64 (m : Nat)) (o_mv rfl) ?_
    refine stp (v := .pointer (some ⟨b2, 0, none⟩)) (o_fa rfl rfl) ?_
    refine m_ld (v := t.lit) hM3 (i := 0) (j := 0) rfl rfl rfl rfl ?_
    refine stp (v := .int .i64 (t.bs.length : Nat)) (o_lenR (ht.upd hM3.upd) rfl rfl) ?_
    refine stp (v := .int .i64 ((m : Nat) + (t.bs.length : Nat))) (o_bin rfl rfl (v_add64 (by constructor <;> omega))) ?_
    refine stp (v := .int .i64 ((m : Nat) + (t.bs.length : Nat))) (o_mv rfl) ?_
    refine h16 _ _ ?_
    clear h16
    refine seq fun K17 h17 => ?_
    refine stp (v := .pointer (some ⟨b2, 2, none⟩)) (o_fa rfl rfl) ?_
    refine m_ld (v := .int .i64 ((t).n)) hM3 (i := 0) (j := 0) rfl rfl rfl rfl ?_
    refine stp (v := .bool (decide ((4 : Int) ≤ ((t).n)))) (o_bin rfl rfl rfl) ?_
    refine stp (v := .bool (decide ((4 : Int) ≤ ((t).n)))) (o_mv rfl) ?_
    refine splitP rfl (fun c18 => ?_) (fun c18 => ?_)
    ·
      refine stg rfl (v := .pointer (some ⟨b2, 2, none⟩)) (o_fa rfl rfl) ?_
      refine gyesl rfl ?_
      refine m_ld (v := .int .i64 ((t).n)) hM3 (i := 0) (j := 0) rfl rfl rfl rfl ?_
      refine stg rfl (v := .bool (decide (((t).n) ≤ 259))) (o_bin rfl rfl rfl) ?_
      refine stp (v := .bool (decide (((t).n) ≤ 259))) (o_pickT rfl rfl) ?_
      refine stp (v := .bool (decide (((t).n) ≤ 259))) (o_mv rfl) ?_
      refine splitP rfl (fun c19 => ?_) (fun c19 => ?_)
      ·
        refine stg rfl (v := .pointer (some ⟨b2, 1, none⟩)) (o_fa rfl rfl) ?_
        refine gyesl rfl ?_
        refine m_ld (v := .int .i64 ((t).d)) hM3 (i := 0) (j := 0) rfl rfl rfl rfl ?_
        refine stg rfl (v := .bool (decide ((1 : Int) ≤ ((t).d)))) (o_bin rfl rfl rfl) ?_
        refine stp (v := .bool (decide ((1 : Int) ≤ ((t).d)))) (o_pickT rfl rfl) ?_
        refine stp (v := .bool (decide ((1 : Int) ≤ ((t).d)))) (o_mv rfl) ?_
        refine splitP rfl (fun c20 => ?_) (fun c20 => ?_)
        ·
          refine stg rfl (v := .pointer (some ⟨b2, 1, none⟩)) (o_fa rfl rfl) ?_
          refine gyesl rfl ?_
          refine m_ld (v := .int .i64 ((t).d)) hM3 (i := 0) (j := 0) rfl rfl rfl rfl ?_
          refine stg rfl (v := .bool (decide (((t).d) ≤ 32768))) (o_bin rfl rfl rfl) ?_
          refine stp (v := .bool (decide (((t).d) ≤ 32768))) (o_pickT rfl rfl) ?_
          refine stp (v := .bool (decide (((t).d) ≤ 32768))) (o_mv rfl) ?_
          refine splitP rfl (fun c21 => ?_) (fun c21 => ?_)
          ·
            refine stg rfl (v := .pointer (some ⟨b2, 1, none⟩)) (o_fa rfl rfl) ?_
            refine gyesl rfl ?_
            refine m_ld (v := .int .i64 ((t).d)) hM3 (i := 0) (j := 0) rfl rfl rfl rfl ?_
            refine stg rfl (v := .int .i64 ((m : Nat) + (t.bs.length : Nat))) (o_mv rfl) ?_
            refine stg rfl (v := .bool (decide (((t).d) ≤ ((m : Nat) + (t.bs.length : Nat))))) (o_bin rfl rfl rfl) ?_
            refine stp (v := .bool (decide (((t).d) ≤ ((m : Nat) + (t.bs.length : Nat))))) (o_pickT rfl rfl) ?_
            refine stp (v := .bool (decide (((t).d) ≤ ((m : Nat) + (t.bs.length : Nat))))) (o_mv rfl) ?_
            refine h17 _ _ ?_
            clear h17
            refine ⟨(.bool (decide (((t).d) ≤ ((m : Nat) + (t.bs.length : Nat))))), rfl, ?_⟩
            first | (exfalso; omega) | exact ⟨bool_no (by rw [okK_none (by first | assumption | (rw [noneK]; omega))]; intro h; exact absurd h.1 (by simp [*])), hM3.upd⟩ | exact ⟨bool_iff (by rw [okK_none (by first | assumption | (rw [noneK]; omega))]; exact ⟨fun h => ⟨by assumption, by omega⟩, fun h => by have := h.2; omega⟩), hM3.upd⟩ | exact ⟨bool_no (by rw [okK_some (by first | assumption | (rw [noneK]; omega))]; omega), hM3.upd⟩ | exact ⟨bool_iff (by rw [okK_some (by first | assumption | (rw [noneK]; omega))]; omega), hM3.upd⟩
          ·
            refine gno rfl (by simp) ?_
            refine gnol rfl (by simp) ?_
            refine gno rfl (by simp) ?_
            refine gno rfl (by simp) ?_
            refine stp (v := .bool false) (o_pickF rfl rfl) ?_
            refine stp (v := .bool false) (o_mv rfl) ?_
            refine h17 _ _ ?_
            clear h17
            refine ⟨(.bool false), rfl, ?_⟩
            first | (exfalso; omega) | exact ⟨bool_no (by rw [okK_none (by first | assumption | (rw [noneK]; omega))]; intro h; exact absurd h.1 (by simp [*])), hM3.upd⟩ | exact ⟨bool_iff (by rw [okK_none (by first | assumption | (rw [noneK]; omega))]; exact ⟨fun h => ⟨by assumption, by omega⟩, fun h => by have := h.2; omega⟩), hM3.upd⟩ | exact ⟨bool_no (by rw [okK_some (by first | assumption | (rw [noneK]; omega))]; omega), hM3.upd⟩ | exact ⟨bool_iff (by rw [okK_some (by first | assumption | (rw [noneK]; omega))]; omega), hM3.upd⟩
        ·
          refine gno rfl (by simp) ?_
          refine gnol rfl (by simp) ?_
          refine gno rfl (by simp) ?_
          refine stp (v := .bool false) (o_pickF rfl rfl) ?_
          refine stp (v := .bool false) (o_mv rfl) ?_
          refine splitF rfl ?_
          refine gno rfl (by simp) ?_
          refine gnol rfl (by simp) ?_
          refine gno rfl (by simp) ?_
          refine gno rfl (by simp) ?_
          refine stp (v := .bool false) (o_pickF rfl rfl) ?_
          refine stp (v := .bool false) (o_mv rfl) ?_
          refine h17 _ _ ?_
          clear h17
          refine ⟨(.bool false), rfl, ?_⟩
          first | (exfalso; omega) | exact ⟨bool_no (by rw [okK_none (by first | assumption | (rw [noneK]; omega))]; intro h; exact absurd h.1 (by simp [*])), hM3.upd⟩ | exact ⟨bool_iff (by rw [okK_none (by first | assumption | (rw [noneK]; omega))]; exact ⟨fun h => ⟨by assumption, by omega⟩, fun h => by have := h.2; omega⟩), hM3.upd⟩ | exact ⟨bool_no (by rw [okK_some (by first | assumption | (rw [noneK]; omega))]; omega), hM3.upd⟩ | exact ⟨bool_iff (by rw [okK_some (by first | assumption | (rw [noneK]; omega))]; omega), hM3.upd⟩
      ·
        refine gno rfl (by simp) ?_
        refine gnol rfl (by simp) ?_
        refine gno rfl (by simp) ?_
        refine stp (v := .bool false) (o_pickF rfl rfl) ?_
        refine stp (v := .bool false) (o_mv rfl) ?_
        refine splitF rfl ?_
        refine gno rfl (by simp) ?_
        refine gnol rfl (by simp) ?_
        refine gno rfl (by simp) ?_
        refine stp (v := .bool false) (o_pickF rfl rfl) ?_
        refine stp (v := .bool false) (o_mv rfl) ?_
        refine splitF rfl ?_
        refine gno rfl (by simp) ?_
        refine gnol rfl (by simp) ?_
        refine gno rfl (by simp) ?_
        refine gno rfl (by simp) ?_
        refine stp (v := .bool false) (o_pickF rfl rfl) ?_
        refine stp (v := .bool false) (o_mv rfl) ?_
        refine h17 _ _ ?_
        clear h17
        refine ⟨(.bool false), rfl, ?_⟩
        first | (exfalso; omega) | exact ⟨bool_no (by rw [okK_none (by first | assumption | (rw [noneK]; omega))]; intro h; exact absurd h.1 (by simp [*])), hM3.upd⟩ | exact ⟨bool_iff (by rw [okK_none (by first | assumption | (rw [noneK]; omega))]; exact ⟨fun h => ⟨by assumption, by omega⟩, fun h => by have := h.2; omega⟩), hM3.upd⟩ | exact ⟨bool_no (by rw [okK_some (by first | assumption | (rw [noneK]; omega))]; omega), hM3.upd⟩ | exact ⟨bool_iff (by rw [okK_some (by first | assumption | (rw [noneK]; omega))]; omega), hM3.upd⟩
    ·
      refine gno rfl (by simp) ?_
      refine gnol rfl (by simp) ?_
      refine gno rfl (by simp) ?_
      refine stp (v := .bool false) (o_pickF rfl rfl) ?_
      refine stp (v := .bool false) (o_mv rfl) ?_
      refine splitF rfl ?_
      refine gno rfl (by simp) ?_
      refine gnol rfl (by simp) ?_
      refine gno rfl (by simp) ?_
      refine stp (v := .bool false) (o_pickF rfl rfl) ?_
      refine stp (v := .bool false) (o_mv rfl) ?_
      refine splitF rfl ?_
      refine gno rfl (by simp) ?_
      refine gnol rfl (by simp) ?_
      refine gno rfl (by simp) ?_
      refine stp (v := .bool false) (o_pickF rfl rfl) ?_
      refine stp (v := .bool false) (o_mv rfl) ?_
      refine splitF rfl ?_
      refine gno rfl (by simp) ?_
      refine gnol rfl (by simp) ?_
      refine gno rfl (by simp) ?_
      refine gno rfl (by simp) ?_
      refine stp (v := .bool false) (o_pickF rfl rfl) ?_
      refine stp (v := .bool false) (o_mv rfl) ?_
      refine h17 _ _ ?_
      clear h17
      refine ⟨(.bool false), rfl, ?_⟩
      first | (exfalso; omega) | exact ⟨bool_no (by rw [okK_none (by first | assumption | (rw [noneK]; omega))]; intro h; exact absurd h.1 (by simp [*])), hM3.upd⟩ | exact ⟨bool_iff (by rw [okK_none (by first | assumption | (rw [noneK]; omega))]; exact ⟨fun h => ⟨by assumption, by omega⟩, fun h => by have := h.2; omega⟩), hM3.upd⟩ | exact ⟨bool_no (by rw [okK_some (by first | assumption | (rw [noneK]; omega))]; omega), hM3.upd⟩ | exact ⟨bool_iff (by rw [okK_some (by first | assumption | (rw [noneK]; omega))]; omega), hM3.upd⟩

/-- lz.again -/
theorem again_ok (x : Value) (l : List UInt8) (d n : Int) (r0 : List Ent) (w : World) (hs0 : SlE byteV 5 x l r0) (hr : Res w r0) (hl : l.length ≤ 140737488355328) (hn : n ≤ 259) (hd : 0 < n → 1 ≤ d ∧ d ≤ (l.length : Nat)) : Calls Try.prog 35 [x, .int .i64 d, .int .i64 n].toArray w (Rt fun r w' => ∃ r', SlE byteV 5 r (agn l d.toNat n.toNat) r' ∧ Mem w (ids r0) w' [r']) := by
  have hM0 : Mem w (ids r0) w [r0] := Mem.start hr
  refine calls_vc mixed Try.func35 rfl C35 (by simp [Try.ntmps35]) ?_
  refine seq fun K1 h1 => ?_
  refine stp (v := .slice none 0 0) (o_mv rfl) ?_
  refine h1 _ _ ?_
  clear h1
  refine seq fun K2 h2 => ?_
  refine seq fun K3 h3 => ?_
  refine stp (v := .int .i64 n) (o_mv rfl) ?_
  refine stp (v := .int .i64 0) (o_mv rfl) ?_
  refine h3 _ _ ?_
  clear h3
  refine lp (n := fun _ _ => False) (ι := (Nat) × (Value) × (List Ent)) (fun ⟨k, y0_, r0_⟩ f w' => f 0 = y0_ ∧ f 8 = .int .i64 (k : Nat) ∧ f 1 = .int .i64 d ∧ f 7 = .int .i64 n ∧ Mem w (ids r0) w' [r0_] ∧ (k ≤ n.toNat) ∧ ((agn l d.toNat k).length = l.length + k) ∧ (SlE byteV 5 y0_ (agn l d.toNat k) r0_)) (fun ⟨k, y0_, r0_⟩ => n.toNat - k) (0, x, r0) ?_ ?_
  · exact ⟨rfl, by first | rfl | exact v_int (by omega) | exact v_int (by simp) | exact v_int (by simp; omega), by first | rfl | exact v_int (by omega) | exact v_int (by simp) | exact v_int (by simp; omega), by first | rfl | exact v_int (by omega) | exact v_int (by simp) | exact v_int (by simp; omega), hM0, by omega, agn_len _ _ _, by first | exact hs0 | simpa using hs0⟩
  · rintro ⟨k, y0_, r0_⟩ f w4 ⟨e4_0, e4_8, e4_1, e4_7, hM4, hk, hq, hy0_⟩ K5 h5
    obtain ⟨frm, rfl⟩ : ∃ frm, f = (upd (upd (upd (upd frm 0 (y0_)) 8 (.int .i64 (k : Nat))) 1 (.int .i64 d)) 7 (.int .i64 n)) := ⟨f, by rw [upd_self e4_0, upd_self e4_8, upd_self e4_1, upd_self e4_7]⟩
    clear e4_0 e4_8 e4_1 e4_7
    refine seq fun K6 h6 => ?_
    refine stp (v := .bool (decide (((k : Nat) : Int) < n))) (o_bin rfl rfl rfl) ?_
    refine h6 _ _ ?_
    clear h6
    refine seq fun K7 h7 => ?_
    refine cndP rfl (fun c8 => ?_) (fun c8 => ?_)
    ·
      refine h7 _ _ ?_
      clear h7
      refine seq fun K9 h9 => ?_
      refine stp (v := y0_) (o_mv rfl) ?_
      refine stp (v := y0_) (o_mv rfl) ?_
      refine stp (v := y0_) (o_mv rfl) ?_
      refine stp (v := .int .i64 ((agn l d.toNat k).length : Nat)) (o_lenR (hy0_.rd hM4 (i := 0) rfl) rfl rfl) ?_
      refine stp (v := .int .i64 d) (o_mv rfl) ?_
      refine stp (v := .int .i64 (((agn l d.toNat k).length : Nat) - d)) (o_bin rfl rfl (v_sub64 (by constructor <;> omega))) ?_
      refine m_idxE 0 (j := ((agn l d.toNat k).length - d.toNat)) (hy0_.rd hM4 (i := 0) rfl) rfl (v_int (by omega)) (by omega) fun b10 o10 hp10 => ?_
      refine ld (v := byteV ((agn l d.toNat k).getD ((agn l d.toNat k).length - d.toNat) 0)) rfl (hp10) ?_
      refine m_app1 (E := byteV) (q := (agn l d.toNat k).getD ((agn l d.toNat k).length - d.toNat) 0) hM4 (i := 0) rfl hy0_ rfl (by simp) (rfl) (by omega) (by omega) fun v11 w11 r11 u11 (hs11 : SlE byteV 5 v11 ((agn l d.toNat k) ++ [(agn l d.toNat k).getD ((agn l d.toNat k).length - d.toNat) 0]) r11) (hM11 : Mem w (ids r0) w11 [r11]) => ?_
      refine stp (v := v11) (o_mv rfl) ?_
      refine h9 _ _ ?_
      clear h9
      refine stp (v := .int .i64 ((k : Nat) + 1)) (o_bin rfl rfl (v_add64 (by constructor <;> omega))) ?_
      refine stp (v := .int .i64 ((k : Nat) + 1)) (o_mv rfl) ?_
      refine h5 (k + 1, v11, r11) _ _ ⟨rfl, by first | rfl | exact v_int (by omega) | exact v_int (by simp) | exact v_int (by simp; omega), by first | rfl | exact v_int (by omega) | exact v_int (by simp) | exact v_int (by simp; omega), by first | rfl | exact v_int (by omega) | exact v_int (by simp) | exact v_int (by simp; omega), hM11, by omega, agn_len _ _ _, by rw [agn]; exact hs11⟩ (by (try dsimp only); omega)
    ·
      refine h2 _ _ ?_
      clear h2
      refine seq fun K12 h12 => ?_
      refine stp (v := y0_) (o_mv rfl) ?_
      refine stp (v := y0_) (o_mv rfl) ?_
      refine h12 _ _ ?_
      clear h12
      refine ⟨y0_, rfl, ?_⟩
      obtain rfl : k = n.toNat := by omega
      exact ⟨_, hy0_, hM4⟩

/-- lz.Expand -/
theorem Expand_ok (x : Value) (ts : List Tk) (w : World) (hx : RdS tokC w x ts) (hts : ∀ t ∈ ts, t.ok w) (hl : ts.length ≤ 1152921504606846976) : Calls Try.prog 16 [x].toArray w (Rt fun r w' => ∃ v rs, r = .tuple [v, .int .i64 (expF (ts.map Tk.p)).2].toArray ∧ SlE byteV 5 v (expF (ts.map Tk.p)).1 rs ∧ Mem w [] w' [rs]) := by
  have hM0 : Mem w [] w [] := Mem.nil w []
  refine calls_vc mixed Try.func16 rfl C16 (by simp [Try.ntmps16]) ?_
  refine seq fun K1 h1 => ?_
  refine stp (v := .slice none 0 0) (o_mv rfl) ?_
  refine stp (v := .int .i64 0) (o_mv rfl) ?_
  refine h1 _ _ ?_
  clear h1
  refine seq fun K2 h2 => ?_
  refine stp (v := .slice none 0 0) (o_mv rfl) ?_
  refine h2 _ _ ?_
  clear h2
  refine seq fun K3 h3 => ?_
  refine seq fun K4 h4 => ?_
  refine stp (v := x) (o_mv rfl) ?_
  refine stp (v := .int .i64 (ts.length : Nat)) (o_lenR (hx.upd hM0.upd) rfl rfl) ?_
  refine stp (v := .int .i64 0) (o_mv rfl) ?_
  refine h4 _ _ ?_
  clear h4
  have hM5 : Mem w [] w [[]] := hM0.addNil
  have hs5 : SlE byteV 5 (.slice none 0 0) [] [] := Sl.nil 1 5
  refine lp (n := fun _ _ => False) (ι := (Nat) × (List UInt8) × (Value) × (List Ent)) (fun ⟨i, T, y4_, r4_⟩ f w' => f 4 = y4_ ∧ f 9 = .int .i64 (i : Nat) ∧ f 0 = x ∧ f 7 = x ∧ f 8 = .int .i64 (ts.length : Nat) ∧ Mem w [] w' [r4_] ∧ (i ≤ ts.length) ∧ (T.length ≤ 65536) ∧ (expF (ts.map Tk.p) = expG ((ts.map Tk.p).drop i) T) ∧ (SlE byteV 5 y4_ (T) r4_)) (fun ⟨i, T, y4_, r4_⟩ => ts.length - i) (0, [], ((.slice none 0 0)), ([])) ?_ ?_
  · exact ⟨rfl, by first | rfl | exact v_int (by omega) | exact v_int (by simp) | exact v_int (by simp; omega), rfl, rfl, by first | rfl | exact v_int (by omega) | exact v_int (by simp) | exact v_int (by simp; omega), hM5, by omega, by simp, rfl, by first | exact hs5 | simpa using hs5⟩
  · rintro ⟨i, T, y4_, r4_⟩ f w6 ⟨e6_4, e6_9, e6_0, e6_7, e6_8, hM6, hi, hT, hE, hy4_⟩ K7 h7
    obtain ⟨frm, rfl⟩ : ∃ frm, f = (upd (upd (upd (upd (upd frm 4 (y4_)) 9 (.int .i64 (i : Nat))) 0 (x)) 7 (x)) 8 (.int .i64 (ts.length : Nat))) := ⟨f, by rw [upd_self e6_4, upd_self e6_9, upd_self e6_0, upd_self e6_7, upd_self e6_8]⟩
    clear e6_4 e6_9 e6_0 e6_7 e6_8
    refine seq fun K8 h8 => ?_
    refine stp (v := .bool (decide (((i : Nat) : Int) < (ts.length : Nat)))) (o_bin rfl rfl rfl) ?_
    refine h8 _ _ ?_
    clear h8
    refine seq fun K9 h9 => ?_
    refine cndP rfl (fun c10 => ?_) (fun c10 => ?_)
    ·
      refine h9 _ _ ?_
      clear h9
      refine seq fun K11 h11 => ?_
      refine seq fun K12 h12 => ?_
      have hti := hts _ (getD_memG tz (l := ts) (i := i) (by omega))
      obtain ⟨_, hti2, hti3, hti4⟩ := hti
      simp only [inK] at hti2 hti3
      refine stp (v := .int .i64 (i : Nat)) (o_mv rfl) ?_
      refine m_idxS tz (j := i) (hx.upd hM6.upd) rfl rfl (by omega) fun b13 o13 hp13 => ?_
      refine ldA (cs := [(ts.getD i tz).lit, .int .i64 (((ts.getD i tz)).d), .int .i64 (((ts.getD i tz)).n)]) rfl rfl (hp13.row (k := 0) rfl rfl) ?_
      refine m_al hM6 fun b14 w15 (hM15 : Mem w [] w15 [r4_, [⟨b14, 31, [.slice none 0 0, .int .i64 0, .int .i64 0]⟩]]) => ?_
      refine stp (v := .int .i64 (i : Nat)) (o_mv rfl) ?_
      refine m_stA (l := [(ts.getD i tz).lit, .int .i64 (((ts.getD i tz)).d), .int .i64 (((ts.getD i tz)).n)]) hM15 (i := 1) rfl rfl rfl rfl (by simp [oneCells, Value.oneCell', byteV]) (by simp) fun w16 (hM16 : Mem w [] w16 [r4_, [⟨b14, 31, [(ts.getD i tz).lit, .int .i64 (((ts.getD i tz)).d), .int .i64 (((ts.getD i tz)).n)]⟩]]) => ?_
      refine h12 _ _ ?_
      clear h12
      refine seq fun K17 h17 => ?_
      refine seq fun K18 h18 => ?_
      refine m_ldA (l := [(ts.getD i tz).lit, .int .i64 (((ts.getD i tz)).d), .int .i64 (((ts.getD i tz)).n)]) hM16 (i := 1) (j := 0) rfl rfl rfl rfl rfl ?_
      refine stp (v := y4_) (o_mv rfl) ?_
      refine stp (v := .int .i64 (T.length : Nat)) (o_lenR (hy4_.rd hM16 (i := 0) rfl) rfl rfl) ?_
      refine stp (v := .pointer (some ⟨b14, 0, none⟩)) (o_fa rfl rfl) ?_
      refine m_ld (v := (ts.getD i tz).lit) hM16 (i := 1) (j := 0) rfl rfl rfl rfl ?_
      refine stp (v := .int .i64 (((ts.getD i tz).bs).length : Nat)) (o_lenR ((hts _ (getD_memG tz (by omega))).1.upd hM16.upd) rfl rfl) ?_
      refine stp (v := .int .i64 (T.length + (ts.getD i tz).bs.length : Nat)) (o_bin rfl rfl ((v_add64 (by omega)).trans (v_int (by omega)))) ?_
      refine stp (v := .int .i64 (i : Nat)) (o_mv rfl) ?_
      refine stp (v := x) (o_mv rfl) ?_
      refine stp (v := .int .i64 (ts.length : Nat)) (o_lenR (hx.upd hM16.upd) rfl rfl) ?_
      refine stp (v := .int .i64 ((ts.length : Nat) - 1)) (o_bin rfl rfl (v_sub64 (by constructor <;> omega))) ?_
      refine stp (v := .bool (decide (((i : Nat) : Int) = ((ts.length : Nat) - 1)))) (o_bin rfl rfl rfl) ?_
      refine m_call (right_ok (ts.getD i tz) (T.length + (ts.getD i tz).bs.length : Nat) (decide (((i : Nat) : Int) = ((ts.length : Nat) - 1))) w16 ((hts _ (getD_memG tz (by omega))).1.upd hM16.upd) (by omega)) rfl fun v19 w19 ⟨hr19, hu19⟩ => ?_
      have hM19 : Mem w [] w19 [r4_, [⟨b14, 31, [(ts.getD i tz).lit, .int .i64 (((ts.getD i tz)).d), .int .i64 (((ts.getD i tz)).n)]⟩]] := hM16.pure hu19
      subst hr19
      refine stp (v := .bool (decide (¬ (okT (ts.getD i tz).p (T.length + (ts.getD i tz).bs.length : Nat) (decide (((i : Nat) : Int) = ((ts.length : Nat) - 1))))))) (o_not rfl v_not) ?_
      refine h18 _ _ ?_
      clear h18
      refine cndP rfl (fun c20 => ?_) (fun c20 => ?_)
      ·
        refine seq fun K21 h21 => ?_
        refine stp (v := .slice none 0 0) (o_mv rfl) ?_
        refine stp (v := .int .i64 31) (o_mv rfl) ?_
        refine h21 _ _ ?_
        clear h21
        refine ⟨(.tuple [.slice none 0 0, .int .i64 31].toArray), rfl, ?_⟩
        have he := exT_tok (by omega) hE (by assumption)
        exact ⟨.slice none 0 0, [], by rw [he], by rw [he]; exact Sl.nil 1 5, hM19.keep (by simp)⟩
      ·
        refine h17 _ _ ?_
        clear h17
        refine seq fun K22 h22 => ?_
        refine seq fun K23 h23 => ?_
        have hok := Decidable.not_not.1 (by assumption : ¬ ¬ okT (ts.getD i tz).p ((T.length + (ts.getD i tz).bs.length : Nat) : Int) (decide ((i : Int) = (ts.length : Int) - 1)))
        have hob := okK_bd hok
        refine stp (v := y4_) (o_mv rfl) ?_
        refine stp (v := .int .i64 (T.length : Nat)) (o_lenR (hy4_.rd hM19 (i := 0) rfl) rfl rfl) ?_
        refine stp (v := .pointer (some ⟨b14, 0, none⟩)) (o_fa rfl rfl) ?_
        refine m_ld (v := (ts.getD i tz).lit) hM19 (i := 1) (j := 0) rfl rfl rfl rfl ?_
        refine stp (v := .int .i64 (((ts.getD i tz).bs).length : Nat)) (o_lenR ((hts _ (getD_memG tz (by omega))).1.upd hM19.upd) rfl rfl) ?_
        refine stp (v := .int .i64 (T.length + (ts.getD i tz).bs.length : Nat)) (o_bin rfl rfl ((v_add64 (by omega)).trans (v_int (by omega)))) ?_
        refine stp (v := .pointer (some ⟨b14, 2, none⟩)) (o_fa rfl rfl) ?_
        refine m_ld (v := .int .i64 (((ts.getD i tz)).n)) hM19 (i := 1) (j := 0) rfl rfl rfl rfl ?_
        refine stp (v := .int .i64 ((T.length + (ts.getD i tz).bs.length : Nat) + (((ts.getD i tz)).n))) (o_bin rfl rfl (v_add64 (by constructor <;> omega))) ?_
        refine stp (v := .bool (decide ((65536 : Int) < ((T.length + (ts.getD i tz).bs.length : Nat) + (((ts.getD i tz)).n) : Int)))) (o_bin rfl rfl rfl) ?_
        refine h23 _ _ ?_
        clear h23
        refine cndP rfl (fun c24 => ?_) (fun c24 => ?_)
        ·
          refine seq fun K25 h25 => ?_
          refine stp (v := .slice none 0 0) (o_mv rfl) ?_
          refine stp (v := .int .i64 2) (o_mv rfl) ?_
          refine h25 _ _ ?_
          clear h25
          refine ⟨(.tuple [.slice none 0 0, .int .i64 2].toArray), rfl, ?_⟩
          have he := exT_long (by omega) hE hok (by omega)
          exact ⟨.slice none 0 0, [], by rw [he], by rw [he]; exact Sl.nil 1 5, hM19.keep (by simp)⟩
        ·
          refine h22 _ _ ?_
          clear h22
          intro wd e1 e2 e3 e4
          have hd := Upd.same e1 e2 e3 e4 []
          have hM26 := hM19.pure hd
          clear e1 e2 e3 e4
          refine ⟨(some [b14]), ?_⟩
          show vd _ _ _ _ _ _ _
          refine dq (v := y4_) (o_mv rfl) ?_
          refine dq (v := .pointer (some ⟨b14, 0, none⟩)) (o_fa rfl rfl) ?_
          refine dq (v := .pointer (some ⟨b14, 1, none⟩)) (o_fa rfl rfl) ?_
          refine dq (v := .pointer (some ⟨b14, 2, none⟩)) (o_fa rfl rfl) ?_
          refine dqld rfl (by simp [isHeld]) (v := .int .i64 (((ts.getD i tz)).n)) ((hM26.at (i := 1) (j := 0) rfl rfl).cell 2) ?_
          refine dqld rfl (by simp [isHeld]) (v := .int .i64 (((ts.getD i tz)).d)) ((hM26.at (i := 1) (j := 0) rfl rfl).cell 1) ?_
          refine dl (m_ld (v := (ts.getD i tz).lit) hM26 (i := 1) (j := 0) rfl rfl rfl rfl ?_)
          refine ⟨(fun b hb => rfl), ?_⟩
          refine dl (m_appEU hM26 (i := 0) rfl hy4_ rfl rfl ((hts _ (getD_memG tz (by omega))).1.upd hM26.upd) (by first | omega | (simp; omega)) (by omega) fun v27 w27 r27 (hs27 : SlE byteV 5 v27 (T ++ ((ts.getD i tz).bs)) r27) hup27 (hM27 : Mem w [] w27 [r27, [⟨b14, 31, [(ts.getD i tz).lit, .int .i64 (((ts.getD i tz)).d), .int .i64 (((ts.getD i tz)).n)]⟩]]) => ?_)
          have hh27 := held_upd (wr := wd) (bs := [b14]) hup27 (fun b hb => by
            simp only [List.mem_cons, List.not_mem_nil, or_false] at hb
            rw [hb]; exact ⟨(hM26.at (i := 1) (j := 0) rfl rfl).lt, hM26.apart (i := 1) (j := 0) (k := 0) rfl rfl rfl (by decide)⟩) (fun b hb => rfl)
          refine ⟨hh27, ?_⟩
          refine dl (m_call (again_ok _ (T ++ ((ts.getD i tz).bs)) (((ts.getD i tz)).d) (((ts.getD i tz)).n) r27 w27 hs27 (hM27.res (i := 0) rfl) (by first | omega | (simp only [List.length_append]; omega)) (by omega) (by intro _; rw [List.length_append]; omega)) rfl fun v28 w28 ⟨r'28, hs28, hm28⟩ => ?_)
          have hM28 : Mem w [] w28 [r'28, [⟨b14, 31, [(ts.getD i tz).lit, .int .i64 (((ts.getD i tz)).d), .int .i64 (((ts.getD i tz)).n)]⟩]] := hM27.step 0 rfl hm28
          have hh28 := held_upd (wr := wd) (bs := [b14]) hm28.upd (fun b hb => by
            simp only [List.mem_cons, List.not_mem_nil, or_false] at hb
            rw [hb]; exact ⟨(hM27.at (i := 1) (j := 0) rfl rfl).lt, hM27.apart (i := 1) (j := 0) (k := 0) rfl rfl rfl (by decide)⟩) hh27
          refine ⟨hh28, ?_⟩
          refine dq (v := v28) (o_mv rfl) ?_
          refine h11 _ _ ?_
          clear h11
          refine stp (v := .int .i64 ((i : Nat) + 1)) (o_bin rfl rfl (v_add64 (by constructor <;> omega))) ?_
          refine stp (v := .int .i64 ((i : Nat) + 1)) (o_mv rfl) ?_
          refine h7 (i + 1, (agn (T ++ ((ts.getD i tz).bs)) (((ts.getD i tz)).d).toNat (((ts.getD i tz)).n).toNat), v28, r'28) _ _ ⟨rfl, by first | rfl | exact v_int (by omega) | exact v_int (by simp) | exact v_int (by simp; omega), rfl, rfl, by first | rfl | exact v_int (by omega) | exact v_int (by simp) | exact v_int (by simp; omega), hM28.keep (by simp), by omega, by rw [agn_len, List.length_append]; omega, exT_go (by omega) hE hok (by omega), by first | exact hs28 | simpa using hs28⟩ (by (try dsimp only); omega)
    ·
      refine h3 _ _ ?_
      clear h3
      refine seq fun K29 h29 => ?_
      refine stp (v := y4_) (o_mv rfl) ?_
      refine stp (v := y4_) (o_mv rfl) ?_
      refine stp (v := .int .i64 0) (o_mv rfl) ?_
      refine h29 _ _ ?_
      clear h29
      refine ⟨(.tuple [y4_, .int .i64 0].toArray), rfl, ?_⟩
      have he := exT_end (by omega) hE
      exact ⟨_, _, by rw [he], by rw [he]; exact hy4_, hM6.keep (by simp)⟩

/-- winnowref3.Expand -/
theorem refExpand_ok (x : Value) (ts : List Tk) (w : World) (hx : RdS tokC w x ts) (hts : ∀ t ∈ ts, t.ok w) (hl : ts.length ≤ 1152921504606846976) : Calls Try.prog 13 [x].toArray w (Rt fun r w' => ∃ v rs, r = .tuple [v, .int .i64 (expF (ts.map Tk.p)).2].toArray ∧ SlE byteV 5 v (expF (ts.map Tk.p)).1 rs ∧ Mem w [] w' [rs]) := by
  have hM0 : Mem w [] w [] := Mem.nil w []
  refine calls_vc mixed Try.func13 rfl C13 (by simp [Try.ntmps13]) ?_
  refine seq fun K1 h1 => ?_
  refine stp (v := .slice none 0 0) (o_mv rfl) ?_
  refine stp (v := .int .i64 0) (o_mv rfl) ?_
  refine h1 _ _ ?_
  clear h1
  refine seq fun K2 h2 => ?_
  refine stp (v := .slice none 0 0) (o_mv rfl) ?_
  refine h2 _ _ ?_
  clear h2
  refine seq fun K3 h3 => ?_
  refine seq fun K4 h4 => ?_
  refine stp (v := .int .i64 0) (o_mv rfl) ?_
  refine h4 _ _ ?_
  clear h4
  have hM5 : Mem w [] w [[]] := hM0.addNil
  have hs5 : SlE byteV 5 (.slice none 0 0) [] [] := Sl.nil 1 5
  refine lp (n := fun _ _ => False) (ι := (Nat) × (List UInt8) × (Value) × (List Ent)) (fun ⟨i, T, y4_, r4_⟩ f w' => f 4 = y4_ ∧ f 5 = .int .i64 (i : Nat) ∧ f 0 = x ∧ Mem w [] w' [r4_] ∧ (i ≤ ts.length) ∧ (T.length ≤ 65536) ∧ (expF (ts.map Tk.p) = expG ((ts.map Tk.p).drop i) T) ∧ (SlE byteV 5 y4_ (T) r4_)) (fun ⟨i, T, y4_, r4_⟩ => ts.length - i) (0, [], ((.slice none 0 0)), ([])) ?_ ?_
  · exact ⟨rfl, by first | rfl | exact v_int (by omega) | exact v_int (by simp) | exact v_int (by simp; omega), rfl, hM5, by omega, by simp, rfl, by first | exact hs5 | simpa using hs5⟩
  · rintro ⟨i, T, y4_, r4_⟩ f w6 ⟨e6_4, e6_5, e6_0, hM6, hi, hT, hE, hy4_⟩ K7 h7
    obtain ⟨frm, rfl⟩ : ∃ frm, f = (upd (upd (upd frm 4 (y4_)) 5 (.int .i64 (i : Nat))) 0 (x)) := ⟨f, by rw [upd_self e6_4, upd_self e6_5, upd_self e6_0]⟩
    clear e6_4 e6_5 e6_0
    refine seq fun K8 h8 => ?_
    refine seq fun K9 h9 => ?_
    refine stp (v := .int .i64 (i : Nat)) (o_mv rfl) ?_
    refine stp (v := x) (o_mv rfl) ?_
    refine stp (v := .int .i64 (ts.length : Nat)) (o_lenR (hx.upd hM6.upd) rfl rfl) ?_
    refine stp (v := .bool (decide (((i : Nat) : Int) < (ts.length : Nat)))) (o_bin rfl rfl rfl) ?_
    refine h9 _ _ ?_
    clear h9
    refine cndP rfl (fun c10 => ?_) (fun c10 => ?_)
    ·
      refine h8 _ _ ?_
      clear h8
      refine seq fun K11 h11 => ?_
      refine seq fun K12 h12 => ?_
      refine stp (v := x) (o_mv rfl) ?_
      refine stp (v := .int .i64 (i : Nat)) (o_mv rfl) ?_
      refine m_idxS tz (j := i) (hx.upd hM6.upd) rfl rfl (by omega) fun b13 o13 hp13 => ?_
      refine ldA (cs := [(ts.getD i tz).lit, .int .i64 (((ts.getD i tz)).d), .int .i64 (((ts.getD i tz)).n)]) rfl rfl (hp13.row (k := 0) rfl rfl) ?_
      refine m_al hM6 fun b14 w15 (hM15 : Mem w [] w15 [r4_, [⟨b14, 31, [.slice none 0 0, .int .i64 0, .int .i64 0]⟩]]) => ?_
      refine m_stA (l := [(ts.getD i tz).lit, .int .i64 (((ts.getD i tz)).d), .int .i64 (((ts.getD i tz)).n)]) hM15 (i := 1) rfl rfl rfl rfl (by simp [oneCells, Value.oneCell', byteV]) (by simp) fun w16 (hM16 : Mem w [] w16 [r4_, [⟨b14, 31, [(ts.getD i tz).lit, .int .i64 (((ts.getD i tz)).d), .int .i64 (((ts.getD i tz)).n)]⟩]]) => ?_
      refine h12 _ _ ?_
      clear h12
      refine seq fun K17 h17 => ?_
      have hti := hts _ (getD_memG tz (l := ts) (i := i) (by omega))
      obtain ⟨_, hti2, hti3, hti4⟩ := hti
      simp only [inK] at hti2 hti3
      refine m_ldA (l := [(ts.getD i tz).lit, .int .i64 (((ts.getD i tz)).d), .int .i64 (((ts.getD i tz)).n)]) hM16 (i := 1) (j := 0) rfl rfl rfl rfl rfl ?_
      refine stp (v := y4_) (o_mv rfl) ?_
      refine stp (v := .int .i64 (T.length : Nat)) (o_lenR (hy4_.rd hM16 (i := 0) rfl) rfl rfl) ?_
      refine stp (v := .int .i64 (i : Nat)) (o_mv rfl) ?_
      refine stp (v := x) (o_mv rfl) ?_
      refine stp (v := .int .i64 (ts.length : Nat)) (o_lenR (hx.upd hM16.upd) rfl rfl) ?_
      refine stp (v := .int .i64 ((ts.length : Nat) - 1)) (o_bin rfl rfl (v_sub64 (by constructor <;> omega))) ?_
      refine stp (v := .bool (decide (((i : Nat) : Int) = ((ts.length : Nat) - 1)))) (o_bin rfl rfl rfl) ?_
      refine m_call (fits_ok (ts.getD i tz) T.length (decide (((i : Nat) : Int) = ((ts.length : Nat) - 1))) w16 ((hts _ (getD_memG tz (by omega))).1.upd hM16.upd) (by omega) (by omega)) rfl fun v18 w18 ⟨hr18, hu18⟩ => ?_
      have hM18 : Mem w [] w18 [r4_, [⟨b14, 31, [(ts.getD i tz).lit, .int .i64 (((ts.getD i tz)).d), .int .i64 (((ts.getD i tz)).n)]⟩]] := hM16.pure hu18
      subst hr18
      refine stp (v := .bool (decide (okT (ts.getD i tz).p ((T.length + (ts.getD i tz).bs.length : Nat) : Int) (decide (((i : Nat) : Int) = ((ts.length : Nat) - 1)))))) (o_mv rfl) ?_
      refine h17 _ _ ?_
      clear h17
      refine seq fun K19 h19 => ?_
      refine seq fun K20 h20 => ?_
      refine stp (v := .bool (decide (okT (ts.getD i tz).p ((T.length + (ts.getD i tz).bs.length : Nat) : Int) (decide (((i : Nat) : Int) = ((ts.length : Nat) - 1)))))) (o_mv rfl) ?_
      refine stp (v := .bool (decide (¬ (okT (ts.getD i tz).p ((T.length + (ts.getD i tz).bs.length : Nat) : Int) (decide (((i : Nat) : Int) = ((ts.length : Nat) - 1))))))) (o_not rfl v_not) ?_
      refine h20 _ _ ?_
      clear h20
      refine cndP rfl (fun c21 => ?_) (fun c21 => ?_)
      ·
        refine seq fun K22 h22 => ?_
        refine stp (v := .slice none 0 0) (o_mv rfl) ?_
        refine stp (v := .int .i64 31) (o_mv rfl) ?_
        refine h22 _ _ ?_
        clear h22
        refine ⟨(.tuple [.slice none 0 0, .int .i64 31].toArray), rfl, ?_⟩
        have he := exT_tok (by omega) hE (by assumption)
        exact ⟨.slice none 0 0, [], by rw [he], by rw [he]; exact Sl.nil 1 5, hM18.keep (by simp)⟩
      ·
        refine h19 _ _ ?_
        clear h19
        refine seq fun K23 h23 => ?_
        refine seq fun K24 h24 => ?_
        have hok := Decidable.not_not.1 (by assumption : ¬ ¬ okT (ts.getD i tz).p ((T.length + (ts.getD i tz).bs.length : Nat) : Int) (decide ((i : Int) = (ts.length : Int) - 1)))
        have hob := okK_bd hok
        refine stp (v := y4_) (o_mv rfl) ?_
        refine stp (v := .int .i64 (T.length : Nat)) (o_lenR (hy4_.rd hM18 (i := 0) rfl) rfl rfl) ?_
        refine stp (v := .pointer (some ⟨b14, 0, none⟩)) (o_fa rfl rfl) ?_
        refine m_ld (v := (ts.getD i tz).lit) hM18 (i := 1) (j := 0) rfl rfl rfl rfl ?_
        refine stp (v := .int .i64 (((ts.getD i tz).bs).length : Nat)) (o_lenR ((hts _ (getD_memG tz (by omega))).1.upd hM18.upd) rfl rfl) ?_
        refine stp (v := .int .i64 (T.length + (ts.getD i tz).bs.length : Nat)) (o_bin rfl rfl ((v_add64 (by omega)).trans (v_int (by omega)))) ?_
        refine stp (v := .pointer (some ⟨b14, 2, none⟩)) (o_fa rfl rfl) ?_
        refine m_ld (v := .int .i64 (((ts.getD i tz)).n)) hM18 (i := 1) (j := 0) rfl rfl rfl rfl ?_
        refine stp (v := .int .i64 ((T.length + (ts.getD i tz).bs.length : Nat) + (((ts.getD i tz)).n))) (o_bin rfl rfl (v_add64 (by constructor <;> omega))) ?_
        refine stp (v := .bool (decide ((65536 : Int) < ((T.length + (ts.getD i tz).bs.length : Nat) + (((ts.getD i tz)).n) : Int)))) (o_bin rfl rfl rfl) ?_
        refine h24 _ _ ?_
        clear h24
        refine cndP rfl (fun c25 => ?_) (fun c25 => ?_)
        ·
          refine seq fun K26 h26 => ?_
          refine stp (v := .slice none 0 0) (o_mv rfl) ?_
          refine stp (v := .int .i64 2) (o_mv rfl) ?_
          refine h26 _ _ ?_
          clear h26
          refine ⟨(.tuple [.slice none 0 0, .int .i64 2].toArray), rfl, ?_⟩
          have he := exT_long (by omega) hE hok (by omega)
          exact ⟨.slice none 0 0, [], by rw [he], by rw [he]; exact Sl.nil 1 5, hM18.keep (by simp)⟩
        ·
          refine h23 _ _ ?_
          clear h23
          refine seq fun K27 h27 => ?_
          refine stp (v := y4_) (o_mv rfl) ?_
          refine stp (v := .pointer (some ⟨b14, 0, none⟩)) (o_fa rfl rfl) ?_
          refine m_ld (v := (ts.getD i tz).lit) hM18 (i := 1) (j := 0) rfl rfl rfl rfl ?_
          refine m_appE hM18 (i := 0) rfl hy4_ rfl rfl ((hts _ (getD_memG tz (by omega))).1.upd hM18.upd) (by first | omega | (simp; omega)) (by omega) fun v28 w28 r28 (hs28 : SlE byteV 5 v28 (T ++ ((ts.getD i tz).bs)) r28) (hM28 : Mem w [] w28 [r28, [⟨b14, 31, [(ts.getD i tz).lit, .int .i64 (((ts.getD i tz)).d), .int .i64 (((ts.getD i tz)).n)]⟩]]) => ?_
          refine stp (v := v28) (o_mv rfl) ?_
          refine h27 _ _ ?_
          clear h27
          refine seq fun K29 h29 => ?_
          refine stp (v := .int .i64 0) (o_mv rfl) ?_
          refine h29 _ _ ?_
          clear h29
          refine lp (n := fun _ _ => False) (ι := (Nat) × (Value) × (List Ent)) (fun ⟨k, y4_, r4_⟩ f w' => f 4 = y4_ ∧ f 8 = .int .i64 (k : Nat) ∧ f 0 = x ∧ f 5 = .int .i64 (i : Nat) ∧ f 6 = .pointer (some ⟨b14, 0, none⟩) ∧ Mem w [] w' [r4_, [⟨b14, 31, [(ts.getD i tz).lit, .int .i64 (((ts.getD i tz)).d), .int .i64 (((ts.getD i tz)).n)]⟩]] ∧ (k ≤ (ts.getD i tz).n.toNat) ∧ ((agn (T ++ (ts.getD i tz).bs) (ts.getD i tz).d.toNat k).length = T.length + (ts.getD i tz).bs.length + k) ∧ (SlE byteV 5 y4_ (agn (T ++ (ts.getD i tz).bs) (ts.getD i tz).d.toNat k) r4_)) (fun ⟨k, y4_, r4_⟩ => (ts.getD i tz).n.toNat - k) (0, v28, r28) ?_ ?_
          · exact ⟨rfl, by first | rfl | exact v_int (by omega) | exact v_int (by simp) | exact v_int (by simp; omega), rfl, by first | rfl | exact v_int (by omega) | exact v_int (by simp) | exact v_int (by simp; omega), rfl, hM28, by omega, by rw [agn_len, List.length_append], by first | exact hs28 | simpa using hs28⟩
          · rintro ⟨k, y4_, r4_⟩ f w30 ⟨e30_4, e30_8, e30_0, e30_5, e30_6, hM30, hk, hq, hy4_⟩ K31 h31
            obtain ⟨frm, rfl⟩ : ∃ frm, f = (upd (upd (upd (upd (upd frm 4 (y4_)) 8 (.int .i64 (k : Nat))) 0 (x)) 5 (.int .i64 (i : Nat))) 6 (.pointer (some ⟨b14, 0, none⟩))) := ⟨f, by rw [upd_self e30_4, upd_self e30_8, upd_self e30_0, upd_self e30_5, upd_self e30_6]⟩
            clear e30_4 e30_8 e30_0 e30_5 e30_6
            refine seq fun K32 h32 => ?_
            refine seq fun K33 h33 => ?_
            refine stp (v := .int .i64 (k : Nat)) (o_mv rfl) ?_
            refine stp (v := .pointer (some ⟨b14, 2, none⟩)) (o_fa rfl rfl) ?_
            refine m_ld (v := .int .i64 (((ts.getD i tz)).n)) hM30 (i := 1) (j := 0) rfl rfl rfl rfl ?_
            refine stp (v := .bool (decide (((k : Nat) : Int) < (((ts.getD i tz)).n)))) (o_bin rfl rfl rfl) ?_
            refine h33 _ _ ?_
            clear h33
            refine cndP rfl (fun c34 => ?_) (fun c34 => ?_)
            ·
              refine h32 _ _ ?_
              clear h32
              refine seq fun K35 h35 => ?_
              refine seq fun K36 h36 => ?_
              refine stp (v := y4_) (o_mv rfl) ?_
              refine stp (v := y4_) (o_mv rfl) ?_
              refine stp (v := .int .i64 ((agn (T ++ (ts.getD i tz).bs) (ts.getD i tz).d.toNat k).length : Nat)) (o_lenR (hy4_.rd hM30 (i := 0) rfl) rfl rfl) ?_
              refine stp (v := .pointer (some ⟨b14, 1, none⟩)) (o_fa rfl rfl) ?_
              refine m_ld (v := .int .i64 (((ts.getD i tz)).d)) hM30 (i := 1) (j := 0) rfl rfl rfl rfl ?_
              refine stp (v := .int .i64 (((agn (T ++ (ts.getD i tz).bs) (ts.getD i tz).d.toNat k).length : Nat) - (((ts.getD i tz)).d))) (o_bin rfl rfl (v_sub64 (by constructor <;> omega))) ?_
              refine m_idxE 0 (j := ((agn (T ++ (ts.getD i tz).bs) (ts.getD i tz).d.toNat k).length - (ts.getD i tz).d.toNat)) (hy4_.rd hM30 (i := 0) rfl) rfl (v_int (by omega)) (by omega) fun b37 o37 hp37 => ?_
              refine ld (v := byteV ((agn (T ++ (ts.getD i tz).bs) (ts.getD i tz).d.toNat k).getD ((agn (T ++ (ts.getD i tz).bs) (ts.getD i tz).d.toNat k).length - (ts.getD i tz).d.toNat) 0)) rfl (hp37) ?_
              refine stp (v := byteV ((agn (T ++ (ts.getD i tz).bs) (ts.getD i tz).d.toNat k).getD ((agn (T ++ (ts.getD i tz).bs) (ts.getD i tz).d.toNat k).length - (ts.getD i tz).d.toNat) 0)) (o_mv rfl) ?_
              refine h36 _ _ ?_
              clear h36
              refine stp (v := y4_) (o_mv rfl) ?_
              refine stp (v := byteV ((agn (T ++ (ts.getD i tz).bs) (ts.getD i tz).d.toNat k).getD ((agn (T ++ (ts.getD i tz).bs) (ts.getD i tz).d.toNat k).length - (ts.getD i tz).d.toNat) 0)) (o_mv rfl) ?_
              refine m_app1 (E := byteV) (q := (agn (T ++ (ts.getD i tz).bs) (ts.getD i tz).d.toNat k).getD ((agn (T ++ (ts.getD i tz).bs) (ts.getD i tz).d.toNat k).length - (ts.getD i tz).d.toNat) 0) hM30 (i := 0) rfl hy4_ rfl (by simp) (rfl) (by omega) (by omega) fun v38 w38 r38 u38 (hs38 : SlE byteV 5 v38 ((agn (T ++ (ts.getD i tz).bs) (ts.getD i tz).d.toNat k) ++ [(agn (T ++ (ts.getD i tz).bs) (ts.getD i tz).d.toNat k).getD ((agn (T ++ (ts.getD i tz).bs) (ts.getD i tz).d.toNat k).length - (ts.getD i tz).d.toNat) 0]) r38) (hM38 : Mem w [] w38 [r38, [⟨b14, 31, [(ts.getD i tz).lit, .int .i64 (((ts.getD i tz)).d), .int .i64 (((ts.getD i tz)).n)]⟩]]) => ?_
              refine stp (v := v38) (o_mv rfl) ?_
              refine h35 _ _ ?_
              clear h35
              refine stp (v := .int .i64 (k : Nat)) (o_mv rfl) ?_
              refine stp (v := .int .i64 ((k : Nat) + 1)) (o_bin rfl rfl (v_add64 (by constructor <;> omega))) ?_
              refine stp (v := .int .i64 ((k : Nat) + 1)) (o_mv rfl) ?_
              refine h31 (k + 1, v38, r38) _ _ ⟨rfl, by first | rfl | exact v_int (by omega) | exact v_int (by simp) | exact v_int (by simp; omega), rfl, by first | rfl | exact v_int (by omega) | exact v_int (by simp) | exact v_int (by simp; omega), rfl, hM38, by omega, by rw [agn_len, List.length_append] <;> omega, by rw [agn]; exact hs38⟩ (by (try dsimp only); omega)
            ·
              refine h11 _ _ ?_
              clear h11
              refine stp (v := .int .i64 (i : Nat)) (o_mv rfl) ?_
              refine stp (v := .int .i64 ((i : Nat) + 1)) (o_bin rfl rfl (v_add64 (by constructor <;> omega))) ?_
              refine stp (v := .int .i64 ((i : Nat) + 1)) (o_mv rfl) ?_
              refine h7 (i + 1, (agn (T ++ (ts.getD i tz).bs) (ts.getD i tz).d.toNat k), y4_, r4_) _ _ ⟨rfl, by first | rfl | exact v_int (by omega) | exact v_int (by simp) | exact v_int (by simp; omega), rfl, hM30.keep (by simp), by omega, by omega, by (obtain rfl : k = (ts.getD i tz).n.toNat := by omega); exact exT_go (by omega) hE hok (by omega), by first | exact hy4_ | simpa using hy4_⟩ (by (try dsimp only); omega)
    ·
      refine h3 _ _ ?_
      clear h3
      refine seq fun K39 h39 => ?_
      refine stp (v := y4_) (o_mv rfl) ?_
      refine stp (v := y4_) (o_mv rfl) ?_
      refine stp (v := .int .i64 0) (o_mv rfl) ?_
      refine h39 _ _ ?_
      clear h39
      refine ⟨(.tuple [y4_, .int .i64 0].toArray), rfl, ?_⟩
      have he := exT_end (by omega) hE
      exact ⟨_, _, by rw [he], by rw [he]; exact hy4_, hM6.keep (by simp)⟩

/-- lz.bytes -/
theorem bytes_ok (t : Tk) (w : World) (ht : RdE byteV w t.lit t.bs) (hl : t.bs.length ≤ 140737488355328) (hn : -9223372036854775808 ≤ t.n - 4 ∧ t.n ≤ 9223372036854775807) (hd : -9223372036854775808 ≤ t.d ∧ t.d ≤ 9223372036854775807) : Calls Try.prog 36 [.agg (tokC t).toArray].toArray w (Rt fun r w' => ∃ rs, SlE byteV 5 r (tokB t.p) rs ∧ Mem w [] w' [rs]) := by
  have hM0 : Mem w [] w [] := Mem.nil w []
  refine calls_vc mixed Try.func36 rfl C36 (by simp [Try.ntmps36]) ?_
  refine seq fun K1 h1 => ?_
  refine m_bx (v := .agg ([t.lit, .int .i64 ((t).d), .int .i64 ((t).n)] : List Value).toArray) hM0 rfl rfl fun b2 w3 (hM3 : Mem w [] w3 [[⟨b2, 31, [t.lit, .int .i64 ((t).d), .int .i64 ((t).n)]⟩]]) => ?_
  refine stp (v := .slice none 0 0) (o_mv rfl) ?_
  refine h1 _ _ ?_
  clear h1
  refine seq fun K4 h4 => ?_
  intro wd e1 e2 e3 e4
  have hd := Upd.same e1 e2 e3 e4 []
  have hM5 := hM3.pure hd
  clear e1 e2 e3 e4
  refine ⟨(some [b2]), ?_⟩
  show vd _ _ _ _ _ _ _
  refine dq (v := .pointer (some ⟨b2, 0, none⟩)) (o_fa rfl rfl) ?_
  refine dq (v := .pointer (some ⟨b2, 0, none⟩)) (o_fa rfl rfl) ?_
  refine dqld rfl (by simp [isHeld]) (v := t.lit) ((hM5.at (i := 0) (j := 0) rfl rfl).cell 0) ?_
  refine dl (m_ld (v := t.lit) hM5 (i := 0) (j := 0) rfl rfl rfl rfl ?_)
  refine ⟨(fun b hb => rfl), ?_⟩
  refine dq (v := .int .i64 (t.bs.length : Nat)) (o_lenR (ht.upd hM5.upd) rfl rfl) ?_
  refine dl (m_call (Put_ok (t.bs.length : Nat) (by simp only [inK]; omega) wd) rfl fun v6 w6 ⟨rs6, hs6, hm6⟩ => ?_)
  have hM6 : Mem w [] w6 [[⟨b2, 31, [t.lit, .int .i64 ((t).d), .int .i64 ((t).n)]⟩], rs6] := hM5.add hm6
  have hn6 := putI_len (v := (t.bs.length : Nat)) (by omega)
  have hh6 := held_upd (wr := wd) (bs := [b2]) hm6.upd (fun b hb => by
    simp only [List.mem_cons, List.not_mem_nil, or_false] at hb
    rw [hb]; exact ⟨(hM5.at (i := 0) (j := 0) rfl rfl).lt, by simp⟩) (fun b hb => rfl)
  refine ⟨hh6, ?_⟩
  refine dl (m_appEU hM6 (i := 1) rfl hs6 rfl rfl (ht.upd hM6.upd) (by first | omega | (simp; omega)) (by omega) fun v7 w7 r7 (hs7 : SlE byteV 5 v7 ((putI (t.bs.length : Nat)) ++ t.bs) r7) hup7 (hM7 : Mem w [] w7 [[⟨b2, 31, [t.lit, .int .i64 ((t).d), .int .i64 ((t).n)]⟩], r7]) => ?_)
  have hh7 := held_upd (wr := wd) (bs := [b2]) hup7 (fun b hb => by
    simp only [List.mem_cons, List.not_mem_nil, or_false] at hb
    rw [hb]; exact ⟨(hM6.at (i := 0) (j := 0) rfl rfl).lt, hM6.apart (i := 0) (j := 0) (k := 1) rfl rfl rfl (by decide)⟩) hh6
  refine ⟨hh7, ?_⟩
  refine dq (v := v7) (o_mv rfl) ?_
  refine h4 _ _ ?_
  clear h4
  refine seq fun K8 h8 => ?_
  refine seq fun K9 h9 => ?_
  refine m_ldA (l := [t.lit, .int .i64 ((t).d), .int .i64 ((t).n)]) hM7 (i := 0) (j := 0) rfl rfl rfl rfl rfl ?_
  refine m_call (none_ok t w7) rfl fun v10 w10 ⟨hr10, hu10⟩ => ?_
  have hM10 : Mem w [] w10 [[⟨b2, 31, [t.lit, .int .i64 ((t).d), .int .i64 ((t).n)]⟩], r7] := hM7.pure hu10
  subst hr10
  refine h9 _ _ ?_
  clear h9
  refine cndP rfl (fun c11 => ?_) (fun c11 => ?_)
  ·
    refine seq fun K12 h12 => ?_
    refine stp (v := v7) (o_mv rfl) ?_
    refine stp (v := v7) (o_mv rfl) ?_
    refine h12 _ _ ?_
    clear h12
    refine ⟨v7, rfl, ?_⟩
    exact ⟨_, by rw [tokB_none (by assumption)]; exact hs7, hM10.keep (by simp)⟩
  ·
    refine h8 _ _ ?_
    clear h8
    refine seq fun K13 h13 => ?_
    refine stp (v := v7) (o_mv rfl) ?_
    refine stp (v := .pointer (some ⟨b2, 2, none⟩)) (o_fa rfl rfl) ?_
    refine m_ld (v := .int .i64 ((t).n)) hM10 (i := 0) (j := 0) rfl rfl rfl rfl ?_
    refine stp (v := .int .i64 (((t).n) - 4)) (o_bin rfl rfl (v_sub64 (by constructor <;> omega))) ?_
    refine m_call (Put_ok (((t).n) - 4) (by simp only [inK]; omega) w10) rfl fun v14 w14 ⟨rs14, hs14, hm14⟩ => ?_
    have hM14 : Mem w [] w14 [[⟨b2, 31, [t.lit, .int .i64 ((t).d), .int .i64 ((t).n)]⟩], r7, rs14] := hM10.add hm14
    have hn14 := putI_len (v := ((t).n) - 4) (by omega)
    refine m_appE hM14 (i := 1) rfl hs7 rfl rfl (hs14.rd hM14 (i := 2) rfl) (by first | omega | (simp; omega)) (by omega) fun v15 w15 r15 (hs15 : SlE byteV 5 v15 (((putI (t.bs.length : Nat)) ++ t.bs) ++ (putI (((t).n) - 4))) r15) (hM15 : Mem w [] w15 [[⟨b2, 31, [t.lit, .int .i64 ((t).d), .int .i64 ((t).n)]⟩], r15, rs14]) => ?_
    refine stp (v := v15) (o_mv rfl) ?_
    refine h13 _ _ ?_
    clear h13
    refine seq fun K16 h16 => ?_
    refine stp (v := v15) (o_mv rfl) ?_
    refine stp (v := .pointer (some ⟨b2, 1, none⟩)) (o_fa rfl rfl) ?_
    refine m_ld (v := .int .i64 ((t).d)) hM15 (i := 0) (j := 0) rfl rfl rfl rfl ?_
    refine m_call (Put_ok ((t).d) (by simp only [inK]; omega) w15) rfl fun v17 w17 ⟨rs17, hs17, hm17⟩ => ?_
    have hM17 : Mem w [] w17 [[⟨b2, 31, [t.lit, .int .i64 ((t).d), .int .i64 ((t).n)]⟩], r15, rs14, rs17] := hM15.add hm17
    have hn17 := putI_len (v := (t).d) (by omega)
    refine m_appE hM17 (i := 1) rfl hs15 rfl rfl (hs17.rd hM17 (i := 3) rfl) (by first | omega | (simp; omega)) (by omega) fun v18 w18 r18 (hs18 : SlE byteV 5 v18 ((((putI (t.bs.length : Nat)) ++ t.bs) ++ (putI (((t).n) - 4))) ++ (putI ((t).d))) r18) (hM18 : Mem w [] w18 [[⟨b2, 31, [t.lit, .int .i64 ((t).d), .int .i64 ((t).n)]⟩], r18, rs14, rs17]) => ?_
    refine stp (v := v18) (o_mv rfl) ?_
    refine h16 _ _ ?_
    clear h16
    refine ⟨v18, rfl, ?_⟩
    exact ⟨_, by rw [tokB_some (by assumption)]; exact hs18, hM18.keep (by simp)⟩

/-- lz.Write -/
theorem Write_ok (x : Value) (ts : List Tk) (w : World) (hx : RdS tokC w x ts) (hts : ∀ t ∈ ts, t.ok w) (hl : ts.length ≤ 1152921504606846976) : Calls Try.prog 17 [x].toArray w (Rt fun r w' => ∃ v rs, r = .tuple [v, .int .i64 (wrF (ts.map Tk.p)).2].toArray ∧ SlE byteV 5 v (wrF (ts.map Tk.p)).1 rs ∧ Mem w [] w' [rs]) := by
  have hM0 : Mem w [] w [] := Mem.nil w []
  refine calls_vc mixed Try.func17 rfl C17 (by simp [Try.ntmps17]) ?_
  refine seq fun K1 h1 => ?_
  refine stp (v := .slice none 0 0) (o_mv rfl) ?_
  refine stp (v := .int .i64 0) (o_mv rfl) ?_
  refine h1 _ _ ?_
  clear h1
  refine seq fun K2 h2 => ?_
  refine seq fun K3 h3 => ?_
  refine stp (v := x) (o_mv rfl) ?_
  refine m_call (Expand_ok _ ts w (hx.upd hM0.upd) (fun t ht => ⟨(hts t ht).1.upd hM0.upd, (hts t ht).2⟩) (by first | omega | (simp; done) | (simp; omega))) rfl fun v4 w4 ⟨y4, rs4, hr4, hs4, hm4⟩ => ?_
  have hM4 : Mem w [] w4 [rs4] := hM0.add hm4
  subst hr4
  refine stp (v := .tuple [y4, .int .i64 ((expF (List.map Tk.p ts)).2)].toArray) (o_mv rfl) ?_
  refine stp (v := y4) (o_ext rfl rfl) ?_
  refine stp (v := .int .i64 ((expF (List.map Tk.p ts)).2)) (o_ext rfl rfl) ?_
  refine stp (v := y4) (o_mv rfl) ?_
  refine stp (v := .int .i64 ((expF (List.map Tk.p ts)).2)) (o_mv rfl) ?_
  refine h3 _ _ ?_
  clear h3
  refine seq fun K5 h5 => ?_
  refine stp (v := .int .i64 ((expF (List.map Tk.p ts)).2)) (o_mv rfl) ?_
  refine stp (v := .bool (decide (¬ ((expF (List.map Tk.p ts)).2) = 0))) (o_bin rfl rfl v_neq) ?_
  refine h5 _ _ ?_
  clear h5
  refine cndP rfl (fun c6 => ?_) (fun c6 => ?_)
  ·
    refine seq fun K7 h7 => ?_
    refine stp (v := .int .i64 ((expF (List.map Tk.p ts)).2)) (o_mv rfl) ?_
    refine stp (v := .slice none 0 0) (o_mv rfl) ?_
    refine stp (v := .int .i64 ((expF (List.map Tk.p ts)).2)) (o_mv rfl) ?_
    refine h7 _ _ ?_
    clear h7
    refine ⟨(.tuple [.slice none 0 0, .int .i64 ((expF (List.map Tk.p ts)).2)].toArray), rfl, ?_⟩
    have he := wrF_no (ts := ts.map Tk.p) (by omega)
    exact ⟨.slice none 0 0, [], by rw [he], by rw [he]; exact Sl.nil 1 5, hM4.keep (by simp)⟩
  ·
    refine h2 _ _ ?_
    clear h2
    refine seq fun K8 h8 => ?_
    refine stp (v := .slice none 0 0) (o_mv rfl) ?_
    refine h8 _ _ ?_
    clear h8
    refine seq fun K9 h9 => ?_
    refine seq fun K10 h10 => ?_
    refine stp (v := x) (o_mv rfl) ?_
    refine stp (v := .int .i64 (ts.length : Nat)) (o_lenR (hx.upd hM4.upd) rfl rfl) ?_
    refine stp (v := .int .i64 0) (o_mv rfl) ?_
    refine h10 _ _ ?_
    clear h10
    have hM11 : Mem w [] w4 [rs4, []] := hM4.addNil
    have hs11 : SlE byteV 5 (.slice none 0 0) [] [] := Sl.nil 1 5
    refine lp (n := fun _ _ => False) (ι := (Nat) × (Value) × (List Ent)) (fun ⟨i, y6_, r6_⟩ f w' => f 6 = y6_ ∧ f 19 = .int .i64 (i : Nat) ∧ f 17 = x ∧ f 18 = .int .i64 (ts.length : Nat) ∧ Mem w [] w' [rs4, r6_] ∧ (i ≤ ts.length) ∧ ((toksB ((ts.take i).map Tk.p)).length ≤ sumL ts i + 27 * i) ∧ (SlE byteV 5 y6_ (toksB ((ts.take i).map Tk.p)) r6_)) (fun ⟨i, y6_, r6_⟩ => ts.length - i) (0, ((.slice none 0 0)), ([])) ?_ ?_
    · exact ⟨rfl, by first | rfl | exact v_int (by omega) | exact v_int (by simp) | exact v_int (by simp; omega), rfl, by first | rfl | exact v_int (by omega) | exact v_int (by simp) | exact v_int (by simp; omega), hM11, by omega, by simp [toksB], by first | exact hs11 | simpa using hs11⟩
    · rintro ⟨i, y6_, r6_⟩ f w12 ⟨e12_6, e12_19, e12_17, e12_18, hM12, hi, hB, hy6_⟩ K13 h13
      obtain ⟨frm, rfl⟩ : ∃ frm, f = (upd (upd (upd (upd frm 6 (y6_)) 19 (.int .i64 (i : Nat))) 17 (x)) 18 (.int .i64 (ts.length : Nat))) := ⟨f, by rw [upd_self e12_6, upd_self e12_19, upd_self e12_17, upd_self e12_18]⟩
      clear e12_6 e12_19 e12_17 e12_18
      refine seq fun K14 h14 => ?_
      refine stp (v := .bool (decide (((i : Nat) : Int) < (ts.length : Nat)))) (o_bin rfl rfl rfl) ?_
      refine h14 _ _ ?_
      clear h14
      refine seq fun K15 h15 => ?_
      refine cndP rfl (fun c16 => ?_) (fun c16 => ?_)
      ·
        refine h15 _ _ ?_
        clear h15
        refine seq fun K17 h17 => ?_
        refine seq fun K18 h18 => ?_
        refine m_idxS tz (j := i) (hx.upd hM12.upd) rfl rfl (by omega) fun b19 o19 hp19 => ?_
        have hes := exT_sum (ts := ts) (by omega)
        have hsl := sumL_le ts i
        have heb := hes.2.2 i (by omega)
        have hti := hts _ (getD_memG tz (l := ts) (i := i) (by omega))
        have htk := tokB_len (t := ts.getD i tz) (by have := hti.2.2.2; omega) (by simp only [inK]; omega) (by simp only [inK]; omega)
        have hti4 := hti.2.2.2
        refine ldA (cs := [(ts.getD i tz).lit, .int .i64 (((ts.getD i tz)).d), .int .i64 (((ts.getD i tz)).n)]) rfl rfl (hp19.row (k := 0) rfl rfl) ?_
        refine m_al hM12 fun b20 w21 (hM21 : Mem w [] w21 [rs4, r6_, [⟨b20, 31, [.slice none 0 0, .int .i64 0, .int .i64 0]⟩]]) => ?_
        refine m_stA (l := [(ts.getD i tz).lit, .int .i64 (((ts.getD i tz)).d), .int .i64 (((ts.getD i tz)).n)]) hM21 (i := 2) rfl rfl rfl rfl (by simp [oneCells, Value.oneCell', byteV]) (by simp) fun w22 (hM22 : Mem w [] w22 [rs4, r6_, [⟨b20, 31, [(ts.getD i tz).lit, .int .i64 (((ts.getD i tz)).d), .int .i64 (((ts.getD i tz)).n)]⟩]]) => ?_
        refine h18 _ _ ?_
        clear h18
        refine stp (v := y6_) (o_mv rfl) ?_
        refine m_ldA (l := [(ts.getD i tz).lit, .int .i64 (((ts.getD i tz)).d), .int .i64 (((ts.getD i tz)).n)]) hM22 (i := 2) (j := 0) rfl rfl rfl rfl rfl ?_
        refine m_call (bytes_ok (ts.getD i tz) w22 ((hts _ (getD_memG tz (by omega))).1.upd hM22.upd) (by omega) (by omega) (by omega)) rfl fun v23 w23 ⟨rs23, hs23, hm23⟩ => ?_
        have hM23 : Mem w [] w23 [rs4, r6_, [⟨b20, 31, [(ts.getD i tz).lit, .int .i64 (((ts.getD i tz)).d), .int .i64 (((ts.getD i tz)).n)]⟩], rs23] := hM22.add hm23
        refine m_appE hM23 (i := 1) rfl hy6_ rfl rfl (hs23.rd hM23 (i := 3) rfl) (by first | omega | (simp; omega)) (by omega) fun v24 w24 r24 (hs24 : SlE byteV 5 v24 ((toksB ((ts.take i).map Tk.p)) ++ (tokB (ts.getD i tz).p)) r24) (hM24 : Mem w [] w24 [rs4, r24, [⟨b20, 31, [(ts.getD i tz).lit, .int .i64 (((ts.getD i tz)).d), .int .i64 (((ts.getD i tz)).n)]⟩], rs23]) => ?_
        refine stp (v := v24) (o_mv rfl) ?_
        refine h17 _ _ ?_
        clear h17
        refine stp (v := .int .i64 ((i : Nat) + 1)) (o_bin rfl rfl (v_add64 (by constructor <;> omega))) ?_
        refine stp (v := .int .i64 ((i : Nat) + 1)) (o_mv rfl) ?_
        refine h13 (i + 1, v24, r24) _ _ ⟨rfl, by first | rfl | exact v_int (by omega) | exact v_int (by simp) | exact v_int (by simp; omega), rfl, by first | rfl | exact v_int (by omega) | exact v_int (by simp) | exact v_int (by simp; omega), hM24.keep (by simp), by omega, by rw [toksT_snoc (by omega), List.length_append, sumL_succ (by omega)]; omega, by rw [toksT_snoc (by omega)]; exact hs24⟩ (by (try dsimp only); omega)
      ·
        refine h9 _ _ ?_
        clear h9
        refine seq fun K25 h25 => ?_
        refine stp (v := y6_) (o_mv rfl) ?_
        refine stp (v := y6_) (o_mv rfl) ?_
        refine stp (v := .int .i64 0) (o_mv rfl) ?_
        refine h25 _ _ ?_
        clear h25
        refine ⟨(.tuple [y6_, .int .i64 0].toArray), rfl, ?_⟩
        have he := wrF_ok (ts := ts.map Tk.p) (by omega)
        obtain rfl : i = ts.length := by omega
        rw [List.take_length] at hy6_
        exact ⟨_, _, by rw [he], by rw [he]; exact hy6_, hM12.keep (by simp)⟩

/-- winnowref3.Write -/
theorem refWrite_ok (x : Value) (ts : List Tk) (w : World) (hx : RdS tokC w x ts) (hts : ∀ t ∈ ts, t.ok w) (hl : ts.length ≤ 1152921504606846976) : Calls Try.prog 14 [x].toArray w (Rt fun r w' => ∃ v rs, r = .tuple [v, .int .i64 (wrF (ts.map Tk.p)).2].toArray ∧ SlE byteV 5 v (wrF (ts.map Tk.p)).1 rs ∧ Mem w [] w' [rs]) := by
  have hM0 : Mem w [] w [] := Mem.nil w []
  refine calls_vc mixed Try.func14 rfl C14 (by simp [Try.ntmps14]) ?_
  refine seq fun K1 h1 => ?_
  refine stp (v := .slice none 0 0) (o_mv rfl) ?_
  refine stp (v := .int .i64 0) (o_mv rfl) ?_
  refine h1 _ _ ?_
  clear h1
  refine seq fun K2 h2 => ?_
  refine stp (v := x) (o_mv rfl) ?_
  refine m_call (refExpand_ok _ ts w (hx.upd hM0.upd) (fun t ht => ⟨(hts t ht).1.upd hM0.upd, (hts t ht).2⟩) (by first | omega | (simp; done) | (simp; omega))) rfl fun v3 w3 ⟨y3, rs3, hr3, hs3, hm3⟩ => ?_
  have hM3 : Mem w [] w3 [rs3] := hM0.add hm3
  subst hr3
  refine stp (v := .tuple [y3, .int .i64 ((expF (List.map Tk.p ts)).2)].toArray) (o_mv rfl) ?_
  refine stp (v := y3) (o_ext rfl rfl) ?_
  refine stp (v := .int .i64 ((expF (List.map Tk.p ts)).2)) (o_ext rfl rfl) ?_
  refine stp (v := y3) (o_mv rfl) ?_
  refine stp (v := .int .i64 ((expF (List.map Tk.p ts)).2)) (o_mv rfl) ?_
  refine h2 _ _ ?_
  clear h2
  refine seq fun K4 h4 => ?_
  refine seq fun K5 h5 => ?_
  refine stp (v := .int .i64 ((expF (List.map Tk.p ts)).2)) (o_mv rfl) ?_
  refine stp (v := .bool (decide (¬ ((expF (List.map Tk.p ts)).2) = 0))) (o_bin rfl rfl v_neq) ?_
  refine h5 _ _ ?_
  clear h5
  refine cndP rfl (fun c6 => ?_) (fun c6 => ?_)
  ·
    refine seq fun K7 h7 => ?_
    refine stp (v := .int .i64 ((expF (List.map Tk.p ts)).2)) (o_mv rfl) ?_
    refine stp (v := .slice none 0 0) (o_mv rfl) ?_
    refine stp (v := .int .i64 ((expF (List.map Tk.p ts)).2)) (o_mv rfl) ?_
    refine h7 _ _ ?_
    clear h7
    refine ⟨(.tuple [.slice none 0 0, .int .i64 ((expF (List.map Tk.p ts)).2)].toArray), rfl, ?_⟩
    have he := wrF_no (ts := ts.map Tk.p) (by omega)
    exact ⟨.slice none 0 0, [], by rw [he], by rw [he]; exact Sl.nil 1 5, hM3.keep (by simp)⟩
  ·
    refine h4 _ _ ?_
    clear h4
    refine seq fun K8 h8 => ?_
    refine stp (v := .slice none 0 0) (o_mv rfl) ?_
    refine h8 _ _ ?_
    clear h8
    refine seq fun K9 h9 => ?_
    refine seq fun K10 h10 => ?_
    refine stp (v := .int .i64 0) (o_mv rfl) ?_
    refine h10 _ _ ?_
    clear h10
    have hM11 : Mem w [] w3 [rs3, []] := hM3.addNil
    have hs11 : SlE byteV 5 (.slice none 0 0) [] [] := Sl.nil 1 5
    refine lp (n := fun _ _ => False) (ι := (Nat) × (Value) × (List Ent)) (fun ⟨i, y6_, r6_⟩ f w' => f 6 = y6_ ∧ f 7 = .int .i64 (i : Nat) ∧ f 0 = x ∧ Mem w [] w' [rs3, r6_] ∧ (i ≤ ts.length) ∧ ((toksB ((ts.take i).map Tk.p)).length ≤ sumL ts i + 27 * i) ∧ (SlE byteV 5 y6_ (toksB ((ts.take i).map Tk.p)) r6_)) (fun ⟨i, y6_, r6_⟩ => ts.length - i) (0, ((.slice none 0 0)), ([])) ?_ ?_
    · exact ⟨rfl, by first | rfl | exact v_int (by omega) | exact v_int (by simp) | exact v_int (by simp; omega), rfl, hM11, by omega, by simp [toksB], by first | exact hs11 | simpa using hs11⟩
    · rintro ⟨i, y6_, r6_⟩ f w12 ⟨e12_6, e12_7, e12_0, hM12, hi, hB, hy6_⟩ K13 h13
      obtain ⟨frm, rfl⟩ : ∃ frm, f = (upd (upd (upd frm 6 (y6_)) 7 (.int .i64 (i : Nat))) 0 (x)) := ⟨f, by rw [upd_self e12_6, upd_self e12_7, upd_self e12_0]⟩
      clear e12_6 e12_7 e12_0
      refine seq fun K14 h14 => ?_
      refine seq fun K15 h15 => ?_
      refine stp (v := .int .i64 (i : Nat)) (o_mv rfl) ?_
      refine stp (v := x) (o_mv rfl) ?_
      refine stp (v := .int .i64 (ts.length : Nat)) (o_lenR (hx.upd hM12.upd) rfl rfl) ?_
      refine stp (v := .bool (decide (((i : Nat) : Int) < (ts.length : Nat)))) (o_bin rfl rfl rfl) ?_
      refine h15 _ _ ?_
      clear h15
      refine cndP rfl (fun c16 => ?_) (fun c16 => ?_)
      ·
        refine h14 _ _ ?_
        clear h14
        refine seq fun K17 h17 => ?_
        refine seq fun K18 h18 => ?_
        refine stp (v := x) (o_mv rfl) ?_
        refine stp (v := .int .i64 (i : Nat)) (o_mv rfl) ?_
        refine m_idxS tz (j := i) (hx.upd hM12.upd) rfl rfl (by omega) fun b19 o19 hp19 => ?_
        have hes := exT_sum (ts := ts) (by omega)
        have hsl := sumL_le ts i
        have heb := hes.2.2 i (by omega)
        have hti := hts _ (getD_memG tz (l := ts) (i := i) (by omega))
        have htk := tokB_len (t := ts.getD i tz) (by have := hti.2.2.2; omega) (by simp only [inK]; omega) (by simp only [inK]; omega)
        have hti4 := hti.2.2.2
        refine ldA (cs := [(ts.getD i tz).lit, .int .i64 (((ts.getD i tz)).d), .int .i64 (((ts.getD i tz)).n)]) rfl rfl (hp19.row (k := 0) rfl rfl) ?_
        refine m_al hM12 fun b20 w21 (hM21 : Mem w [] w21 [rs3, r6_, [⟨b20, 31, [.slice none 0 0, .int .i64 0, .int .i64 0]⟩]]) => ?_
        refine m_stA (l := [(ts.getD i tz).lit, .int .i64 (((ts.getD i tz)).d), .int .i64 (((ts.getD i tz)).n)]) hM21 (i := 2) rfl rfl rfl rfl (by simp [oneCells, Value.oneCell', byteV]) (by simp) fun w22 (hM22 : Mem w [] w22 [rs3, r6_, [⟨b20, 31, [(ts.getD i tz).lit, .int .i64 (((ts.getD i tz)).d), .int .i64 (((ts.getD i tz)).n)]⟩]]) => ?_
        refine h18 _ _ ?_
        clear h18
        refine seq fun K23 h23 => ?_
        refine stp (v := y6_) (o_mv rfl) ?_
        refine stp (v := .pointer (some ⟨b20, 0, none⟩)) (o_fa rfl rfl) ?_
        refine m_ld (v := (ts.getD i tz).lit) hM22 (i := 2) (j := 0) rfl rfl rfl rfl ?_
        refine stp (v := .int .i64 (((ts.getD i tz).bs).length : Nat)) (o_lenR ((hts _ (getD_memG tz (by omega))).1.upd hM22.upd) rfl rfl) ?_
        refine m_call (refPut_ok (((ts.getD i tz).bs).length : Nat) (by simp only [inK]; omega) w22) rfl fun v24 w24 ⟨rs24, hs24, hm24⟩ => ?_
        have hM24 : Mem w [] w24 [rs3, r6_, [⟨b20, 31, [(ts.getD i tz).lit, .int .i64 (((ts.getD i tz)).d), .int .i64 (((ts.getD i tz)).n)]⟩], rs24] := hM22.add hm24
        have hn24 := putI_len (v := (((ts.getD i tz).bs).length : Nat)) (by omega)
        refine m_appE hM24 (i := 1) rfl hy6_ rfl rfl (hs24.rd hM24 (i := 3) rfl) (by first | omega | (simp; omega)) (by omega) fun v25 w25 r25 (hs25 : SlE byteV 5 v25 ((toksB ((ts.take i).map Tk.p)) ++ (putI (((ts.getD i tz).bs).length : Nat))) r25) (hM25 : Mem w [] w25 [rs3, r25, [⟨b20, 31, [(ts.getD i tz).lit, .int .i64 (((ts.getD i tz)).d), .int .i64 (((ts.getD i tz)).n)]⟩], rs24]) => ?_
        refine stp (v := v25) (o_mv rfl) ?_
        refine h23 _ _ ?_
        clear h23
        refine seq fun K26 h26 => ?_
        refine stp (v := v25) (o_mv rfl) ?_
        refine stp (v := .pointer (some ⟨b20, 0, none⟩)) (o_fa rfl rfl) ?_
        refine m_ld (v := (ts.getD i tz).lit) hM25 (i := 2) (j := 0) rfl rfl rfl rfl ?_
        refine m_appE hM25 (i := 1) rfl hs25 rfl rfl ((hts _ (getD_memG tz (by omega))).1.upd hM25.upd) (by simp only [List.length_append]; omega) (by omega) fun v27 w27 r27 (hs27 : SlE byteV 5 v27 (((toksB ((ts.take i).map Tk.p)) ++ (putI (((ts.getD i tz).bs).length : Nat))) ++ ((ts.getD i tz).bs)) r27) (hM27 : Mem w [] w27 [rs3, r27, [⟨b20, 31, [(ts.getD i tz).lit, .int .i64 (((ts.getD i tz)).d), .int .i64 (((ts.getD i tz)).n)]⟩], rs24]) => ?_
        refine stp (v := v27) (o_mv rfl) ?_
        refine h26 _ _ ?_
        clear h26
        refine seq fun K28 h28 => ?_
        refine stp (v := .pointer (some ⟨b20, 2, none⟩)) (o_fa rfl rfl) ?_
        refine m_ld (v := .int .i64 (((ts.getD i tz)).n)) hM27 (i := 2) (j := 0) rfl rfl rfl rfl ?_
        refine stp (v := .bool (decide ((0 : Int) < (((ts.getD i tz)).n)))) (o_bin rfl rfl rfl) ?_
        refine h28 _ _ ?_
        clear h28
        refine cndP rfl (fun c29 => ?_) (fun c29 => ?_)
        ·
          refine seq fun K30 h30 => ?_
          refine stp (v := v27) (o_mv rfl) ?_
          refine stp (v := .pointer (some ⟨b20, 2, none⟩)) (o_fa rfl rfl) ?_
          refine m_ld (v := .int .i64 (((ts.getD i tz)).n)) hM27 (i := 2) (j := 0) rfl rfl rfl rfl ?_
          refine stp (v := .int .i64 ((((ts.getD i tz)).n) - 4)) (o_bin rfl rfl (v_sub64 (by constructor <;> omega))) ?_
          refine m_call (refPut_ok ((((ts.getD i tz)).n) - 4) (by simp only [inK]; omega) w27) rfl fun v31 w31 ⟨rs31, hs31, hm31⟩ => ?_
          have hM31 : Mem w [] w31 [rs3, r27, [⟨b20, 31, [(ts.getD i tz).lit, .int .i64 (((ts.getD i tz)).d), .int .i64 (((ts.getD i tz)).n)]⟩], rs24, rs31] := hM27.add hm31
          have hn31 := putI_len (v := (((ts.getD i tz)).n) - 4) (by omega)
          refine m_appE hM31 (i := 1) rfl hs27 rfl rfl (hs31.rd hM31 (i := 4) rfl) (by simp only [List.length_append]; omega) (by omega) fun v32 w32 r32 (hs32 : SlE byteV 5 v32 ((((toksB ((ts.take i).map Tk.p)) ++ (putI (((ts.getD i tz).bs).length : Nat))) ++ ((ts.getD i tz).bs)) ++ (putI ((((ts.getD i tz)).n) - 4))) r32) (hM32 : Mem w [] w32 [rs3, r32, [⟨b20, 31, [(ts.getD i tz).lit, .int .i64 (((ts.getD i tz)).d), .int .i64 (((ts.getD i tz)).n)]⟩], rs24, rs31]) => ?_
          refine stp (v := v32) (o_mv rfl) ?_
          refine h30 _ _ ?_
          clear h30
          refine stp (v := v32) (o_mv rfl) ?_
          refine stp (v := .pointer (some ⟨b20, 1, none⟩)) (o_fa rfl rfl) ?_
          refine m_ld (v := .int .i64 (((ts.getD i tz)).d)) hM32 (i := 2) (j := 0) rfl rfl rfl rfl ?_
          refine m_call (refPut_ok (((ts.getD i tz)).d) (by simp only [inK]; omega) w32) rfl fun v33 w33 ⟨rs33, hs33, hm33⟩ => ?_
          have hM33 : Mem w [] w33 [rs3, r32, [⟨b20, 31, [(ts.getD i tz).lit, .int .i64 (((ts.getD i tz)).d), .int .i64 (((ts.getD i tz)).n)]⟩], rs24, rs31, rs33] := hM32.add hm33
          have hn33 := putI_len (v := ((ts.getD i tz)).d) (by omega)
          refine m_appE hM33 (i := 1) rfl hs32 rfl rfl (hs33.rd hM33 (i := 5) rfl) (by simp only [List.length_append]; omega) (by omega) fun v34 w34 r34 (hs34 : SlE byteV 5 v34 (((((toksB ((ts.take i).map Tk.p)) ++ (putI (((ts.getD i tz).bs).length : Nat))) ++ ((ts.getD i tz).bs)) ++ (putI ((((ts.getD i tz)).n) - 4))) ++ (putI (((ts.getD i tz)).d))) r34) (hM34 : Mem w [] w34 [rs3, r34, [⟨b20, 31, [(ts.getD i tz).lit, .int .i64 (((ts.getD i tz)).d), .int .i64 (((ts.getD i tz)).n)]⟩], rs24, rs31, rs33]) => ?_
          refine stp (v := v34) (o_mv rfl) ?_
          refine h17 _ _ ?_
          clear h17
          refine stp (v := .int .i64 (i : Nat)) (o_mv rfl) ?_
          refine stp (v := .int .i64 ((i : Nat) + 1)) (o_bin rfl rfl (v_add64 (by constructor <;> omega))) ?_
          refine stp (v := .int .i64 ((i : Nat) + 1)) (o_mv rfl) ?_
          refine h13 (i + 1, v34, r34) _ _ ⟨rfl, by first | rfl | exact v_int (by omega) | exact v_int (by simp) | exact v_int (by simp; omega), rfl, hM34.keep (by simp), by omega, by rw [toksT_snoc (by omega), List.length_append, sumL_succ (by omega)]; omega, by rw [toksT_snoc (by omega), tokB_some (by rw [← heb.2.2.2.2]; omega)]; simpa using hs34⟩ (by (try dsimp only); omega)
        ·
          refine h17 _ _ ?_
          clear h17
          refine stp (v := .int .i64 (i : Nat)) (o_mv rfl) ?_
          refine stp (v := .int .i64 ((i : Nat) + 1)) (o_bin rfl rfl (v_add64 (by constructor <;> omega))) ?_
          refine stp (v := .int .i64 ((i : Nat) + 1)) (o_mv rfl) ?_
          refine h13 (i + 1, v27, r27) _ _ ⟨rfl, by first | rfl | exact v_int (by omega) | exact v_int (by simp) | exact v_int (by simp; omega), rfl, hM27.keep (by simp), by omega, by rw [toksT_snoc (by omega), List.length_append, sumL_succ (by omega)]; omega, by rw [toksT_snoc (by omega), tokB_none (by rw [← heb.2.2.2.2]; omega)]; simpa using hs27⟩ (by (try dsimp only); omega)
      ·
        refine h9 _ _ ?_
        clear h9
        refine seq fun K35 h35 => ?_
        refine stp (v := y6_) (o_mv rfl) ?_
        refine stp (v := y6_) (o_mv rfl) ?_
        refine stp (v := .int .i64 0) (o_mv rfl) ?_
        refine h35 _ _ ?_
        clear h35
        refine ⟨(.tuple [y6_, .int .i64 0].toArray), rfl, ?_⟩
        have he := wrF_ok (ts := ts.map Tk.p) (by omega)
        obtain rfl : i = ts.length := by omega
        rw [List.take_length] at hy6_
        exact ⟨_, _, by rw [he], by rw [he]; exact hy6_, hM12.keep (by simp)⟩
