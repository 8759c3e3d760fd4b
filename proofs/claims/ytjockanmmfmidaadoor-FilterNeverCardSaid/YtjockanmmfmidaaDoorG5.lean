/- Filters of keys: the law. -/
import Derived.Test.YtjockanmmfmidaaDoorG4
namespace Go.Proofs.YtjockanmmfmidaaDoor.E
open Go
def alikeF (a : Bool) (h : Int) (d : List UInt8) (b : Bool) (k : Int) (e : List UInt8) : Bool := (a == b) && (decide (h = k) && decide (d = e))
theorem alikeF_self (a : Bool) (h : Int) (d : List UInt8) : alikeF a h d a h d = true := by simp [alikeF]
theorem buildF_len {l : List (List UInt8)} {p : Int} : (buildF l p).2.2.1.length ≤ 4096 := by
  unfold buildF; split
  · simp
  · split
    · simp
    · split
      · simp
      · rw [fillK_length, List.length_replicate]; unfold byN; omega
theorem buildF_hs {l : List (List UInt8)} {p : Int} : inK .i64 (buildF l p).2.1 := by
  have := hsN_bd p
  unfold buildF; simp only [inK]; split
  · simp
  · split
    · simp
    · split
      · simp
      · simp only []; omega
theorem let_len {l : List (List UInt8)} (h : ∀ k ∈ l, k.length ≤ 140737488351232) : ∀ k ∈ l.map (· ++ [122]), k.length ≤ 9223372036854775000 := by
  intro k hk
  obtain ⟨m, hm, rfl⟩ := List.mem_map.1 hk
  have := h m hm
  simp; omega
theorem len_w {l : List (List UInt8)} (h : ∀ k ∈ l, k.length ≤ 140737488351232) : ∀ k ∈ l, k.length ≤ 9223372036854775000 := fun k hk => by have := h k hk; omega

/-- winnowlaw7.alike -/
theorem alike_ok (a b : Bool) (h k : Int) (x y : Value) (d e : List UInt8) (w : World) (hx : RdE byteV w x d) (hy : RdE byteV w y e) (hl : d.length ≤ 9223372036854775807) : Calls Tryd.prog 10 [.agg #[.bool a, .int .i64 h, x], .agg #[.bool b, .int .i64 k, y]].toArray w (Rt fun r w' => r = .bool (alikeF a h d b k e) ∧ Upd [] w w') := by
  have hM0 : Mem w [] w [] := Mem.nil w []
  refine calls_vc mixed Tryd.func10 rfl C10 (by simp [Tryd.ntmps10]) ?_
  refine seq fun K1 h1 => ?_
  refine m_bx (v := .agg ([.bool a, .int .i64 h, x] : List Value).toArray) hM0 rfl rfl fun b2 w3 (hM3 : Mem w [] w3 [[⟨b2, 24, [.bool a, .int .i64 h, x]⟩]]) => ?_
  refine m_bx (v := .agg ([.bool b, .int .i64 k, y] : List Value).toArray) hM3 rfl rfl fun b4 w5 (hM5 : Mem w [] w5 [[⟨b2, 24, [.bool a, .int .i64 h, x]⟩], [⟨b4, 24, [.bool b, .int .i64 k, y]⟩]]) => ?_
  refine stp (v := .bool false) (o_mv rfl) ?_
  refine h1 _ _ ?_
  clear h1
  refine seq fun K6 h6 => ?_
  refine stp (v := .pointer (some ⟨b2, 0, none⟩)) (o_fa rfl rfl) ?_
  refine m_ld (v := .bool a) hM5 (i := 0) (j := 0) rfl rfl rfl rfl ?_
  refine stp (v := .pointer (some ⟨b4, 0, none⟩)) (o_fa rfl rfl) ?_
  refine m_ld (v := .bool b) hM5 (i := 1) (j := 0) rfl rfl rfl rfl ?_
  refine stp (v := .bool (decide ((a) = (b : Bool)))) (o_beq rfl rfl (rfl)) ?_
  refine stp (v := .bool (decide ((a) = (b : Bool)))) (o_mv rfl) ?_
  refine splitP rfl (fun c7 => ?_) (fun c7 => ?_)
  ·
    refine stg rfl (v := .pointer (some ⟨b2, 1, none⟩)) (o_fa rfl rfl) ?_
    refine gyesl rfl ?_
    refine m_ld (v := .int .i64 h) hM5 (i := 0) (j := 0) rfl rfl rfl rfl ?_
    refine stg rfl (v := .pointer (some ⟨b4, 1, none⟩)) (o_fa rfl rfl) ?_
    refine gyesl rfl ?_
    refine m_ld (v := .int .i64 k) hM5 (i := 1) (j := 0) rfl rfl rfl rfl ?_
    refine stg rfl (v := .bool (decide (h = k))) (o_bin rfl rfl rfl) ?_
    refine stp (v := .bool (decide (h = k))) (o_pickT rfl rfl) ?_
    refine stp (v := .bool (decide (h = k))) (o_mv rfl) ?_
    refine splitP rfl (fun c8 => ?_) (fun c8 => ?_)
    ·
      refine stg rfl (v := .pointer (some ⟨b2, 2, none⟩)) (o_fa rfl rfl) ?_
      refine gyesl rfl ?_
      refine m_ld (v := x) hM5 (i := 0) (j := 0) rfl rfl rfl rfl ?_
      refine stg rfl (v := .pointer (some ⟨b4, 2, none⟩)) (o_fa rfl rfl) ?_
      refine gyesl rfl ?_
      refine m_ld (v := y) hM5 (i := 1) (j := 0) rfl rfl rfl rfl ?_
      refine gyesl rfl ?_
      refine m_call (same_ok _ _ d e w5 (hx.upd hM5.upd) (hy.upd hM5.upd) (by first | omega | (simp; done) | (simp; omega))) rfl fun v9 w9 ⟨hr9, hu9⟩ => ?_
      have hM9 : Mem w [] w9 [[⟨b2, 24, [.bool a, .int .i64 h, x]⟩], [⟨b4, 24, [.bool b, .int .i64 k, y]⟩]] := hM5.pure hu9
      subst hr9
      refine stp (v := .bool (decide (d = e))) (o_pickT rfl rfl) ?_
      refine stp (v := .bool (decide (d = e))) (o_mv rfl) ?_
      refine h6 _ _ ?_
      clear h6
      refine ⟨(.bool (decide (d = e))), rfl, ?_⟩
      exact ⟨by unfold alikeF; simp_all, hM9.upd⟩
    ·
      refine gno rfl (by simp) ?_
      refine gnol rfl (by simp) ?_
      refine gno rfl (by simp) ?_
      refine gnol rfl (by simp) ?_
      refine gnol rfl (by simp) ?_
      refine stp (v := .bool false) (o_pickF rfl rfl) ?_
      refine stp (v := .bool false) (o_mv rfl) ?_
      refine h6 _ _ ?_
      clear h6
      refine ⟨(.bool false), rfl, ?_⟩
      exact ⟨by unfold alikeF; simp_all, hM5.upd⟩
  ·
    refine gno rfl (by simp) ?_
    refine gnol rfl (by simp) ?_
    refine gno rfl (by simp) ?_
    refine gnol rfl (by simp) ?_
    refine gno rfl (by simp) ?_
    refine stp (v := .bool false) (o_pickF rfl rfl) ?_
    refine stp (v := .bool false) (o_mv rfl) ?_
    refine splitF rfl ?_
    refine gno rfl (by simp) ?_
    refine gnol rfl (by simp) ?_
    refine gno rfl (by simp) ?_
    refine gnol rfl (by simp) ?_
    refine gnol rfl (by simp) ?_
    refine stp (v := .bool false) (o_pickF rfl rfl) ?_
    refine stp (v := .bool false) (o_mv rfl) ?_
    refine h6 _ _ ?_
    clear h6
    refine ⟨(.bool false), rfl, ?_⟩
    exact ⟨by unfold alikeF; simp_all, hM5.upd⟩
