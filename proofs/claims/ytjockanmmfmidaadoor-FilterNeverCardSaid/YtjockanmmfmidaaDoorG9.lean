/- Filters as bytes: the law. -/
import Derived.Test.YtjockanmmfmidaaDoorG8
namespace Go.Proofs.YtjockanmmfmidaaDoor.E
open Go

/-- filter.Check -/
theorem Check_ok (a : Bool) (h : Int) (v : Value) (d : List UInt8) (w : World) (hx : RdE byteV w v d) (hl : d.length ≤ 140737488351232) : Calls Tryd.prog 16 [.agg [.bool a, .int .i64 h, v].toArray].toArray w (Rt fun r w' => r = .int .i64 (chk a h d) ∧ Upd [] w w') := by
  have hM0 : Mem w [] w [] := Mem.nil w []
  refine calls_vc mixed Tryd.func16 rfl C16 (by simp [Tryd.ntmps16]) ?_
  refine seq fun K1 h1 => ?_
  refine m_bx (v := .agg ([.bool a, .int .i64 h, v] : List Value).toArray) hM0 rfl rfl fun b2 w3 (hM3 : Mem w [] w3 [[⟨b2, 24, [.bool a, .int .i64 h, v]⟩]]) => ?_
  refine stp (v := .int .i64 0) (o_mv rfl) ?_
  refine h1 _ _ ?_
  clear h1
  refine seq fun K4 h4 => ?_
  refine seq fun K5 h5 => ?_
  refine m_ldA (l := [.bool a, .int .i64 h, v]) hM3 (i := 0) (j := 0) rfl rfl rfl rfl rfl ?_
  refine m_call (kind_ok a h _ d w3 (hx.upd hM3.upd) (by first | omega | (simp; done) | (simp; omega))) rfl fun v6 w6 ⟨hr6, hu6⟩ => ?_
  have hM6 : Mem w [] w6 [[⟨b2, 24, [.bool a, .int .i64 h, v]⟩]] := hM3.pure hu6
  subst hr6
  refine stp (v := .bool (decide (((fk a h d : Nat) : Int) = 0))) (o_bin rfl rfl rfl) ?_
  refine h5 _ _ ?_
  clear h5
  refine cndP rfl (fun c7 => ?_) (fun c7 => ?_)
  ·
    refine seq fun K8 h8 => ?_
    refine stp (v := .int .i64 70) (o_mv rfl) ?_
    refine h8 _ _ ?_
    clear h8
    refine ⟨(.int .i64 70), rfl, ?_⟩
    exact ⟨by rw [chk_70 (by omega)], hM6.upd⟩
  ·
    refine h4 _ _ ?_
    clear h4
    refine seq fun K9 h9 => ?_
    refine stp (v := .int .i64 0) (o_mv rfl) ?_
    refine h9 _ _ ?_
    clear h9
    refine ⟨(.int .i64 0), rfl, ?_⟩
    exact ⟨by rw [(by unfold chk; rw [if_neg (by omega)] : chk a h d = 0)], hM6.upd⟩

/-- winnowlaw7.kept -/
theorem kept_ok (a : Bool) (h : Int) (bg cp : Nat) (y : Value) (d : List UInt8) (w : World) (hg : RdE byteV w (.slice (some ⟨bg, 0, none⟩) d.length cp) d) (hf : RdE byteV w (.slice (some ⟨bg, 0, none⟩) (d ++ List.replicate 64 (165 : UInt8)).length cp) (d ++ List.replicate 64 (165 : UInt8))) (hcp : (d ++ List.replicate 64 (165 : UInt8)).length ≤ cp) (hy : RdE byteV w y d) (hl : d.length ≤ 140737488351232) : Calls Tryd.prog 11 [.agg [.bool a, .int .i64 h, (.slice (some ⟨bg, 0, none⟩) d.length cp)].toArray, .agg [.bool a, .int .i64 h, y].toArray].toArray w (Rt fun r w' => r = .bool true ∧ Upd [] w w') := by
  have hM0 : Mem w [] w [] := Mem.nil w []
  have hlm : (d ++ List.replicate 64 (165 : UInt8)).length = d.length + 64 := by simp
  refine calls_vc mixed Tryd.func11 rfl C11 (by simp [Tryd.ntmps11]) ?_
  refine seq fun K1 h1 => ?_
  refine m_bx (v := .agg ([.bool a, .int .i64 h, (.slice (some ⟨bg, 0, none⟩) d.length cp)] : List Value).toArray) hM0 rfl rfl fun b2 w3 (hM3 : Mem w [] w3 [[⟨b2, 24, [.bool a, .int .i64 h, (.slice (some ⟨bg, 0, none⟩) d.length cp)]⟩]]) => ?_
  refine m_bx (v := .agg ([.bool a, .int .i64 h, y] : List Value).toArray) hM3 rfl rfl fun b4 w5 (hM5 : Mem w [] w5 [[⟨b2, 24, [.bool a, .int .i64 h, (.slice (some ⟨bg, 0, none⟩) d.length cp)]⟩], [⟨b4, 24, [.bool a, .int .i64 h, y]⟩]]) => ?_
  refine stp (v := .bool false) (o_mv rfl) ?_
  refine h1 _ _ ?_
  clear h1
  refine seq fun K6 h6 => ?_
  intro wd e1 e2 e3 e4
  have hd := Upd.same e1 e2 e3 e4 []
  have hM7 := hM5.pure hd
  clear e1 e2 e3 e4
  refine ⟨(some [b4, b2]), ?_⟩
  show vd _ _ _ _ _ _ _
  refine dqldA (cs := [.bool a, .int .i64 h, y]) rfl (by simp [isHeld]) rfl ((hM7.at (i := 1) (j := 0) rfl rfl).agg rfl rfl) ?_
  refine dl (m_ldA (l := [.bool a, .int .i64 h, (.slice (some ⟨bg, 0, none⟩) d.length cp)]) hM7 (i := 0) (j := 0) rfl rfl rfl rfl rfl ?_)
  refine ⟨(fun b hb => rfl), ?_⟩
  refine dl (m_call (alike_ok a a h h _ _ d d wd (hg.upd hM7.upd) (hy.upd hM7.upd) (by first | omega | (simp; done) | (simp; omega))) rfl fun v8 w8 ⟨hr8, hu8⟩ => ?_)
  have hM8 : Mem w [] w8 [[⟨b2, 24, [.bool a, .int .i64 h, (.slice (some ⟨bg, 0, none⟩) d.length cp)]⟩], [⟨b4, 24, [.bool a, .int .i64 h, y]⟩]] := hM7.pure hu8
  obtain rfl : v8 = .bool true := hr8.trans (by rw [alikeF_self])
  have hh8 := held_upd (wr := wd) (bs := [b4, b2]) hu8 (fun b hb => by
    simp only [List.mem_cons, List.not_mem_nil, or_false] at hb
    rcases hb with h | h
    · rw [h]; exact ⟨(hM7.at (i := 1) (j := 0) rfl rfl).lt, by simp⟩
    · rw [h]; exact ⟨(hM7.at (i := 0) (j := 0) rfl rfl).lt, by simp⟩) (fun b hb => rfl)
  refine ⟨hh8, ?_⟩
  refine dq (v := .bool true) (o_mv rfl) ?_
  refine dsplitT rfl ?_
  refine dqg rfl (v := .pointer (some ⟨b2, 2, none⟩)) (o_fa rfl rfl) ?_
  refine dqg rfl (v := .pointer (some ⟨b4, 2, none⟩)) (o_fa rfl rfl) ?_
  refine dqg rfl (v := .pointer (some ⟨b4, 2, none⟩)) (o_fa rfl rfl) ?_
  refine dqgyes rfl rfl ?_
  refine dqld rfl (by simp [isHeld]) (v := y) ((hM7.at (i := 1) (j := 0) rfl rfl).cell 2) ?_
  refine dqgyes rfl rfl ?_
  refine dqld rfl (by simp [isHeld]) (v := y) ((hM7.at (i := 1) (j := 0) rfl rfl).cell 2) ?_
  refine dqg rfl (v := .int .i64 (d.length : Nat)) (o_lenR (hy.upd hM8.upd) rfl rfl) ?_
  refine dqg rfl (v := .int .i64 ((d.length : Nat) + 64)) (o_bin rfl rfl (v_add64 (by constructor <;> omega))) ?_
  refine dqgyes rfl rfl ?_
  refine dqld rfl (by simp [isHeld]) (v := (.slice (some ⟨bg, 0, none⟩) d.length cp)) ((hM7.at (i := 0) (j := 0) rfl rfl).cell 2) ?_
  refine dqg rfl (v := (.slice (some ⟨bg, 0, none⟩) (d ++ List.replicate 64 (165 : UInt8)).length cp)) (o_slcU rfl rfl (by omega) (by rw [hlm]; congr 1)) ?_
  refine dgyesl rfl ?_
  refine dl (m_call (roomy_ok _ d w8 (hy.upd hM8.upd) (by first | omega | (simp; done) | (simp; omega))) rfl fun v9 w9 ⟨rs9, hs9, hm9⟩ => ?_)
  have hM9 : Mem w [] w9 [[⟨b2, 24, [.bool a, .int .i64 h, (.slice (some ⟨bg, 0, none⟩) d.length cp)]⟩], [⟨b4, 24, [.bool a, .int .i64 h, y]⟩], rs9] := hM8.add hm9
  have hh9 := held_upd (wr := wd) (bs := [b4, b2]) hm9.upd (fun b hb => by
    simp only [List.mem_cons, List.not_mem_nil, or_false] at hb
    rcases hb with h | h
    · rw [h]; exact ⟨(hM8.at (i := 1) (j := 0) rfl rfl).lt, by simp⟩
    · rw [h]; exact ⟨(hM8.at (i := 0) (j := 0) rfl rfl).lt, by simp⟩) hh8
  refine ⟨hh9, ?_⟩
  refine dgyesl rfl ?_
  refine dl (m_call (same_ok _ _ (d ++ List.replicate 64 (165 : UInt8)) (d ++ List.replicate 64 (165 : UInt8)) w9 (hf.upd hM9.upd) (hs9.rd hM9 (i := 2) rfl) (by first | omega | (simp; done) | (simp; omega))) rfl fun v10 w10 ⟨hr10, hu10⟩ => ?_)
  have hM10 : Mem w [] w10 [[⟨b2, 24, [.bool a, .int .i64 h, (.slice (some ⟨bg, 0, none⟩) d.length cp)]⟩], [⟨b4, 24, [.bool a, .int .i64 h, y]⟩], rs9] := hM9.pure hu10
  obtain rfl : v10 = .bool true := hr10.trans (by simp)
  clear hr10
  have hh10 := held_upd (wr := wd) (bs := [b4, b2]) hu10 (fun b hb => by
    simp only [List.mem_cons, List.not_mem_nil, or_false] at hb
    rcases hb with h | h
    · rw [h]; exact ⟨(hM9.at (i := 1) (j := 0) rfl rfl).lt, by simp⟩
    · rw [h]; exact ⟨(hM9.at (i := 0) (j := 0) rfl rfl).lt, by simp⟩) hh9
  refine ⟨hh10, ?_⟩
  refine dq (v := .bool true) (o_pickT rfl rfl) ?_
  refine dq (v := .bool true) (o_mv rfl) ?_
  refine h6 _ _ ?_
  clear h6
  refine ⟨(.bool true), rfl, ?_⟩
  exact ⟨rfl, hM10.upd⟩
