/- Filters as bytes: the law. -/
import Derived.Test.YtjockanmmfmidaaG8
namespace Go.Proofs.Ytjockanmmfmidaa.E
open Go

/-- filter.Check -/
theorem Check_ok (a : Bool) (h : Int) (v : Value) (d : List UInt8) (w : World) (hx : RdE byteV w v d) (hl : d.length ≤ 140737488351232) : Calls Try.prog 24 [.agg [.bool a, .int .i64 h, v].toArray].toArray w (Rt fun r w' => r = .int .i64 (chk a h d) ∧ Upd [] w w') := by
  have hM0 : Mem w [] w [] := Mem.nil w []
  refine calls_vc mixed Try.func24 rfl C24 (by simp [Try.ntmps24]) ?_
  refine seq fun K1 h1 => ?_
  refine m_bx (v := .agg ([.bool a, .int .i64 h, v] : List Value).toArray) hM0 rfl rfl fun b2 w3 (hM3 : Mem w [] w3 [[⟨b2, 30, [.bool a, .int .i64 h, v]⟩]]) => ?_
  refine stp (v := .int .i64 0) (o_mv rfl) ?_
  refine h1 _ _ ?_
  clear h1
  refine seq fun K4 h4 => ?_
  refine seq fun K5 h5 => ?_
  refine m_ldA (l := [.bool a, .int .i64 h, v]) hM3 (i := 0) (j := 0) rfl rfl rfl rfl rfl ?_
  refine m_call (kind_ok a h _ d w3 (hx.upd hM3.upd) (by first | omega | (simp; done) | (simp; omega))) rfl fun v6 w6 ⟨hr6, hu6⟩ => ?_
  have hM6 : Mem w [] w6 [[⟨b2, 30, [.bool a, .int .i64 h, v]⟩]] := hM3.pure hu6
  subst hr6
  refine stp (v := .bool (decide (((fk a h d : Nat) : Int) = 0))) (o_bin rfl rfl rfl) ?_
  refine h5 _ _ ?_
  clear h5
  refine cndP rfl (fun c7 => ?_) (fun c7 => ?_)
  ·
    refine seq fun K8 h8 => ?_
    refine stp (v := .int .i64 70) (o_mv rfl) ?_
    refine h8 _ _ ?_
    clear h8
    refine ⟨(.int .i64 70), rfl, ?_⟩
    exact ⟨by rw [chk_70 (by omega)], hM6.upd⟩
  ·
    refine h4 _ _ ?_
    clear h4
    refine seq fun K9 h9 => ?_
    refine stp (v := .int .i64 0) (o_mv rfl) ?_
    refine h9 _ _ ?_
    clear h9
    refine ⟨(.int .i64 0), rfl, ?_⟩
    exact ⟨by rw [(by unfold chk; rw [if_neg (by omega)] : chk a h d = 0)], hM6.upd⟩

/-- winnowlaw7.kept -/
theorem kept_ok (a : Bool) (h : Int) (bg cp : Nat) (y : Value) (d : List UInt8) (w : World) (hg : RdE byteV w (.slice (some ⟨bg, 0, none⟩) d.length cp) d) (hf : RdE byteV w (.slice (some ⟨bg, 0, none⟩) (d ++ List.replicate 64 (165 : UInt8)).length cp) (d ++ List.replicate 64 (165 : UInt8))) (hcp : (d ++ List.replicate 64 (165 : UInt8)).length ≤ cp) (hy : RdE byteV w y d) (hl : d.length ≤ 140737488351232) : Calls Try.prog 27 [.agg [.bool a, .int .i64 h, (.slice (some ⟨bg, 0, none⟩) d.length cp)].toArray, .agg [.bool a, .int .i64 h, y].toArray].toArray w (Rt fun r w' => r = .bool true ∧ Upd [] w w') := by
  have hM0 : Mem w [] w [] := Mem.nil w []
  have hlm : (d ++ List.replicate 64 (165 : UInt8)).length = d.length + 64 := by simp
  refine calls_vc mixed Try.func27 rfl C27 (by simp [Try.ntmps27]) ?_
  refine seq fun K1 h1 => ?_
  refine m_bx (v := .agg ([.bool a, .int .i64 h, (.slice (some ⟨bg, 0, none⟩) d.length cp)] : List Value).toArray) hM0 rfl rfl fun b2 w3 (hM3 : Mem w [] w3 [[⟨b2, 30, [.bool a, .int .i64 h, (.slice (some ⟨bg, 0, none⟩) d.length cp)]⟩]]) => ?_
  refine m_bx (v := .agg ([.bool a, .int .i64 h, y] : List Value).toArray) hM3 rfl rfl fun b4 w5 (hM5 : Mem w [] w5 [[⟨b2, 30, [.bool a, .int .i64 h, (.slice (some ⟨bg, 0, none⟩) d.length cp)]⟩], [⟨b4, 30, [.bool a, .int .i64 h, y]⟩]]) => ?_
  refine stp (v := .bool false) (o_mv rfl) ?_
  refine h1 _ _ ?_
  clear h1
  refine seq fun K6 h6 => ?_
  intro wd e1 e2 e3 e4
  have hd := Upd.same e1 e2 e3 e4 []
  have hM7 := hM5.pure hd
  clear e1 e2 e3 e4
  refine ⟨(some [b4, b2]), ?_⟩
  show vd _ _ _ _ _ _ _
  refine dqldA (cs := [.bool a, .int .i64 h, y]) rfl (by simp [isHeld]) rfl ((hM7.at (i := 1) (j := 0) rfl rfl).agg rfl rfl) ?_
  refine dl (m_ldA (l := [.bool a, .int .i64 h, (.slice (some ⟨bg, 0, none⟩) d.length cp)]) hM7 (i := 0) (j := 0) rfl rfl rfl rfl rfl ?_)
  refine ⟨(fun b hb => rfl), ?_⟩
  refine dl (m_call (alike_ok a a h h _ _ d d wd (hg.upd hM7.upd) (hy.upd hM7.upd) (by first | omega | (simp; done) | (simp; omega))) rfl fun v8 w8 ⟨hr8, hu8⟩ => ?_)
  have hM8 : Mem w [] w8 [[⟨b2, 30, [.bool a, .int .i64 h, (.slice (some ⟨bg, 0, none⟩) d.length cp)]⟩], [⟨b4, 30, [.bool a, .int .i64 h, y]⟩]] := hM7.pure hu8
  obtain rfl : v8 = .bool true := hr8.trans (by rw [alikeF_self])
  have hh8 := held_upd (wr := wd) (bs := [b4, b2]) hu8 (fun b hb => by
    simp only [List.mem_cons, List.not_mem_nil, or_false] at hb
    rcases hb with h | h
    · rw [h]; exact ⟨(hM7.at (i := 1) (j := 0) rfl rfl).lt, by simp⟩
    · rw [h]; exact ⟨(hM7.at (i := 0) (j := 0) rfl rfl).lt, by simp⟩) (fun b hb => rfl)
  refine ⟨hh8, ?_⟩
  refine dq (v := .bool true) (o_mv rfl) ?_
  refine dsplitT rfl ?_
  refine dqg rfl (v := .pointer (some ⟨b2, 2, none⟩)) (o_fa rfl rfl) ?_
  refine dqg rfl (v := .pointer (some ⟨b4, 2, none⟩)) (o_fa rfl rfl) ?_
  refine dqg rfl (v := .pointer (some ⟨b4, 2, none⟩)) (o_fa rfl rfl) ?_
  refine dqgyes rfl rfl ?_
  refine dqld rfl (by simp [isHeld]) (v := y) ((hM7.at (i := 1) (j := 0) rfl rfl).cell 2) ?_
  refine dqgyes rfl rfl ?_
  refine dqld rfl (by simp [isHeld]) (v := y) ((hM7.at (i := 1) (j := 0) rfl rfl).cell 2) ?_
  refine dqg rfl (v := .int .i64 (d.length : Nat)) (o_lenR (hy.upd hM8.upd) rfl rfl) ?_
  refine dqg rfl (v := .int .i64 ((d.length : Nat) + 64)) (o_bin rfl rfl (v_add64 (by constructor <;> omega))) ?_
  refine dqgyes rfl rfl ?_
  refine dqld rfl (by simp [isHeld]) (v := (.slice (some ⟨bg, 0, none⟩) d.length cp)) ((hM7.at (i := 0) (j := 0) rfl rfl).cell 2) ?_
  refine dqg rfl (v := (.slice (some ⟨bg, 0, none⟩) (d ++ List.replicate 64 (165 : UInt8)).length cp)) (o_slcU rfl rfl (by omega) (by rw [hlm]; congr 1)) ?_
  refine dgyesl rfl ?_
  refine dl (m_call (roomy_ok _ d w8 (hy.upd hM8.upd) (by first | omega | (simp; done) | (simp; omega))) rfl fun v9 w9 ⟨rs9, hs9, hm9⟩ => ?_)
  have hM9 : Mem w [] w9 [[⟨b2, 30, [.bool a, .int .i64 h, (.slice (some ⟨bg, 0, none⟩) d.length cp)]⟩], [⟨b4, 30, [.bool a, .int .i64 h, y]⟩], rs9] := hM8.add hm9
  have hh9 := held_upd (wr := wd) (bs := [b4, b2]) hm9.upd (fun b hb => by
    simp only [List.mem_cons, List.not_mem_nil, or_false] at hb
    rcases hb with h | h
    · rw [h]; exact ⟨(hM8.at (i := 1) (j := 0) rfl rfl).lt, by simp⟩
    · rw [h]; exact ⟨(hM8.at (i := 0) (j := 0) rfl rfl).lt, by simp⟩) hh8
  refine ⟨hh9, ?_⟩
  refine dgyesl rfl ?_
  refine dl (m_call (same_ok _ _ (d ++ List.replicate 64 (165 : UInt8)) (d ++ List.replicate 64 (165 : UInt8)) w9 (hf.upd hM9.upd) (hs9.rd hM9 (i := 2) rfl) (by first | omega | (simp; done) | (simp; omega))) rfl fun v10 w10 ⟨hr10, hu10⟩ => ?_)
  have hM10 : Mem w [] w10 [[⟨b2, 30, [.bool a, .int .i64 h, (.slice (some ⟨bg, 0, none⟩) d.length cp)]⟩], [⟨b4, 30, [.bool a, .int .i64 h, y]⟩], rs9] := hM9.pure hu10
  obtain rfl : v10 = .bool true := hr10.trans (by simp)
  clear hr10
  have hh10 := held_upd (wr := wd) (bs := [b4, b2]) hu10 (fun b hb => by
    simp only [List.mem_cons, List.not_mem_nil, or_false] at hb
    rcases hb with h | h
    · rw [h]; exact ⟨(hM9.at (i := 1) (j := 0) rfl rfl).lt, by simp⟩
    · rw [h]; exact ⟨(hM9.at (i := 0) (j := 0) rfl rfl).lt, by simp⟩) hh9
  refine ⟨hh10, ?_⟩
  refine dq (v := .bool true) (o_pickT rfl rfl) ?_
  refine dq (v := .bool true) (o_mv rfl) ?_
  refine h6 _ _ ?_
  clear h6
  refine ⟨(.bool true), rfl, ?_⟩
  exact ⟨rfl, hM10.upd⟩

set_option maxRecDepth 100000 in
/-- winnowlaw7.FilterCodes -/
theorem FilterCodes_ok (fl : Fil) (x : Value) (b : List UInt8) (y : Value) (lo : List (List UInt8)) (w : World) (hf : fl.ok w) (hx : RdE byteV w x b) (hl : b.length ≤ 140737488351232) (hy : RdE strV w y lo) (hko : ∀ k ∈ lo, k.length ≤ 140737488351232) (hlo : lo.length * 16 ≤ 140737488351232) : Calls Try.prog 5 [.agg (filC fl).toArray, x, y].toArray w (Rt fun r w' => r = .bool true ∧ Upd [] w w') := by
  have hM0 : Mem w [] w [] := Mem.nil w []
  obtain ⟨hd0, hdl, hh0⟩ := hf
  have hel := encF_len fl.a fl.h fl.d
  have hdl2 := decF_len b
  have hel2 := encF_len fl.a fl.h (turnL fl.d)
  have hdl3 := decF_len (turnL b)
  have htl0 := turnL_length fl.d
  have htl1 := turnL_length b
  refine calls_vc mixed Try.func5 rfl C5 (by simp [Try.ntmps5]) ?_
  refine seq fun K1 h1 => ?_
  refine m_bx (v := .agg ([.bool fl.a, .int .i64 fl.h, fl.v] : List Value).toArray) hM0 rfl rfl fun b2 w3 (hM3 : Mem w [] w3 [[⟨b2, 30, [.bool fl.a, .int .i64 fl.h, fl.v]⟩]]) => ?_
  refine stp (v := .bool false) (o_mv rfl) ?_
  refine h1 _ _ ?_
  clear h1
  refine seq fun K4 h4 => ?_
  refine m_ldA (l := [.bool fl.a, .int .i64 fl.h, fl.v]) hM3 (i := 0) (j := 0) rfl rfl rfl rfl rfl ?_
  refine m_call (given_ok fl.a fl.h _ fl.d w3 (hd0.upd hM3.upd) (by first | omega | (simp; done) | (simp; omega))) rfl fun v5 w5 ⟨bg5, cp5, rs5, hr5, hcp5, hs5, hm5⟩ => ?_
  have hM5 : Mem w [] w5 [[⟨b2, 30, [.bool fl.a, .int .i64 fl.h, fl.v]⟩], rs5] := hM3.add hm5
  subst hr5
  refine m_al hM5 fun b6 w7 (hM7 : Mem w [] w7 [[⟨b2, 30, [.bool fl.a, .int .i64 fl.h, fl.v]⟩], rs5, [⟨b6, 30, [.bool false, .int .i64 0, .slice none 0 0]⟩]]) => ?_
  refine m_stA (l := [.bool fl.a, .int .i64 fl.h, (.slice (some ⟨bg5, 0, none⟩) fl.d.length cp5)]) hM7 (i := 2) rfl rfl rfl rfl (by simp [oneCells, Value.oneCell', byteV]) (by simp) fun w8 (hM8 : Mem w [] w8 [[⟨b2, 30, [.bool fl.a, .int .i64 fl.h, fl.v]⟩], rs5, [⟨b6, 30, [.bool fl.a, .int .i64 fl.h, (.slice (some ⟨bg5, 0, none⟩) fl.d.length cp5)]⟩]]) => ?_
  refine h4 _ _ ?_
  clear h4
  refine seq fun K9 h9 => ?_
  refine m_ldA (l := [.bool fl.a, .int .i64 fl.h, (.slice (some ⟨bg5, 0, none⟩) fl.d.length cp5)]) hM8 (i := 2) (j := 0) rfl rfl rfl rfl rfl ?_
  refine m_call (Encode_ok fl.a fl.h _ fl.d w8 ((hs5.cutTo).rd hM8 (i := 1) rfl) (by first | omega | (simp; done) | (simp; omega))) rfl fun v10 w10 ⟨v10_, rs10, hr10, hs10, hm10⟩ => ?_
  have hM10 : Mem w [] w10 [[⟨b2, 30, [.bool fl.a, .int .i64 fl.h, fl.v]⟩], rs5, [⟨b6, 30, [.bool fl.a, .int .i64 fl.h, (.slice (some ⟨bg5, 0, none⟩) fl.d.length cp5)]⟩], rs10] := hM8.add hm10
  subst hr10
  refine stp (v := .tuple [v10_, .int .i64 ((encF fl.a fl.h fl.d).2)].toArray) (o_mv rfl) ?_
  refine stp (v := v10_) (o_ext rfl rfl) ?_
  refine stp (v := .int .i64 ((encF fl.a fl.h fl.d).2)) (o_ext rfl rfl) ?_
  refine stp (v := v10_) (o_mv rfl) ?_
  refine stp (v := .int .i64 ((encF fl.a fl.h fl.d).2)) (o_mv rfl) ?_
  refine h9 _ _ ?_
  clear h9
  refine seq fun K11 h11 => ?_
  refine m_ldA (l := [.bool fl.a, .int .i64 fl.h, (.slice (some ⟨bg5, 0, none⟩) fl.d.length cp5)]) hM10 (i := 2) (j := 0) rfl rfl rfl rfl rfl ?_
  refine m_call (Encode_ok fl.a fl.h _ fl.d w10 ((hs5.cutTo).rd hM10 (i := 1) rfl) (by first | omega | (simp; done) | (simp; omega))) rfl fun v12 w12 ⟨v12_, rs12, hr12, hs12, hm12⟩ => ?_
  have hM12 : Mem w [] w12 [[⟨b2, 30, [.bool fl.a, .int .i64 fl.h, fl.v]⟩], rs5, [⟨b6, 30, [.bool fl.a, .int .i64 fl.h, (.slice (some ⟨bg5, 0, none⟩) fl.d.length cp5)]⟩], rs10, rs12] := hM10.add hm12
  subst hr12
  refine stp (v := .tuple [v12_, .int .i64 ((encF fl.a fl.h fl.d).2)].toArray) (o_mv rfl) ?_
  refine stp (v := v12_) (o_ext rfl rfl) ?_
  refine stp (v := .int .i64 ((encF fl.a fl.h fl.d).2)) (o_ext rfl rfl) ?_
  refine stp (v := v12_) (o_mv rfl) ?_
  refine stp (v := .int .i64 ((encF fl.a fl.h fl.d).2)) (o_mv rfl) ?_
  refine h11 _ _ ?_
  clear h11
  refine seq fun K13 h13 => ?_
  refine stp (v := v10_) (o_mv rfl) ?_
  refine m_call (fill_ok _ ((encF fl.a fl.h fl.d).1) 7 rs10 w12 hs10 (hM12.res (i := 3) rfl) (by first | omega | (simp; done) | (simp; omega))) rfl fun v14 w14 ⟨hr14, hm14⟩ => ?_
  have hM14 : Mem w [] w14 [[⟨b2, 30, [.bool fl.a, .int .i64 fl.h, fl.v]⟩], rs5, [⟨b6, 30, [.bool fl.a, .int .i64 fl.h, (.slice (some ⟨bg5, 0, none⟩) fl.d.length cp5)]⟩], [], rs12] := hM12.step 3 (r' := []) rfl (hm14.keep (by simp))
  subst hr14
  refine stp (v := .int .i64 (((encF fl.a fl.h fl.d).1).length + 64 : Nat)) (o_mv rfl) ?_
  refine h13 _ _ ?_
  clear h13
  refine seq fun K15 h15 => ?_
  refine m_ldA (l := [.bool fl.a, .int .i64 fl.h, fl.v]) hM14 (i := 0) (j := 0) rfl rfl rfl rfl rfl ?_
  refine m_call (refEncode_ok fl.a fl.h _ fl.d w14 (hd0.upd hM14.upd) (by first | omega | (simp; done) | (simp; omega))) rfl fun v16 w16 ⟨v16_, rs16, hr16, hs16, hm16⟩ => ?_
  have hM16 : Mem w [] w16 [[⟨b2, 30, [.bool fl.a, .int .i64 fl.h, fl.v]⟩], rs5, [⟨b6, 30, [.bool fl.a, .int .i64 fl.h, (.slice (some ⟨bg5, 0, none⟩) fl.d.length cp5)]⟩], [], rs12, rs16] := hM14.add hm16
  subst hr16
  refine stp (v := .tuple [v16_, .int .i64 ((encF fl.a fl.h fl.d).2)].toArray) (o_mv rfl) ?_
  refine stp (v := v16_) (o_ext rfl rfl) ?_
  refine stp (v := .int .i64 ((encF fl.a fl.h fl.d).2)) (o_ext rfl rfl) ?_
  refine stp (v := v16_) (o_mv rfl) ?_
  refine stp (v := .int .i64 ((encF fl.a fl.h fl.d).2)) (o_mv rfl) ?_
  refine h15 _ _ ?_
  clear h15
  refine seq fun K17 h17 => ?_
  refine stp (v := x) (o_mv rfl) ?_
  refine m_call (roomy_ok _ b w16 (hx.upd hM16.upd) (by first | omega | (simp; done) | (simp; omega))) rfl fun v18 w18 ⟨rs18, hs18, hm18⟩ => ?_
  have hM18 : Mem w [] w18 [[⟨b2, 30, [.bool fl.a, .int .i64 fl.h, fl.v]⟩], rs5, [⟨b6, 30, [.bool fl.a, .int .i64 fl.h, (.slice (some ⟨bg5, 0, none⟩) fl.d.length cp5)]⟩], [], rs12, rs16, rs18] := hM16.add hm18
  refine stp (v := v18) (o_mv rfl) ?_
  refine h17 _ _ ?_
  clear h17
  refine seq fun K19 h19 => ?_
  refine stp (v := v18) (o_mv rfl) ?_
  refine stp (v := x) (o_mv rfl) ?_
  refine stp (v := .int .i64 (b.length : Nat)) (o_lenR (hx.upd hM18.upd) rfl rfl) ?_
  refine m_slcO b.length (hs18) rfl (by first | omega | (simp; done) | (simp; omega)) (⟨_, rfl⟩) trivial fun u20 hu20 => ?_
  have hu20' := SlE.eqL (m := b) hu20 (by simp)
  refine m_call (Decode_ok _ b w18 (hu20'.rd hM18 (i := 6) rfl) (by first | omega | (simp; done) | (simp; omega))) rfl fun v21 w21 ⟨vd21, rs21, hr21, hs21, hm21⟩ => ?_
  have hM21 : Mem w [] w21 [[⟨b2, 30, [.bool fl.a, .int .i64 fl.h, fl.v]⟩], rs5, [⟨b6, 30, [.bool fl.a, .int .i64 fl.h, (.slice (some ⟨bg5, 0, none⟩) fl.d.length cp5)]⟩], [], rs12, rs16, rs18, rs21] := hM18.add hm21
  obtain ⟨av21, lv21, cv21, rfl⟩ := hs21.isSlice
  subst hr21
  refine stp (v := .tuple [.agg ([.bool ((decF b).1), .int .i64 ((decF b).2.1), (.slice av21 lv21 cv21)] : List Value).toArray, .int .i64 ((decF b).2.2.2)].toArray) (o_mv rfl) ?_
  refine stp (v := .agg ([.bool ((decF b).1), .int .i64 ((decF b).2.1), (.slice av21 lv21 cv21)] : List Value).toArray) (o_ext rfl rfl) ?_
  refine stp (v := .int .i64 ((decF b).2.2.2)) (o_ext rfl rfl) ?_
  refine m_al hM21 fun b22 w23 (hM23 : Mem w [] w23 [[⟨b2, 30, [.bool fl.a, .int .i64 fl.h, fl.v]⟩], rs5, [⟨b6, 30, [.bool fl.a, .int .i64 fl.h, (.slice (some ⟨bg5, 0, none⟩) fl.d.length cp5)]⟩], [], rs12, rs16, rs18, rs21, [⟨b22, 30, [.bool false, .int .i64 0, .slice none 0 0]⟩]]) => ?_
  refine m_stA (l := [.bool ((decF b).1), .int .i64 ((decF b).2.1), (.slice av21 lv21 cv21)]) hM23 (i := 8) rfl rfl rfl rfl (by simp [oneCells, Value.oneCell', byteV]) (by simp) fun w24 (hM24 : Mem w [] w24 [[⟨b2, 30, [.bool fl.a, .int .i64 fl.h, fl.v]⟩], rs5, [⟨b6, 30, [.bool fl.a, .int .i64 fl.h, (.slice (some ⟨bg5, 0, none⟩) fl.d.length cp5)]⟩], [], rs12, rs16, rs18, rs21, [⟨b22, 30, [.bool ((decF b).1), .int .i64 ((decF b).2.1), (.slice av21 lv21 cv21)]⟩]]) => ?_
  refine stp (v := .int .i64 ((decF b).2.2.2)) (o_mv rfl) ?_
  refine h19 _ _ ?_
  clear h19
  refine seq fun K25 h25 => ?_
  refine stp (v := v18) (o_mv rfl) ?_
  refine stp (v := x) (o_mv rfl) ?_
  refine stp (v := .int .i64 (b.length : Nat)) (o_lenR (hx.upd hM24.upd) rfl rfl) ?_
  refine m_slcO b.length (hs18) rfl (by first | omega | (simp; done) | (simp; omega)) (⟨_, rfl⟩) trivial fun u26 hu26 => ?_
  have hu26' := SlE.eqL (m := b) hu26 (by simp)
  refine m_call (Decode_ok _ b w24 (hu26'.rd hM24 (i := 6) rfl) (by first | omega | (simp; done) | (simp; omega))) rfl fun v27 w27 ⟨vd27, rs27, hr27, hs27, hm27⟩ => ?_
  have hM27 : Mem w [] w27 [[⟨b2, 30, [.bool fl.a, .int .i64 fl.h, fl.v]⟩], rs5, [⟨b6, 30, [.bool fl.a, .int .i64 fl.h, (.slice (some ⟨bg5, 0, none⟩) fl.d.length cp5)]⟩], [], rs12, rs16, rs18, rs21, [⟨b22, 30, [.bool ((decF b).1), .int .i64 ((decF b).2.1), (.slice av21 lv21 cv21)]⟩], rs27] := hM24.add hm27
  obtain ⟨av27, lv27, cv27, rfl⟩ := hs27.isSlice
  subst hr27
  refine stp (v := .tuple [.agg ([.bool ((decF b).1), .int .i64 ((decF b).2.1), (.slice av27 lv27 cv27)] : List Value).toArray, .int .i64 ((decF b).2.2.2)].toArray) (o_mv rfl) ?_
  refine stp (v := .agg ([.bool ((decF b).1), .int .i64 ((decF b).2.1), (.slice av27 lv27 cv27)] : List Value).toArray) (o_ext rfl rfl) ?_
  refine stp (v := .int .i64 ((decF b).2.2.2)) (o_ext rfl rfl) ?_
  refine m_al hM27 fun b28 w29 (hM29 : Mem w [] w29 [[⟨b2, 30, [.bool fl.a, .int .i64 fl.h, fl.v]⟩], rs5, [⟨b6, 30, [.bool fl.a, .int .i64 fl.h, (.slice (some ⟨bg5, 0, none⟩) fl.d.length cp5)]⟩], [], rs12, rs16, rs18, rs21, [⟨b22, 30, [.bool ((decF b).1), .int .i64 ((decF b).2.1), (.slice av21 lv21 cv21)]⟩], rs27, [⟨b28, 30, [.bool false, .int .i64 0, .slice none 0 0]⟩]]) => ?_
  refine m_stA (l := [.bool ((decF b).1), .int .i64 ((decF b).2.1), (.slice av27 lv27 cv27)]) hM29 (i := 10) rfl rfl rfl rfl (by simp [oneCells, Value.oneCell', byteV]) (by simp) fun w30 (hM30 : Mem w [] w30 [[⟨b2, 30, [.bool fl.a, .int .i64 fl.h, fl.v]⟩], rs5, [⟨b6, 30, [.bool fl.a, .int .i64 fl.h, (.slice (some ⟨bg5, 0, none⟩) fl.d.length cp5)]⟩], [], rs12, rs16, rs18, rs21, [⟨b22, 30, [.bool ((decF b).1), .int .i64 ((decF b).2.1), (.slice av21 lv21 cv21)]⟩], rs27, [⟨b28, 30, [.bool ((decF b).1), .int .i64 ((decF b).2.1), (.slice av27 lv27 cv27)]⟩]]) => ?_
  refine stp (v := .int .i64 ((decF b).2.2.2)) (o_mv rfl) ?_
  refine h25 _ _ ?_
  clear h25
  refine seq fun K31 h31 => ?_
  refine stp (v := .pointer (some ⟨b22, 2, none⟩)) (o_fa rfl rfl) ?_
  refine m_ld (v := (.slice av21 lv21 cv21)) hM30 (i := 8) (j := 0) rfl rfl rfl rfl ?_
  refine m_call (fill_ok _ ((decF b).2.2.1) 9 rs21 w30 hs21 (hM30.res (i := 7) rfl) (by first | omega | (simp; done) | (simp; omega))) rfl fun v32 w32 ⟨hr32, hm32⟩ => ?_
  have hM32 : Mem w [] w32 [[⟨b2, 30, [.bool fl.a, .int .i64 fl.h, fl.v]⟩], rs5, [⟨b6, 30, [.bool fl.a, .int .i64 fl.h, (.slice (some ⟨bg5, 0, none⟩) fl.d.length cp5)]⟩], [], rs12, rs16, rs18, [], [⟨b22, 30, [.bool ((decF b).1), .int .i64 ((decF b).2.1), (.slice av21 lv21 cv21)]⟩], rs27, [⟨b28, 30, [.bool ((decF b).1), .int .i64 ((decF b).2.1), (.slice av27 lv27 cv27)]⟩]] := hM30.step 7 (r' := []) rfl (hm32.keep (by simp))
  subst hr32
  refine stp (v := .int .i64 (((decF b).2.2.1).length + 64 : Nat)) (o_mv rfl) ?_
  refine h31 _ _ ?_
  clear h31
  refine seq fun K33 h33 => ?_
  refine stp (v := x) (o_mv rfl) ?_
  refine m_call (refDecode_ok _ b w32 (hx.upd hM32.upd) (by first | omega | (simp; done) | (simp; omega))) rfl fun v34 w34 ⟨vd34, rs34, hr34, hs34, hm34⟩ => ?_
  have hM34 : Mem w [] w34 [[⟨b2, 30, [.bool fl.a, .int .i64 fl.h, fl.v]⟩], rs5, [⟨b6, 30, [.bool fl.a, .int .i64 fl.h, (.slice (some ⟨bg5, 0, none⟩) fl.d.length cp5)]⟩], [], rs12, rs16, rs18, [], [⟨b22, 30, [.bool ((decF b).1), .int .i64 ((decF b).2.1), (.slice av21 lv21 cv21)]⟩], rs27, [⟨b28, 30, [.bool ((decF b).1), .int .i64 ((decF b).2.1), (.slice av27 lv27 cv27)]⟩], rs34] := hM32.add hm34
  obtain ⟨av34, lv34, cv34, rfl⟩ := hs34.isSlice
  subst hr34
  refine stp (v := .tuple [.agg ([.bool ((decF b).1), .int .i64 ((decF b).2.1), (.slice av34 lv34 cv34)] : List Value).toArray, .int .i64 ((decF b).2.2.2)].toArray) (o_mv rfl) ?_
  refine stp (v := .agg ([.bool ((decF b).1), .int .i64 ((decF b).2.1), (.slice av34 lv34 cv34)] : List Value).toArray) (o_ext rfl rfl) ?_
  refine stp (v := .int .i64 ((decF b).2.2.2)) (o_ext rfl rfl) ?_
  refine m_al hM34 fun b35 w36 (hM36 : Mem w [] w36 [[⟨b2, 30, [.bool fl.a, .int .i64 fl.h, fl.v]⟩], rs5, [⟨b6, 30, [.bool fl.a, .int .i64 fl.h, (.slice (some ⟨bg5, 0, none⟩) fl.d.length cp5)]⟩], [], rs12, rs16, rs18, [], [⟨b22, 30, [.bool ((decF b).1), .int .i64 ((decF b).2.1), (.slice av21 lv21 cv21)]⟩], rs27, [⟨b28, 30, [.bool ((decF b).1), .int .i64 ((decF b).2.1), (.slice av27 lv27 cv27)]⟩], rs34, [⟨b35, 30, [.bool false, .int .i64 0, .slice none 0 0]⟩]]) => ?_
  refine m_stA (l := [.bool ((decF b).1), .int .i64 ((decF b).2.1), (.slice av34 lv34 cv34)]) hM36 (i := 12) rfl rfl rfl rfl (by simp [oneCells, Value.oneCell', byteV]) (by simp) fun w37 (hM37 : Mem w [] w37 [[⟨b2, 30, [.bool fl.a, .int .i64 fl.h, fl.v]⟩], rs5, [⟨b6, 30, [.bool fl.a, .int .i64 fl.h, (.slice (some ⟨bg5, 0, none⟩) fl.d.length cp5)]⟩], [], rs12, rs16, rs18, [], [⟨b22, 30, [.bool ((decF b).1), .int .i64 ((decF b).2.1), (.slice av21 lv21 cv21)]⟩], rs27, [⟨b28, 30, [.bool ((decF b).1), .int .i64 ((decF b).2.1), (.slice av27 lv27 cv27)]⟩], rs34, [⟨b35, 30, [.bool ((decF b).1), .int .i64 ((decF b).2.1), (.slice av34 lv34 cv34)]⟩]]) => ?_
  refine stp (v := .int .i64 ((decF b).2.2.2)) (o_mv rfl) ?_
  refine h33 _ _ ?_
  clear h33
  refine seq fun K38 h38 => ?_
  refine seq fun K39 h39 => ?_
  refine stp (v := .int .i64 0) (o_mv rfl) ?_
  refine h39 _ _ ?_
  clear h39
  refine lp (n := fun _ _ => False) (ι := (Nat)) (fun i f w' => f 23 = .int .i64 (i : Nat) ∧ f 1 = x ∧ f 2 = y ∧ f 3 = .pointer (some ⟨b2, 0, none⟩) ∧ f 7 = .pointer (some ⟨b6, 0, none⟩) ∧ f 9 = .int .i64 ((encF fl.a fl.h fl.d).2) ∧ f 10 = v12_ ∧ f 11 = .int .i64 ((encF fl.a fl.h fl.d).2) ∧ f 12 = .int .i64 (((encF fl.a fl.h fl.d).1).length + 64 : Nat) ∧ f 13 = v16_ ∧ f 14 = .int .i64 ((encF fl.a fl.h fl.d).2) ∧ f 15 = v18 ∧ f 17 = .int .i64 ((decF b).2.2.2) ∧ f 18 = .pointer (some ⟨b28, 0, none⟩) ∧ f 19 = .int .i64 ((decF b).2.2.2) ∧ f 20 = .int .i64 (((decF b).2.2.1).length + 64 : Nat) ∧ f 21 = .pointer (some ⟨b35, 0, none⟩) ∧ f 22 = .int .i64 ((decF b).2.2.2) ∧ Mem w [] w' [[⟨b2, 30, [.bool fl.a, .int .i64 fl.h, fl.v]⟩], rs5, [⟨b6, 30, [.bool fl.a, .int .i64 fl.h, (.slice (some ⟨bg5, 0, none⟩) fl.d.length cp5)]⟩], [], rs12, rs16, rs18, [], [⟨b22, 30, [.bool ((decF b).1), .int .i64 ((decF b).2.1), (.slice av21 lv21 cv21)]⟩], rs27, [⟨b28, 30, [.bool ((decF b).1), .int .i64 ((decF b).2.1), (.slice av27 lv27 cv27)]⟩], rs34, [⟨b35, 30, [.bool ((decF b).1), .int .i64 ((decF b).2.1), (.slice av34 lv34 cv34)]⟩]] ∧ (i ≤ lo.length)) (fun i => lo.length - i) (0) ?_ ?_
  · exact ⟨by first | rfl | exact v_int (by omega) | exact v_int (by simp) | exact v_int (by simp; omega), rfl, rfl, rfl, rfl, by first | rfl | exact v_int (by omega) | exact v_int (by simp) | exact v_int (by simp; omega), rfl, by first | rfl | exact v_int (by omega) | exact v_int (by simp) | exact v_int (by simp; omega), by first | rfl | exact v_int (by omega) | exact v_int (by simp) | exact v_int (by simp; omega), rfl, by first | rfl | exact v_int (by omega) | exact v_int (by simp) | exact v_int (by simp; omega), rfl, by first | rfl | exact v_int (by omega) | exact v_int (by simp) | exact v_int (by simp; omega), rfl, by first | rfl | exact v_int (by omega) | exact v_int (by simp) | exact v_int (by simp; omega), by first | rfl | exact v_int (by omega) | exact v_int (by simp) | exact v_int (by simp; omega), rfl, by first | rfl | exact v_int (by omega) | exact v_int (by simp) | exact v_int (by simp; omega), hM37, by omega⟩
  · rintro i f w40 ⟨e40_23, e40_1, e40_2, e40_3, e40_7, e40_9, e40_10, e40_11, e40_12, e40_13, e40_14, e40_15, e40_17, e40_18, e40_19, e40_20, e40_21, e40_22, hM40, hi⟩ K41 h41
    obtain ⟨frm, rfl⟩ : ∃ frm, f = (upd (upd (upd (upd (upd (upd (upd (upd (upd (upd (upd (upd (upd (upd (upd (upd (upd (upd frm 23 (.int .i64 (i : Nat))) 1 (x)) 2 (y)) 3 (.pointer (some ⟨b2, 0, none⟩))) 7 (.pointer (some ⟨b6, 0, none⟩))) 9 (.int .i64 ((encF fl.a fl.h fl.d).2))) 10 (v12_)) 11 (.int .i64 ((encF fl.a fl.h fl.d).2))) 12 (.int .i64 (((encF fl.a fl.h fl.d).1).length + 64 : Nat))) 13 (v16_)) 14 (.int .i64 ((encF fl.a fl.h fl.d).2))) 15 (v18)) 17 (.int .i64 ((decF b).2.2.2))) 18 (.pointer (some ⟨b28, 0, none⟩))) 19 (.int .i64 ((decF b).2.2.2))) 20 (.int .i64 (((decF b).2.2.1).length + 64 : Nat))) 21 (.pointer (some ⟨b35, 0, none⟩))) 22 (.int .i64 ((decF b).2.2.2))) := ⟨f, by rw [upd_self e40_23, upd_self e40_1, upd_self e40_2, upd_self e40_3, upd_self e40_7, upd_self e40_9, upd_self e40_10, upd_self e40_11, upd_self e40_12, upd_self e40_13, upd_self e40_14, upd_self e40_15, upd_self e40_17, upd_self e40_18, upd_self e40_19, upd_self e40_20, upd_self e40_21, upd_self e40_22]⟩
    clear e40_23 e40_1 e40_2 e40_3 e40_7 e40_9 e40_10 e40_11 e40_12 e40_13 e40_14 e40_15 e40_17 e40_18 e40_19 e40_20 e40_21 e40_22
    refine seq fun K42 h42 => ?_
    refine seq fun K43 h43 => ?_
    refine stp (v := .int .i64 (i : Nat)) (o_mv rfl) ?_
    refine stp (v := y) (o_mv rfl) ?_
    refine stp (v := .int .i64 (lo.length : Nat)) (o_lenR (hy.upd hM40.upd) rfl rfl) ?_
    refine stp (v := .bool (decide (((i : Nat) : Int) < (lo.length : Nat)))) (o_bin rfl rfl rfl) ?_
    refine h43 _ _ ?_
    clear h43
    refine cndP rfl (fun c44 => ?_) (fun c44 => ?_)
    ·
      refine h42 _ _ ?_
      clear h42
      refine seq fun K45 h45 => ?_
      refine seq fun K46 h46 => ?_
      intro wd e1 e2 e3 e4
      have hd := Upd.same e1 e2 e3 e4 []
      have hM47 := hM40.pure hd
      clear e1 e2 e3 e4
      refine ⟨(some [b2, b6, (blkV y)]), ?_⟩
      show vd _ _ _ _ _ _ _
      refine dq (v := y) (o_mv rfl) ?_
      refine dq (v := .int .i64 (i : Nat)) (o_mv rfl) ?_
      refine dqp (m_idxE2 [] (j := i) (hy.upd hM47.upd) rfl rfl (by omega) fun b48 o48 hp48 hbb48 => ?_)
      show vd _ _ _ _ _ _ _
      subst hbb48
      refine dq (v := y) (o_mv rfl) ?_
      refine dq (v := .int .i64 (i : Nat)) (o_mv rfl) ?_
      refine dqp (m_idxE2 [] (j := i) (hy.upd hM47.upd) rfl rfl (by omega) fun b49 o49 hp49 hbb49 => ?_)
      show vd _ _ _ _ _ _ _
      subst hbb49
      refine dqldA (cs := [.bool fl.a, .int .i64 fl.h, fl.v]) rfl (by simp [isHeld]) rfl ((hM47.at (i := 0) (j := 0) rfl rfl).agg rfl rfl) ?_
      refine dqldA (cs := [.bool fl.a, .int .i64 fl.h, (.slice (some ⟨bg5, 0, none⟩) fl.d.length cp5)]) rfl (by simp [isHeld]) rfl ((hM47.at (i := 2) (j := 0) rfl rfl).agg rfl rfl) ?_
      refine dqld rfl (by simp [isHeld]) (v := .string (str (lo.getD i []))) (hp49) ?_
      refine dl (ld (v := .string (str (lo.getD i []))) rfl (hp48) ?_)
      refine ⟨(fun b hb => rfl), ?_⟩
      refine dl (m_call (Has_ok fl.a fl.h _ fl.d (lo.getD i []) wd ((hs5.cutTo).rd hM47 (i := 1) rfl) (by first | omega | (simp; done) | (simp; omega)) (by first | (have := hko _ (getD_memG [] (i := i) (l := lo) (by omega)); omega) | (have := hko _ (getD_memG [] (i := j - 1) (l := lo) (by omega)); omega)) (by first | assumption | omega)) rfl fun v50 w50 ⟨hr50, hu50⟩ => ?_)
      have hM50 : Mem w [] w50 [[⟨b2, 30, [.bool fl.a, .int .i64 fl.h, fl.v]⟩], rs5, [⟨b6, 30, [.bool fl.a, .int .i64 fl.h, (.slice (some ⟨bg5, 0, none⟩) fl.d.length cp5)]⟩], [], rs12, rs16, rs18, [], [⟨b22, 30, [.bool ((decF b).1), .int .i64 ((decF b).2.1), (.slice av21 lv21 cv21)]⟩], rs27, [⟨b28, 30, [.bool ((decF b).1), .int .i64 ((decF b).2.1), (.slice av27 lv27 cv27)]⟩], rs34, [⟨b35, 30, [.bool ((decF b).1), .int .i64 ((decF b).2.1), (.slice av34 lv34 cv34)]⟩]] := hM47.pure hu50
      subst hr50
      have hh50 := held_upd (wr := wd) (bs := [b2, b6, (blkV y)]) hu50 (fun b hb => by
        simp only [List.mem_cons, List.not_mem_nil, or_false] at hb
        rcases hb with h | h | h
        · rw [h]; exact ⟨(hM47.at (i := 0) (j := 0) rfl rfl).lt, by simp⟩
        · rw [h]; exact ⟨(hM47.at (i := 2) (j := 0) rfl rfl).lt, by simp⟩
        · rw [h]; exact ⟨Rd.blkV_lt (hy.upd hM47.upd) (by omega), by simp⟩) (fun b hb => rfl)
      refine ⟨hh50, ?_⟩
      refine dl (m_call (refHas_ok fl.a fl.h _ fl.d (lo.getD i []) w50 (hd0.upd hM50.upd) (by first | omega | (simp; done) | (simp; omega)) (by first | (have := hko _ (getD_memG [] (i := i) (l := lo) (by omega)); omega) | (have := hko _ (getD_memG [] (i := j - 1) (l := lo) (by omega)); omega)) (by first | assumption | omega)) rfl fun v51 w51 ⟨hr51, hu51⟩ => ?_)
      have hM51 : Mem w [] w51 [[⟨b2, 30, [.bool fl.a, .int .i64 fl.h, fl.v]⟩], rs5, [⟨b6, 30, [.bool fl.a, .int .i64 fl.h, (.slice (some ⟨bg5, 0, none⟩) fl.d.length cp5)]⟩], [], rs12, rs16, rs18, [], [⟨b22, 30, [.bool ((decF b).1), .int .i64 ((decF b).2.1), (.slice av21 lv21 cv21)]⟩], rs27, [⟨b28, 30, [.bool ((decF b).1), .int .i64 ((decF b).2.1), (.slice av27 lv27 cv27)]⟩], rs34, [⟨b35, 30, [.bool ((decF b).1), .int .i64 ((decF b).2.1), (.slice av34 lv34 cv34)]⟩]] := hM50.pure hu51
      subst hr51
      have hh51 := held_upd (wr := wd) (bs := [b2, b6, (blkV y)]) hu51 (fun b hb => by
        simp only [List.mem_cons, List.not_mem_nil, or_false] at hb
        rcases hb with h | h | h
        · rw [h]; exact ⟨(hM50.at (i := 0) (j := 0) rfl rfl).lt, by simp⟩
        · rw [h]; exact ⟨(hM50.at (i := 2) (j := 0) rfl rfl).lt, by simp⟩
        · rw [h]; exact ⟨Rd.blkV_lt (hy.upd hM50.upd) (by omega), by simp⟩) hh50
      refine ⟨hh51, ?_⟩
      refine dq (v := .bool false) (o_beq rfl rfl (by simp)) ?_
      refine h46 _ _ ?_
      clear h46
      refine cndF rfl ?_
      refine h45 _ _ ?_
      clear h45
      refine stp (v := .int .i64 (i : Nat)) (o_mv rfl) ?_
      refine stp (v := .int .i64 ((i : Nat) + 1)) (o_bin rfl rfl (v_add64 (by constructor <;> omega))) ?_
      refine stp (v := .int .i64 ((i : Nat) + 1)) (o_mv rfl) ?_
      refine h41 (i + 1) _ _ ⟨by first | rfl | exact v_int (by omega) | exact v_int (by simp) | exact v_int (by simp; omega), rfl, rfl, rfl, rfl, by first | rfl | exact v_int (by omega) | exact v_int (by simp) | exact v_int (by simp; omega), rfl, by first | rfl | exact v_int (by omega) | exact v_int (by simp) | exact v_int (by simp; omega), by first | rfl | exact v_int (by omega) | exact v_int (by simp) | exact v_int (by simp; omega), rfl, by first | rfl | exact v_int (by omega) | exact v_int (by simp) | exact v_int (by simp; omega), rfl, by first | rfl | exact v_int (by omega) | exact v_int (by simp) | exact v_int (by simp; omega), rfl, by first | rfl | exact v_int (by omega) | exact v_int (by simp) | exact v_int (by simp; omega), by first | rfl | exact v_int (by omega) | exact v_int (by simp) | exact v_int (by simp; omega), rfl, by first | rfl | exact v_int (by omega) | exact v_int (by simp) | exact v_int (by simp; omega), hM51, by omega⟩ (by (try dsimp only); omega)
    ·
      refine h38 _ _ ?_
      clear h38
      refine seq fun K52 h52 => ?_
      intro wd e1 e2 e3 e4
      have hd := Upd.same e1 e2 e3 e4 []
      have hM53 := hM40.pure hd
      clear e1 e2 e3 e4
      refine ⟨(some [b2]), ?_⟩
      show vd _ _ _ _ _ _ _
      refine dqldA (cs := [.bool fl.a, .int .i64 fl.h, fl.v]) rfl (by simp [isHeld]) rfl ((hM53.at (i := 0) (j := 0) rfl rfl).agg rfl rfl) ?_
      refine dl (m_ldA (l := [.bool fl.a, .int .i64 fl.h, (.slice (some ⟨bg5, 0, none⟩) fl.d.length cp5)]) hM53 (i := 2) (j := 0) rfl rfl rfl rfl rfl ?_)
      refine ⟨(fun b hb => rfl), ?_⟩
      refine dl (m_call (Check_ok fl.a fl.h _ fl.d wd ((hs5.cutTo).rd hM53 (i := 1) rfl) (by first | omega | (simp; done) | (simp; omega))) rfl fun v54 w54 ⟨hr54, hu54⟩ => ?_)
      have hM54 : Mem w [] w54 [[⟨b2, 30, [.bool fl.a, .int .i64 fl.h, fl.v]⟩], rs5, [⟨b6, 30, [.bool fl.a, .int .i64 fl.h, (.slice (some ⟨bg5, 0, none⟩) fl.d.length cp5)]⟩], [], rs12, rs16, rs18, [], [⟨b22, 30, [.bool ((decF b).1), .int .i64 ((decF b).2.1), (.slice av21 lv21 cv21)]⟩], rs27, [⟨b28, 30, [.bool ((decF b).1), .int .i64 ((decF b).2.1), (.slice av27 lv27 cv27)]⟩], rs34, [⟨b35, 30, [.bool ((decF b).1), .int .i64 ((decF b).2.1), (.slice av34 lv34 cv34)]⟩]] := hM53.pure hu54
      subst hr54
      have hh54 := held_upd (wr := wd) (bs := [b2]) hu54 (fun b hb => by
        simp only [List.mem_cons, List.not_mem_nil, or_false] at hb
        rw [hb]; exact ⟨(hM53.at (i := 0) (j := 0) rfl rfl).lt, by simp⟩) (fun b hb => rfl)
      refine ⟨hh54, ?_⟩
      refine dl (m_call (refCheck_ok fl.a fl.h _ fl.d w54 (hd0.upd hM54.upd) (by first | omega | (simp; done) | (simp; omega))) rfl fun v55 w55 ⟨hr55, hu55⟩ => ?_)
      have hM55 : Mem w [] w55 [[⟨b2, 30, [.bool fl.a, .int .i64 fl.h, fl.v]⟩], rs5, [⟨b6, 30, [.bool fl.a, .int .i64 fl.h, (.slice (some ⟨bg5, 0, none⟩) fl.d.length cp5)]⟩], [], rs12, rs16, rs18, [], [⟨b22, 30, [.bool ((decF b).1), .int .i64 ((decF b).2.1), (.slice av21 lv21 cv21)]⟩], rs27, [⟨b28, 30, [.bool ((decF b).1), .int .i64 ((decF b).2.1), (.slice av27 lv27 cv27)]⟩], rs34, [⟨b35, 30, [.bool ((decF b).1), .int .i64 ((decF b).2.1), (.slice av34 lv34 cv34)]⟩]] := hM54.pure hu55
      subst hr55
      have hh55 := held_upd (wr := wd) (bs := [b2]) hu55 (fun b hb => by
        simp only [List.mem_cons, List.not_mem_nil, or_false] at hb
        rw [hb]; exact ⟨(hM54.at (i := 0) (j := 0) rfl rfl).lt, by simp⟩) hh54
      refine ⟨hh55, ?_⟩
      refine dq (v := .bool true) (o_bin rfl rfl v_eqT) ?_
      refine dq (v := .bool true) (o_mv rfl) ?_
      refine dsplitT rfl ?_
      refine dqg rfl (v := .int .i64 ((encF fl.a fl.h fl.d).2)) (o_mv rfl) ?_
      refine dqg rfl (v := .int .i64 ((encF fl.a fl.h fl.d).2)) (o_mv rfl) ?_
      refine dqg rfl (v := .bool true) (o_bin rfl rfl v_eqT) ?_
      refine dq (v := .bool true) (o_pickT rfl rfl) ?_
      refine dq (v := .bool true) (o_mv rfl) ?_
      refine dsplitT rfl ?_
      refine dqg rfl (v := .int .i64 ((encF fl.a fl.h fl.d).2)) (o_mv rfl) ?_
      refine dqg rfl (v := .int .i64 ((encF fl.a fl.h fl.d).2)) (o_mv rfl) ?_
      refine dqg rfl (v := .bool true) (o_bin rfl rfl v_eqT) ?_
      refine dq (v := .bool true) (o_pickT rfl rfl) ?_
      refine dq (v := .bool true) (o_mv rfl) ?_
      refine dsplitT rfl ?_
      refine dqg rfl (v := v12_) (o_mv rfl) ?_
      refine dqg rfl (v := v16_) (o_mv rfl) ?_
      refine dgyesl rfl ?_
      refine dl (m_call (same_ok _ _ ((encF fl.a fl.h fl.d).1) ((encF fl.a fl.h fl.d).1) w55 (hs12.rd hM55 (i := 4) rfl) (hs16.rd hM55 (i := 5) rfl) (by first | omega | (simp; done) | (simp; omega))) rfl fun v56 w56 ⟨hr56, hu56⟩ => ?_)
      have hM56 : Mem w [] w56 [[⟨b2, 30, [.bool fl.a, .int .i64 fl.h, fl.v]⟩], rs5, [⟨b6, 30, [.bool fl.a, .int .i64 fl.h, (.slice (some ⟨bg5, 0, none⟩) fl.d.length cp5)]⟩], [], rs12, rs16, rs18, [], [⟨b22, 30, [.bool ((decF b).1), .int .i64 ((decF b).2.1), (.slice av21 lv21 cv21)]⟩], rs27, [⟨b28, 30, [.bool ((decF b).1), .int .i64 ((decF b).2.1), (.slice av27 lv27 cv27)]⟩], rs34, [⟨b35, 30, [.bool ((decF b).1), .int .i64 ((decF b).2.1), (.slice av34 lv34 cv34)]⟩]] := hM55.pure hu56
      obtain rfl : v56 = .bool true := hr56.trans (by simp)
      clear hr56
      have hh56 := held_upd (wr := wd) (bs := [b2]) hu56 (fun b hb => by
        simp only [List.mem_cons, List.not_mem_nil, or_false] at hb
        rw [hb]; exact ⟨(hM55.at (i := 0) (j := 0) rfl rfl).lt, by simp⟩) hh55
      refine ⟨hh56, ?_⟩
      refine dq (v := .bool true) (o_pickT rfl rfl) ?_
      refine dq (v := .bool true) (o_mv rfl) ?_
      refine dsplitT rfl ?_
      refine dqg rfl (v := .int .i64 (((encF fl.a fl.h fl.d).1).length + 64 : Nat)) (o_mv rfl) ?_
      refine dqg rfl (v := v16_) (o_mv rfl) ?_
      refine dqg rfl (v := .int .i64 (((encF fl.a fl.h fl.d).1).length : Nat)) (o_lenR (hs16.rd hM56 (i := 5) rfl) rfl rfl) ?_
      refine dqg rfl (v := .int .i64 ((((encF fl.a fl.h fl.d).1).length : Nat) + 64)) (o_bin rfl rfl (v_add64 (by constructor <;> omega))) ?_
      refine dqg rfl (v := .bool (decide (((((encF fl.a fl.h fl.d).1).length + 64 : Nat) : Int) = ((((encF fl.a fl.h fl.d).1).length : Nat) + 64)))) (o_bin rfl rfl rfl) ?_
      refine dq (v := .bool (decide (((((encF fl.a fl.h fl.d).1).length + 64 : Nat) : Int) = ((((encF fl.a fl.h fl.d).1).length : Nat) + 64)))) (o_pickT rfl rfl) ?_
      refine dq (v := .bool (decide (((((encF fl.a fl.h fl.d).1).length + 64 : Nat) : Int) = ((((encF fl.a fl.h fl.d).1).length : Nat) + 64)))) (o_mv rfl) ?_
      refine dsplitP rfl (fun c57 => ?_) (fun c57 => (c57 (by omega)).elim)
      refine dqgyes rfl rfl ?_
      refine dqldA (cs := [.bool fl.a, .int .i64 fl.h, fl.v]) rfl (by simp [isHeld]) rfl ((hM53.at (i := 0) (j := 0) rfl rfl).agg rfl rfl) ?_
      refine dgyesl rfl ?_
      refine dl (m_ldA (l := [.bool fl.a, .int .i64 fl.h, (.slice (some ⟨bg5, 0, none⟩) fl.d.length cp5)]) hM56 (i := 2) (j := 0) rfl rfl rfl rfl rfl ?_)
      refine ⟨hh56, ?_⟩
      refine dgyesl rfl ?_
      refine dl (m_call (kept_ok fl.a fl.h bg5 cp5 _ fl.d w56 ((hs5.cutTo).rd hM56 (i := 1) rfl) (hs5.rd hM56 (i := 1) rfl) hcp5 (hd0.upd hM56.upd) (by first | omega | (simp; done) | (simp; omega))) rfl fun v58 w58 ⟨hr58, hu58⟩ => ?_)
      have hM58 : Mem w [] w58 [[⟨b2, 30, [.bool fl.a, .int .i64 fl.h, fl.v]⟩], rs5, [⟨b6, 30, [.bool fl.a, .int .i64 fl.h, (.slice (some ⟨bg5, 0, none⟩) fl.d.length cp5)]⟩], [], rs12, rs16, rs18, [], [⟨b22, 30, [.bool ((decF b).1), .int .i64 ((decF b).2.1), (.slice av21 lv21 cv21)]⟩], rs27, [⟨b28, 30, [.bool ((decF b).1), .int .i64 ((decF b).2.1), (.slice av27 lv27 cv27)]⟩], rs34, [⟨b35, 30, [.bool ((decF b).1), .int .i64 ((decF b).2.1), (.slice av34 lv34 cv34)]⟩]] := hM56.pure hu58
      subst hr58
      have hh58 := held_upd (wr := wd) (bs := [b2]) hu58 (fun b hb => by
        simp only [List.mem_cons, List.not_mem_nil, or_false] at hb
        rw [hb]; exact ⟨(hM56.at (i := 0) (j := 0) rfl rfl).lt, by simp⟩) hh56
      refine ⟨hh58, ?_⟩
      refine dq (v := .bool true) (o_pickT rfl rfl) ?_
      refine dq (v := .bool true) (o_mv rfl) ?_
      refine h52 _ _ ?_
      clear h52
      refine seq fun K59 h59 => ?_
      refine seq fun K60 h60 => ?_
      refine stp (v := .bool true) (o_mv rfl) ?_
      refine stp (v := .bool false) (o_not rfl rfl) ?_
      refine stp (v := .bool false) (o_mv rfl) ?_
      refine splitF rfl ?_
      refine stg rfl (v := .int .i64 ((decF b).2.2.2)) (o_mv rfl) ?_
      refine stg rfl (v := .int .i64 ((decF b).2.2.2)) (o_mv rfl) ?_
      refine stg rfl (v := .bool false) (o_bin rfl rfl v_neF) ?_
      refine stp (v := .bool false) (o_pickF rfl rfl) ?_
      refine stp (v := .bool false) (o_mv rfl) ?_
      refine splitF rfl ?_
      refine stg rfl (v := .int .i64 ((decF b).2.2.2)) (o_mv rfl) ?_
      refine stg rfl (v := .int .i64 ((decF b).2.2.2)) (o_mv rfl) ?_
      refine stg rfl (v := .bool false) (o_bin rfl rfl v_neF) ?_
      refine stp (v := .bool false) (o_pickF rfl rfl) ?_
      refine stp (v := .bool false) (o_mv rfl) ?_
      refine splitF rfl ?_
      refine gyesl rfl ?_
      refine m_ldA (l := [.bool ((decF b).1), .int .i64 ((decF b).2.1), (.slice av27 lv27 cv27)]) hM58 (i := 10) (j := 0) rfl rfl rfl rfl rfl ?_
      refine gyesl rfl ?_
      refine m_ldA (l := [.bool ((decF b).1), .int .i64 ((decF b).2.1), (.slice av34 lv34 cv34)]) hM58 (i := 12) (j := 0) rfl rfl rfl rfl rfl ?_
      refine gyesl rfl ?_
      refine m_call (alike_ok ((decF b).1) ((decF b).1) ((decF b).2.1) ((decF b).2.1) _ _ ((decF b).2.2.1) ((decF b).2.2.1) w58 (hs27.rd hM58 (i := 9) rfl) (hs34.rd hM58 (i := 11) rfl) (by first | omega | (simp; done) | (simp; omega))) rfl fun v61 w61 ⟨hr61, hu61⟩ => ?_
      have hM61 : Mem w [] w61 [[⟨b2, 30, [.bool fl.a, .int .i64 fl.h, fl.v]⟩], rs5, [⟨b6, 30, [.bool fl.a, .int .i64 fl.h, (.slice (some ⟨bg5, 0, none⟩) fl.d.length cp5)]⟩], [], rs12, rs16, rs18, [], [⟨b22, 30, [.bool ((decF b).1), .int .i64 ((decF b).2.1), (.slice av21 lv21 cv21)]⟩], rs27, [⟨b28, 30, [.bool ((decF b).1), .int .i64 ((decF b).2.1), (.slice av27 lv27 cv27)]⟩], rs34, [⟨b35, 30, [.bool ((decF b).1), .int .i64 ((decF b).2.1), (.slice av34 lv34 cv34)]⟩]] := hM58.pure hu61
      obtain rfl : v61 = .bool true := hr61.trans (by rw [alikeF_self])
      refine stg rfl (v := .bool false) (o_not rfl rfl) ?_
      refine stp (v := .bool false) (o_pickF rfl rfl) ?_
      refine stp (v := .bool false) (o_mv rfl) ?_
      refine splitF rfl ?_
      refine stg rfl (v := .int .i64 (((decF b).2.2.1).length + 64 : Nat)) (o_mv rfl) ?_
      refine stg rfl (v := .pointer (some ⟨b35, 2, none⟩)) (o_fa rfl rfl) ?_
      refine gyesl rfl ?_
      refine m_ld (v := (.slice av34 lv34 cv34)) hM61 (i := 12) (j := 0) rfl rfl rfl rfl ?_
      refine stg rfl (v := .int .i64 (((decF b).2.2.1).length : Nat)) (o_lenR (hs34.rd hM61 (i := 11) rfl) rfl rfl) ?_
      refine stg rfl (v := .int .i64 ((((decF b).2.2.1).length : Nat) + 64)) (o_bin rfl rfl (v_add64 (by constructor <;> omega))) ?_
      refine stg rfl (v := .bool (decide (¬ ((((decF b).2.2.1).length + 64 : Nat) : Int) = ((((decF b).2.2.1).length : Nat) + 64)))) (o_bin rfl rfl v_neq) ?_
      refine stp (v := .bool (decide (¬ ((((decF b).2.2.1).length + 64 : Nat) : Int) = ((((decF b).2.2.1).length : Nat) + 64)))) (o_pickF rfl rfl) ?_
      refine stp (v := .bool (decide (¬ ((((decF b).2.2.1).length + 64 : Nat) : Int) = ((((decF b).2.2.1).length : Nat) + 64)))) (o_mv rfl) ?_
      refine splitP rfl (fun c62 => absurd c62 (by omega)) (fun c62 => ?_)
      refine stg rfl (v := v18) (o_mv rfl) ?_
      refine stg rfl (v := x) (o_mv rfl) ?_
      refine gyesl rfl ?_
      refine m_call (roomy_ok _ b w61 (hx.upd hM61.upd) (by first | omega | (simp; done) | (simp; omega))) rfl fun v63 w63 ⟨rs63, hs63, hm63⟩ => ?_
      have hM63 : Mem w [] w63 [[⟨b2, 30, [.bool fl.a, .int .i64 fl.h, fl.v]⟩], rs5, [⟨b6, 30, [.bool fl.a, .int .i64 fl.h, (.slice (some ⟨bg5, 0, none⟩) fl.d.length cp5)]⟩], [], rs12, rs16, rs18, [], [⟨b22, 30, [.bool ((decF b).1), .int .i64 ((decF b).2.1), (.slice av21 lv21 cv21)]⟩], rs27, [⟨b28, 30, [.bool ((decF b).1), .int .i64 ((decF b).2.1), (.slice av27 lv27 cv27)]⟩], rs34, [⟨b35, 30, [.bool ((decF b).1), .int .i64 ((decF b).2.1), (.slice av34 lv34 cv34)]⟩], rs63] := hM61.add hm63
      refine gyesl rfl ?_
      refine m_call (same_ok _ _ (b ++ List.replicate 64 (165 : UInt8)) (b ++ List.replicate 64 (165 : UInt8)) w63 (hs18.rd hM63 (i := 6) rfl) (hs63.rd hM63 (i := 13) rfl) (by first | omega | (simp; done) | (simp; omega))) rfl fun v64 w64 ⟨hr64, hu64⟩ => ?_
      have hM64 : Mem w [] w64 [[⟨b2, 30, [.bool fl.a, .int .i64 fl.h, fl.v]⟩], rs5, [⟨b6, 30, [.bool fl.a, .int .i64 fl.h, (.slice (some ⟨bg5, 0, none⟩) fl.d.length cp5)]⟩], [], rs12, rs16, rs18, [], [⟨b22, 30, [.bool ((decF b).1), .int .i64 ((decF b).2.1), (.slice av21 lv21 cv21)]⟩], rs27, [⟨b28, 30, [.bool ((decF b).1), .int .i64 ((decF b).2.1), (.slice av27 lv27 cv27)]⟩], rs34, [⟨b35, 30, [.bool ((decF b).1), .int .i64 ((decF b).2.1), (.slice av34 lv34 cv34)]⟩], rs63] := hM63.pure hu64
      obtain rfl : v64 = .bool true := hr64.trans (by simp)
      clear hr64
      refine stg rfl (v := .bool false) (o_not rfl rfl) ?_
      refine stp (v := .bool false) (o_pickF rfl rfl) ?_
      refine h60 _ _ ?_
      clear h60
      refine cndF rfl ?_
      refine h59 _ _ ?_
      clear h59
      refine seq fun K65 h65 => ?_
      refine m_ldA (l := [.bool fl.a, .int .i64 fl.h, fl.v]) hM64 (i := 0) (j := 0) rfl rfl rfl rfl rfl ?_
      refine m_call (given_ok fl.a fl.h _ fl.d w64 (hd0.upd hM64.upd) (by first | omega | (simp; done) | (simp; omega))) rfl fun v66 w66 ⟨bg66, cp66, rs66, hr66, hcp66, hs66, hm66⟩ => ?_
      have hM66 : Mem w [] w66 [[⟨b2, 30, [.bool fl.a, .int .i64 fl.h, fl.v]⟩], rs5, [⟨b6, 30, [.bool fl.a, .int .i64 fl.h, (.slice (some ⟨bg5, 0, none⟩) fl.d.length cp5)]⟩], [], rs12, rs16, rs18, [], [⟨b22, 30, [.bool ((decF b).1), .int .i64 ((decF b).2.1), (.slice av21 lv21 cv21)]⟩], rs27, [⟨b28, 30, [.bool ((decF b).1), .int .i64 ((decF b).2.1), (.slice av27 lv27 cv27)]⟩], rs34, [⟨b35, 30, [.bool ((decF b).1), .int .i64 ((decF b).2.1), (.slice av34 lv34 cv34)]⟩], rs63, rs66] := hM64.add hm66
      subst hr66
      refine m_al hM66 fun b67 w68 (hM68 : Mem w [] w68 [[⟨b2, 30, [.bool fl.a, .int .i64 fl.h, fl.v]⟩], rs5, [⟨b6, 30, [.bool fl.a, .int .i64 fl.h, (.slice (some ⟨bg5, 0, none⟩) fl.d.length cp5)]⟩], [], rs12, rs16, rs18, [], [⟨b22, 30, [.bool ((decF b).1), .int .i64 ((decF b).2.1), (.slice av21 lv21 cv21)]⟩], rs27, [⟨b28, 30, [.bool ((decF b).1), .int .i64 ((decF b).2.1), (.slice av27 lv27 cv27)]⟩], rs34, [⟨b35, 30, [.bool ((decF b).1), .int .i64 ((decF b).2.1), (.slice av34 lv34 cv34)]⟩], rs63, rs66, [⟨b67, 30, [.bool false, .int .i64 0, .slice none 0 0]⟩]]) => ?_
      refine m_stA (l := [.bool fl.a, .int .i64 fl.h, (.slice (some ⟨bg66, 0, none⟩) fl.d.length cp66)]) hM68 (i := 15) rfl rfl rfl rfl (by simp [oneCells, Value.oneCell', byteV]) (by simp) fun w69 (hM69 : Mem w [] w69 [[⟨b2, 30, [.bool fl.a, .int .i64 fl.h, fl.v]⟩], rs5, [⟨b6, 30, [.bool fl.a, .int .i64 fl.h, (.slice (some ⟨bg5, 0, none⟩) fl.d.length cp5)]⟩], [], rs12, rs16, rs18, [], [⟨b22, 30, [.bool ((decF b).1), .int .i64 ((decF b).2.1), (.slice av21 lv21 cv21)]⟩], rs27, [⟨b28, 30, [.bool ((decF b).1), .int .i64 ((decF b).2.1), (.slice av27 lv27 cv27)]⟩], rs34, [⟨b35, 30, [.bool ((decF b).1), .int .i64 ((decF b).2.1), (.slice av34 lv34 cv34)]⟩], rs63, rs66, [⟨b67, 30, [.bool fl.a, .int .i64 fl.h, (.slice (some ⟨bg66, 0, none⟩) fl.d.length cp66)]⟩]]) => ?_
      refine h65 _ _ ?_
      clear h65
      refine seq fun K70 h70 => ?_
      refine m_ldA (l := [.bool fl.a, .int .i64 fl.h, (.slice (some ⟨bg5, 0, none⟩) fl.d.length cp5)]) hM69 (i := 2) (j := 0) rfl rfl rfl rfl rfl ?_
      refine m_al hM69 fun b71 w72 (hM72 : Mem w [] w72 [[⟨b2, 30, [.bool fl.a, .int .i64 fl.h, fl.v]⟩], rs5, [⟨b6, 30, [.bool fl.a, .int .i64 fl.h, (.slice (some ⟨bg5, 0, none⟩) fl.d.length cp5)]⟩], [], rs12, rs16, rs18, [], [⟨b22, 30, [.bool ((decF b).1), .int .i64 ((decF b).2.1), (.slice av21 lv21 cv21)]⟩], rs27, [⟨b28, 30, [.bool ((decF b).1), .int .i64 ((decF b).2.1), (.slice av27 lv27 cv27)]⟩], rs34, [⟨b35, 30, [.bool ((decF b).1), .int .i64 ((decF b).2.1), (.slice av34 lv34 cv34)]⟩], rs63, rs66, [⟨b67, 30, [.bool fl.a, .int .i64 fl.h, (.slice (some ⟨bg66, 0, none⟩) fl.d.length cp66)]⟩], [⟨b71, 30, [.bool false, .int .i64 0, .slice none 0 0]⟩]]) => ?_
      refine m_stA (l := [.bool fl.a, .int .i64 fl.h, (.slice (some ⟨bg5, 0, none⟩) fl.d.length cp5)]) hM72 (i := 16) rfl rfl rfl rfl (by simp [oneCells, Value.oneCell', byteV]) (by simp) fun w73 (hM73 : Mem w [] w73 [[⟨b2, 30, [.bool fl.a, .int .i64 fl.h, fl.v]⟩], rs5, [⟨b6, 30, [.bool fl.a, .int .i64 fl.h, (.slice (some ⟨bg5, 0, none⟩) fl.d.length cp5)]⟩], [], rs12, rs16, rs18, [], [⟨b22, 30, [.bool ((decF b).1), .int .i64 ((decF b).2.1), (.slice av21 lv21 cv21)]⟩], rs27, [⟨b28, 30, [.bool ((decF b).1), .int .i64 ((decF b).2.1), (.slice av27 lv27 cv27)]⟩], rs34, [⟨b35, 30, [.bool ((decF b).1), .int .i64 ((decF b).2.1), (.slice av34 lv34 cv34)]⟩], rs63, rs66, [⟨b67, 30, [.bool fl.a, .int .i64 fl.h, (.slice (some ⟨bg66, 0, none⟩) fl.d.length cp66)]⟩], [⟨b71, 30, [.bool fl.a, .int .i64 fl.h, (.slice (some ⟨bg5, 0, none⟩) fl.d.length cp5)]⟩]]) => ?_
      refine h70 _ _ ?_
      clear h70
      refine seq fun K74 h74 => ?_
      refine stp (v := .pointer (some ⟨b6, 1, none⟩)) (o_fa rfl rfl) ?_
      refine m_ld (v := .int .i64 fl.h) hM73 (i := 2) (j := 0) rfl rfl rfl rfl ?_
      refine stp (v := .int .i64 (IntKind.i64.wrap (fl.h + 9))) (o_bin rfl rfl (rfl)) ?_
      refine stp (v := .pointer (some ⟨b71, 1, none⟩)) (o_fa rfl rfl) ?_
      refine m_st (v := .int .i64 (IntKind.i64.wrap (fl.h + 9))) hM73 (i := 16) rfl rfl rfl rfl (by simp) fun w75 (hM75 : Mem w [] w75 [[⟨b2, 30, [.bool fl.a, .int .i64 fl.h, fl.v]⟩], rs5, [⟨b6, 30, [.bool fl.a, .int .i64 fl.h, (.slice (some ⟨bg5, 0, none⟩) fl.d.length cp5)]⟩], [], rs12, rs16, rs18, [], [⟨b22, 30, [.bool ((decF b).1), .int .i64 ((decF b).2.1), (.slice av21 lv21 cv21)]⟩], rs27, [⟨b28, 30, [.bool ((decF b).1), .int .i64 ((decF b).2.1), (.slice av27 lv27 cv27)]⟩], rs34, [⟨b35, 30, [.bool ((decF b).1), .int .i64 ((decF b).2.1), (.slice av34 lv34 cv34)]⟩], rs63, rs66, [⟨b67, 30, [.bool fl.a, .int .i64 fl.h, (.slice (some ⟨bg66, 0, none⟩) fl.d.length cp66)]⟩], [⟨b71, 30, [.bool fl.a, .int .i64 (IntKind.i64.wrap (fl.h + 9)), (.slice (some ⟨bg5, 0, none⟩) fl.d.length cp5)]⟩]]) => ?_
      refine h74 _ _ ?_
      clear h74
      refine seq fun K76 h76 => ?_
      refine m_ldA (l := [.bool fl.a, .int .i64 fl.h, (.slice (some ⟨bg66, 0, none⟩) fl.d.length cp66)]) hM75 (i := 15) (j := 0) rfl rfl rfl rfl rfl ?_
      refine m_al hM75 fun b77 w78 (hM78 : Mem w [] w78 [[⟨b2, 30, [.bool fl.a, .int .i64 fl.h, fl.v]⟩], rs5, [⟨b6, 30, [.bool fl.a, .int .i64 fl.h, (.slice (some ⟨bg5, 0, none⟩) fl.d.length cp5)]⟩], [], rs12, rs16, rs18, [], [⟨b22, 30, [.bool ((decF b).1), .int .i64 ((decF b).2.1), (.slice av21 lv21 cv21)]⟩], rs27, [⟨b28, 30, [.bool ((decF b).1), .int .i64 ((decF b).2.1), (.slice av27 lv27 cv27)]⟩], rs34, [⟨b35, 30, [.bool ((decF b).1), .int .i64 ((decF b).2.1), (.slice av34 lv34 cv34)]⟩], rs63, rs66, [⟨b67, 30, [.bool fl.a, .int .i64 fl.h, (.slice (some ⟨bg66, 0, none⟩) fl.d.length cp66)]⟩], [⟨b71, 30, [.bool fl.a, .int .i64 (IntKind.i64.wrap (fl.h + 9)), (.slice (some ⟨bg5, 0, none⟩) fl.d.length cp5)]⟩], [⟨b77, 30, [.bool false, .int .i64 0, .slice none 0 0]⟩]]) => ?_
      refine m_stA (l := [.bool fl.a, .int .i64 fl.h, (.slice (some ⟨bg66, 0, none⟩) fl.d.length cp66)]) hM78 (i := 17) rfl rfl rfl rfl (by simp [oneCells, Value.oneCell', byteV]) (by simp) fun w79 (hM79 : Mem w [] w79 [[⟨b2, 30, [.bool fl.a, .int .i64 fl.h, fl.v]⟩], rs5, [⟨b6, 30, [.bool fl.a, .int .i64 fl.h, (.slice (some ⟨bg5, 0, none⟩) fl.d.length cp5)]⟩], [], rs12, rs16, rs18, [], [⟨b22, 30, [.bool ((decF b).1), .int .i64 ((decF b).2.1), (.slice av21 lv21 cv21)]⟩], rs27, [⟨b28, 30, [.bool ((decF b).1), .int .i64 ((decF b).2.1), (.slice av27 lv27 cv27)]⟩], rs34, [⟨b35, 30, [.bool ((decF b).1), .int .i64 ((decF b).2.1), (.slice av34 lv34 cv34)]⟩], rs63, rs66, [⟨b67, 30, [.bool fl.a, .int .i64 fl.h, (.slice (some ⟨bg66, 0, none⟩) fl.d.length cp66)]⟩], [⟨b71, 30, [.bool fl.a, .int .i64 (IntKind.i64.wrap (fl.h + 9)), (.slice (some ⟨bg5, 0, none⟩) fl.d.length cp5)]⟩], [⟨b77, 30, [.bool fl.a, .int .i64 fl.h, (.slice (some ⟨bg66, 0, none⟩) fl.d.length cp66)]⟩]]) => ?_
      refine h76 _ _ ?_
      clear h76
      refine seq fun K80 h80 => ?_
      refine stp (v := .pointer (some ⟨b2, 1, none⟩)) (o_fa rfl rfl) ?_
      refine m_ld (v := .int .i64 fl.h) hM79 (i := 0) (j := 0) rfl rfl rfl rfl ?_
      refine stp (v := .int .i64 (IntKind.i64.wrap (fl.h + 9))) (o_bin rfl rfl (rfl)) ?_
      refine stp (v := .pointer (some ⟨b77, 1, none⟩)) (o_fa rfl rfl) ?_
      refine m_st (v := .int .i64 (IntKind.i64.wrap (fl.h + 9))) hM79 (i := 17) rfl rfl rfl rfl (by simp) fun w81 (hM81 : Mem w [] w81 [[⟨b2, 30, [.bool fl.a, .int .i64 fl.h, fl.v]⟩], rs5, [⟨b6, 30, [.bool fl.a, .int .i64 fl.h, (.slice (some ⟨bg5, 0, none⟩) fl.d.length cp5)]⟩], [], rs12, rs16, rs18, [], [⟨b22, 30, [.bool ((decF b).1), .int .i64 ((decF b).2.1), (.slice av21 lv21 cv21)]⟩], rs27, [⟨b28, 30, [.bool ((decF b).1), .int .i64 ((decF b).2.1), (.slice av27 lv27 cv27)]⟩], rs34, [⟨b35, 30, [.bool ((decF b).1), .int .i64 ((decF b).2.1), (.slice av34 lv34 cv34)]⟩], rs63, rs66, [⟨b67, 30, [.bool fl.a, .int .i64 fl.h, (.slice (some ⟨bg66, 0, none⟩) fl.d.length cp66)]⟩], [⟨b71, 30, [.bool fl.a, .int .i64 (IntKind.i64.wrap (fl.h + 9)), (.slice (some ⟨bg5, 0, none⟩) fl.d.length cp5)]⟩], [⟨b77, 30, [.bool fl.a, .int .i64 (IntKind.i64.wrap (fl.h + 9)), (.slice (some ⟨bg66, 0, none⟩) fl.d.length cp66)]⟩]]) => ?_
      refine h80 _ _ ?_
      clear h80
      refine seq fun K82 h82 => ?_
      refine seq fun K83 h83 => ?_
      intro wd e1 e2 e3 e4
      have hd := Upd.same e1 e2 e3 e4 []
      have hM84 := hM81.pure hd
      clear e1 e2 e3 e4
      refine ⟨(some [b77]), ?_⟩
      show vd _ _ _ _ _ _ _
      refine dqldA (cs := [.bool fl.a, .int .i64 (IntKind.i64.wrap (fl.h + 9)), (.slice (some ⟨bg66, 0, none⟩) fl.d.length cp66)]) rfl (by simp [isHeld]) rfl ((hM84.at (i := 17) (j := 0) rfl rfl).agg rfl rfl) ?_
      refine dl (m_ldA (l := [.bool fl.a, .int .i64 (IntKind.i64.wrap (fl.h + 9)), (.slice (some ⟨bg5, 0, none⟩) fl.d.length cp5)]) hM84 (i := 16) (j := 0) rfl rfl rfl rfl rfl ?_)
      refine ⟨(fun b hb => rfl), ?_⟩
      refine dl (m_call (Check_ok fl.a (IntKind.i64.wrap (fl.h + 9)) _ fl.d wd ((hs5.cutTo).rd hM84 (i := 1) rfl) (by first | omega | (simp; done) | (simp; omega))) rfl fun v85 w85 ⟨hr85, hu85⟩ => ?_)
      have hM85 : Mem w [] w85 [[⟨b2, 30, [.bool fl.a, .int .i64 fl.h, fl.v]⟩], rs5, [⟨b6, 30, [.bool fl.a, .int .i64 fl.h, (.slice (some ⟨bg5, 0, none⟩) fl.d.length cp5)]⟩], [], rs12, rs16, rs18, [], [⟨b22, 30, [.bool ((decF b).1), .int .i64 ((decF b).2.1), (.slice av21 lv21 cv21)]⟩], rs27, [⟨b28, 30, [.bool ((decF b).1), .int .i64 ((decF b).2.1), (.slice av27 lv27 cv27)]⟩], rs34, [⟨b35, 30, [.bool ((decF b).1), .int .i64 ((decF b).2.1), (.slice av34 lv34 cv34)]⟩], rs63, rs66, [⟨b67, 30, [.bool fl.a, .int .i64 fl.h, (.slice (some ⟨bg66, 0, none⟩) fl.d.length cp66)]⟩], [⟨b71, 30, [.bool fl.a, .int .i64 (IntKind.i64.wrap (fl.h + 9)), (.slice (some ⟨bg5, 0, none⟩) fl.d.length cp5)]⟩], [⟨b77, 30, [.bool fl.a, .int .i64 (IntKind.i64.wrap (fl.h + 9)), (.slice (some ⟨bg66, 0, none⟩) fl.d.length cp66)]⟩]] := hM84.pure hu85
      subst hr85
      have hh85 := held_upd (wr := wd) (bs := [b77]) hu85 (fun b hb => by
        simp only [List.mem_cons, List.not_mem_nil, or_false] at hb
        rw [hb]; exact ⟨(hM84.at (i := 17) (j := 0) rfl rfl).lt, by simp⟩) (fun b hb => rfl)
      refine ⟨hh85, ?_⟩
      refine dl (m_call (refCheck_ok fl.a (IntKind.i64.wrap (fl.h + 9)) _ fl.d w85 ((hs66.cutTo).rd hM85 (i := 14) rfl) (by first | omega | (simp; done) | (simp; omega))) rfl fun v86 w86 ⟨hr86, hu86⟩ => ?_)
      have hM86 : Mem w [] w86 [[⟨b2, 30, [.bool fl.a, .int .i64 fl.h, fl.v]⟩], rs5, [⟨b6, 30, [.bool fl.a, .int .i64 fl.h, (.slice (some ⟨bg5, 0, none⟩) fl.d.length cp5)]⟩], [], rs12, rs16, rs18, [], [⟨b22, 30, [.bool ((decF b).1), .int .i64 ((decF b).2.1), (.slice av21 lv21 cv21)]⟩], rs27, [⟨b28, 30, [.bool ((decF b).1), .int .i64 ((decF b).2.1), (.slice av27 lv27 cv27)]⟩], rs34, [⟨b35, 30, [.bool ((decF b).1), .int .i64 ((decF b).2.1), (.slice av34 lv34 cv34)]⟩], rs63, rs66, [⟨b67, 30, [.bool fl.a, .int .i64 fl.h, (.slice (some ⟨bg66, 0, none⟩) fl.d.length cp66)]⟩], [⟨b71, 30, [.bool fl.a, .int .i64 (IntKind.i64.wrap (fl.h + 9)), (.slice (some ⟨bg5, 0, none⟩) fl.d.length cp5)]⟩], [⟨b77, 30, [.bool fl.a, .int .i64 (IntKind.i64.wrap (fl.h + 9)), (.slice (some ⟨bg66, 0, none⟩) fl.d.length cp66)]⟩]] := hM85.pure hu86
      subst hr86
      have hh86 := held_upd (wr := wd) (bs := [b77]) hu86 (fun b hb => by
        simp only [List.mem_cons, List.not_mem_nil, or_false] at hb
        rw [hb]; exact ⟨(hM85.at (i := 17) (j := 0) rfl rfl).lt, by simp⟩) hh85
      refine ⟨hh86, ?_⟩
      refine dq (v := .bool false) (o_bin rfl rfl v_neF) ?_
      refine h83 _ _ ?_
      clear h83
      refine cndF rfl ?_
      refine h82 _ _ ?_
      clear h82
      refine seq fun K87 h87 => ?_
      refine stp (v := .pointer (some ⟨b67, 2, none⟩)) (o_fa rfl rfl) ?_
      refine m_ld (v := (.slice (some ⟨bg66, 0, none⟩) fl.d.length cp66)) hM86 (i := 15) (j := 0) rfl rfl rfl rfl ?_
      refine m_call (turned_ok _ fl.d rs66 w86 (hs66.cutTo) (hM86.res (i := 14) rfl) (by first | omega | (simp; done) | (simp; omega))) rfl fun v88 w88 ⟨hr88, hm88⟩ => ?_
      have hM88 : Mem w [] w88 [[⟨b2, 30, [.bool fl.a, .int .i64 fl.h, fl.v]⟩], rs5, [⟨b6, 30, [.bool fl.a, .int .i64 fl.h, (.slice (some ⟨bg5, 0, none⟩) fl.d.length cp5)]⟩], [], rs12, rs16, rs18, [], [⟨b22, 30, [.bool ((decF b).1), .int .i64 ((decF b).2.1), (.slice av21 lv21 cv21)]⟩], rs27, [⟨b28, 30, [.bool ((decF b).1), .int .i64 ((decF b).2.1), (.slice av27 lv27 cv27)]⟩], rs34, [⟨b35, 30, [.bool ((decF b).1), .int .i64 ((decF b).2.1), (.slice av34 lv34 cv34)]⟩], rs63, upR byteV (turnL fl.d) rs66, [⟨b67, 30, [.bool fl.a, .int .i64 fl.h, (.slice (some ⟨bg66, 0, none⟩) fl.d.length cp66)]⟩], [⟨b71, 30, [.bool fl.a, .int .i64 (IntKind.i64.wrap (fl.h + 9)), (.slice (some ⟨bg5, 0, none⟩) fl.d.length cp5)]⟩], [⟨b77, 30, [.bool fl.a, .int .i64 (IntKind.i64.wrap (fl.h + 9)), (.slice (some ⟨bg66, 0, none⟩) fl.d.length cp66)]⟩]] := hM86.step 14 rfl hm88
      subst hr88
      have htl88 := turnL_length fl.d
      refine h87 _ _ ?_
      clear h87
      refine seq fun K89 h89 => ?_
      refine stp (v := .pointer (some ⟨b6, 2, none⟩)) (o_fa rfl rfl) ?_
      refine m_ld (v := (.slice (some ⟨bg5, 0, none⟩) fl.d.length cp5)) hM88 (i := 2) (j := 0) rfl rfl rfl rfl ?_
      refine m_call (turned_ok _ fl.d rs5 w88 (hs5.cutTo) (hM88.res (i := 1) rfl) (by first | omega | (simp; done) | (simp; omega))) rfl fun v90 w90 ⟨hr90, hm90⟩ => ?_
      have hM90 : Mem w [] w90 [[⟨b2, 30, [.bool fl.a, .int .i64 fl.h, fl.v]⟩], upR byteV (turnL fl.d) rs5, [⟨b6, 30, [.bool fl.a, .int .i64 fl.h, (.slice (some ⟨bg5, 0, none⟩) fl.d.length cp5)]⟩], [], rs12, rs16, rs18, [], [⟨b22, 30, [.bool ((decF b).1), .int .i64 ((decF b).2.1), (.slice av21 lv21 cv21)]⟩], rs27, [⟨b28, 30, [.bool ((decF b).1), .int .i64 ((decF b).2.1), (.slice av27 lv27 cv27)]⟩], rs34, [⟨b35, 30, [.bool ((decF b).1), .int .i64 ((decF b).2.1), (.slice av34 lv34 cv34)]⟩], rs63, upR byteV (turnL fl.d) rs66, [⟨b67, 30, [.bool fl.a, .int .i64 fl.h, (.slice (some ⟨bg66, 0, none⟩) fl.d.length cp66)]⟩], [⟨b71, 30, [.bool fl.a, .int .i64 (IntKind.i64.wrap (fl.h + 9)), (.slice (some ⟨bg5, 0, none⟩) fl.d.length cp5)]⟩], [⟨b77, 30, [.bool fl.a, .int .i64 (IntKind.i64.wrap (fl.h + 9)), (.slice (some ⟨bg66, 0, none⟩) fl.d.length cp66)]⟩]] := hM88.step 1 rfl hm90
      subst hr90
      have htl90 := turnL_length fl.d
      refine h89 _ _ ?_
      clear h89
      refine seq fun K91 h91 => ?_
      refine m_ldA (l := [.bool fl.a, .int .i64 fl.h, (.slice (some ⟨bg5, 0, none⟩) fl.d.length cp5)]) hM90 (i := 2) (j := 0) rfl rfl rfl rfl rfl ?_
      refine m_call (Encode_ok fl.a fl.h _ (turnL fl.d) w90 ((SlE.up (m := turnL fl.d) (hs5.cutTo) (turnL_length _)).rd hM90 (i := 1) rfl) (by first | omega | (simp; done) | (simp; omega))) rfl fun v92 w92 ⟨v92_, rs92, hr92, hs92, hm92⟩ => ?_
      have hM92 : Mem w [] w92 [[⟨b2, 30, [.bool fl.a, .int .i64 fl.h, fl.v]⟩], upR byteV (turnL fl.d) rs5, [⟨b6, 30, [.bool fl.a, .int .i64 fl.h, (.slice (some ⟨bg5, 0, none⟩) fl.d.length cp5)]⟩], [], rs12, rs16, rs18, [], [⟨b22, 30, [.bool ((decF b).1), .int .i64 ((decF b).2.1), (.slice av21 lv21 cv21)]⟩], rs27, [⟨b28, 30, [.bool ((decF b).1), .int .i64 ((decF b).2.1), (.slice av27 lv27 cv27)]⟩], rs34, [⟨b35, 30, [.bool ((decF b).1), .int .i64 ((decF b).2.1), (.slice av34 lv34 cv34)]⟩], rs63, upR byteV (turnL fl.d) rs66, [⟨b67, 30, [.bool fl.a, .int .i64 fl.h, (.slice (some ⟨bg66, 0, none⟩) fl.d.length cp66)]⟩], [⟨b71, 30, [.bool fl.a, .int .i64 (IntKind.i64.wrap (fl.h + 9)), (.slice (some ⟨bg5, 0, none⟩) fl.d.length cp5)]⟩], [⟨b77, 30, [.bool fl.a, .int .i64 (IntKind.i64.wrap (fl.h + 9)), (.slice (some ⟨bg66, 0, none⟩) fl.d.length cp66)]⟩], rs92] := hM90.add hm92
      subst hr92
      refine stp (v := .tuple [v92_, .int .i64 ((encF fl.a fl.h (turnL fl.d)).2)].toArray) (o_mv rfl) ?_
      refine stp (v := v92_) (o_ext rfl rfl) ?_
      refine stp (v := .int .i64 ((encF fl.a fl.h (turnL fl.d)).2)) (o_ext rfl rfl) ?_
      refine stp (v := v92_) (o_mv rfl) ?_
      refine stp (v := .int .i64 ((encF fl.a fl.h (turnL fl.d)).2)) (o_mv rfl) ?_
      refine h91 _ _ ?_
      clear h91
      refine seq fun K93 h93 => ?_
      refine m_ldA (l := [.bool fl.a, .int .i64 fl.h, (.slice (some ⟨bg66, 0, none⟩) fl.d.length cp66)]) hM92 (i := 15) (j := 0) rfl rfl rfl rfl rfl ?_
      refine m_call (refEncode_ok fl.a fl.h _ (turnL fl.d) w92 ((SlE.up (m := turnL fl.d) (hs66.cutTo) (turnL_length _)).rd hM92 (i := 14) rfl) (by first | omega | (simp; done) | (simp; omega))) rfl fun v94 w94 ⟨v94_, rs94, hr94, hs94, hm94⟩ => ?_
      have hM94 : Mem w [] w94 [[⟨b2, 30, [.bool fl.a, .int .i64 fl.h, fl.v]⟩], upR byteV (turnL fl.d) rs5, [⟨b6, 30, [.bool fl.a, .int .i64 fl.h, (.slice (some ⟨bg5, 0, none⟩) fl.d.length cp5)]⟩], [], rs12, rs16, rs18, [], [⟨b22, 30, [.bool ((decF b).1), .int .i64 ((decF b).2.1), (.slice av21 lv21 cv21)]⟩], rs27, [⟨b28, 30, [.bool ((decF b).1), .int .i64 ((decF b).2.1), (.slice av27 lv27 cv27)]⟩], rs34, [⟨b35, 30, [.bool ((decF b).1), .int .i64 ((decF b).2.1), (.slice av34 lv34 cv34)]⟩], rs63, upR byteV (turnL fl.d) rs66, [⟨b67, 30, [.bool fl.a, .int .i64 fl.h, (.slice (some ⟨bg66, 0, none⟩) fl.d.length cp66)]⟩], [⟨b71, 30, [.bool fl.a, .int .i64 (IntKind.i64.wrap (fl.h + 9)), (.slice (some ⟨bg5, 0, none⟩) fl.d.length cp5)]⟩], [⟨b77, 30, [.bool fl.a, .int .i64 (IntKind.i64.wrap (fl.h + 9)), (.slice (some ⟨bg66, 0, none⟩) fl.d.length cp66)]⟩], rs92, rs94] := hM92.add hm94
      subst hr94
      refine stp (v := .tuple [v94_, .int .i64 ((encF fl.a fl.h (turnL fl.d)).2)].toArray) (o_mv rfl) ?_
      refine stp (v := v94_) (o_ext rfl rfl) ?_
      refine stp (v := .int .i64 ((encF fl.a fl.h (turnL fl.d)).2)) (o_ext rfl rfl) ?_
      refine stp (v := v94_) (o_mv rfl) ?_
      refine stp (v := .int .i64 ((encF fl.a fl.h (turnL fl.d)).2)) (o_mv rfl) ?_
      refine h93 _ _ ?_
      clear h93
      refine seq fun K95 h95 => ?_
      refine stp (v := v18) (o_mv rfl) ?_
      refine stp (v := x) (o_mv rfl) ?_
      refine stp (v := .int .i64 (b.length : Nat)) (o_lenR (hx.upd hM94.upd) rfl rfl) ?_
      refine m_slcO b.length (hs18) rfl (by first | omega | (simp; done) | (simp; omega)) (⟨_, rfl⟩) trivial fun u96 hu96 => ?_
      have hu96' := SlE.eqL (m := b) hu96 (by simp)
      refine m_call (turned_ok _ b rs18 w94 hu96' (hM94.res (i := 6) rfl) (by first | omega | (simp; done) | (simp; omega))) rfl fun v97 w97 ⟨hr97, hm97⟩ => ?_
      have hM97 : Mem w [] w97 [[⟨b2, 30, [.bool fl.a, .int .i64 fl.h, fl.v]⟩], upR byteV (turnL fl.d) rs5, [⟨b6, 30, [.bool fl.a, .int .i64 fl.h, (.slice (some ⟨bg5, 0, none⟩) fl.d.length cp5)]⟩], [], rs12, rs16, upR byteV (turnL b) rs18, [], [⟨b22, 30, [.bool ((decF b).1), .int .i64 ((decF b).2.1), (.slice av21 lv21 cv21)]⟩], rs27, [⟨b28, 30, [.bool ((decF b).1), .int .i64 ((decF b).2.1), (.slice av27 lv27 cv27)]⟩], rs34, [⟨b35, 30, [.bool ((decF b).1), .int .i64 ((decF b).2.1), (.slice av34 lv34 cv34)]⟩], rs63, upR byteV (turnL fl.d) rs66, [⟨b67, 30, [.bool fl.a, .int .i64 fl.h, (.slice (some ⟨bg66, 0, none⟩) fl.d.length cp66)]⟩], [⟨b71, 30, [.bool fl.a, .int .i64 (IntKind.i64.wrap (fl.h + 9)), (.slice (some ⟨bg5, 0, none⟩) fl.d.length cp5)]⟩], [⟨b77, 30, [.bool fl.a, .int .i64 (IntKind.i64.wrap (fl.h + 9)), (.slice (some ⟨bg66, 0, none⟩) fl.d.length cp66)]⟩], rs92, rs94] := hM94.step 6 rfl hm97
      subst hr97
      have htl97 := turnL_length b
      refine m_call (Decode_ok _ (turnL b) w97 ((SlE.up (m := turnL b) hu96' (turnL_length _)).rd hM97 (i := 6) rfl) (by first | omega | (simp; done) | (simp; omega))) rfl fun v98 w98 ⟨vd98, rs98, hr98, hs98, hm98⟩ => ?_
      have hM98 : Mem w [] w98 [[⟨b2, 30, [.bool fl.a, .int .i64 fl.h, fl.v]⟩], upR byteV (turnL fl.d) rs5, [⟨b6, 30, [.bool fl.a, .int .i64 fl.h, (.slice (some ⟨bg5, 0, none⟩) fl.d.length cp5)]⟩], [], rs12, rs16, upR byteV (turnL b) rs18, [], [⟨b22, 30, [.bool ((decF b).1), .int .i64 ((decF b).2.1), (.slice av21 lv21 cv21)]⟩], rs27, [⟨b28, 30, [.bool ((decF b).1), .int .i64 ((decF b).2.1), (.slice av27 lv27 cv27)]⟩], rs34, [⟨b35, 30, [.bool ((decF b).1), .int .i64 ((decF b).2.1), (.slice av34 lv34 cv34)]⟩], rs63, upR byteV (turnL fl.d) rs66, [⟨b67, 30, [.bool fl.a, .int .i64 fl.h, (.slice (some ⟨bg66, 0, none⟩) fl.d.length cp66)]⟩], [⟨b71, 30, [.bool fl.a, .int .i64 (IntKind.i64.wrap (fl.h + 9)), (.slice (some ⟨bg5, 0, none⟩) fl.d.length cp5)]⟩], [⟨b77, 30, [.bool fl.a, .int .i64 (IntKind.i64.wrap (fl.h + 9)), (.slice (some ⟨bg66, 0, none⟩) fl.d.length cp66)]⟩], rs92, rs94, rs98] := hM97.add hm98
      obtain ⟨av98, lv98, cv98, rfl⟩ := hs98.isSlice
      subst hr98
      refine stp (v := .tuple [.agg ([.bool ((decF (turnL b)).1), .int .i64 ((decF (turnL b)).2.1), (.slice av98 lv98 cv98)] : List Value).toArray, .int .i64 ((decF (turnL b)).2.2.2)].toArray) (o_mv rfl) ?_
      refine stp (v := .agg ([.bool ((decF (turnL b)).1), .int .i64 ((decF (turnL b)).2.1), (.slice av98 lv98 cv98)] : List Value).toArray) (o_ext rfl rfl) ?_
      refine stp (v := .int .i64 ((decF (turnL b)).2.2.2)) (o_ext rfl rfl) ?_
      refine m_al hM98 fun b99 w100 (hM100 : Mem w [] w100 [[⟨b2, 30, [.bool fl.a, .int .i64 fl.h, fl.v]⟩], upR byteV (turnL fl.d) rs5, [⟨b6, 30, [.bool fl.a, .int .i64 fl.h, (.slice (some ⟨bg5, 0, none⟩) fl.d.length cp5)]⟩], [], rs12, rs16, upR byteV (turnL b) rs18, [], [⟨b22, 30, [.bool ((decF b).1), .int .i64 ((decF b).2.1), (.slice av21 lv21 cv21)]⟩], rs27, [⟨b28, 30, [.bool ((decF b).1), .int .i64 ((decF b).2.1), (.slice av27 lv27 cv27)]⟩], rs34, [⟨b35, 30, [.bool ((decF b).1), .int .i64 ((decF b).2.1), (.slice av34 lv34 cv34)]⟩], rs63, upR byteV (turnL fl.d) rs66, [⟨b67, 30, [.bool fl.a, .int .i64 fl.h, (.slice (some ⟨bg66, 0, none⟩) fl.d.length cp66)]⟩], [⟨b71, 30, [.bool fl.a, .int .i64 (IntKind.i64.wrap (fl.h + 9)), (.slice (some ⟨bg5, 0, none⟩) fl.d.length cp5)]⟩], [⟨b77, 30, [.bool fl.a, .int .i64 (IntKind.i64.wrap (fl.h + 9)), (.slice (some ⟨bg66, 0, none⟩) fl.d.length cp66)]⟩], rs92, rs94, rs98, [⟨b99, 30, [.bool false, .int .i64 0, .slice none 0 0]⟩]]) => ?_
      refine m_stA (l := [.bool ((decF (turnL b)).1), .int .i64 ((decF (turnL b)).2.1), (.slice av98 lv98 cv98)]) hM100 (i := 21) rfl rfl rfl rfl (by simp [oneCells, Value.oneCell', byteV]) (by simp) fun w101 (hM101 : Mem w [] w101 [[⟨b2, 30, [.bool fl.a, .int .i64 fl.h, fl.v]⟩], upR byteV (turnL fl.d) rs5, [⟨b6, 30, [.bool fl.a, .int .i64 fl.h, (.slice (some ⟨bg5, 0, none⟩) fl.d.length cp5)]⟩], [], rs12, rs16, upR byteV (turnL b) rs18, [], [⟨b22, 30, [.bool ((decF b).1), .int .i64 ((decF b).2.1), (.slice av21 lv21 cv21)]⟩], rs27, [⟨b28, 30, [.bool ((decF b).1), .int .i64 ((decF b).2.1), (.slice av27 lv27 cv27)]⟩], rs34, [⟨b35, 30, [.bool ((decF b).1), .int .i64 ((decF b).2.1), (.slice av34 lv34 cv34)]⟩], rs63, upR byteV (turnL fl.d) rs66, [⟨b67, 30, [.bool fl.a, .int .i64 fl.h, (.slice (some ⟨bg66, 0, none⟩) fl.d.length cp66)]⟩], [⟨b71, 30, [.bool fl.a, .int .i64 (IntKind.i64.wrap (fl.h + 9)), (.slice (some ⟨bg5, 0, none⟩) fl.d.length cp5)]⟩], [⟨b77, 30, [.bool fl.a, .int .i64 (IntKind.i64.wrap (fl.h + 9)), (.slice (some ⟨bg66, 0, none⟩) fl.d.length cp66)]⟩], rs92, rs94, rs98, [⟨b99, 30, [.bool ((decF (turnL b)).1), .int .i64 ((decF (turnL b)).2.1), (.slice av98 lv98 cv98)]⟩]]) => ?_
      refine stp (v := .int .i64 ((decF (turnL b)).2.2.2)) (o_mv rfl) ?_
      refine h95 _ _ ?_
      clear h95
      refine seq fun K102 h102 => ?_
      refine stp (v := x) (o_mv rfl) ?_
      refine m_call (roomy_ok _ b w101 (hx.upd hM101.upd) (by first | omega | (simp; done) | (simp; omega))) rfl fun v103 w103 ⟨rs103, hs103, hm103⟩ => ?_
      have hM103 : Mem w [] w103 [[⟨b2, 30, [.bool fl.a, .int .i64 fl.h, fl.v]⟩], upR byteV (turnL fl.d) rs5, [⟨b6, 30, [.bool fl.a, .int .i64 fl.h, (.slice (some ⟨bg5, 0, none⟩) fl.d.length cp5)]⟩], [], rs12, rs16, upR byteV (turnL b) rs18, [], [⟨b22, 30, [.bool ((decF b).1), .int .i64 ((decF b).2.1), (.slice av21 lv21 cv21)]⟩], rs27, [⟨b28, 30, [.bool ((decF b).1), .int .i64 ((decF b).2.1), (.slice av27 lv27 cv27)]⟩], rs34, [⟨b35, 30, [.bool ((decF b).1), .int .i64 ((decF b).2.1), (.slice av34 lv34 cv34)]⟩], rs63, upR byteV (turnL fl.d) rs66, [⟨b67, 30, [.bool fl.a, .int .i64 fl.h, (.slice (some ⟨bg66, 0, none⟩) fl.d.length cp66)]⟩], [⟨b71, 30, [.bool fl.a, .int .i64 (IntKind.i64.wrap (fl.h + 9)), (.slice (some ⟨bg5, 0, none⟩) fl.d.length cp5)]⟩], [⟨b77, 30, [.bool fl.a, .int .i64 (IntKind.i64.wrap (fl.h + 9)), (.slice (some ⟨bg66, 0, none⟩) fl.d.length cp66)]⟩], rs92, rs94, rs98, [⟨b99, 30, [.bool ((decF (turnL b)).1), .int .i64 ((decF (turnL b)).2.1), (.slice av98 lv98 cv98)]⟩], rs103] := hM101.add hm103
      refine stp (v := x) (o_mv rfl) ?_
      refine stp (v := .int .i64 (b.length : Nat)) (o_lenR (hx.upd hM103.upd) rfl rfl) ?_
      refine m_slcO b.length (hs103) rfl (by first | omega | (simp; done) | (simp; omega)) (⟨_, rfl⟩) trivial fun u104 hu104 => ?_
      have hu104' := SlE.eqL (m := b) hu104 (by simp)
      refine m_call (turned_ok _ b rs103 w103 hu104' (hM103.res (i := 22) rfl) (by first | omega | (simp; done) | (simp; omega))) rfl fun v105 w105 ⟨hr105, hm105⟩ => ?_
      have hM105 : Mem w [] w105 [[⟨b2, 30, [.bool fl.a, .int .i64 fl.h, fl.v]⟩], upR byteV (turnL fl.d) rs5, [⟨b6, 30, [.bool fl.a, .int .i64 fl.h, (.slice (some ⟨bg5, 0, none⟩) fl.d.length cp5)]⟩], [], rs12, rs16, upR byteV (turnL b) rs18, [], [⟨b22, 30, [.bool ((decF b).1), .int .i64 ((decF b).2.1), (.slice av21 lv21 cv21)]⟩], rs27, [⟨b28, 30, [.bool ((decF b).1), .int .i64 ((decF b).2.1), (.slice av27 lv27 cv27)]⟩], rs34, [⟨b35, 30, [.bool ((decF b).1), .int .i64 ((decF b).2.1), (.slice av34 lv34 cv34)]⟩], rs63, upR byteV (turnL fl.d) rs66, [⟨b67, 30, [.bool fl.a, .int .i64 fl.h, (.slice (some ⟨bg66, 0, none⟩) fl.d.length cp66)]⟩], [⟨b71, 30, [.bool fl.a, .int .i64 (IntKind.i64.wrap (fl.h + 9)), (.slice (some ⟨bg5, 0, none⟩) fl.d.length cp5)]⟩], [⟨b77, 30, [.bool fl.a, .int .i64 (IntKind.i64.wrap (fl.h + 9)), (.slice (some ⟨bg66, 0, none⟩) fl.d.length cp66)]⟩], rs92, rs94, rs98, [⟨b99, 30, [.bool ((decF (turnL b)).1), .int .i64 ((decF (turnL b)).2.1), (.slice av98 lv98 cv98)]⟩], upR byteV (turnL b) rs103] := hM103.step 22 rfl hm105
      subst hr105
      have htl105 := turnL_length b
      refine m_call (refDecode_ok _ (turnL b) w105 ((SlE.up (m := turnL b) hu104' (turnL_length _)).rd hM105 (i := 22) rfl) (by first | omega | (simp; done) | (simp; omega))) rfl fun v106 w106 ⟨vd106, rs106, hr106, hs106, hm106⟩ => ?_
      have hM106 : Mem w [] w106 [[⟨b2, 30, [.bool fl.a, .int .i64 fl.h, fl.v]⟩], upR byteV (turnL fl.d) rs5, [⟨b6, 30, [.bool fl.a, .int .i64 fl.h, (.slice (some ⟨bg5, 0, none⟩) fl.d.length cp5)]⟩], [], rs12, rs16, upR byteV (turnL b) rs18, [], [⟨b22, 30, [.bool ((decF b).1), .int .i64 ((decF b).2.1), (.slice av21 lv21 cv21)]⟩], rs27, [⟨b28, 30, [.bool ((decF b).1), .int .i64 ((decF b).2.1), (.slice av27 lv27 cv27)]⟩], rs34, [⟨b35, 30, [.bool ((decF b).1), .int .i64 ((decF b).2.1), (.slice av34 lv34 cv34)]⟩], rs63, upR byteV (turnL fl.d) rs66, [⟨b67, 30, [.bool fl.a, .int .i64 fl.h, (.slice (some ⟨bg66, 0, none⟩) fl.d.length cp66)]⟩], [⟨b71, 30, [.bool fl.a, .int .i64 (IntKind.i64.wrap (fl.h + 9)), (.slice (some ⟨bg5, 0, none⟩) fl.d.length cp5)]⟩], [⟨b77, 30, [.bool fl.a, .int .i64 (IntKind.i64.wrap (fl.h + 9)), (.slice (some ⟨bg66, 0, none⟩) fl.d.length cp66)]⟩], rs92, rs94, rs98, [⟨b99, 30, [.bool ((decF (turnL b)).1), .int .i64 ((decF (turnL b)).2.1), (.slice av98 lv98 cv98)]⟩], upR byteV (turnL b) rs103, rs106] := hM105.add hm106
      obtain ⟨av106, lv106, cv106, rfl⟩ := hs106.isSlice
      subst hr106
      refine stp (v := .tuple [.agg ([.bool ((decF (turnL b)).1), .int .i64 ((decF (turnL b)).2.1), (.slice av106 lv106 cv106)] : List Value).toArray, .int .i64 ((decF (turnL b)).2.2.2)].toArray) (o_mv rfl) ?_
      refine stp (v := .agg ([.bool ((decF (turnL b)).1), .int .i64 ((decF (turnL b)).2.1), (.slice av106 lv106 cv106)] : List Value).toArray) (o_ext rfl rfl) ?_
      refine stp (v := .int .i64 ((decF (turnL b)).2.2.2)) (o_ext rfl rfl) ?_
      refine m_al hM106 fun b107 w108 (hM108 : Mem w [] w108 [[⟨b2, 30, [.bool fl.a, .int .i64 fl.h, fl.v]⟩], upR byteV (turnL fl.d) rs5, [⟨b6, 30, [.bool fl.a, .int .i64 fl.h, (.slice (some ⟨bg5, 0, none⟩) fl.d.length cp5)]⟩], [], rs12, rs16, upR byteV (turnL b) rs18, [], [⟨b22, 30, [.bool ((decF b).1), .int .i64 ((decF b).2.1), (.slice av21 lv21 cv21)]⟩], rs27, [⟨b28, 30, [.bool ((decF b).1), .int .i64 ((decF b).2.1), (.slice av27 lv27 cv27)]⟩], rs34, [⟨b35, 30, [.bool ((decF b).1), .int .i64 ((decF b).2.1), (.slice av34 lv34 cv34)]⟩], rs63, upR byteV (turnL fl.d) rs66, [⟨b67, 30, [.bool fl.a, .int .i64 fl.h, (.slice (some ⟨bg66, 0, none⟩) fl.d.length cp66)]⟩], [⟨b71, 30, [.bool fl.a, .int .i64 (IntKind.i64.wrap (fl.h + 9)), (.slice (some ⟨bg5, 0, none⟩) fl.d.length cp5)]⟩], [⟨b77, 30, [.bool fl.a, .int .i64 (IntKind.i64.wrap (fl.h + 9)), (.slice (some ⟨bg66, 0, none⟩) fl.d.length cp66)]⟩], rs92, rs94, rs98, [⟨b99, 30, [.bool ((decF (turnL b)).1), .int .i64 ((decF (turnL b)).2.1), (.slice av98 lv98 cv98)]⟩], upR byteV (turnL b) rs103, rs106, [⟨b107, 30, [.bool false, .int .i64 0, .slice none 0 0]⟩]]) => ?_
      refine m_stA (l := [.bool ((decF (turnL b)).1), .int .i64 ((decF (turnL b)).2.1), (.slice av106 lv106 cv106)]) hM108 (i := 24) rfl rfl rfl rfl (by simp [oneCells, Value.oneCell', byteV]) (by simp) fun w109 (hM109 : Mem w [] w109 [[⟨b2, 30, [.bool fl.a, .int .i64 fl.h, fl.v]⟩], upR byteV (turnL fl.d) rs5, [⟨b6, 30, [.bool fl.a, .int .i64 fl.h, (.slice (some ⟨bg5, 0, none⟩) fl.d.length cp5)]⟩], [], rs12, rs16, upR byteV (turnL b) rs18, [], [⟨b22, 30, [.bool ((decF b).1), .int .i64 ((decF b).2.1), (.slice av21 lv21 cv21)]⟩], rs27, [⟨b28, 30, [.bool ((decF b).1), .int .i64 ((decF b).2.1), (.slice av27 lv27 cv27)]⟩], rs34, [⟨b35, 30, [.bool ((decF b).1), .int .i64 ((decF b).2.1), (.slice av34 lv34 cv34)]⟩], rs63, upR byteV (turnL fl.d) rs66, [⟨b67, 30, [.bool fl.a, .int .i64 fl.h, (.slice (some ⟨bg66, 0, none⟩) fl.d.length cp66)]⟩], [⟨b71, 30, [.bool fl.a, .int .i64 (IntKind.i64.wrap (fl.h + 9)), (.slice (some ⟨bg5, 0, none⟩) fl.d.length cp5)]⟩], [⟨b77, 30, [.bool fl.a, .int .i64 (IntKind.i64.wrap (fl.h + 9)), (.slice (some ⟨bg66, 0, none⟩) fl.d.length cp66)]⟩], rs92, rs94, rs98, [⟨b99, 30, [.bool ((decF (turnL b)).1), .int .i64 ((decF (turnL b)).2.1), (.slice av98 lv98 cv98)]⟩], upR byteV (turnL b) rs103, rs106, [⟨b107, 30, [.bool ((decF (turnL b)).1), .int .i64 ((decF (turnL b)).2.1), (.slice av106 lv106 cv106)]⟩]]) => ?_
      refine stp (v := .int .i64 ((decF (turnL b)).2.2.2)) (o_mv rfl) ?_
      refine h102 _ _ ?_
      clear h102
      refine seq fun K110 h110 => ?_
      refine seq fun K111 h111 => ?_
      refine stp (v := y) (o_mv rfl) ?_
      refine stp (v := .int .i64 (lo.length : Nat)) (o_lenR (hy.upd hM109.upd) rfl rfl) ?_
      refine stp (v := .int .i64 ((lo.length : Nat) - 1)) (o_bin rfl rfl (v_sub64 (by constructor <;> omega))) ?_
      refine stp (v := .int .i64 ((lo.length : Nat) - 1)) (o_mv rfl) ?_
      refine h111 _ _ ?_
      clear h111
      refine lp (n := fun _ _ => False) (ι := (Nat)) (fun j f w' => f 36 = .int .i64 ((j : Nat) - 1) ∧ f 2 = y ∧ f 7 = .pointer (some ⟨b6, 0, none⟩) ∧ f 18 = .pointer (some ⟨b28, 0, none⟩) ∧ f 21 = .pointer (some ⟨b35, 0, none⟩) ∧ f 25 = .pointer (some ⟨b67, 0, none⟩) ∧ f 28 = v92_ ∧ f 29 = .int .i64 ((encF fl.a fl.h (turnL fl.d)).2) ∧ f 30 = v94_ ∧ f 31 = .int .i64 ((encF fl.a fl.h (turnL fl.d)).2) ∧ f 32 = .pointer (some ⟨b99, 0, none⟩) ∧ f 33 = .int .i64 ((decF (turnL b)).2.2.2) ∧ f 34 = .pointer (some ⟨b107, 0, none⟩) ∧ f 35 = .int .i64 ((decF (turnL b)).2.2.2) ∧ Mem w [] w' [[⟨b2, 30, [.bool fl.a, .int .i64 fl.h, fl.v]⟩], upR byteV (turnL fl.d) rs5, [⟨b6, 30, [.bool fl.a, .int .i64 fl.h, (.slice (some ⟨bg5, 0, none⟩) fl.d.length cp5)]⟩], [], rs12, rs16, upR byteV (turnL b) rs18, [], [⟨b22, 30, [.bool ((decF b).1), .int .i64 ((decF b).2.1), (.slice av21 lv21 cv21)]⟩], rs27, [⟨b28, 30, [.bool ((decF b).1), .int .i64 ((decF b).2.1), (.slice av27 lv27 cv27)]⟩], rs34, [⟨b35, 30, [.bool ((decF b).1), .int .i64 ((decF b).2.1), (.slice av34 lv34 cv34)]⟩], rs63, upR byteV (turnL fl.d) rs66, [⟨b67, 30, [.bool fl.a, .int .i64 fl.h, (.slice (some ⟨bg66, 0, none⟩) fl.d.length cp66)]⟩], [⟨b71, 30, [.bool fl.a, .int .i64 (IntKind.i64.wrap (fl.h + 9)), (.slice (some ⟨bg5, 0, none⟩) fl.d.length cp5)]⟩], [⟨b77, 30, [.bool fl.a, .int .i64 (IntKind.i64.wrap (fl.h + 9)), (.slice (some ⟨bg66, 0, none⟩) fl.d.length cp66)]⟩], rs92, rs94, rs98, [⟨b99, 30, [.bool ((decF (turnL b)).1), .int .i64 ((decF (turnL b)).2.1), (.slice av98 lv98 cv98)]⟩], upR byteV (turnL b) rs103, rs106, [⟨b107, 30, [.bool ((decF (turnL b)).1), .int .i64 ((decF (turnL b)).2.1), (.slice av106 lv106 cv106)]⟩]] ∧ (j ≤ lo.length)) (fun j => j) (lo.length) ?_ ?_
      · exact ⟨by first | rfl | exact v_int (by omega) | exact v_int (by simp) | exact v_int (by simp; omega), rfl, rfl, rfl, rfl, rfl, rfl, by first | rfl | exact v_int (by omega) | exact v_int (by simp) | exact v_int (by simp; omega), rfl, by first | rfl | exact v_int (by omega) | exact v_int (by simp) | exact v_int (by simp; omega), rfl, by first | rfl | exact v_int (by omega) | exact v_int (by simp) | exact v_int (by simp; omega), rfl, by first | rfl | exact v_int (by omega) | exact v_int (by simp) | exact v_int (by simp; omega), hM109, by omega⟩
      · rintro j f w112 ⟨e112_36, e112_2, e112_7, e112_18, e112_21, e112_25, e112_28, e112_29, e112_30, e112_31, e112_32, e112_33, e112_34, e112_35, hM112, hj⟩ K113 h113
        obtain ⟨frm, rfl⟩ : ∃ frm, f = (upd (upd (upd (upd (upd (upd (upd (upd (upd (upd (upd (upd (upd (upd frm 36 (.int .i64 ((j : Nat) - 1))) 2 (y)) 7 (.pointer (some ⟨b6, 0, none⟩))) 18 (.pointer (some ⟨b28, 0, none⟩))) 21 (.pointer (some ⟨b35, 0, none⟩))) 25 (.pointer (some ⟨b67, 0, none⟩))) 28 (v92_)) 29 (.int .i64 ((encF fl.a fl.h (turnL fl.d)).2))) 30 (v94_)) 31 (.int .i64 ((encF fl.a fl.h (turnL fl.d)).2))) 32 (.pointer (some ⟨b99, 0, none⟩))) 33 (.int .i64 ((decF (turnL b)).2.2.2))) 34 (.pointer (some ⟨b107, 0, none⟩))) 35 (.int .i64 ((decF (turnL b)).2.2.2))) := ⟨f, by rw [upd_self e112_36, upd_self e112_2, upd_self e112_7, upd_self e112_18, upd_self e112_21, upd_self e112_25, upd_self e112_28, upd_self e112_29, upd_self e112_30, upd_self e112_31, upd_self e112_32, upd_self e112_33, upd_self e112_34, upd_self e112_35]⟩
        clear e112_36 e112_2 e112_7 e112_18 e112_21 e112_25 e112_28 e112_29 e112_30 e112_31 e112_32 e112_33 e112_34 e112_35
        refine seq fun K114 h114 => ?_
        refine seq fun K115 h115 => ?_
        refine stp (v := .int .i64 ((j : Nat) - 1)) (o_mv rfl) ?_
        refine stp (v := .bool (decide ((0 : Int) ≤ ((j : Nat) - 1 : Int)))) (o_bin rfl rfl rfl) ?_
        refine h115 _ _ ?_
        clear h115
        refine cndP rfl (fun c116 => ?_) (fun c116 => ?_)
        ·
          refine h114 _ _ ?_
          clear h114
          refine seq fun K117 h117 => ?_
          refine seq fun K118 h118 => ?_
          intro wd e1 e2 e3 e4
          have hd := Upd.same e1 e2 e3 e4 []
          have hM119 := hM112.pure hd
          clear e1 e2 e3 e4
          refine ⟨(some [b67, b6, (blkV y)]), ?_⟩
          show vd _ _ _ _ _ _ _
          refine dq (v := y) (o_mv rfl) ?_
          refine dq (v := .int .i64 ((j : Nat) - 1)) (o_mv rfl) ?_
          refine dqp (m_idxE2 [] (j := (j - 1)) (hy.upd hM119.upd) rfl (v_int (by omega)) (by omega) fun b120 o120 hp120 hbb120 => ?_)
          show vd _ _ _ _ _ _ _
          subst hbb120
          refine dq (v := y) (o_mv rfl) ?_
          refine dq (v := .int .i64 ((j : Nat) - 1)) (o_mv rfl) ?_
          refine dqp (m_idxE2 [] (j := (j - 1)) (hy.upd hM119.upd) rfl (v_int (by omega)) (by omega) fun b121 o121 hp121 hbb121 => ?_)
          show vd _ _ _ _ _ _ _
          subst hbb121
          refine dqldA (cs := [.bool fl.a, .int .i64 fl.h, (.slice (some ⟨bg66, 0, none⟩) fl.d.length cp66)]) rfl (by simp [isHeld]) rfl ((hM119.at (i := 15) (j := 0) rfl rfl).agg rfl rfl) ?_
          refine dqldA (cs := [.bool fl.a, .int .i64 fl.h, (.slice (some ⟨bg5, 0, none⟩) fl.d.length cp5)]) rfl (by simp [isHeld]) rfl ((hM119.at (i := 2) (j := 0) rfl rfl).agg rfl rfl) ?_
          refine dqld rfl (by simp [isHeld]) (v := .string (str (lo.getD (j - 1) []))) (hp121) ?_
          refine dl (ld (v := .string (str (lo.getD (j - 1) []))) rfl (hp120) ?_)
          refine ⟨(fun b hb => rfl), ?_⟩
          refine dl (m_call (Has_ok fl.a fl.h _ (turnL fl.d) (lo.getD (j - 1) []) wd ((SlE.up (m := turnL fl.d) (hs5.cutTo) (turnL_length _)).rd hM119 (i := 1) rfl) (by first | omega | (simp; done) | (simp; omega)) (by first | (have := hko _ (getD_memG [] (i := i) (l := lo) (by omega)); omega) | (have := hko _ (getD_memG [] (i := j - 1) (l := lo) (by omega)); omega)) (by first | assumption | omega)) rfl fun v122 w122 ⟨hr122, hu122⟩ => ?_)
          have hM122 : Mem w [] w122 [[⟨b2, 30, [.bool fl.a, .int .i64 fl.h, fl.v]⟩], upR byteV (turnL fl.d) rs5, [⟨b6, 30, [.bool fl.a, .int .i64 fl.h, (.slice (some ⟨bg5, 0, none⟩) fl.d.length cp5)]⟩], [], rs12, rs16, upR byteV (turnL b) rs18, [], [⟨b22, 30, [.bool ((decF b).1), .int .i64 ((decF b).2.1), (.slice av21 lv21 cv21)]⟩], rs27, [⟨b28, 30, [.bool ((decF b).1), .int .i64 ((decF b).2.1), (.slice av27 lv27 cv27)]⟩], rs34, [⟨b35, 30, [.bool ((decF b).1), .int .i64 ((decF b).2.1), (.slice av34 lv34 cv34)]⟩], rs63, upR byteV (turnL fl.d) rs66, [⟨b67, 30, [.bool fl.a, .int .i64 fl.h, (.slice (some ⟨bg66, 0, none⟩) fl.d.length cp66)]⟩], [⟨b71, 30, [.bool fl.a, .int .i64 (IntKind.i64.wrap (fl.h + 9)), (.slice (some ⟨bg5, 0, none⟩) fl.d.length cp5)]⟩], [⟨b77, 30, [.bool fl.a, .int .i64 (IntKind.i64.wrap (fl.h + 9)), (.slice (some ⟨bg66, 0, none⟩) fl.d.length cp66)]⟩], rs92, rs94, rs98, [⟨b99, 30, [.bool ((decF (turnL b)).1), .int .i64 ((decF (turnL b)).2.1), (.slice av98 lv98 cv98)]⟩], upR byteV (turnL b) rs103, rs106, [⟨b107, 30, [.bool ((decF (turnL b)).1), .int .i64 ((decF (turnL b)).2.1), (.slice av106 lv106 cv106)]⟩]] := hM119.pure hu122
          subst hr122
          have hh122 := held_upd (wr := wd) (bs := [b67, b6, (blkV y)]) hu122 (fun b hb => by
            simp only [List.mem_cons, List.not_mem_nil, or_false] at hb
            rcases hb with h | h | h
            · rw [h]; exact ⟨(hM119.at (i := 15) (j := 0) rfl rfl).lt, by simp⟩
            · rw [h]; exact ⟨(hM119.at (i := 2) (j := 0) rfl rfl).lt, by simp⟩
            · rw [h]; exact ⟨Rd.blkV_lt (hy.upd hM119.upd) (by omega), by simp⟩) (fun b hb => rfl)
          refine ⟨hh122, ?_⟩
          refine dl (m_call (refHas_ok fl.a fl.h _ (turnL fl.d) (lo.getD (j - 1) []) w122 ((SlE.up (m := turnL fl.d) (hs66.cutTo) (turnL_length _)).rd hM122 (i := 14) rfl) (by first | omega | (simp; done) | (simp; omega)) (by first | (have := hko _ (getD_memG [] (i := i) (l := lo) (by omega)); omega) | (have := hko _ (getD_memG [] (i := j - 1) (l := lo) (by omega)); omega)) (by first | assumption | omega)) rfl fun v123 w123 ⟨hr123, hu123⟩ => ?_)
          have hM123 : Mem w [] w123 [[⟨b2, 30, [.bool fl.a, .int .i64 fl.h, fl.v]⟩], upR byteV (turnL fl.d) rs5, [⟨b6, 30, [.bool fl.a, .int .i64 fl.h, (.slice (some ⟨bg5, 0, none⟩) fl.d.length cp5)]⟩], [], rs12, rs16, upR byteV (turnL b) rs18, [], [⟨b22, 30, [.bool ((decF b).1), .int .i64 ((decF b).2.1), (.slice av21 lv21 cv21)]⟩], rs27, [⟨b28, 30, [.bool ((decF b).1), .int .i64 ((decF b).2.1), (.slice av27 lv27 cv27)]⟩], rs34, [⟨b35, 30, [.bool ((decF b).1), .int .i64 ((decF b).2.1), (.slice av34 lv34 cv34)]⟩], rs63, upR byteV (turnL fl.d) rs66, [⟨b67, 30, [.bool fl.a, .int .i64 fl.h, (.slice (some ⟨bg66, 0, none⟩) fl.d.length cp66)]⟩], [⟨b71, 30, [.bool fl.a, .int .i64 (IntKind.i64.wrap (fl.h + 9)), (.slice (some ⟨bg5, 0, none⟩) fl.d.length cp5)]⟩], [⟨b77, 30, [.bool fl.a, .int .i64 (IntKind.i64.wrap (fl.h + 9)), (.slice (some ⟨bg66, 0, none⟩) fl.d.length cp66)]⟩], rs92, rs94, rs98, [⟨b99, 30, [.bool ((decF (turnL b)).1), .int .i64 ((decF (turnL b)).2.1), (.slice av98 lv98 cv98)]⟩], upR byteV (turnL b) rs103, rs106, [⟨b107, 30, [.bool ((decF (turnL b)).1), .int .i64 ((decF (turnL b)).2.1), (.slice av106 lv106 cv106)]⟩]] := hM122.pure hu123
          subst hr123
          have hh123 := held_upd (wr := wd) (bs := [b67, b6, (blkV y)]) hu123 (fun b hb => by
            simp only [List.mem_cons, List.not_mem_nil, or_false] at hb
            rcases hb with h | h | h
            · rw [h]; exact ⟨(hM122.at (i := 15) (j := 0) rfl rfl).lt, by simp⟩
            · rw [h]; exact ⟨(hM122.at (i := 2) (j := 0) rfl rfl).lt, by simp⟩
            · rw [h]; exact ⟨Rd.blkV_lt (hy.upd hM122.upd) (by omega), by simp⟩) hh122
          refine ⟨hh123, ?_⟩
          refine dq (v := .bool false) (o_beq rfl rfl (by simp)) ?_
          refine h118 _ _ ?_
          clear h118
          refine cndF rfl ?_
          refine h117 _ _ ?_
          clear h117
          refine stp (v := .int .i64 ((j : Nat) - 1)) (o_mv rfl) ?_
          refine stp (v := .int .i64 (((j : Nat) - 1) - 1)) (o_bin rfl rfl (v_sub64 (by constructor <;> omega))) ?_
          refine stp (v := .int .i64 (((j : Nat) - 1) - 1)) (o_mv rfl) ?_
          refine h113 (j - 1) _ _ ⟨by first | rfl | exact v_int (by omega) | exact v_int (by simp) | exact v_int (by simp; omega), rfl, rfl, rfl, rfl, rfl, rfl, by first | rfl | exact v_int (by omega) | exact v_int (by simp) | exact v_int (by simp; omega), rfl, by first | rfl | exact v_int (by omega) | exact v_int (by simp) | exact v_int (by simp; omega), rfl, by first | rfl | exact v_int (by omega) | exact v_int (by simp) | exact v_int (by simp; omega), rfl, by first | rfl | exact v_int (by omega) | exact v_int (by simp) | exact v_int (by simp; omega), hM123, by omega⟩ (by (try dsimp only); omega)
        ·
          refine h110 _ _ ?_
          clear h110
          refine seq fun K124 h124 => ?_
          refine stp (v := v92_) (o_mv rfl) ?_
          refine stp (v := v94_) (o_mv rfl) ?_
          refine m_call (same_ok _ _ ((encF fl.a fl.h (turnL fl.d)).1) ((encF fl.a fl.h (turnL fl.d)).1) w112 (hs92.rd hM112 (i := 18) rfl) (hs94.rd hM112 (i := 19) rfl) (by first | omega | (simp; done) | (simp; omega))) rfl fun v125 w125 ⟨hr125, hu125⟩ => ?_
          have hM125 : Mem w [] w125 [[⟨b2, 30, [.bool fl.a, .int .i64 fl.h, fl.v]⟩], upR byteV (turnL fl.d) rs5, [⟨b6, 30, [.bool fl.a, .int .i64 fl.h, (.slice (some ⟨bg5, 0, none⟩) fl.d.length cp5)]⟩], [], rs12, rs16, upR byteV (turnL b) rs18, [], [⟨b22, 30, [.bool ((decF b).1), .int .i64 ((decF b).2.1), (.slice av21 lv21 cv21)]⟩], rs27, [⟨b28, 30, [.bool ((decF b).1), .int .i64 ((decF b).2.1), (.slice av27 lv27 cv27)]⟩], rs34, [⟨b35, 30, [.bool ((decF b).1), .int .i64 ((decF b).2.1), (.slice av34 lv34 cv34)]⟩], rs63, upR byteV (turnL fl.d) rs66, [⟨b67, 30, [.bool fl.a, .int .i64 fl.h, (.slice (some ⟨bg66, 0, none⟩) fl.d.length cp66)]⟩], [⟨b71, 30, [.bool fl.a, .int .i64 (IntKind.i64.wrap (fl.h + 9)), (.slice (some ⟨bg5, 0, none⟩) fl.d.length cp5)]⟩], [⟨b77, 30, [.bool fl.a, .int .i64 (IntKind.i64.wrap (fl.h + 9)), (.slice (some ⟨bg66, 0, none⟩) fl.d.length cp66)]⟩], rs92, rs94, rs98, [⟨b99, 30, [.bool ((decF (turnL b)).1), .int .i64 ((decF (turnL b)).2.1), (.slice av98 lv98 cv98)]⟩], upR byteV (turnL b) rs103, rs106, [⟨b107, 30, [.bool ((decF (turnL b)).1), .int .i64 ((decF (turnL b)).2.1), (.slice av106 lv106 cv106)]⟩]] := hM112.pure hu125
          obtain rfl : v125 = .bool true := hr125.trans (by simp)
          clear hr125
          refine stp (v := .bool true) (o_mv rfl) ?_
          refine splitT rfl ?_
          refine stg rfl (v := .int .i64 ((encF fl.a fl.h (turnL fl.d)).2)) (o_mv rfl) ?_
          refine stg rfl (v := .int .i64 ((encF fl.a fl.h (turnL fl.d)).2)) (o_mv rfl) ?_
          refine stg rfl (v := .bool true) (o_bin rfl rfl v_eqT) ?_
          refine stp (v := .bool true) (o_pickT rfl rfl) ?_
          refine stp (v := .bool true) (o_mv rfl) ?_
          refine splitT rfl ?_
          refine gyesl rfl ?_
          refine m_ldA (l := [.bool ((decF (turnL b)).1), .int .i64 ((decF (turnL b)).2.1), (.slice av98 lv98 cv98)]) hM125 (i := 21) (j := 0) rfl rfl rfl rfl rfl ?_
          refine gyesl rfl ?_
          refine m_ldA (l := [.bool ((decF (turnL b)).1), .int .i64 ((decF (turnL b)).2.1), (.slice av106 lv106 cv106)]) hM125 (i := 24) (j := 0) rfl rfl rfl rfl rfl ?_
          refine gyesl rfl ?_
          refine m_call (alike_ok ((decF (turnL b)).1) ((decF (turnL b)).1) ((decF (turnL b)).2.1) ((decF (turnL b)).2.1) _ _ ((decF (turnL b)).2.2.1) ((decF (turnL b)).2.2.1) w125 (hs98.rd hM125 (i := 20) rfl) (hs106.rd hM125 (i := 23) rfl) (by first | omega | (simp; done) | (simp; omega))) rfl fun v126 w126 ⟨hr126, hu126⟩ => ?_
          have hM126 : Mem w [] w126 [[⟨b2, 30, [.bool fl.a, .int .i64 fl.h, fl.v]⟩], upR byteV (turnL fl.d) rs5, [⟨b6, 30, [.bool fl.a, .int .i64 fl.h, (.slice (some ⟨bg5, 0, none⟩) fl.d.length cp5)]⟩], [], rs12, rs16, upR byteV (turnL b) rs18, [], [⟨b22, 30, [.bool ((decF b).1), .int .i64 ((decF b).2.1), (.slice av21 lv21 cv21)]⟩], rs27, [⟨b28, 30, [.bool ((decF b).1), .int .i64 ((decF b).2.1), (.slice av27 lv27 cv27)]⟩], rs34, [⟨b35, 30, [.bool ((decF b).1), .int .i64 ((decF b).2.1), (.slice av34 lv34 cv34)]⟩], rs63, upR byteV (turnL fl.d) rs66, [⟨b67, 30, [.bool fl.a, .int .i64 fl.h, (.slice (some ⟨bg66, 0, none⟩) fl.d.length cp66)]⟩], [⟨b71, 30, [.bool fl.a, .int .i64 (IntKind.i64.wrap (fl.h + 9)), (.slice (some ⟨bg5, 0, none⟩) fl.d.length cp5)]⟩], [⟨b77, 30, [.bool fl.a, .int .i64 (IntKind.i64.wrap (fl.h + 9)), (.slice (some ⟨bg66, 0, none⟩) fl.d.length cp66)]⟩], rs92, rs94, rs98, [⟨b99, 30, [.bool ((decF (turnL b)).1), .int .i64 ((decF (turnL b)).2.1), (.slice av98 lv98 cv98)]⟩], upR byteV (turnL b) rs103, rs106, [⟨b107, 30, [.bool ((decF (turnL b)).1), .int .i64 ((decF (turnL b)).2.1), (.slice av106 lv106 cv106)]⟩]] := hM125.pure hu126
          obtain rfl : v126 = .bool true := hr126.trans (by rw [alikeF_self])
          refine stp (v := .bool true) (o_pickT rfl rfl) ?_
          refine stp (v := .bool true) (o_mv rfl) ?_
          refine splitT rfl ?_
          refine stg rfl (v := .int .i64 ((decF (turnL b)).2.2.2)) (o_mv rfl) ?_
          refine stg rfl (v := .int .i64 ((decF (turnL b)).2.2.2)) (o_mv rfl) ?_
          refine stg rfl (v := .bool true) (o_bin rfl rfl v_eqT) ?_
          refine stp (v := .bool true) (o_pickT rfl rfl) ?_
          refine stp (v := .bool true) (o_mv rfl) ?_
          refine splitT rfl ?_
          refine gyesl rfl ?_
          refine m_ldA (l := [.bool ((decF b).1), .int .i64 ((decF b).2.1), (.slice av27 lv27 cv27)]) hM126 (i := 10) (j := 0) rfl rfl rfl rfl rfl ?_
          refine gyesl rfl ?_
          refine m_ldA (l := [.bool ((decF b).1), .int .i64 ((decF b).2.1), (.slice av34 lv34 cv34)]) hM126 (i := 12) (j := 0) rfl rfl rfl rfl rfl ?_
          refine gyesl rfl ?_
          refine m_call (alike_ok ((decF b).1) ((decF b).1) ((decF b).2.1) ((decF b).2.1) _ _ ((decF b).2.2.1) ((decF b).2.2.1) w126 (hs27.rd hM126 (i := 9) rfl) (hs34.rd hM126 (i := 11) rfl) (by first | omega | (simp; done) | (simp; omega))) rfl fun v127 w127 ⟨hr127, hu127⟩ => ?_
          have hM127 : Mem w [] w127 [[⟨b2, 30, [.bool fl.a, .int .i64 fl.h, fl.v]⟩], upR byteV (turnL fl.d) rs5, [⟨b6, 30, [.bool fl.a, .int .i64 fl.h, (.slice (some ⟨bg5, 0, none⟩) fl.d.length cp5)]⟩], [], rs12, rs16, upR byteV (turnL b) rs18, [], [⟨b22, 30, [.bool ((decF b).1), .int .i64 ((decF b).2.1), (.slice av21 lv21 cv21)]⟩], rs27, [⟨b28, 30, [.bool ((decF b).1), .int .i64 ((decF b).2.1), (.slice av27 lv27 cv27)]⟩], rs34, [⟨b35, 30, [.bool ((decF b).1), .int .i64 ((decF b).2.1), (.slice av34 lv34 cv34)]⟩], rs63, upR byteV (turnL fl.d) rs66, [⟨b67, 30, [.bool fl.a, .int .i64 fl.h, (.slice (some ⟨bg66, 0, none⟩) fl.d.length cp66)]⟩], [⟨b71, 30, [.bool fl.a, .int .i64 (IntKind.i64.wrap (fl.h + 9)), (.slice (some ⟨bg5, 0, none⟩) fl.d.length cp5)]⟩], [⟨b77, 30, [.bool fl.a, .int .i64 (IntKind.i64.wrap (fl.h + 9)), (.slice (some ⟨bg66, 0, none⟩) fl.d.length cp66)]⟩], rs92, rs94, rs98, [⟨b99, 30, [.bool ((decF (turnL b)).1), .int .i64 ((decF (turnL b)).2.1), (.slice av98 lv98 cv98)]⟩], upR byteV (turnL b) rs103, rs106, [⟨b107, 30, [.bool ((decF (turnL b)).1), .int .i64 ((decF (turnL b)).2.1), (.slice av106 lv106 cv106)]⟩]] := hM126.pure hu127
          obtain rfl : v127 = .bool true := hr127.trans (by rw [alikeF_self])
          refine stp (v := .bool true) (o_pickT rfl rfl) ?_
          refine stp (v := .bool true) (o_mv rfl) ?_
          refine h124 _ _ ?_
          clear h124
          refine ⟨(.bool true), rfl, ?_⟩
          exact ⟨rfl, hM127.upd⟩
