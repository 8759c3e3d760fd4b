/- Damages: the law. -/
import Derived.Test.YtnkilhmkegmenaaF2
namespace Go.Proofs.Ytnkilhmkegmenaa.E
open Go

theorem open_flt {W : World} {cs : List Value} (h : Arg Try.prog W 25 cs) : ∃ f : Flt, cs = fltC f ∧ f.ok := by
  obtain ⟨hl, hf⟩ := h.struct Try.underlying25
  have c2 : Try.prog.cellsOf 2 = 1 := by kernel_rfl
  have c23 : Try.prog.cellsOf 23 = 1 := by kernel_rfl
  have c3 : Try.prog.cellsOf 3 = 1 := by kernel_rfl
  rw [show Try.prog.cellsOf 25 = 8 by kernel_rfl] at hl
  match cs, hl with
  | [a0, a1, a2, a3, a4, a5, a6, a7], _ =>
    obtain ⟨n0, e0, k0⟩ := (hf 0 _ rfl).int Try.underlying3
    obtain rfl : a0 = .int .i64 n0 := by simpa [c3] using e0
    obtain ⟨n1, e1, k1⟩ := (hf 1 _ rfl).int Try.underlying3
    obtain rfl : a1 = .int .i64 n1 := by simpa [c3] using e1
    obtain ⟨n2, e2, k2⟩ := (hf 2 _ rfl).int Try.underlying3
    obtain rfl : a2 = .int .i64 n2 := by simpa [c3] using e2
    obtain ⟨n3, e3, k3⟩ := (hf 3 _ rfl).int Try.underlying3
    obtain rfl : a3 = .int .i64 n3 := by simpa [c3] using e3
    obtain ⟨n4, e4, k4⟩ := (hf 4 _ rfl).int Try.underlying3
    obtain rfl : a4 = .int .i64 n4 := by simpa [c3] using e4
    obtain ⟨n5, e5, k5⟩ := (hf 5 _ rfl).int Try.underlying3
    obtain rfl : a5 = .int .i64 n5 := by simpa [c3] using e5
    obtain ⟨n6, e6, k6⟩ := (hf 6 _ rfl).int Try.underlying2
    obtain rfl : a6 = .int .i64 n6 := by simpa [c2] using e6
    obtain ⟨n7, e7, k7⟩ := (hf 7 _ rfl).int Try.underlying23
    obtain rfl : a7 = .int .u32 n7 := by simpa [c23] using e7
    exact ⟨⟨n0, n1, n2, n3, n4, n5, n6, n7⟩, rfl, k0, k1, k2, k3, k4, k5, k6, k7⟩

theorem open_flts {W : World} {cs : List Value} (h : Arg Try.prog W 32 cs) : ∃ (v : Value) (l : List Flt), cs = [v] ∧ RdS fltC W v l ∧ (∀ x ∈ l, x.ok) ∧ l.length * 64 ≤ 140737488351232 := by
  have := h.slices Try.underlying32 (fun c hc _ => open_flt hc)
  rwa [show Try.prog.bytesOf 25 = 64 by kernel_rfl] at this

/-- winnowlaw16.FaultDamages -/
theorem FaultDamages_ok (x : Value) (b : List UInt8) (fl : Flt) (w : World) (hx : RdE byteV w x b) (hl : b.length ≤ 140737488351232) (hf : fl.ok) : Calls Try.prog 3 [x, .agg (fltC fl).toArray].toArray w (Rt fun r w' => r = .bool true ∧ Upd [] w w') := by
  have hM0 : Mem w [] w [] := Mem.nil w []
  refine calls_vc mixed Try.func3 rfl C3 (by simp [Try.ntmps3]) ?_
  refine seq fun K1 h1 => ?_
  refine m_bx (v := .agg ([.int .i64 fl.kind, .int .i64 fl.tk, .int .i64 fl.task, .int .i64 fl.att, .int .i64 fl.mom, .int .i64 fl.rd, .int .i64 fl.at_, .int .u32 fl.mask] : List Value).toArray) hM0 rfl rfl fun b2 w3 (hM3 : Mem w [] w3 [[⟨b2, 25, [.int .i64 fl.kind, .int .i64 fl.tk, .int .i64 fl.task, .int .i64 fl.att, .int .i64 fl.mom, .int .i64 fl.rd, .int .i64 fl.at_, .int .u32 fl.mask]⟩]]) => ?_
  refine stp (v := .bool false) (o_mv rfl) ?_
  refine h1 _ _ ?_
  clear h1
  refine seq fun K4 h4 => ?_
  refine stp (v := x) (o_mv rfl) ?_
  refine m_call (roomy_ok _ b w3 (hx.upd hM3.upd) (by first | omega | (simp; done) | (simp; omega))) rfl fun v5 w5 ⟨rs5, hs5, hm5⟩ => ?_
  have hM5 : Mem w [] w5 [[⟨b2, 25, [.int .i64 fl.kind, .int .i64 fl.tk, .int .i64 fl.task, .int .i64 fl.att, .int .i64 fl.mom, .int .i64 fl.rd, .int .i64 fl.at_, .int .u32 fl.mask]⟩], rs5] := hM3.add hm5
  refine stp (v := v5) (o_mv rfl) ?_
  refine h4 _ _ ?_
  clear h4
  refine seq fun K6 h6 => ?_
  intro wd e1 e2 e3 e4
  have hd := Upd.same e1 e2 e3 e4 []
  have hM7 := hM5.pure hd
  clear e1 e2 e3 e4
  refine ⟨(some []), ?_⟩
  show vd _ _ _ _ _ _ _
  refine dq (v := v5) (o_mv rfl) ?_
  refine dq (v := x) (o_mv rfl) ?_
  refine dq (v := .int .i64 (b.length : Nat)) (o_lenR (hx.upd hM7.upd) rfl rfl) ?_
  refine dqp (m_slcO b.length (hs5) rfl (by first | omega | (simp; done) | (simp; omega)) (⟨_, rfl⟩) trivial fun u8 hu8 => ?_)
  show vd _ _ _ _ _ _ _
  have hu8' := SlE.eqL (m := b) hu8 (by simp)
  refine dl (m_ldA (l := [.int .i64 fl.kind, .int .i64 fl.tk, .int .i64 fl.task, .int .i64 fl.att, .int .i64 fl.mom, .int .i64 fl.rd, .int .i64 fl.at_, .int .u32 fl.mask]) hM7 (i := 0) (j := 0) rfl rfl rfl rfl rfl ?_)
  refine ⟨(fun b hb => by cases hb), ?_⟩
  refine dl (m_call (Damage_ok _ b fl wd (hu8'.rd hM7 (i := 1) rfl) (by first | assumption | omega) (by first | omega | (simp; done) | (simp; omega))) rfl fun v9 w9 ⟨rs9, hs9, hm9⟩ => ?_)
  have hM9 : Mem w [] w9 [[⟨b2, 25, [.int .i64 fl.kind, .int .i64 fl.tk, .int .i64 fl.task, .int .i64 fl.att, .int .i64 fl.mom, .int .i64 fl.rd, .int .i64 fl.at_, .int .u32 fl.mask]⟩], rs5, rs9] := hM7.add hm9
  have hdl9 := damage_length b fl
  refine ⟨(fun b hb => by cases hb), ?_⟩
  refine dq (v := v9) (o_mv rfl) ?_
  refine h6 _ _ ?_
  clear h6
  refine seq fun K10 h10 => ?_
  intro wd e1 e2 e3 e4
  have hd := Upd.same e1 e2 e3 e4 []
  have hM11 := hM9.pure hd
  clear e1 e2 e3 e4
  refine ⟨(some []), ?_⟩
  show vd _ _ _ _ _ _ _
  refine dq (v := v5) (o_mv rfl) ?_
  refine dq (v := x) (o_mv rfl) ?_
  refine dq (v := .int .i64 (b.length : Nat)) (o_lenR (hx.upd hM11.upd) rfl rfl) ?_
  refine dqp (m_slcO b.length (hs5) rfl (by first | omega | (simp; done) | (simp; omega)) (⟨_, rfl⟩) trivial fun u12 hu12 => ?_)
  show vd _ _ _ _ _ _ _
  have hu12' := SlE.eqL (m := b) hu12 (by simp)
  refine dl (m_ldA (l := [.int .i64 fl.kind, .int .i64 fl.tk, .int .i64 fl.task, .int .i64 fl.att, .int .i64 fl.mom, .int .i64 fl.rd, .int .i64 fl.at_, .int .u32 fl.mask]) hM11 (i := 0) (j := 0) rfl rfl rfl rfl rfl ?_)
  refine ⟨(fun b hb => by cases hb), ?_⟩
  refine dl (m_call (Damage_ok _ b fl wd (hu12'.rd hM11 (i := 1) rfl) (by first | assumption | omega) (by first | omega | (simp; done) | (simp; omega))) rfl fun v13 w13 ⟨rs13, hs13, hm13⟩ => ?_)
  have hM13 : Mem w [] w13 [[⟨b2, 25, [.int .i64 fl.kind, .int .i64 fl.tk, .int .i64 fl.task, .int .i64 fl.att, .int .i64 fl.mom, .int .i64 fl.rd, .int .i64 fl.at_, .int .u32 fl.mask]⟩], rs5, rs9, rs13] := hM11.add hm13
  have hdl13 := damage_length b fl
  refine ⟨(fun b hb => by cases hb), ?_⟩
  refine dq (v := v13) (o_mv rfl) ?_
  refine h10 _ _ ?_
  clear h10
  refine seq fun K14 h14 => ?_
  refine stp (v := v9) (o_mv rfl) ?_
  refine m_call (fill_ok _ (damage b fl) 7 rs9 w13 hs9 (hM13.res (i := 2) rfl) (by first | omega | (simp; done) | (simp; omega))) rfl fun v15 w15 ⟨hr15, hm15⟩ => ?_
  have hM15 : Mem w [] w15 [[⟨b2, 25, [.int .i64 fl.kind, .int .i64 fl.tk, .int .i64 fl.task, .int .i64 fl.att, .int .i64 fl.mom, .int .i64 fl.rd, .int .i64 fl.at_, .int .u32 fl.mask]⟩], rs5, [], rs13] := hM13.step 2 (r' := []) rfl (hm15.keep (by simp))
  subst hr15
  refine stp (v := .int .i64 ((damage b fl).length + 64 : Nat)) (o_mv rfl) ?_
  refine h14 _ _ ?_
  clear h14
  refine seq fun K16 h16 => ?_
  refine stp (v := x) (o_mv rfl) ?_
  refine m_ldA (l := [.int .i64 fl.kind, .int .i64 fl.tk, .int .i64 fl.task, .int .i64 fl.att, .int .i64 fl.mom, .int .i64 fl.rd, .int .i64 fl.at_, .int .u32 fl.mask]) hM15 (i := 0) (j := 0) rfl rfl rfl rfl rfl ?_
  refine m_call (refDamage_ok _ b fl w15 (hx.upd hM15.upd) (by first | assumption | omega) (by first | omega | (simp; done) | (simp; omega))) rfl fun v17 w17 ⟨rs17, hs17, hm17⟩ => ?_
  have hM17 : Mem w [] w17 [[⟨b2, 25, [.int .i64 fl.kind, .int .i64 fl.tk, .int .i64 fl.task, .int .i64 fl.att, .int .i64 fl.mom, .int .i64 fl.rd, .int .i64 fl.at_, .int .u32 fl.mask]⟩], rs5, [], rs13, rs17] := hM15.add hm17
  have hdl17 := damage_length b fl
  refine stp (v := v17) (o_mv rfl) ?_
  refine h16 _ _ ?_
  clear h16
  refine seq fun K18 h18 => ?_
  refine seq fun K19 h19 => ?_
  refine stp (v := v13) (o_mv rfl) ?_
  refine stp (v := v17) (o_mv rfl) ?_
  refine m_call (same_ok _ _ (damage b fl) (damage b fl) w17 (hs13.rd hM17 (i := 3) rfl) (hs17.rd hM17 (i := 4) rfl) (by first | omega | (simp; done) | (simp; omega))) rfl fun v20 w20 ⟨hr20, hu20⟩ => ?_
  have hM20 : Mem w [] w20 [[⟨b2, 25, [.int .i64 fl.kind, .int .i64 fl.tk, .int .i64 fl.task, .int .i64 fl.att, .int .i64 fl.mom, .int .i64 fl.rd, .int .i64 fl.at_, .int .u32 fl.mask]⟩], rs5, [], rs13, rs17] := hM17.pure hu20
  obtain rfl : v20 = .bool true := hr20.trans (by simp)
  clear hr20
  refine stp (v := .bool false) (o_not rfl rfl) ?_
  refine stp (v := .bool false) (o_mv rfl) ?_
  refine splitF rfl ?_
  refine stg rfl (v := .int .i64 ((damage b fl).length + 64 : Nat)) (o_mv rfl) ?_
  refine stg rfl (v := v17) (o_mv rfl) ?_
  refine stg rfl (v := .int .i64 ((damage b fl).length : Nat)) (o_lenR (hs17.rd hM20 (i := 4) rfl) rfl rfl) ?_
  refine stg rfl (v := .int .i64 (((damage b fl).length : Nat) + 64)) (o_bin rfl rfl (v_add64 (by constructor <;> omega))) ?_
  refine stg rfl (v := .bool (decide (¬ (((damage b fl).length + 64 : Nat) : Int) = (((damage b fl).length : Nat) + 64)))) (o_bin rfl rfl v_neq) ?_
  refine stp (v := .bool (decide (¬ (((damage b fl).length + 64 : Nat) : Int) = (((damage b fl).length : Nat) + 64)))) (o_pickF rfl rfl) ?_
  refine stp (v := .bool (decide (¬ (((damage b fl).length + 64 : Nat) : Int) = (((damage b fl).length : Nat) + 64)))) (o_mv rfl) ?_
  refine splitP rfl (fun c21 => absurd c21 (by omega)) (fun c21 => ?_)
  refine stg rfl (v := v5) (o_mv rfl) ?_
  refine stg rfl (v := x) (o_mv rfl) ?_
  refine gyesl rfl ?_
  refine m_call (roomy_ok _ b w20 (hx.upd hM20.upd) (by first | omega | (simp; done) | (simp; omega))) rfl fun v22 w22 ⟨rs22, hs22, hm22⟩ => ?_
  have hM22 : Mem w [] w22 [[⟨b2, 25, [.int .i64 fl.kind, .int .i64 fl.tk, .int .i64 fl.task, .int .i64 fl.att, .int .i64 fl.mom, .int .i64 fl.rd, .int .i64 fl.at_, .int .u32 fl.mask]⟩], rs5, [], rs13, rs17, rs22] := hM20.add hm22
  refine gyesl rfl ?_
  refine m_call (same_ok _ _ (b ++ List.replicate 64 (165 : UInt8)) (b ++ List.replicate 64 (165 : UInt8)) w22 (hs5.rd hM22 (i := 1) rfl) (hs22.rd hM22 (i := 5) rfl) (by first | omega | (simp; done) | (simp; omega))) rfl fun v23 w23 ⟨hr23, hu23⟩ => ?_
  have hM23 : Mem w [] w23 [[⟨b2, 25, [.int .i64 fl.kind, .int .i64 fl.tk, .int .i64 fl.task, .int .i64 fl.att, .int .i64 fl.mom, .int .i64 fl.rd, .int .i64 fl.at_, .int .u32 fl.mask]⟩], rs5, [], rs13, rs17, rs22] := hM22.pure hu23
  obtain rfl : v23 = .bool true := hr23.trans (by simp)
  clear hr23
  refine stg rfl (v := .bool false) (o_not rfl rfl) ?_
  refine stp (v := .bool false) (o_pickF rfl rfl) ?_
  refine h19 _ _ ?_
  clear h19
  refine cndF rfl ?_
  refine h18 _ _ ?_
  clear h18
  refine seq fun K24 h24 => ?_
  intro wd e1 e2 e3 e4
  have hd := Upd.same e1 e2 e3 e4 []
  have hM25 := hM23.pure hd
  clear e1 e2 e3 e4
  refine ⟨(some [b2]), ?_⟩
  show vd _ _ _ _ _ _ _
  refine dq (v := v5) (o_mv rfl) ?_
  refine dq (v := x) (o_mv rfl) ?_
  refine dq (v := .int .i64 (b.length : Nat)) (o_lenR (hx.upd hM25.upd) rfl rfl) ?_
  refine dqp (m_slcO b.length (hs5) rfl (by first | omega | (simp; done) | (simp; omega)) (⟨_, rfl⟩) trivial fun u26 hu26 => ?_)
  show vd _ _ _ _ _ _ _
  have hu26' := SlE.eqL (m := b) hu26 (by simp)
  refine dqldA (cs := [.int .i64 fl.kind, .int .i64 fl.tk, .int .i64 fl.task, .int .i64 fl.att, .int .i64 fl.mom, .int .i64 fl.rd, .int .i64 fl.at_, .int .u32 fl.mask]) rfl (by simp [isHeld]) rfl ((hM25.at (i := 0) (j := 0) rfl rfl).agg rfl rfl) ?_
  refine dl (m_call (turned_ok _ b 0 rs5 wd hu26' (hM25.res (i := 1) rfl) (by first | omega | (simp; done) | (simp; omega))) rfl fun v27 w27 ⟨hr27, hm27⟩ => ?_)
  have hM27 : Mem w [] w27 [[⟨b2, 25, [.int .i64 fl.kind, .int .i64 fl.tk, .int .i64 fl.task, .int .i64 fl.att, .int .i64 fl.mom, .int .i64 fl.rd, .int .i64 fl.at_, .int .u32 fl.mask]⟩], upR byteV (turn 0 b) rs5, [], rs13, rs17, rs22] := hM25.step 1 rfl hm27
  subst hr27
  have htl27 := turn_length 0 b
  have hh27 := held_upd (wr := wd) (bs := [b2]) hm27.upd (fun b hb => by
    simp only [List.mem_cons, List.not_mem_nil, or_false] at hb
    rw [hb]; exact ⟨(hM25.at (i := 0) (j := 0) rfl rfl).lt, hM25.apart (i := 0) (j := 0) (k := 1) rfl rfl rfl (by decide)⟩) (fun b hb => rfl)
  refine ⟨hh27, ?_⟩
  refine dl (m_call (Damage_ok _ (turn 0 b) fl w27 ((SlE.up (m := turn 0 b) hu26' (turn_length _ _)).rd hM27 (i := 1) rfl) (by first | assumption | omega) (by first | omega | (simp; done) | (simp; omega))) rfl fun v28 w28 ⟨rs28, hs28, hm28⟩ => ?_)
  have hM28 : Mem w [] w28 [[⟨b2, 25, [.int .i64 fl.kind, .int .i64 fl.tk, .int .i64 fl.task, .int .i64 fl.att, .int .i64 fl.mom, .int .i64 fl.rd, .int .i64 fl.at_, .int .u32 fl.mask]⟩], upR byteV (turn 0 b) rs5, [], rs13, rs17, rs22, rs28] := hM27.add hm28
  have hdl28 := damage_length (turn 0 b) fl
  have hh28 := held_upd (wr := wd) (bs := [b2]) hm28.upd (fun b hb => by
    simp only [List.mem_cons, List.not_mem_nil, or_false] at hb
    rw [hb]; exact ⟨(hM27.at (i := 0) (j := 0) rfl rfl).lt, by simp⟩) hh27
  refine ⟨hh28, ?_⟩
  refine dq (v := v28) (o_mv rfl) ?_
  refine h24 _ _ ?_
  clear h24
  refine seq fun K29 h29 => ?_
  intro wd e1 e2 e3 e4
  have hd := Upd.same e1 e2 e3 e4 []
  have hM30 := hM28.pure hd
  clear e1 e2 e3 e4
  refine ⟨(some [b2]), ?_⟩
  show vd _ _ _ _ _ _ _
  refine dq (v := v28) (o_mv rfl) ?_
  refine dq (v := x) (o_mv rfl) ?_
  refine dq (v := x) (o_mv rfl) ?_
  refine dq (v := .int .i64 (b.length : Nat)) (o_lenR (hx.upd hM30.upd) rfl rfl) ?_
  refine dqldA (cs := [.int .i64 fl.kind, .int .i64 fl.tk, .int .i64 fl.task, .int .i64 fl.att, .int .i64 fl.mom, .int .i64 fl.rd, .int .i64 fl.at_, .int .u32 fl.mask]) rfl (by simp [isHeld]) rfl ((hM30.at (i := 0) (j := 0) rfl rfl).agg rfl rfl) ?_
  refine dl (m_call (roomy_ok _ b wd (hx.upd hM30.upd) (by first | omega | (simp; done) | (simp; omega))) rfl fun v31 w31 ⟨rs31, hs31, hm31⟩ => ?_)
  have hM31 : Mem w [] w31 [[⟨b2, 25, [.int .i64 fl.kind, .int .i64 fl.tk, .int .i64 fl.task, .int .i64 fl.att, .int .i64 fl.mom, .int .i64 fl.rd, .int .i64 fl.at_, .int .u32 fl.mask]⟩], upR byteV (turn 0 b) rs5, [], rs13, rs17, rs22, rs28, rs31] := hM30.add hm31
  have hh31 := held_upd (wr := wd) (bs := [b2]) hm31.upd (fun b hb => by
    simp only [List.mem_cons, List.not_mem_nil, or_false] at hb
    rw [hb]; exact ⟨(hM30.at (i := 0) (j := 0) rfl rfl).lt, by simp⟩) (fun b hb => rfl)
  refine ⟨hh31, ?_⟩
  refine dqp (m_slcO b.length (hs31) rfl (by first | omega | (simp; done) | (simp; omega)) (⟨_, rfl⟩) trivial fun u32 hu32 => ?_)
  show vd _ _ _ _ _ _ _
  have hu32' := SlE.eqL (m := b) hu32 (by simp)
  refine dl (m_call (turned_ok _ b 0 rs31 w31 hu32' (hM31.res (i := 7) rfl) (by first | omega | (simp; done) | (simp; omega))) rfl fun v33 w33 ⟨hr33, hm33⟩ => ?_)
  have hM33 : Mem w [] w33 [[⟨b2, 25, [.int .i64 fl.kind, .int .i64 fl.tk, .int .i64 fl.task, .int .i64 fl.att, .int .i64 fl.mom, .int .i64 fl.rd, .int .i64 fl.at_, .int .u32 fl.mask]⟩], upR byteV (turn 0 b) rs5, [], rs13, rs17, rs22, rs28, upR byteV (turn 0 b) rs31] := hM31.step 7 rfl hm33
  subst hr33
  have htl33 := turn_length 0 b
  have hh33 := held_upd (wr := wd) (bs := [b2]) hm33.upd (fun b hb => by
    simp only [List.mem_cons, List.not_mem_nil, or_false] at hb
    rw [hb]; exact ⟨(hM31.at (i := 0) (j := 0) rfl rfl).lt, hM31.apart (i := 0) (j := 0) (k := 7) rfl rfl rfl (by decide)⟩) hh31
  refine ⟨hh33, ?_⟩
  refine dl (m_call (refDamage_ok _ (turn 0 b) fl w33 ((SlE.up (m := turn 0 b) hu32' (turn_length _ _)).rd hM33 (i := 7) rfl) (by first | assumption | omega) (by first | omega | (simp; done) | (simp; omega))) rfl fun v34 w34 ⟨rs34, hs34, hm34⟩ => ?_)
  have hM34 : Mem w [] w34 [[⟨b2, 25, [.int .i64 fl.kind, .int .i64 fl.tk, .int .i64 fl.task, .int .i64 fl.att, .int .i64 fl.mom, .int .i64 fl.rd, .int .i64 fl.at_, .int .u32 fl.mask]⟩], upR byteV (turn 0 b) rs5, [], rs13, rs17, rs22, rs28, upR byteV (turn 0 b) rs31, rs34] := hM33.add hm34
  have hdl34 := damage_length (turn 0 b) fl
  have hh34 := held_upd (wr := wd) (bs := [b2]) hm34.upd (fun b hb => by
    simp only [List.mem_cons, List.not_mem_nil, or_false] at hb
    rw [hb]; exact ⟨(hM33.at (i := 0) (j := 0) rfl rfl).lt, by simp⟩) hh33
  refine ⟨hh34, ?_⟩
  refine dl (m_call (same_ok _ _ (damage (turn 0 b) fl) (damage (turn 0 b) fl) w34 (hs28.rd hM34 (i := 6) rfl) (hs34.rd hM34 (i := 8) rfl) (by first | omega | (simp; done) | (simp; omega))) rfl fun v35 w35 ⟨hr35, hu35⟩ => ?_)
  have hM35 : Mem w [] w35 [[⟨b2, 25, [.int .i64 fl.kind, .int .i64 fl.tk, .int .i64 fl.task, .int .i64 fl.att, .int .i64 fl.mom, .int .i64 fl.rd, .int .i64 fl.at_, .int .u32 fl.mask]⟩], upR byteV (turn 0 b) rs5, [], rs13, rs17, rs22, rs28, upR byteV (turn 0 b) rs31, rs34] := hM34.pure hu35
  obtain rfl : v35 = .bool true := hr35.trans (by simp)
  clear hr35
  have hh35 := held_upd (wr := wd) (bs := [b2]) hu35 (fun b hb => by
    simp only [List.mem_cons, List.not_mem_nil, or_false] at hb
    rw [hb]; exact ⟨(hM34.at (i := 0) (j := 0) rfl rfl).lt, by simp⟩) hh34
  refine ⟨hh35, ?_⟩
  refine dq (v := .bool true) (o_mv rfl) ?_
  refine dsplitT rfl ?_
  refine dqg rfl (v := v13) (o_mv rfl) ?_
  refine dqg rfl (v := v17) (o_mv rfl) ?_
  refine dgyesl rfl ?_
  refine dl (m_call (same_ok _ _ (damage b fl) (damage b fl) w35 (hs13.rd hM35 (i := 3) rfl) (hs17.rd hM35 (i := 4) rfl) (by first | omega | (simp; done) | (simp; omega))) rfl fun v36 w36 ⟨hr36, hu36⟩ => ?_)
  have hM36 : Mem w [] w36 [[⟨b2, 25, [.int .i64 fl.kind, .int .i64 fl.tk, .int .i64 fl.task, .int .i64 fl.att, .int .i64 fl.mom, .int .i64 fl.rd, .int .i64 fl.at_, .int .u32 fl.mask]⟩], upR byteV (turn 0 b) rs5, [], rs13, rs17, rs22, rs28, upR byteV (turn 0 b) rs31, rs34] := hM35.pure hu36
  obtain rfl : v36 = .bool true := hr36.trans (by simp)
  clear hr36
  have hh36 := held_upd (wr := wd) (bs := [b2]) hu36 (fun b hb => by
    simp only [List.mem_cons, List.not_mem_nil, or_false] at hb
    rw [hb]; exact ⟨(hM35.at (i := 0) (j := 0) rfl rfl).lt, by simp⟩) hh35
  refine ⟨hh36, ?_⟩
  refine dq (v := .bool true) (o_pickT rfl rfl) ?_
  refine dq (v := .bool true) (o_mv rfl) ?_
  refine h29 _ _ ?_
  clear h29
  refine ⟨(.bool true), rfl, ?_⟩
  exact ⟨rfl, hM36.upd⟩
