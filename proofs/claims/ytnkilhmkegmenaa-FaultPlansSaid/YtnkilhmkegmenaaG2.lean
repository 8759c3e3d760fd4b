/- The law FaultPlans: any questions. -/
import Derived.Test.YtnkilhmkegmenaaG1
import Derived.Test.YtnkilhmkegmenaaE16
namespace Go.Proofs.Ytnkilhmkegmenaa.E
open Go
theorem PlanS.ptr {t : TypeId} {p : Value} {l : List Flt} {r : List Ent} (h : PlanS t p l r) : ∃ b, p = .pointer (some ⟨b, 0, none⟩) := by
  obtain ⟨b, _, _, h, _⟩ := h; exact ⟨b, h⟩
structure Ask where
  op : Int
  a : Int
  b : Int
  c : Int
  d : Int
def askC (x : Ask) : List Value := [.int .i64 x.op, .int .i64 x.a, .int .i64 x.b, .int .i64 x.c, .int .i64 x.d]
instance : Enc askC 5 := ⟨fun _ => rfl, by omega, fun c => by intro v hv; simp only [askC, List.mem_cons, List.not_mem_nil, or_false] at hv; rcases hv with rfl | rfl | rfl | rfl | rfl <;> rfl⟩
def Ask.ok (x : Ask) : Prop := inK .i64 x.op ∧ inK .i64 x.a ∧ inK .i64 x.b ∧ inK .i64 x.c ∧ inK .i64 x.d
def az : Ask := ⟨0, 0, 0, 0, 0⟩

/-- (*fault.Plan).take -/
theorem take_nil (g : Value) (w : World) : Calls Try.prog 39 [.pointer none, g].toArray w (Rt fun r w' => r = .slice none 0 0 ∧ Upd [] w w') := by
  have hM0 : Mem w [] w [] := Mem.nil w []
  refine calls_vc mixed Try.func39 rfl C39 (by simp [Try.ntmps39]) ?_
  refine seq fun K1 h1 => ?_
  refine stp (v := .slice none 0 0) (o_mv rfl) ?_
  refine h1 _ _ ?_
  clear h1
  refine seq fun K2 h2 => ?_
  refine seq fun K3 h3 => ?_
  refine stp (v := .pointer none) (o_mv rfl) ?_
  refine stp (v := .bool true) (o_isnil rfl rfl) ?_
  refine h3 _ _ ?_
  clear h3
  refine cndT rfl ?_
  refine seq fun K4 h4 => ?_
  refine stp (v := .slice none 0 0) (o_mv rfl) ?_
  refine h4 _ _ ?_
  clear h4
  refine ⟨(.slice none 0 0), rfl, ?_⟩
  exact ⟨rfl, hM0.upd⟩

/-- (*fault.Plan).Stop -/
theorem Stop_nil (k t a : Int) (w : World) : Calls Try.prog 16 [.pointer none, .int .i64 k, .int .i64 t, .int .i64 a].toArray w (Rt fun r w' => r = .tuple [.int .i64 0, .bool false].toArray ∧ Upd [] w w') := by
  have hM0 : Mem w [] w [] := Mem.nil w []
  refine calls_vc mixed Try.func16 rfl C16 (by simp [Try.ntmps16]) ?_
  refine seq fun K1 h1 => ?_
  refine stp (v := .int .i64 0) (o_mv rfl) ?_
  refine stp (v := .bool false) (o_mv rfl) ?_
  refine h1 _ _ ?_
  clear h1
  refine seq fun K2 h2 => ?_
  refine stp (v := .int .i64 k) (o_mv rfl) ?_
  refine stp (v := .int .i64 t) (o_mv rfl) ?_
  refine stp (v := .int .i64 a) (o_mv rfl) ?_
  refine stp (v := .agg ([.int .i64 0, .int .i64 k, .int .i64 t, .int .i64 a] : List Value).toArray) (o_bld rfl rfl) ?_
  refine m_al hM0 fun b3 w4 (hM4 : Mem w [] w4 [[⟨b3, 68, [.int .i64 0, .int .i64 0, .int .i64 0, .int .i64 0]⟩]]) => ?_
  refine m_stA (l := [.int .i64 0, .int .i64 k, .int .i64 t, .int .i64 a]) hM4 (i := 0) rfl rfl rfl rfl (by simp [oneCells, Value.oneCell', byteV]) (by simp) fun w5 (hM5 : Mem w [] w5 [[⟨b3, 68, [.int .i64 0, .int .i64 k, .int .i64 t, .int .i64 a]⟩]]) => ?_
  refine h2 _ _ ?_
  clear h2
  refine seq fun K6 h6 => ?_
  refine stp (v := .pointer none) (o_mv rfl) ?_
  refine stp (v := .func (.func 40) [].toArray [.pointer (some ⟨b3, 0, none⟩)].toArray) (o_mkf rfl) ?_
  refine m_call (take_nil _ w5) rfl fun v7 w7 ⟨hr7, hu7⟩ => ?_
  have hM7 : Mem w [] w7 [[⟨b3, 68, [.int .i64 0, .int .i64 k, .int .i64 t, .int .i64 a]⟩]] := hM5.pure hu7
  subst hr7
  refine stp (v := .slice none 0 0) (o_mv rfl) ?_
  refine h6 _ _ ?_
  clear h6
  refine seq fun K8 h8 => ?_
  refine seq fun K9 h9 => ?_
  refine stp (v := .slice none 0 0) (o_mv rfl) ?_
  refine stp (v := .int .i64 0) (o_len rfl rfl) ?_
  refine stp (v := .bool true) (o_bin rfl rfl v_eqT) ?_
  refine h9 _ _ ?_
  clear h9
  refine cndT rfl ?_
  refine seq fun K10 h10 => ?_
  refine stp (v := .int .i64 0) (o_mv rfl) ?_
  refine stp (v := .bool false) (o_mv rfl) ?_
  refine h10 _ _ ?_
  clear h10
  refine ⟨(.tuple [.int .i64 0, .bool false].toArray), rfl, ?_⟩
  exact ⟨rfl, hM7.upd⟩

/-- (*fault.Plan).Due -/
theorem Due_nil (a b c d : Int) (w : World) : Calls Try.prog 17 [.pointer none, .int .i64 a, .int .i64 b, .int .i64 c, .int .i64 d].toArray w (Rt fun r w' => r = .slice none 0 0 ∧ Upd [] w w') := by
  have hM0 : Mem w [] w [] := Mem.nil w []
  refine calls_vc mixed Try.func17 rfl C17 (by simp [Try.ntmps17]) ?_
  refine seq fun K1 h1 => ?_
  refine m_bx (v := .int .i64 a) hM0 rfl rfl fun b2 w3 (hM3 : Mem w [] w3 [[⟨b2, 3, [.int .i64 a]⟩]]) => ?_
  refine m_bx (v := .int .i64 b) hM3 rfl rfl fun b4 w5 (hM5 : Mem w [] w5 [[⟨b2, 3, [.int .i64 a]⟩], [⟨b4, 3, [.int .i64 b]⟩]]) => ?_
  refine m_bx (v := .int .i64 c) hM5 rfl rfl fun b6 w7 (hM7 : Mem w [] w7 [[⟨b2, 3, [.int .i64 a]⟩], [⟨b4, 3, [.int .i64 b]⟩], [⟨b6, 3, [.int .i64 c]⟩]]) => ?_
  refine m_bx (v := .int .i64 d) hM7 rfl rfl fun b8 w9 (hM9 : Mem w [] w9 [[⟨b2, 3, [.int .i64 a]⟩], [⟨b4, 3, [.int .i64 b]⟩], [⟨b6, 3, [.int .i64 c]⟩], [⟨b8, 3, [.int .i64 d]⟩]]) => ?_
  refine stp (v := .slice none 0 0) (o_mv rfl) ?_
  refine h1 _ _ ?_
  clear h1
  refine seq fun K10 h10 => ?_
  refine stp (v := .pointer none) (o_mv rfl) ?_
  refine stp (v := .func (.func 42) [].toArray [.pointer (some ⟨b2, 0, none⟩), .pointer (some ⟨b4, 0, none⟩), .pointer (some ⟨b6, 0, none⟩), .pointer (some ⟨b8, 0, none⟩)].toArray) (o_mkf rfl) ?_
  refine m_call (take_nil _ w9) rfl fun v11 w11 ⟨hr11, hu11⟩ => ?_
  have hM11 : Mem w [] w11 [[⟨b2, 3, [.int .i64 a]⟩], [⟨b4, 3, [.int .i64 b]⟩], [⟨b6, 3, [.int .i64 c]⟩], [⟨b8, 3, [.int .i64 d]⟩]] := hM9.pure hu11
  subst hr11
  refine stp (v := .slice none 0 0) (o_mv rfl) ?_
  refine h10 _ _ ?_
  clear h10
  refine ⟨(.slice none 0 0), rfl, ?_⟩
  exact ⟨rfl, hM11.upd⟩

/-- (*fault.Plan).Left -/
theorem Left_nil (w : World) : Calls Try.prog 18 [.pointer none].toArray w (Rt fun r w' => r = .slice none 0 0 ∧ Upd [] w w') := by
  have hM0 : Mem w [] w [] := Mem.nil w []
  refine calls_vc mixed Try.func18 rfl C18 (by simp [Try.ntmps18]) ?_
  refine seq fun K1 h1 => ?_
  refine stp (v := .slice none 0 0) (o_mv rfl) ?_
  refine h1 _ _ ?_
  clear h1
  refine seq fun K2 h2 => ?_
  refine seq fun K3 h3 => ?_
  refine stp (v := .pointer none) (o_mv rfl) ?_
  refine stp (v := .bool true) (o_isnil rfl rfl) ?_
  refine h3 _ _ ?_
  clear h3
  refine cndT rfl ?_
  refine seq fun K4 h4 => ?_
  refine stp (v := .slice none 0 0) (o_mv rfl) ?_
  refine h4 _ _ ?_
  clear h4
  refine ⟨(.slice none 0 0), rfl, ?_⟩
  exact ⟨rfl, hM0.upd⟩

/-- (*winnowref16.Plan).Stop -/
theorem refStop_nil (k t a : Int) (w : World) : Calls Try.prog 23 [.pointer none, .int .i64 k, .int .i64 t, .int .i64 a].toArray w (Rt fun r w' => r = .tuple [.int .i64 0, .bool false].toArray ∧ Upd [] w w') := by
  have hM0 : Mem w [] w [] := Mem.nil w []
  refine calls_vc mixed Try.func23 rfl C23 (by simp [Try.ntmps23]) ?_
  refine seq fun K1 h1 => ?_
  refine stp (v := .int .i64 0) (o_mv rfl) ?_
  refine stp (v := .bool false) (o_mv rfl) ?_
  refine h1 _ _ ?_
  clear h1
  refine seq fun K2 h2 => ?_
  refine seq fun K3 h3 => ?_
  refine stp (v := .pointer none) (o_mv rfl) ?_
  refine stp (v := .bool true) (o_isnil rfl rfl) ?_
  refine h3 _ _ ?_
  clear h3
  refine cndT rfl ?_
  refine seq fun K4 h4 => ?_
  refine stp (v := .int .i64 0) (o_mv rfl) ?_
  refine stp (v := .bool false) (o_mv rfl) ?_
  refine h4 _ _ ?_
  clear h4
  refine ⟨(.tuple [.int .i64 0, .bool false].toArray), rfl, ?_⟩
  exact ⟨rfl, hM0.upd⟩

/-- (*winnowref16.Plan).Due -/
theorem refDue_nil (a b c d : Int) (w : World) : Calls Try.prog 24 [.pointer none, .int .i64 a, .int .i64 b, .int .i64 c, .int .i64 d].toArray w (Rt fun r w' => r = .slice none 0 0 ∧ Upd [] w w') := by
  have hM0 : Mem w [] w [] := Mem.nil w []
  refine calls_vc mixed Try.func24 rfl C24 (by simp [Try.ntmps24]) ?_
  refine seq fun K1 h1 => ?_
  refine stp (v := .slice none 0 0) (o_mv rfl) ?_
  refine h1 _ _ ?_
  clear h1
  refine seq fun K2 h2 => ?_
  refine seq fun K3 h3 => ?_
  refine stp (v := .pointer none) (o_mv rfl) ?_
  refine stp (v := .bool true) (o_isnil rfl rfl) ?_
  refine h3 _ _ ?_
  clear h3
  refine cndT rfl ?_
  refine seq fun K4 h4 => ?_
  refine stp (v := .slice none 0 0) (o_mv rfl) ?_
  refine h4 _ _ ?_
  clear h4
  refine ⟨(.slice none 0 0), rfl, ?_⟩
  exact ⟨rfl, hM0.upd⟩

/-- (*winnowref16.Plan).Left -/
theorem refLeft_nil (w : World) : Calls Try.prog 26 [.pointer none].toArray w (Rt fun r w' => r = .slice none 0 0 ∧ Upd [] w w') := by
  have hM0 : Mem w [] w [] := Mem.nil w []
  refine calls_vc mixed Try.func26 rfl C26 (by simp [Try.ntmps26]) ?_
  refine seq fun K1 h1 => ?_
  refine stp (v := .slice none 0 0) (o_mv rfl) ?_
  refine h1 _ _ ?_
  clear h1
  refine seq fun K2 h2 => ?_
  refine seq fun K3 h3 => ?_
  refine stp (v := .pointer none) (o_mv rfl) ?_
  refine stp (v := .bool true) (o_isnil rfl rfl) ?_
  refine h3 _ _ ?_
  clear h3
  refine cndT rfl ?_
  refine seq fun K4 h4 => ?_
  refine stp (v := .slice none 0 0) (o_mv rfl) ?_
  refine h4 _ _ ?_
  clear h4
  refine ⟨(.slice none 0 0), rfl, ?_⟩
  exact ⟨rfl, hM0.upd⟩

theorem open_ask {W : World} {cs : List Value} (h : Arg Try.prog W 49 cs) : ∃ f : Ask, cs = askC f ∧ f.ok := by
  obtain ⟨hl, hf⟩ := h.struct Try.underlying49
  have c3 : Try.prog.cellsOf 3 = 1 := by kernel_rfl
  rw [show Try.prog.cellsOf 49 = 5 by kernel_rfl] at hl
  match cs, hl with
  | [a0, a1, a2, a3, a4], _ =>
    obtain ⟨n0, e0, k0⟩ := (hf 0 _ rfl).int Try.underlying3
    obtain rfl : a0 = .int .i64 n0 := by simpa [c3] using e0
    obtain ⟨n1, e1, k1⟩ := (hf 1 _ rfl).int Try.underlying3
    obtain rfl : a1 = .int .i64 n1 := by simpa [c3] using e1
    obtain ⟨n2, e2, k2⟩ := (hf 2 _ rfl).int Try.underlying3
    obtain rfl : a2 = .int .i64 n2 := by simpa [c3] using e2
    obtain ⟨n3, e3, k3⟩ := (hf 3 _ rfl).int Try.underlying3
    obtain rfl : a3 = .int .i64 n3 := by simpa [c3] using e3
    obtain ⟨n4, e4, k4⟩ := (hf 4 _ rfl).int Try.underlying3
    obtain rfl : a4 = .int .i64 n4 := by simpa [c3] using e4
    exact ⟨⟨n0, n1, n2, n3, n4⟩, rfl, k0, k1, k2, k3, k4⟩

theorem open_asks {W : World} {cs : List Value} (h : Arg Try.prog W 33 cs) : ∃ (v : Value) (l : List Ask), cs = [v] ∧ RdS askC W v l ∧ (∀ x ∈ l, x.ok) ∧ l.length * 40 ≤ 140737488351232 := by
  have := h.slices Try.underlying33 (fun c hc _ => open_ask hc)
  rwa [show Try.prog.bytesOf 49 = 40 by kernel_rfl] at this

theorem open_flt {W : World} {cs : List Value} (h : Arg Try.prog W 25 cs) : ∃ f : Flt, cs = fltC f ∧ f.ok := by
  obtain ⟨hl, hf⟩ := h.struct Try.underlying25
  have c2 : Try.prog.cellsOf 2 = 1 := by kernel_rfl
  have c23 : Try.prog.cellsOf 23 = 1 := by kernel_rfl
  have c3 : Try.prog.cellsOf 3 = 1 := by kernel_rfl
  rw [show Try.prog.cellsOf 25 = 8 by kernel_rfl] at hl
  match cs, hl with
  | [a0, a1, a2, a3, a4, a5, a6, a7], _ =>
    obtain ⟨n0, e0, k0⟩ := (hf 0 _ rfl).int Try.underlying3
    obtain rfl : a0 = .int .i64 n0 := by simpa [c3] using e0
    obtain ⟨n1, e1, k1⟩ := (hf 1 _ rfl).int Try.underlying3
    obtain rfl : a1 = .int .i64 n1 := by simpa [c3] using e1
    obtain ⟨n2, e2, k2⟩ := (hf 2 _ rfl).int Try.underlying3
    obtain rfl : a2 = .int .i64 n2 := by simpa [c3] using e2
    obtain ⟨n3, e3, k3⟩ := (hf 3 _ rfl).int Try.underlying3
    obtain rfl : a3 = .int .i64 n3 := by simpa [c3] using e3
    obtain ⟨n4, e4, k4⟩ := (hf 4 _ rfl).int Try.underlying3
    obtain rfl : a4 = .int .i64 n4 := by simpa [c3] using e4
    obtain ⟨n5, e5, k5⟩ := (hf 5 _ rfl).int Try.underlying3
    obtain rfl : a5 = .int .i64 n5 := by simpa [c3] using e5
    obtain ⟨n6, e6, k6⟩ := (hf 6 _ rfl).int Try.underlying2
    obtain rfl : a6 = .int .i64 n6 := by simpa [c2] using e6
    obtain ⟨n7, e7, k7⟩ := (hf 7 _ rfl).int Try.underlying23
    obtain rfl : a7 = .int .u32 n7 := by simpa [c23] using e7
    exact ⟨⟨n0, n1, n2, n3, n4, n5, n6, n7⟩, rfl, k0, k1, k2, k3, k4, k5, k6, k7⟩

theorem open_flts {W : World} {cs : List Value} (h : Arg Try.prog W 32 cs) : ∃ (v : Value) (l : List Flt), cs = [v] ∧ RdS fltC W v l ∧ (∀ x ∈ l, x.ok) ∧ l.length * 64 ≤ 140737488351232 := by
  have := h.slices Try.underlying32 (fun c hc _ => open_flt hc)
  rwa [show Try.prog.bytesOf 25 = 64 by kernel_rfl] at this

theorem Mem.nest {w0 w : World} {S : List Nat} {a b c d e n t r : List Ent} (h : Mem w0 S w [a, b, c, d, e, n, t, r]) : Mem w0 S w [a, b, c, d, e, n ++ r, t] := by
  refine h.perm ?_
  simp only [List.flatten_cons, List.flatten_nil, List.append_nil, List.append_assoc]
  repeat refine List.Perm.append_left _ ?_
  exact List.perm_append_comm
theorem Mem.nestB {w0 w : World} {S : List Nat} {a b n t r : List Ent} (h : Mem w0 S w [a, b, n, t, r]) : Mem w0 S w [a, b, n ++ r, t] := by
  refine h.perm ?_
  simp only [List.flatten_cons, List.flatten_nil, List.append_nil, List.append_assoc]
  repeat refine List.Perm.append_left _ ?_
  exact List.perm_append_comm

set_option maxRecDepth 100000 in
/-- winnowlaw16.FaultPlans -/
theorem FaultPlans_good (x : Value) (l : List Flt) (y : Value) (al : List Ask) (w : World) (hc : check l = 0) (hx : RdS fltC w x l) (hok : ∀ f ∈ l, f.ok) (hl : l.length * 64 ≤ 140737488351232) (hy : RdS askC w y al) (hoka : ∀ f ∈ al, f.ok) (hla : al.length * 40 ≤ 140737488351232) : Calls Try.prog 4 [x, y].toArray w (Rt fun r w' => r = .bool true ∧ Upd [] w w') := by
  have hM0 : Mem w [] w [] := Mem.nil w []
  have hc256 := (check_zero hc).1
  have hfi := (check_zero hc).2
  refine calls_vc mixed Try.func4 rfl C4 (by simp [Try.ntmps4]) ?_
  refine seq fun K1 h1 => ?_
  refine stp (v := .bool false) (o_mv rfl) ?_
  refine h1 _ _ ?_
  clear h1
  refine seq fun K2 h2 => ?_
  refine stp (v := .pointer none) (o_mv rfl) ?_
  refine h2 _ _ ?_
  clear h2
  refine seq fun K3 h3 => ?_
  refine stp (v := .pointer none) (o_mv rfl) ?_
  refine m_call (Stop_nil _ _ _ w) rfl fun v4 w4 ⟨hr4, hu4⟩ => ?_
  have hM4 : Mem w [] w4 [] := hM0.pure hu4
  subst hr4
  refine stp (v := .tuple [.int .i64 0, .bool false].toArray) (o_mv rfl) ?_
  refine stp (v := .int .i64 0) (o_ext rfl rfl) ?_
  refine stp (v := .bool false) (o_ext rfl rfl) ?_
  refine stp (v := .int .i64 0) (o_mv rfl) ?_
  refine stp (v := .bool false) (o_mv rfl) ?_
  refine h3 _ _ ?_
  clear h3
  refine seq fun K5 h5 => ?_
  refine seq fun K6 h6 => ?_
  refine stp (v := .int .i64 0) (o_mv rfl) ?_
  refine stp (v := .bool false) (o_bin rfl rfl v_neF) ?_
  refine stp (v := .bool false) (o_mv rfl) ?_
  refine splitF rfl ?_
  refine stg rfl (v := .bool false) (o_mv rfl) ?_
  refine stp (v := .bool false) (o_pickF rfl rfl) ?_
  refine stp (v := .bool false) (o_mv rfl) ?_
  refine splitF rfl ?_
  refine stg rfl (v := .pointer none) (o_mv rfl) ?_
  refine gyesl rfl ?_
  refine m_call (Due_nil _ _ _ _ w4) rfl fun v7 w7 ⟨hr7, hu7⟩ => ?_
  have hM7 : Mem w [] w7 [] := hM4.pure hu7
  subst hr7
  refine stg rfl (v := .int .i64 0) (o_len rfl rfl) ?_
  refine stg rfl (v := .bool false) (o_bin rfl rfl v_neF) ?_
  refine stp (v := .bool false) (o_pickF rfl rfl) ?_
  refine stp (v := .bool false) (o_mv rfl) ?_
  refine splitF rfl ?_
  refine stg rfl (v := .pointer none) (o_mv rfl) ?_
  refine gyesl rfl ?_
  refine m_call (Left_nil w7) rfl fun v8 w8 ⟨hr8, hu8⟩ => ?_
  have hM8 : Mem w [] w8 [] := hM7.pure hu8
  subst hr8
  refine stg rfl (v := .int .i64 0) (o_len rfl rfl) ?_
  refine stg rfl (v := .bool false) (o_bin rfl rfl v_neF) ?_
  refine stp (v := .bool false) (o_pickF rfl rfl) ?_
  refine h6 _ _ ?_
  clear h6
  refine cndF rfl ?_
  refine h5 _ _ ?_
  clear h5
  refine seq fun K9 h9 => ?_
  refine stp (v := x) (o_mv rfl) ?_
  refine m_call (given_ok _ l w8 (hx.upd hM8.upd) (by first | omega | (simp; done) | (simp; omega))) rfl fun v10 w10 ⟨rs10, hs10, hm10⟩ => ?_
  have hM10 : Mem w [] w10 [rs10] := hM8.add hm10
  refine stp (v := v10) (o_mv rfl) ?_
  refine h9 _ _ ?_
  clear h9
  refine seq fun K11 h11 => ?_
  refine stp (v := v10) (o_mv rfl) ?_
  refine stp (v := x) (o_mv rfl) ?_
  refine stp (v := .int .i64 (l.length : Nat)) (o_lenR (hx.upd hM10.upd) rfl rfl) ?_
  refine m_slcOS l.length (hs10) rfl (by first | omega | (simp; done) | (simp; omega)) (⟨_, rfl⟩) trivial fun u12 hu12 => ?_
  have hu12' := SlS.eqL (m := l) hu12 (by simp)
  refine m_call (New_good _ l w10 (hu12'.rd hM10 (i := 0) rfl) (by first | exact hok | assumption) (by first | omega | (simp; done) | (simp; omega)) (by first | exact hc | assumption)) rfl fun v13 w13 ⟨v_13, rs13, hr13, hp13, hm13⟩ => ?_
  have hM13 : Mem w [] w13 [rs10, rs13] := hM10.add hm13
  subst hr13
  obtain ⟨bp13, rfl⟩ := PlanS.ptr hp13
  refine stp (v := .tuple [.pointer (some ⟨bp13, 0, none⟩), .int .i64 0].toArray) (o_mv rfl) ?_
  refine stp (v := .pointer (some ⟨bp13, 0, none⟩)) (o_ext rfl rfl) ?_
  refine stp (v := .int .i64 0) (o_ext rfl rfl) ?_
  refine stp (v := .pointer (some ⟨bp13, 0, none⟩)) (o_mv rfl) ?_
  refine stp (v := .int .i64 0) (o_mv rfl) ?_
  refine h11 _ _ ?_
  clear h11
  refine seq fun K14 h14 => ?_
  refine stp (v := v10) (o_mv rfl) ?_
  refine stp (v := x) (o_mv rfl) ?_
  refine stp (v := .int .i64 (l.length : Nat)) (o_lenR (hx.upd hM13.upd) rfl rfl) ?_
  refine m_slcOS l.length (hs10) rfl (by first | omega | (simp; done) | (simp; omega)) (⟨_, rfl⟩) trivial fun u15 hu15 => ?_
  have hu15' := SlS.eqL (m := l) hu15 (by simp)
  refine m_call (New_good _ l w13 (hu15'.rd hM13 (i := 0) rfl) (by first | exact hok | assumption) (by first | omega | (simp; done) | (simp; omega)) (by first | exact hc | assumption)) rfl fun v16 w16 ⟨v_16, rs16, hr16, hp16, hm16⟩ => ?_
  have hM16 : Mem w [] w16 [rs10, rs13, rs16] := hM13.add hm16
  subst hr16
  obtain ⟨bp16, rfl⟩ := PlanS.ptr hp16
  refine stp (v := .tuple [.pointer (some ⟨bp16, 0, none⟩), .int .i64 0].toArray) (o_mv rfl) ?_
  refine stp (v := .pointer (some ⟨bp16, 0, none⟩)) (o_ext rfl rfl) ?_
  refine stp (v := .int .i64 0) (o_ext rfl rfl) ?_
  refine stp (v := .pointer (some ⟨bp16, 0, none⟩)) (o_mv rfl) ?_
  refine stp (v := .int .i64 0) (o_mv rfl) ?_
  refine h14 _ _ ?_
  clear h14
  refine seq fun K17 h17 => ?_
  refine stp (v := x) (o_mv rfl) ?_
  refine m_call (refNew_good _ l w16 (hx.upd hM16.upd) (by first | exact hok | assumption) (by first | omega | (simp; done) | (simp; omega)) (by first | exact hc | assumption)) rfl fun v18 w18 ⟨v_18, rs18, hr18, hp18, hm18⟩ => ?_
  have hM18 : Mem w [] w18 [rs10, rs13, rs16, rs18] := hM16.add hm18
  subst hr18
  obtain ⟨bp18, rfl⟩ := PlanS.ptr hp18
  refine stp (v := .tuple [.pointer (some ⟨bp18, 0, none⟩), .int .i64 0].toArray) (o_mv rfl) ?_
  refine stp (v := .pointer (some ⟨bp18, 0, none⟩)) (o_ext rfl rfl) ?_
  refine stp (v := .int .i64 0) (o_ext rfl rfl) ?_
  refine stp (v := .pointer (some ⟨bp18, 0, none⟩)) (o_mv rfl) ?_
  refine stp (v := .int .i64 0) (o_mv rfl) ?_
  refine h17 _ _ ?_
  clear h17
  refine seq fun K19 h19 => ?_
  refine seq fun K20 h20 => ?_
  refine stp (v := .int .i64 0) (o_mv rfl) ?_
  refine stp (v := .int .i64 0) (o_mv rfl) ?_
  refine stp (v := .bool false) (o_bin rfl rfl v_neF) ?_
  refine stp (v := .bool false) (o_mv rfl) ?_
  refine splitF rfl ?_
  refine stg rfl (v := .int .i64 0) (o_mv rfl) ?_
  refine stg rfl (v := .int .i64 0) (o_mv rfl) ?_
  refine stg rfl (v := .bool false) (o_bin rfl rfl v_neF) ?_
  refine stp (v := .bool false) (o_pickF rfl rfl) ?_
  refine stp (v := .bool false) (o_mv rfl) ?_
  refine splitF rfl ?_
  refine stg rfl (v := .pointer (some ⟨bp13, 0, none⟩)) (o_mv rfl) ?_
  refine stg rfl (v := .bool false) (o_isnil rfl rfl) ?_
  refine stg rfl (v := .pointer (some ⟨bp18, 0, none⟩)) (o_mv rfl) ?_
  refine stg rfl (v := .bool false) (o_isnil rfl rfl) ?_
  refine stg rfl (v := .bool false) (o_beq rfl rfl (by simp)) ?_
  refine stp (v := .bool false) (o_pickF rfl rfl) ?_
  refine stp (v := .bool false) (o_mv rfl) ?_
  refine splitF rfl ?_
  refine stg rfl (v := .pointer (some ⟨bp16, 0, none⟩)) (o_mv rfl) ?_
  refine stg rfl (v := .bool false) (o_isnil rfl rfl) ?_
  refine stg rfl (v := .pointer (some ⟨bp18, 0, none⟩)) (o_mv rfl) ?_
  refine stg rfl (v := .bool false) (o_isnil rfl rfl) ?_
  refine stg rfl (v := .bool false) (o_beq rfl rfl (by simp)) ?_
  refine stp (v := .bool false) (o_pickF rfl rfl) ?_
  refine stp (v := .bool false) (o_mv rfl) ?_
  refine splitF rfl ?_
  refine stg rfl (v := v10) (o_mv rfl) ?_
  refine stg rfl (v := x) (o_mv rfl) ?_
  refine gyesl rfl ?_
  refine m_call (given_ok _ l w18 (hx.upd hM18.upd) (by first | omega | (simp; done) | (simp; omega))) rfl fun v21 w21 ⟨rs21, hs21, hm21⟩ => ?_
  have hM21 : Mem w [] w21 [rs10, rs13, rs16, rs18, rs21] := hM18.add hm21
  refine gyesl rfl ?_
  refine m_call (sameFaults_ok _ _ (l ++ List.replicate 64 (⟨7001, 0, 5, 0, 0, 0, 0, 0⟩ : Flt)) (l ++ List.replicate 64 (⟨7001, 0, 5, 0, 0, 0, 0, 0⟩ : Flt)) w21 (hs10.rd hM21 (i := 0) rfl) (hs21.rd hM21 (i := 4) rfl) (by first | omega | (simp; done) | (simp; omega) | (refine Nat.le_trans (filter_le _ _) ?_; omega))) rfl fun v22 w22 ⟨hr22, hu22⟩ => ?_
  have hM22 : Mem w [] w22 [rs10, rs13, rs16, rs18, rs21] := hM21.pure hu22
  obtain rfl : v22 = .bool true := hr22.trans (by simp)
  clear hr22
  refine stg rfl (v := .bool false) (o_not rfl rfl) ?_
  refine stp (v := .bool false) (o_pickF rfl rfl) ?_
  refine h20 _ _ ?_
  clear h20
  refine cndF rfl ?_
  refine h19 _ _ ?_
  clear h19
  refine seq fun K23 h23 => ?_
  refine seq fun K24 h24 => ?_
  refine stp (v := .int .i64 0) (o_mv rfl) ?_
  refine h24 _ _ ?_
  clear h24
  refine lp (n := fun _ _ => False) (ι := (Nat) × (List Flt) × (List Ent)) (fun ⟨i, G, r8_⟩ f w' => f 15 = .int .i64 (i : Nat) ∧ f 8 = v10 ∧ f 0 = x ∧ f 1 = y ∧ f 9 = .pointer (some ⟨bp13, 0, none⟩) ∧ f 11 = .pointer (some ⟨bp16, 0, none⟩) ∧ f 13 = .pointer (some ⟨bp18, 0, none⟩) ∧ Mem w [] w' [r8_, rs13, rs16, rs18, rs21] ∧ (i ≤ l.length ∧ l.length ≤ G.length) ∧ (SlS fltC 8 25 v10 (G) r8_)) (fun ⟨i, G, r8_⟩ => l.length - i) (0, (l ++ List.replicate 64 (⟨7001, 0, 5, 0, 0, 0, 0, 0⟩ : Flt)), rs10) ?_ ?_
  · exact ⟨by first | rfl | exact v_int (by omega) | exact v_int (by simp) | exact v_int (by simp; omega), rfl, rfl, rfl, rfl, rfl, rfl, hM22, by simp, by first | exact hs10 | simpa using hs10⟩
  · rintro ⟨i, G, r8_⟩ f w25 ⟨e25_15, e25_8, e25_0, e25_1, e25_9, e25_11, e25_13, hM25, hi, hy8_⟩ K26 h26
    obtain ⟨frm, rfl⟩ : ∃ frm, f = (upd (upd (upd (upd (upd (upd (upd frm 15 (.int .i64 (i : Nat))) 8 (v10)) 0 (x)) 1 (y)) 9 (.pointer (some ⟨bp13, 0, none⟩))) 11 (.pointer (some ⟨bp16, 0, none⟩))) 13 (.pointer (some ⟨bp18, 0, none⟩))) := ⟨f, by rw [upd_self e25_15, upd_self e25_8, upd_self e25_0, upd_self e25_1, upd_self e25_9, upd_self e25_11, upd_self e25_13]⟩
    clear e25_15 e25_8 e25_0 e25_1 e25_9 e25_11 e25_13
    refine seq fun K27 h27 => ?_
    refine seq fun K28 h28 => ?_
    refine stp (v := .int .i64 (i : Nat)) (o_mv rfl) ?_
    refine stp (v := x) (o_mv rfl) ?_
    refine stp (v := .int .i64 (l.length : Nat)) (o_lenR (hx.upd hM25.upd) rfl rfl) ?_
    refine stp (v := .bool (decide (((i : Nat) : Int) < (l.length : Nat)))) (o_bin rfl rfl rfl) ?_
    refine h28 _ _ ?_
    clear h28
    refine cndP rfl (fun c29 => ?_) (fun c29 => ?_)
    ·
      refine h27 _ _ ?_
      clear h27
      refine seq fun K30 h30 => ?_
      refine stp (v := v10) (o_mv rfl) ?_
      refine stp (v := .int .i64 (i : Nat)) (o_mv rfl) ?_
      refine stp (v := .agg ([.int .i64 79, .int .i64 0, .int .i64 0, .int .i64 0, .int .i64 0, .int .i64 0, .int .i64 0, .int .u32 0] : List Value).toArray) (o_bld rfl rfl) ?_
      refine m_setS (enc := fltC) fz (q := (⟨79, 0, 0, 0, 0, 0, 0, 0⟩ : Flt)) (j := i) hM25 (i := 0) rfl hy8_ rfl rfl (by omega) (by simp) (rfl) fun w31 r31 u31 he31 hs31 (hM31 : Mem w [] w31 [r31, rs13, rs16, rs18, rs21]) => ?_
      refine h30 _ _ ?_
      clear h30
      refine stp (v := .int .i64 (i : Nat)) (o_mv rfl) ?_
      refine stp (v := .int .i64 ((i : Nat) + 1)) (o_bin rfl rfl (v_add64 (by constructor <;> omega))) ?_
      refine stp (v := .int .i64 ((i : Nat) + 1)) (o_mv rfl) ?_
      refine h26 (i + 1, (G.set i (⟨79, 0, 0, 0, 0, 0, 0, 0⟩ : Flt)), r31) _ _ ⟨by first | rfl | exact v_int (by omega) | exact v_int (by simp) | exact v_int (by simp; omega), rfl, rfl, rfl, rfl, rfl, rfl, hM31, by rw [List.length_set]; omega, by first | exact hs31 | simpa using hs31⟩ (by (try dsimp only); omega)
    ·
      refine h23 _ _ ?_
      clear h23
      refine seq fun K32 h32 => ?_
      refine stp (v := .slice none 0 0) (o_mv rfl) ?_
      refine h32 _ _ ?_
      clear h32
      refine seq fun K33 h33 => ?_
      refine seq fun K34 h34 => ?_
      have hM35 : Mem w [] w25 [r8_, rs13, rs16, rs18, rs21, []] := hM25.addNil
      refine stp (v := .int .i64 0) (o_mv rfl) ?_
      refine h34 _ _ ?_
      clear h34
      have hM36 : Mem w [] w25 [r8_, rs13, rs16, rs18, rs21, [], []] := hM35.addNil
      have hs36 : SlS tdC 2 52 (.slice none 0 0) [] [] := Sl.nil 2 52
      refine lp (n := fun _ _ => False) (ι := (Nat) × (List Flt) × (List Ent) × (List Ent) × (List Td) × (List Ent) × (Value) × (List Ent)) (fun ⟨i, L, rp, rq, ts, NS, y16_, r16_⟩ f w' => f 17 = .int .i64 (i : Nat) ∧ f 9 = .pointer (some ⟨bp13, 0, none⟩) ∧ f 13 = .pointer (some ⟨bp18, 0, none⟩) ∧ f 16 = y16_ ∧ f 0 = x ∧ f 1 = y ∧ f 11 = .pointer (some ⟨bp16, 0, none⟩) ∧ Mem w [] w' [r8_, rp, rs16, rq, rs21, NS, r16_] ∧ (PlanS 72 (.pointer (some ⟨bp13, 0, none⟩)) L rp) ∧ (PlanS 74 (.pointer (some ⟨bp18, 0, none⟩)) L rq) ∧ (uniq L) ∧ (L.length ≤ 256) ∧ (Nst TdQ ts NS) ∧ (i ≤ al.length ∧ ts.length ≤ i) ∧ (SlS tdC 2 52 y16_ (ts) r16_)) (fun ⟨i, L, rp, rq, ts, NS, y16_, r16_⟩ => al.length - i) (0, l, rs13, rs18, [], [], ((.slice none 0 0)), ([])) ?_ ?_
      · exact ⟨by first | rfl | exact v_int (by omega) | exact v_int (by simp) | exact v_int (by simp; omega), rfl, rfl, rfl, rfl, rfl, rfl, hM36, hp13, hp18, fine_uniq hfi, hc256, trivial, by simp, by first | exact hs36 | simpa using hs36⟩
      · rintro ⟨i, L, rp, rq, ts, NS, y16_, r16_⟩ f w37 ⟨e37_17, e37_9, e37_13, e37_16, e37_0, e37_1, e37_11, hM37, hpl, hql, hun, hLl, hN, hi, hy16_⟩ K38 h38
        obtain ⟨frm, rfl⟩ : ∃ frm, f = (upd (upd (upd (upd (upd (upd (upd frm 17 (.int .i64 (i : Nat))) 9 (.pointer (some ⟨bp13, 0, none⟩))) 13 (.pointer (some ⟨bp18, 0, none⟩))) 16 (y16_)) 0 (x)) 1 (y)) 11 (.pointer (some ⟨bp16, 0, none⟩))) := ⟨f, by rw [upd_self e37_17, upd_self e37_9, upd_self e37_13, upd_self e37_16, upd_self e37_0, upd_self e37_1, upd_self e37_11]⟩
        clear e37_17 e37_9 e37_13 e37_16 e37_0 e37_1 e37_11
        refine seq fun K39 h39 => ?_
        refine seq fun K40 h40 => ?_
        refine stp (v := .int .i64 (i : Nat)) (o_mv rfl) ?_
        refine stp (v := y) (o_mv rfl) ?_
        refine stp (v := .int .i64 (al.length : Nat)) (o_lenR (hy.upd hM37.upd) rfl rfl) ?_
        refine stp (v := .bool (decide (((i : Nat) : Int) < (al.length : Nat)))) (o_bin rfl rfl rfl) ?_
        refine h40 _ _ ?_
        clear h40
        refine cndP rfl (fun c41 => ?_) (fun c41 => ?_)
        ·
          refine h39 _ _ ?_
          clear h39
          refine seq fun K42 h42 => ?_
          refine seq fun K43 h43 => ?_
          refine stp (v := y) (o_mv rfl) ?_
          refine stp (v := .int .i64 (i : Nat)) (o_mv rfl) ?_
          refine m_idxS az (j := i) (hy.upd hM37.upd) rfl rfl (by omega) fun b44 o44 hp44 => ?_
          refine ldA (cs := [.int .i64 ((al.getD i az).op), .int .i64 ((al.getD i az).a), .int .i64 ((al.getD i az).b), .int .i64 ((al.getD i az).c), .int .i64 ((al.getD i az).d)]) rfl rfl (hp44.row (k := 0) rfl rfl) ?_
          refine m_al hM37 fun b45 w46 (hM46 : Mem w [] w46 [r8_, rp, rs16, rq, rs21, NS, r16_, [⟨b45, 49, [.int .i64 0, .int .i64 0, .int .i64 0, .int .i64 0, .int .i64 0]⟩]]) => ?_
          refine m_stA (l := [.int .i64 ((al.getD i az).op), .int .i64 ((al.getD i az).a), .int .i64 ((al.getD i az).b), .int .i64 ((al.getD i az).c), .int .i64 ((al.getD i az).d)]) hM46 (i := 7) rfl rfl rfl rfl (by simp [oneCells, Value.oneCell', byteV]) (by simp) fun w47 (hM47 : Mem w [] w47 [r8_, rp, rs16, rq, rs21, NS, r16_, [⟨b45, 49, [.int .i64 ((al.getD i az).op), .int .i64 ((al.getD i az).a), .int .i64 ((al.getD i az).b), .int .i64 ((al.getD i az).c), .int .i64 ((al.getD i az).d)]⟩]]) => ?_
          refine h43 _ _ ?_
          clear h43
          refine seq fun K48 h48 => ?_
          refine stp (v := .pointer (some ⟨b45, 0, none⟩)) (o_fa rfl rfl) ?_
          refine m_ld (v := .int .i64 ((al.getD i az).op)) hM47 (i := 7) (j := 0) rfl rfl rfl rfl ?_
          refine h48 _ _ ?_
          clear h48
          refine seq fun K49 h49 => ?_
          refine stp (v := .bool (decide (((al.getD i az).op) = 0))) (o_bin rfl rfl rfl) ?_
          refine stp (v := .bool (decide (((al.getD i az).op) = 0))) (o_mv rfl) ?_
          refine h49 _ _ ?_
          clear h49
          refine cndP rfl (fun c50 => ?_) (fun c50 => ?_)
          ·
            refine seq fun K51 h51 => ?_
            refine stp (v := .pointer (some ⟨bp13, 0, none⟩)) (o_mv rfl) ?_
            refine stp (v := .pointer (some ⟨b45, 1, none⟩)) (o_fa rfl rfl) ?_
            refine m_ld (v := .int .i64 ((al.getD i az).a)) hM47 (i := 7) (j := 0) rfl rfl rfl rfl ?_
            refine stp (v := .pointer (some ⟨b45, 2, none⟩)) (o_fa rfl rfl) ?_
            refine m_ld (v := .int .i64 ((al.getD i az).b)) hM47 (i := 7) (j := 0) rfl rfl rfl rfl ?_
            refine stp (v := .pointer (some ⟨b45, 3, none⟩)) (o_fa rfl rfl) ?_
            refine m_ld (v := .int .i64 ((al.getD i az).c)) hM47 (i := 7) (j := 0) rfl rfl rfl rfl ?_
            refine m_call (Stop_ok _ L rp ((al.getD i az).a) ((al.getD i az).b) ((al.getD i az).c) w47 hpl (hM47.res (i := 1) rfl) (by first | assumption | omega | (simp; done) | (simp; omega) | decide +kernel)) rfl fun v52 w52 ⟨r'52, hr52, hp52, hm52⟩ => ?_
            have hM52 : Mem w [] w52 [r8_, r'52, rs16, rq, rs21, NS, r16_, [⟨b45, 49, [.int .i64 ((al.getD i az).op), .int .i64 ((al.getD i az).a), .int .i64 ((al.getD i az).b), .int .i64 ((al.getD i az).c), .int .i64 ((al.getD i az).d)]⟩]] := hM47.step 1 rfl hm52
            subst hr52
            refine stp (v := .tuple [.int .i64 ((stopV L (0, ((al.getD i az).a), ((al.getD i az).b), ((al.getD i az).c))).1), .bool ((stopV L (0, ((al.getD i az).a), ((al.getD i az).b), ((al.getD i az).c))).2)].toArray) (o_mv rfl) ?_
            refine stp (v := .int .i64 ((stopV L (0, ((al.getD i az).a), ((al.getD i az).b), ((al.getD i az).c))).1)) (o_ext rfl rfl) ?_
            refine stp (v := .bool ((stopV L (0, ((al.getD i az).a), ((al.getD i az).b), ((al.getD i az).c))).2)) (o_ext rfl rfl) ?_
            refine stp (v := .int .i64 ((stopV L (0, ((al.getD i az).a), ((al.getD i az).b), ((al.getD i az).c))).1)) (o_mv rfl) ?_
            refine stp (v := .bool ((stopV L (0, ((al.getD i az).a), ((al.getD i az).b), ((al.getD i az).c))).2)) (o_mv rfl) ?_
            refine h51 _ _ ?_
            clear h51
            refine seq fun K53 h53 => ?_
            refine stp (v := .pointer (some ⟨bp18, 0, none⟩)) (o_mv rfl) ?_
            refine stp (v := .pointer (some ⟨b45, 1, none⟩)) (o_fa rfl rfl) ?_
            refine m_ld (v := .int .i64 ((al.getD i az).a)) hM52 (i := 7) (j := 0) rfl rfl rfl rfl ?_
            refine stp (v := .pointer (some ⟨b45, 2, none⟩)) (o_fa rfl rfl) ?_
            refine m_ld (v := .int .i64 ((al.getD i az).b)) hM52 (i := 7) (j := 0) rfl rfl rfl rfl ?_
            refine stp (v := .pointer (some ⟨b45, 3, none⟩)) (o_fa rfl rfl) ?_
            refine m_ld (v := .int .i64 ((al.getD i az).c)) hM52 (i := 7) (j := 0) rfl rfl rfl rfl ?_
            refine m_call (refStop_ok _ L rq ((al.getD i az).a) ((al.getD i az).b) ((al.getD i az).c) w52 hql (hM52.res (i := 3) rfl) (by first | assumption | omega | (simp; done) | (simp; omega) | decide +kernel) hun) rfl fun v54 w54 ⟨r'54, hr54, hp54, hm54⟩ => ?_
            have hM54 : Mem w [] w54 [r8_, r'52, rs16, r'54, rs21, NS, r16_, [⟨b45, 49, [.int .i64 ((al.getD i az).op), .int .i64 ((al.getD i az).a), .int .i64 ((al.getD i az).b), .int .i64 ((al.getD i az).c), .int .i64 ((al.getD i az).d)]⟩]] := hM52.step 3 rfl hm54
            subst hr54
            refine stp (v := .tuple [.int .i64 ((stopV L (0, ((al.getD i az).a), ((al.getD i az).b), ((al.getD i az).c))).1), .bool ((stopV L (0, ((al.getD i az).a), ((al.getD i az).b), ((al.getD i az).c))).2)].toArray) (o_mv rfl) ?_
            refine stp (v := .int .i64 ((stopV L (0, ((al.getD i az).a), ((al.getD i az).b), ((al.getD i az).c))).1)) (o_ext rfl rfl) ?_
            refine stp (v := .bool ((stopV L (0, ((al.getD i az).a), ((al.getD i az).b), ((al.getD i az).c))).2)) (o_ext rfl rfl) ?_
            refine stp (v := .int .i64 ((stopV L (0, ((al.getD i az).a), ((al.getD i az).b), ((al.getD i az).c))).1)) (o_mv rfl) ?_
            refine stp (v := .bool ((stopV L (0, ((al.getD i az).a), ((al.getD i az).b), ((al.getD i az).c))).2)) (o_mv rfl) ?_
            refine h53 _ _ ?_
            clear h53
            refine seq fun K55 h55 => ?_
            refine stp (v := .int .i64 ((stopV L (0, ((al.getD i az).a), ((al.getD i az).b), ((al.getD i az).c))).1)) (o_mv rfl) ?_
            refine stp (v := .int .i64 ((stopV L (0, ((al.getD i az).a), ((al.getD i az).b), ((al.getD i az).c))).1)) (o_mv rfl) ?_
            refine stp (v := .bool false) (o_bin rfl rfl v_neF) ?_
            refine stp (v := .bool false) (o_mv rfl) ?_
            refine splitF rfl ?_
            refine stg rfl (v := .bool ((stopV L (0, ((al.getD i az).a), ((al.getD i az).b), ((al.getD i az).c))).2)) (o_mv rfl) ?_
            refine stg rfl (v := .bool ((stopV L (0, ((al.getD i az).a), ((al.getD i az).b), ((al.getD i az).c))).2)) (o_mv rfl) ?_
            refine stg rfl (v := .bool false) (o_beq rfl rfl (by simp)) ?_
            refine stp (v := .bool false) (o_pickF rfl rfl) ?_
            refine h55 _ _ ?_
            clear h55
            refine cndF rfl ?_
            refine h42 _ _ ?_
            clear h42
            refine stp (v := .int .i64 (i : Nat)) (o_mv rfl) ?_
            refine stp (v := .int .i64 ((i : Nat) + 1)) (o_bin rfl rfl (v_add64 (by constructor <;> omega))) ?_
            refine stp (v := .int .i64 ((i : Nat) + 1)) (o_mv rfl) ?_
            refine h38 (i + 1, L.filter (!stopQ (0, ((al.getD i az).a), ((al.getD i az).b), ((al.getD i az).c)) ·), r'52, r'54, ts, NS, y16_, r16_) _ _ ⟨by first | rfl | exact v_int (by omega) | exact v_int (by simp) | exact v_int (by simp; omega), rfl, rfl, rfl, rfl, rfl, rfl, hM54.keep (by simp), hp52, hp54, uniq_filter hun _, Nat.le_trans (filter_le _ _) hLl, hN, by omega, by first | exact hy16_ | simpa using hy16_⟩ (by (try dsimp only); omega)
          ·
            refine seq fun K56 h56 => ?_
            refine stp (v := .bool (decide (((al.getD i az).op) = 1))) (o_bin rfl rfl rfl) ?_
            refine stp (v := .bool (decide (((al.getD i az).op) = 1))) (o_mv rfl) ?_
            refine h56 _ _ ?_
            clear h56
            refine cndP rfl (fun c57 => ?_) (fun c57 => ?_)
            ·
              refine seq fun K58 h58 => ?_
              refine stp (v := .pointer (some ⟨bp13, 0, none⟩)) (o_mv rfl) ?_
              refine stp (v := .pointer (some ⟨b45, 1, none⟩)) (o_fa rfl rfl) ?_
              refine m_ld (v := .int .i64 ((al.getD i az).a)) hM47 (i := 7) (j := 0) rfl rfl rfl rfl ?_
              refine stp (v := .pointer (some ⟨b45, 2, none⟩)) (o_fa rfl rfl) ?_
              refine m_ld (v := .int .i64 ((al.getD i az).b)) hM47 (i := 7) (j := 0) rfl rfl rfl rfl ?_
              refine stp (v := .pointer (some ⟨b45, 3, none⟩)) (o_fa rfl rfl) ?_
              refine m_ld (v := .int .i64 ((al.getD i az).c)) hM47 (i := 7) (j := 0) rfl rfl rfl rfl ?_
              refine stp (v := .pointer (some ⟨b45, 4, none⟩)) (o_fa rfl rfl) ?_
              refine m_ld (v := .int .i64 ((al.getD i az).d)) hM47 (i := 7) (j := 0) rfl rfl rfl rfl ?_
              refine m_call (Due_ok _ L rp ((al.getD i az).a) ((al.getD i az).b) ((al.getD i az).c) ((al.getD i az).d) w47 hpl (hM47.res (i := 1) rfl) (by first | assumption | omega | (simp; done) | (simp; omega) | decide +kernel)) rfl fun v59 w59 ⟨r'59, rs59, hs59, hp59, hm59⟩ => ?_
              have hM59 : Mem w [] w59 [r8_, r'59, rs16, rq, rs21, NS, r16_, [⟨b45, 49, [.int .i64 ((al.getD i az).op), .int .i64 ((al.getD i az).a), .int .i64 ((al.getD i az).b), .int .i64 ((al.getD i az).c), .int .i64 ((al.getD i az).d)]⟩], rs59] := hM47.stepAdd 1 rfl hm59
              refine stp (v := v59) (o_mv rfl) ?_
              refine h58 _ _ ?_
              clear h58
              refine seq fun K60 h60 => ?_
              refine seq fun K61 h61 => ?_
              refine stp (v := v59) (o_mv rfl) ?_
              refine stp (v := .pointer (some ⟨bp18, 0, none⟩)) (o_mv rfl) ?_
              refine stp (v := .pointer (some ⟨b45, 1, none⟩)) (o_fa rfl rfl) ?_
              refine m_ld (v := .int .i64 ((al.getD i az).a)) hM59 (i := 7) (j := 0) rfl rfl rfl rfl ?_
              refine stp (v := .pointer (some ⟨b45, 2, none⟩)) (o_fa rfl rfl) ?_
              refine m_ld (v := .int .i64 ((al.getD i az).b)) hM59 (i := 7) (j := 0) rfl rfl rfl rfl ?_
              refine stp (v := .pointer (some ⟨b45, 3, none⟩)) (o_fa rfl rfl) ?_
              refine m_ld (v := .int .i64 ((al.getD i az).c)) hM59 (i := 7) (j := 0) rfl rfl rfl rfl ?_
              refine stp (v := .pointer (some ⟨b45, 4, none⟩)) (o_fa rfl rfl) ?_
              refine m_ld (v := .int .i64 ((al.getD i az).d)) hM59 (i := 7) (j := 0) rfl rfl rfl rfl ?_
              refine m_call (refDue_ok _ L rq ((al.getD i az).a) ((al.getD i az).b) ((al.getD i az).c) ((al.getD i az).d) w59 hql (hM59.res (i := 3) rfl) (by first | assumption | omega | (simp; done) | (simp; omega) | decide +kernel)) rfl fun v62 w62 ⟨r'62, rs62, hs62, hp62, hm62⟩ => ?_
              have hM62 : Mem w [] w62 [r8_, r'59, rs16, r'62, rs21, NS, r16_, [⟨b45, 49, [.int .i64 ((al.getD i az).op), .int .i64 ((al.getD i az).a), .int .i64 ((al.getD i az).b), .int .i64 ((al.getD i az).c), .int .i64 ((al.getD i az).d)]⟩], rs59, rs62] := hM59.stepAdd 3 rfl hm62
              refine m_call (sameFaults_ok _ _ (L.filter (dueQ ((al.getD i az).a) ((al.getD i az).b) ((al.getD i az).c) ((al.getD i az).d))) (L.filter (dueQ ((al.getD i az).a) ((al.getD i az).b) ((al.getD i az).c) ((al.getD i az).d))) w62 (hs59.rd hM62 (i := 8) rfl) (hs62.rd hM62 (i := 9) rfl) (by first | omega | (simp; done) | (simp; omega) | (refine Nat.le_trans (filter_le _ _) ?_; omega))) rfl fun v63 w63 ⟨hr63, hu63⟩ => ?_
              have hM63 : Mem w [] w63 [r8_, r'59, rs16, r'62, rs21, NS, r16_, [⟨b45, 49, [.int .i64 ((al.getD i az).op), .int .i64 ((al.getD i az).a), .int .i64 ((al.getD i az).b), .int .i64 ((al.getD i az).c), .int .i64 ((al.getD i az).d)]⟩], rs59, rs62] := hM62.pure hu63
              obtain rfl : v63 = .bool true := hr63.trans (by simp)
              clear hr63
              refine stp (v := .bool false) (o_not rfl rfl) ?_
              refine h61 _ _ ?_
              clear h61
              refine cndF rfl ?_
              refine h60 _ _ ?_
              clear h60
              refine seq fun K64 h64 => ?_
              refine stp (v := v59) (o_mv rfl) ?_
              refine stp (v := .int .i64 (i : Nat)) (o_mv rfl) ?_
              refine stp (v := .int .i64 (1000 + (i : Nat))) (o_bin rfl rfl (v_add64 (by constructor <;> omega))) ?_
              refine m_call (spoilK_ok _ (L.filter (dueQ ((al.getD i az).a) ((al.getD i az).b) ((al.getD i az).c) ((al.getD i az).d))) (1000 + (i : Nat)) (by omega) rs59 w63 hs59 (hM63.res (i := 8) rfl) (by first | omega | (simp; done) | (refine Nat.le_trans (filter_le _ _) ?_; omega))) rfl fun v65 w65 ⟨l65_, r'65, hs65, hl65, hd65, hm65⟩ => ?_
              have hM65 : Mem w [] w65 [r8_, r'59, rs16, r'62, rs21, NS, r16_, [⟨b45, 49, [.int .i64 ((al.getD i az).op), .int .i64 ((al.getD i az).a), .int .i64 ((al.getD i az).b), .int .i64 ((al.getD i az).c), .int .i64 ((al.getD i az).d)]⟩], r'65, rs62] := hM63.step 8 rfl hm65
              refine h64 _ _ ?_
              clear h64
              refine stp (v := y16_) (o_mv rfl) ?_
              refine stp (v := v59) (o_mv rfl) ?_
              refine stp (v := .int .i64 (i : Nat)) (o_mv rfl) ?_
              obtain ⟨a66_, n66_, c66_, rfl⟩ := Sl.isSlice hs65
              refine stp (v := .int .i64 (1000 + (i : Nat))) (o_bin rfl rfl (v_add64 (by constructor <;> omega))) ?_
              refine stp (v := .agg ([(.slice a66_ n66_ c66_), .int .i64 (1000 + (i : Nat))] : List Value).toArray) (o_bld rfl rfl) ?_
              refine m_app1S (enc := tdC) (q := (⟨a66_, n66_, c66_, 1000 + (i : Nat), l65_⟩ : Td)) hM65 (i := 6) rfl hy16_ rfl (by simp) (rfl) (rfl) (by first | omega | (simp; omega)) (by omega) fun v67 w67 r67 u67 (hs67 : SlS tdC 2 52 v67 (ts ++ [(⟨a66_, n66_, c66_, 1000 + (i : Nat), l65_⟩ : Td)]) r67) (hM67 : Mem w [] w67 [r8_, r'59, rs16, r'62, rs21, NS, r67, [⟨b45, 49, [.int .i64 ((al.getD i az).op), .int .i64 ((al.getD i az).a), .int .i64 ((al.getD i az).b), .int .i64 ((al.getD i az).c), .int .i64 ((al.getD i az).d)]⟩], r'65, rs62]) => ?_
              refine stp (v := v67) (o_mv rfl) ?_
              refine h42 _ _ ?_
              clear h42
              refine stp (v := .int .i64 (i : Nat)) (o_mv rfl) ?_
              refine stp (v := .int .i64 ((i : Nat) + 1)) (o_bin rfl rfl (v_add64 (by constructor <;> omega))) ?_
              refine stp (v := .int .i64 ((i : Nat) + 1)) (o_mv rfl) ?_
              refine h38 (i + 1, L.filter (!dueQ ((al.getD i az).a) ((al.getD i az).b) ((al.getD i az).c) ((al.getD i az).d) ·), r'59, r'62, (ts ++ [(⟨a66_, n66_, c66_, 1000 + (i : Nat), l65_⟩ : Td)]), NS ++ r'65, v67, r67) _ _ ⟨by first | rfl | exact v_int (by omega) | exact v_int (by simp) | exact v_int (by simp; omega), rfl, rfl, rfl, rfl, rfl, rfl, Mem.nest (((hM67.drop 9).drop 7).keep (by simp) : Mem w [] w67 [r8_, r'59, rs16, r'62, rs21, NS, r67, r'65]), hp59, hp62, uniq_filter hun _, Nat.le_trans (filter_le _ _) hLl, Nst.app hN ⟨hs65, by have h8 := hl65; first | omega | (rw [h8]; refine Nat.le_trans (filter_le _ _) ?_; omega) | (rw [h8]; omega) | (rw [h8]; simp), hd65⟩, by rw [List.length_append, List.length_singleton]; omega, by first | exact hs67 | simpa using hs67⟩ (by (try dsimp only); omega)
            ·
              refine seq fun K68 h68 => ?_
              refine stp (v := .pointer (some ⟨bp13, 0, none⟩)) (o_mv rfl) ?_
              refine m_call (Left_ok _ L rp w47 hpl (hM47.res (i := 1) rfl) (by first | assumption | omega | (simp; done) | (simp; omega) | decide +kernel)) rfl fun v69 w69 ⟨rs69, hs69, hm69⟩ => ?_
              have hM69 : Mem w [] w69 [r8_, rp, rs16, rq, rs21, NS, r16_, [⟨b45, 49, [.int .i64 ((al.getD i az).op), .int .i64 ((al.getD i az).a), .int .i64 ((al.getD i az).b), .int .i64 ((al.getD i az).c), .int .i64 ((al.getD i az).d)]⟩], rs69] := hM47.stepAdd 1 rfl hm69
              refine stp (v := v69) (o_mv rfl) ?_
              refine h68 _ _ ?_
              clear h68
              refine seq fun K70 h70 => ?_
              refine stp (v := .pointer (some ⟨bp13, 0, none⟩)) (o_mv rfl) ?_
              refine m_call (Left_ok _ L rp w69 hpl (hM69.res (i := 1) rfl) (by first | assumption | omega | (simp; done) | (simp; omega) | decide +kernel)) rfl fun v71 w71 ⟨rs71, hs71, hm71⟩ => ?_
              have hM71 : Mem w [] w71 [r8_, rp, rs16, rq, rs21, NS, r16_, [⟨b45, 49, [.int .i64 ((al.getD i az).op), .int .i64 ((al.getD i az).a), .int .i64 ((al.getD i az).b), .int .i64 ((al.getD i az).c), .int .i64 ((al.getD i az).d)]⟩], rs69, rs71] := hM69.stepAdd 1 rfl hm71
              refine stp (v := v71) (o_mv rfl) ?_
              refine h70 _ _ ?_
              clear h70
              refine seq fun K72 h72 => ?_
              refine seq fun K73 h73 => ?_
              refine stp (v := v69) (o_mv rfl) ?_
              refine stp (v := .pointer (some ⟨bp18, 0, none⟩)) (o_mv rfl) ?_
              refine m_call (refLeft_ok _ L rq w71 hql (hM71.res (i := 3) rfl) (by first | assumption | omega | (simp; done) | (simp; omega) | decide +kernel)) rfl fun v74 w74 ⟨rs74, hs74, hm74⟩ => ?_
              have hM74 : Mem w [] w74 [r8_, rp, rs16, rq, rs21, NS, r16_, [⟨b45, 49, [.int .i64 ((al.getD i az).op), .int .i64 ((al.getD i az).a), .int .i64 ((al.getD i az).b), .int .i64 ((al.getD i az).c), .int .i64 ((al.getD i az).d)]⟩], rs69, rs71, rs74] := hM71.stepAdd 3 rfl hm74
              refine m_call (sameFaults_ok _ _ L L w74 (hs69.rd hM74 (i := 8) rfl) (hs74.rd hM74 (i := 10) rfl) (by first | omega | (simp; done) | (simp; omega) | (refine Nat.le_trans (filter_le _ _) ?_; omega))) rfl fun v75 w75 ⟨hr75, hu75⟩ => ?_
              have hM75 : Mem w [] w75 [r8_, rp, rs16, rq, rs21, NS, r16_, [⟨b45, 49, [.int .i64 ((al.getD i az).op), .int .i64 ((al.getD i az).a), .int .i64 ((al.getD i az).b), .int .i64 ((al.getD i az).c), .int .i64 ((al.getD i az).d)]⟩], rs69, rs71, rs74] := hM74.pure hu75
              obtain rfl : v75 = .bool true := hr75.trans (by simp)
              clear hr75
              refine stp (v := .bool false) (o_not rfl rfl) ?_
              refine h73 _ _ ?_
              clear h73
              refine cndF rfl ?_
              refine h72 _ _ ?_
              clear h72
              refine seq fun K76 h76 => ?_
              refine stp (v := v69) (o_mv rfl) ?_
              refine stp (v := .int .i64 (i : Nat)) (o_mv rfl) ?_
              refine stp (v := .int .i64 (1000 + (i : Nat))) (o_bin rfl rfl (v_add64 (by constructor <;> omega))) ?_
              refine m_call (spoilK_ok _ L (1000 + (i : Nat)) (by omega) rs69 w75 hs69 (hM75.res (i := 8) rfl) (by first | omega | (simp; done) | (refine Nat.le_trans (filter_le _ _) ?_; omega))) rfl fun v77 w77 ⟨l77_, r'77, hs77, hl77, hd77, hm77⟩ => ?_
              have hM77 : Mem w [] w77 [r8_, rp, rs16, rq, rs21, NS, r16_, [⟨b45, 49, [.int .i64 ((al.getD i az).op), .int .i64 ((al.getD i az).a), .int .i64 ((al.getD i az).b), .int .i64 ((al.getD i az).c), .int .i64 ((al.getD i az).d)]⟩], r'77, rs71, rs74] := hM75.step 8 rfl hm77
              refine h76 _ _ ?_
              clear h76
              refine seq fun K78 h78 => ?_
              refine seq fun K79 h79 => ?_
              refine stp (v := v71) (o_mv rfl) ?_
              refine stp (v := .pointer (some ⟨bp18, 0, none⟩)) (o_mv rfl) ?_
              refine m_call (refLeft_ok _ L rq w77 hql (hM77.res (i := 3) rfl) (by first | assumption | omega | (simp; done) | (simp; omega) | decide +kernel)) rfl fun v80 w80 ⟨rs80, hs80, hm80⟩ => ?_
              have hM80 : Mem w [] w80 [r8_, rp, rs16, rq, rs21, NS, r16_, [⟨b45, 49, [.int .i64 ((al.getD i az).op), .int .i64 ((al.getD i az).a), .int .i64 ((al.getD i az).b), .int .i64 ((al.getD i az).c), .int .i64 ((al.getD i az).d)]⟩], r'77, rs71, rs74, rs80] := hM77.stepAdd 3 rfl hm80
              refine m_call (sameFaults_ok _ _ L L w80 (hs71.rd hM80 (i := 9) rfl) (hs80.rd hM80 (i := 11) rfl) (by first | omega | (simp; done) | (simp; omega) | (refine Nat.le_trans (filter_le _ _) ?_; omega))) rfl fun v81 w81 ⟨hr81, hu81⟩ => ?_
              have hM81 : Mem w [] w81 [r8_, rp, rs16, rq, rs21, NS, r16_, [⟨b45, 49, [.int .i64 ((al.getD i az).op), .int .i64 ((al.getD i az).a), .int .i64 ((al.getD i az).b), .int .i64 ((al.getD i az).c), .int .i64 ((al.getD i az).d)]⟩], r'77, rs71, rs74, rs80] := hM80.pure hu81
              obtain rfl : v81 = .bool true := hr81.trans (by simp)
              clear hr81
              refine stp (v := .bool false) (o_not rfl rfl) ?_
              refine h79 _ _ ?_
              clear h79
              refine cndF rfl ?_
              refine h78 _ _ ?_
              clear h78
              refine stp (v := y16_) (o_mv rfl) ?_
              refine stp (v := v69) (o_mv rfl) ?_
              refine stp (v := .int .i64 (i : Nat)) (o_mv rfl) ?_
              obtain ⟨a82_, n82_, c82_, rfl⟩ := Sl.isSlice hs77
              refine stp (v := .int .i64 (1000 + (i : Nat))) (o_bin rfl rfl (v_add64 (by constructor <;> omega))) ?_
              refine stp (v := .agg ([(.slice a82_ n82_ c82_), .int .i64 (1000 + (i : Nat))] : List Value).toArray) (o_bld rfl rfl) ?_
              refine m_app1S (enc := tdC) (q := (⟨a82_, n82_, c82_, 1000 + (i : Nat), l77_⟩ : Td)) hM81 (i := 6) rfl hy16_ rfl (by simp) (rfl) (rfl) (by first | omega | (simp; omega)) (by omega) fun v83 w83 r83 u83 (hs83 : SlS tdC 2 52 v83 (ts ++ [(⟨a82_, n82_, c82_, 1000 + (i : Nat), l77_⟩ : Td)]) r83) (hM83 : Mem w [] w83 [r8_, rp, rs16, rq, rs21, NS, r83, [⟨b45, 49, [.int .i64 ((al.getD i az).op), .int .i64 ((al.getD i az).a), .int .i64 ((al.getD i az).b), .int .i64 ((al.getD i az).c), .int .i64 ((al.getD i az).d)]⟩], r'77, rs71, rs74, rs80]) => ?_
              refine stp (v := v83) (o_mv rfl) ?_
              refine h42 _ _ ?_
              clear h42
              refine stp (v := .int .i64 (i : Nat)) (o_mv rfl) ?_
              refine stp (v := .int .i64 ((i : Nat) + 1)) (o_bin rfl rfl (v_add64 (by constructor <;> omega))) ?_
              refine stp (v := .int .i64 ((i : Nat) + 1)) (o_mv rfl) ?_
              refine h38 (i + 1, L, rp, rq, (ts ++ [(⟨a82_, n82_, c82_, 1000 + (i : Nat), l77_⟩ : Td)]), NS ++ r'77, v83, r83) _ _ ⟨by first | rfl | exact v_int (by omega) | exact v_int (by simp) | exact v_int (by simp; omega), rfl, rfl, rfl, rfl, rfl, rfl, Mem.nest (((((hM83.drop 11).drop 10).drop 9).drop 7).keep (by simp) : Mem w [] w83 [r8_, rp, rs16, rq, rs21, NS, r83, r'77]), hpl, hql, hun, hLl, Nst.app hN ⟨hs77, by have h8 := hl77; first | omega | (rw [h8]; refine Nat.le_trans (filter_le _ _) ?_; omega) | (rw [h8]; omega) | (rw [h8]; simp), hd77⟩, by rw [List.length_append, List.length_singleton]; omega, by first | exact hs83 | simpa using hs83⟩ (by (try dsimp only); omega)
        ·
          refine h33 _ _ ?_
          clear h33
          refine seq fun K84 h84 => ?_
          refine stp (v := .pointer (some ⟨bp16, 0, none⟩)) (o_mv rfl) ?_
          refine m_call (Left_ok _ l rs16 w37 hp16 (hM37.res (i := 2) rfl) (by first | assumption | omega | (simp; done) | (simp; omega) | decide +kernel)) rfl fun v85 w85 ⟨rs85, hs85, hm85⟩ => ?_
          have hM85 : Mem w [] w85 [r8_, rp, rs16, rq, rs21, NS, r16_, rs85] := hM37.stepAdd 2 rfl hm85
          refine stp (v := v85) (o_mv rfl) ?_
          refine h84 _ _ ?_
          clear h84
          refine seq fun K86 h86 => ?_
          refine stp (v := y16_) (o_mv rfl) ?_
          refine m_call (whole_ok _ ts r16_ NS w85 hy16_ hN (Mem.res2 hM85 6 5 rfl rfl (by decide)) (by omega)) rfl fun v87 w87 ⟨hr87, hm87⟩ => ?_
          have hM87 : Mem w [] w87 [r8_, rp, rs16, rq, rs21, [], [], rs85] := Mem.step2 hM85 6 5 rfl rfl (by decide) (hm87.keep (by simp) : Mem _ _ _ [[], []])
          subst hr87
          refine stp (v := .bool true) (o_mv rfl) ?_
          refine splitT rfl ?_
          refine stg rfl (v := .pointer (some ⟨bp13, 0, none⟩)) (o_mv rfl) ?_
          refine gyesl rfl ?_
          refine m_call (Left_ok _ L rp w87 hpl (hM87.res (i := 1) rfl) (by first | assumption | omega | (simp; done) | (simp; omega) | decide +kernel)) rfl fun v88 w88 ⟨rs88, hs88, hm88⟩ => ?_
          have hM88 : Mem w [] w88 [r8_, rp, rs16, rq, rs21, [], [], rs85, rs88] := hM87.stepAdd 1 rfl hm88
          refine stg rfl (v := .pointer (some ⟨bp18, 0, none⟩)) (o_mv rfl) ?_
          refine gyesl rfl ?_
          refine m_call (refLeft_ok _ L rq w88 hql (hM88.res (i := 3) rfl) (by first | assumption | omega | (simp; done) | (simp; omega) | decide +kernel)) rfl fun v89 w89 ⟨rs89, hs89, hm89⟩ => ?_
          have hM89 : Mem w [] w89 [r8_, rp, rs16, rq, rs21, [], [], rs85, rs88, rs89] := hM88.stepAdd 3 rfl hm89
          refine gyesl rfl ?_
          refine m_call (sameFaults_ok _ _ L L w89 (hs88.rd hM89 (i := 8) rfl) (hs89.rd hM89 (i := 9) rfl) (by first | omega | (simp; done) | (simp; omega) | (refine Nat.le_trans (filter_le _ _) ?_; omega))) rfl fun v90 w90 ⟨hr90, hu90⟩ => ?_
          have hM90 : Mem w [] w90 [r8_, rp, rs16, rq, rs21, [], [], rs85, rs88, rs89] := hM89.pure hu90
          obtain rfl : v90 = .bool true := hr90.trans (by simp)
          clear hr90
          refine stp (v := .bool true) (o_pickT rfl rfl) ?_
          refine stp (v := .bool true) (o_mv rfl) ?_
          refine splitT rfl ?_
          refine stg rfl (v := .pointer (some ⟨bp18, 0, none⟩)) (o_mv rfl) ?_
          refine stg rfl (v := .bool false) (o_isnil rfl rfl) ?_
          refine stg rfl (v := .bool false) (o_mv rfl) ?_
          refine splitF rfl ?_
          refine gno rfl (by simp) ?_
          refine gno rfl (by simp) ?_
          refine gno rfl (by simp) ?_
          refine stg rfl (v := .bool false) (o_pickF rfl rfl) ?_
          refine stg rfl (v := .bool false) (o_mv rfl) ?_
          refine splitF rfl ?_
          refine stg rfl (v := .pointer (some ⟨bp18, 0, none⟩)) (o_mv rfl) ?_
          refine stg rfl (v := .bool true) (o_isnil rfl rfl) ?_
          refine stg rfl (v := .bool true) (o_mv rfl) ?_
          refine splitT rfl ?_
          refine stg rfl (v := v85) (o_mv rfl) ?_
          refine stg rfl (v := x) (o_mv rfl) ?_
          refine gyesl rfl ?_
          refine m_call (sameFaults_ok _ _ l l w90 (hs85.rd hM90 (i := 7) rfl) (hx.upd hM90.upd) (by first | omega | (simp; done) | (simp; omega) | (refine Nat.le_trans (filter_le _ _) ?_; omega))) rfl fun v91 w91 ⟨hr91, hu91⟩ => ?_
          have hM91 : Mem w [] w91 [r8_, rp, rs16, rq, rs21, [], [], rs85, rs88, rs89] := hM90.pure hu91
          obtain rfl : v91 = .bool true := hr91.trans (by simp)
          clear hr91
          refine stg rfl (v := .bool true) (o_pickT rfl rfl) ?_
          refine stg rfl (v := .bool true) (o_pickF rfl rfl) ?_
          refine stp (v := .bool true) (o_pickT rfl rfl) ?_
          refine stp (v := .bool true) (o_mv rfl) ?_
          refine h86 _ _ ?_
          clear h86
          refine ⟨(.bool true), rfl, ?_⟩
          exact ⟨rfl, hM91.upd⟩

set_option maxRecDepth 100000 in
/-- winnowlaw16.FaultPlans -/
theorem FaultPlans_bad (x : Value) (l : List Flt) (y : Value) (al : List Ask) (w : World) (hc : ¬ check l = 0) (hx : RdS fltC w x l) (hok : ∀ f ∈ l, f.ok) (hl : l.length * 64 ≤ 140737488351232) (hy : RdS askC w y al) (hoka : ∀ f ∈ al, f.ok) (hla : al.length * 40 ≤ 140737488351232) : Calls Try.prog 4 [x, y].toArray w (Rt fun r w' => r = .bool true ∧ Upd [] w w') := by
  have hM0 : Mem w [] w [] := Mem.nil w []
  refine calls_vc mixed Try.func4 rfl C4 (by simp [Try.ntmps4]) ?_
  refine seq fun K1 h1 => ?_
  refine stp (v := .bool false) (o_mv rfl) ?_
  refine h1 _ _ ?_
  clear h1
  refine seq fun K2 h2 => ?_
  refine stp (v := .pointer none) (o_mv rfl) ?_
  refine h2 _ _ ?_
  clear h2
  refine seq fun K3 h3 => ?_
  refine stp (v := .pointer none) (o_mv rfl) ?_
  refine m_call (Stop_nil _ _ _ w) rfl fun v4 w4 ⟨hr4, hu4⟩ => ?_
  have hM4 : Mem w [] w4 [] := hM0.pure hu4
  subst hr4
  refine stp (v := .tuple [.int .i64 0, .bool false].toArray) (o_mv rfl) ?_
  refine stp (v := .int .i64 0) (o_ext rfl rfl) ?_
  refine stp (v := .bool false) (o_ext rfl rfl) ?_
  refine stp (v := .int .i64 0) (o_mv rfl) ?_
  refine stp (v := .bool false) (o_mv rfl) ?_
  refine h3 _ _ ?_
  clear h3
  refine seq fun K5 h5 => ?_
  refine seq fun K6 h6 => ?_
  refine stp (v := .int .i64 0) (o_mv rfl) ?_
  refine stp (v := .bool false) (o_bin rfl rfl v_neF) ?_
  refine stp (v := .bool false) (o_mv rfl) ?_
  refine splitF rfl ?_
  refine stg rfl (v := .bool false) (o_mv rfl) ?_
  refine stp (v := .bool false) (o_pickF rfl rfl) ?_
  refine stp (v := .bool false) (o_mv rfl) ?_
  refine splitF rfl ?_
  refine stg rfl (v := .pointer none) (o_mv rfl) ?_
  refine gyesl rfl ?_
  refine m_call (Due_nil _ _ _ _ w4) rfl fun v7 w7 ⟨hr7, hu7⟩ => ?_
  have hM7 : Mem w [] w7 [] := hM4.pure hu7
  subst hr7
  refine stg rfl (v := .int .i64 0) (o_len rfl rfl) ?_
  refine stg rfl (v := .bool false) (o_bin rfl rfl v_neF) ?_
  refine stp (v := .bool false) (o_pickF rfl rfl) ?_
  refine stp (v := .bool false) (o_mv rfl) ?_
  refine splitF rfl ?_
  refine stg rfl (v := .pointer none) (o_mv rfl) ?_
  refine gyesl rfl ?_
  refine m_call (Left_nil w7) rfl fun v8 w8 ⟨hr8, hu8⟩ => ?_
  have hM8 : Mem w [] w8 [] := hM7.pure hu8
  subst hr8
  refine stg rfl (v := .int .i64 0) (o_len rfl rfl) ?_
  refine stg rfl (v := .bool false) (o_bin rfl rfl v_neF) ?_
  refine stp (v := .bool false) (o_pickF rfl rfl) ?_
  refine h6 _ _ ?_
  clear h6
  refine cndF rfl ?_
  refine h5 _ _ ?_
  clear h5
  refine seq fun K9 h9 => ?_
  refine stp (v := x) (o_mv rfl) ?_
  refine m_call (given_ok _ l w8 (hx.upd hM8.upd) (by first | omega | (simp; done) | (simp; omega))) rfl fun v10 w10 ⟨rs10, hs10, hm10⟩ => ?_
  have hM10 : Mem w [] w10 [rs10] := hM8.add hm10
  refine stp (v := v10) (o_mv rfl) ?_
  refine h9 _ _ ?_
  clear h9
  refine seq fun K11 h11 => ?_
  refine stp (v := v10) (o_mv rfl) ?_
  refine stp (v := x) (o_mv rfl) ?_
  refine stp (v := .int .i64 (l.length : Nat)) (o_lenR (hx.upd hM10.upd) rfl rfl) ?_
  refine m_slcOS l.length (hs10) rfl (by first | omega | (simp; done) | (simp; omega)) (⟨_, rfl⟩) trivial fun u12 hu12 => ?_
  have hu12' := SlS.eqL (m := l) hu12 (by simp)
  refine m_call (New_bad _ l w10 (hu12'.rd hM10 (i := 0) rfl) (by first | exact hok | assumption) (by first | omega | (simp; done) | (simp; omega)) (by first | exact hc | assumption)) rfl fun v13 w13 ⟨hr13, hu13⟩ => ?_
  have hM13 : Mem w [] w13 [rs10] := hM10.pure hu13
  subst hr13
  refine stp (v := .tuple [.pointer none, .int .i64 (check l)].toArray) (o_mv rfl) ?_
  refine stp (v := .pointer none) (o_ext rfl rfl) ?_
  refine stp (v := .int .i64 (check l)) (o_ext rfl rfl) ?_
  refine stp (v := .pointer none) (o_mv rfl) ?_
  refine stp (v := .int .i64 (check l)) (o_mv rfl) ?_
  refine h11 _ _ ?_
  clear h11
  refine seq fun K14 h14 => ?_
  refine stp (v := v10) (o_mv rfl) ?_
  refine stp (v := x) (o_mv rfl) ?_
  refine stp (v := .int .i64 (l.length : Nat)) (o_lenR (hx.upd hM13.upd) rfl rfl) ?_
  refine m_slcOS l.length (hs10) rfl (by first | omega | (simp; done) | (simp; omega)) (⟨_, rfl⟩) trivial fun u15 hu15 => ?_
  have hu15' := SlS.eqL (m := l) hu15 (by simp)
  refine m_call (New_bad _ l w13 (hu15'.rd hM13 (i := 0) rfl) (by first | exact hok | assumption) (by first | omega | (simp; done) | (simp; omega)) (by first | exact hc | assumption)) rfl fun v16 w16 ⟨hr16, hu16⟩ => ?_
  have hM16 : Mem w [] w16 [rs10] := hM13.pure hu16
  subst hr16
  refine stp (v := .tuple [.pointer none, .int .i64 (check l)].toArray) (o_mv rfl) ?_
  refine stp (v := .pointer none) (o_ext rfl rfl) ?_
  refine stp (v := .int .i64 (check l)) (o_ext rfl rfl) ?_
  refine stp (v := .pointer none) (o_mv rfl) ?_
  refine stp (v := .int .i64 (check l)) (o_mv rfl) ?_
  refine h14 _ _ ?_
  clear h14
  refine seq fun K17 h17 => ?_
  refine stp (v := x) (o_mv rfl) ?_
  refine m_call (refNew_bad _ l w16 (hx.upd hM16.upd) (by first | exact hok | assumption) (by first | omega | (simp; done) | (simp; omega)) (by first | exact hc | assumption)) rfl fun v18 w18 ⟨hr18, hu18⟩ => ?_
  have hM18 : Mem w [] w18 [rs10] := hM16.pure hu18
  subst hr18
  refine stp (v := .tuple [.pointer none, .int .i64 (check l)].toArray) (o_mv rfl) ?_
  refine stp (v := .pointer none) (o_ext rfl rfl) ?_
  refine stp (v := .int .i64 (check l)) (o_ext rfl rfl) ?_
  refine stp (v := .pointer none) (o_mv rfl) ?_
  refine stp (v := .int .i64 (check l)) (o_mv rfl) ?_
  refine h17 _ _ ?_
  clear h17
  refine seq fun K19 h19 => ?_
  refine seq fun K20 h20 => ?_
  refine stp (v := .int .i64 (check l)) (o_mv rfl) ?_
  refine stp (v := .int .i64 (check l)) (o_mv rfl) ?_
  refine stp (v := .bool false) (o_bin rfl rfl v_neF) ?_
  refine stp (v := .bool false) (o_mv rfl) ?_
  refine splitF rfl ?_
  refine stg rfl (v := .int .i64 (check l)) (o_mv rfl) ?_
  refine stg rfl (v := .int .i64 (check l)) (o_mv rfl) ?_
  refine stg rfl (v := .bool false) (o_bin rfl rfl v_neF) ?_
  refine stp (v := .bool false) (o_pickF rfl rfl) ?_
  refine stp (v := .bool false) (o_mv rfl) ?_
  refine splitF rfl ?_
  refine stg rfl (v := .pointer none) (o_mv rfl) ?_
  refine stg rfl (v := .bool true) (o_isnil rfl rfl) ?_
  refine stg rfl (v := .pointer none) (o_mv rfl) ?_
  refine stg rfl (v := .bool true) (o_isnil rfl rfl) ?_
  refine stg rfl (v := .bool false) (o_beq rfl rfl (by simp)) ?_
  refine stp (v := .bool false) (o_pickF rfl rfl) ?_
  refine stp (v := .bool false) (o_mv rfl) ?_
  refine splitF rfl ?_
  refine stg rfl (v := .pointer none) (o_mv rfl) ?_
  refine stg rfl (v := .bool true) (o_isnil rfl rfl) ?_
  refine stg rfl (v := .pointer none) (o_mv rfl) ?_
  refine stg rfl (v := .bool true) (o_isnil rfl rfl) ?_
  refine stg rfl (v := .bool false) (o_beq rfl rfl (by simp)) ?_
  refine stp (v := .bool false) (o_pickF rfl rfl) ?_
  refine stp (v := .bool false) (o_mv rfl) ?_
  refine splitF rfl ?_
  refine stg rfl (v := v10) (o_mv rfl) ?_
  refine stg rfl (v := x) (o_mv rfl) ?_
  refine gyesl rfl ?_
  refine m_call (given_ok _ l w18 (hx.upd hM18.upd) (by first | omega | (simp; done) | (simp; omega))) rfl fun v21 w21 ⟨rs21, hs21, hm21⟩ => ?_
  have hM21 : Mem w [] w21 [rs10, rs21] := hM18.add hm21
  refine gyesl rfl ?_
  refine m_call (sameFaults_ok _ _ (l ++ List.replicate 64 (⟨7001, 0, 5, 0, 0, 0, 0, 0⟩ : Flt)) (l ++ List.replicate 64 (⟨7001, 0, 5, 0, 0, 0, 0, 0⟩ : Flt)) w21 (hs10.rd hM21 (i := 0) rfl) (hs21.rd hM21 (i := 1) rfl) (by first | omega | (simp; done) | (simp; omega) | (refine Nat.le_trans (filter_le _ _) ?_; omega))) rfl fun v22 w22 ⟨hr22, hu22⟩ => ?_
  have hM22 : Mem w [] w22 [rs10, rs21] := hM21.pure hu22
  obtain rfl : v22 = .bool true := hr22.trans (by simp)
  clear hr22
  refine stg rfl (v := .bool false) (o_not rfl rfl) ?_
  refine stp (v := .bool false) (o_pickF rfl rfl) ?_
  refine h20 _ _ ?_
  clear h20
  refine cndF rfl ?_
  refine h19 _ _ ?_
  clear h19
  refine seq fun K23 h23 => ?_
  refine seq fun K24 h24 => ?_
  refine stp (v := .int .i64 0) (o_mv rfl) ?_
  refine h24 _ _ ?_
  clear h24
  refine lp (n := fun _ _ => False) (ι := (Nat) × (List Flt) × (List Ent)) (fun ⟨i, G, r8_⟩ f w' => f 15 = .int .i64 (i : Nat) ∧ f 8 = v10 ∧ f 0 = x ∧ f 1 = y ∧ f 9 = .pointer none ∧ f 11 = .pointer none ∧ f 13 = .pointer none ∧ Mem w [] w' [r8_, rs21] ∧ (i ≤ l.length ∧ l.length ≤ G.length) ∧ (SlS fltC 8 25 v10 (G) r8_)) (fun ⟨i, G, r8_⟩ => l.length - i) (0, (l ++ List.replicate 64 (⟨7001, 0, 5, 0, 0, 0, 0, 0⟩ : Flt)), rs10) ?_ ?_
  · exact ⟨by first | rfl | exact v_int (by omega) | exact v_int (by simp) | exact v_int (by simp; omega), rfl, rfl, rfl, rfl, rfl, rfl, hM22, by simp, by first | exact hs10 | simpa using hs10⟩
  · rintro ⟨i, G, r8_⟩ f w25 ⟨e25_15, e25_8, e25_0, e25_1, e25_9, e25_11, e25_13, hM25, hi, hy8_⟩ K26 h26
    obtain ⟨frm, rfl⟩ : ∃ frm, f = (upd (upd (upd (upd (upd (upd (upd frm 15 (.int .i64 (i : Nat))) 8 (v10)) 0 (x)) 1 (y)) 9 (.pointer none)) 11 (.pointer none)) 13 (.pointer none)) := ⟨f, by rw [upd_self e25_15, upd_self e25_8, upd_self e25_0, upd_self e25_1, upd_self e25_9, upd_self e25_11, upd_self e25_13]⟩
    clear e25_15 e25_8 e25_0 e25_1 e25_9 e25_11 e25_13
    refine seq fun K27 h27 => ?_
    refine seq fun K28 h28 => ?_
    refine stp (v := .int .i64 (i : Nat)) (o_mv rfl) ?_
    refine stp (v := x) (o_mv rfl) ?_
    refine stp (v := .int .i64 (l.length : Nat)) (o_lenR (hx.upd hM25.upd) rfl rfl) ?_
    refine stp (v := .bool (decide (((i : Nat) : Int) < (l.length : Nat)))) (o_bin rfl rfl rfl) ?_
    refine h28 _ _ ?_
    clear h28
    refine cndP rfl (fun c29 => ?_) (fun c29 => ?_)
    ·
      refine h27 _ _ ?_
      clear h27
      refine seq fun K30 h30 => ?_
      refine stp (v := v10) (o_mv rfl) ?_
      refine stp (v := .int .i64 (i : Nat)) (o_mv rfl) ?_
      refine stp (v := .agg ([.int .i64 79, .int .i64 0, .int .i64 0, .int .i64 0, .int .i64 0, .int .i64 0, .int .i64 0, .int .u32 0] : List Value).toArray) (o_bld rfl rfl) ?_
      refine m_setS (enc := fltC) fz (q := (⟨79, 0, 0, 0, 0, 0, 0, 0⟩ : Flt)) (j := i) hM25 (i := 0) rfl hy8_ rfl rfl (by omega) (by simp) (rfl) fun w31 r31 u31 he31 hs31 (hM31 : Mem w [] w31 [r31, rs21]) => ?_
      refine h30 _ _ ?_
      clear h30
      refine stp (v := .int .i64 (i : Nat)) (o_mv rfl) ?_
      refine stp (v := .int .i64 ((i : Nat) + 1)) (o_bin rfl rfl (v_add64 (by constructor <;> omega))) ?_
      refine stp (v := .int .i64 ((i : Nat) + 1)) (o_mv rfl) ?_
      refine h26 (i + 1, (G.set i (⟨79, 0, 0, 0, 0, 0, 0, 0⟩ : Flt)), r31) _ _ ⟨by first | rfl | exact v_int (by omega) | exact v_int (by simp) | exact v_int (by simp; omega), rfl, rfl, rfl, rfl, rfl, rfl, hM31, by rw [List.length_set]; omega, by first | exact hs31 | simpa using hs31⟩ (by (try dsimp only); omega)
    ·
      refine h23 _ _ ?_
      clear h23
      refine seq fun K32 h32 => ?_
      refine stp (v := .slice none 0 0) (o_mv rfl) ?_
      refine h32 _ _ ?_
      clear h32
      refine seq fun K33 h33 => ?_
      refine seq fun K34 h34 => ?_
      have hM35 : Mem w [] w25 [r8_, rs21, []] := hM25.addNil
      refine stp (v := .int .i64 0) (o_mv rfl) ?_
      refine h34 _ _ ?_
      clear h34
      have hM36 : Mem w [] w25 [r8_, rs21, [], []] := hM35.addNil
      have hs36 : SlS tdC 2 52 (.slice none 0 0) [] [] := Sl.nil 2 52
      refine lp (n := fun _ _ => False) (ι := (Nat) × (List Td) × (List Ent) × (Value) × (List Ent)) (fun ⟨i, ts, NS, y16_, r16_⟩ f w' => f 17 = .int .i64 (i : Nat) ∧ f 16 = y16_ ∧ f 0 = x ∧ f 1 = y ∧ f 9 = .pointer none ∧ f 11 = .pointer none ∧ f 13 = .pointer none ∧ Mem w [] w' [r8_, rs21, NS, r16_] ∧ (Nst TdQ ts NS) ∧ (i ≤ al.length ∧ ts.length ≤ i) ∧ (SlS tdC 2 52 y16_ (ts) r16_)) (fun ⟨i, ts, NS, y16_, r16_⟩ => al.length - i) (0, [], [], ((.slice none 0 0)), ([])) ?_ ?_
      · exact ⟨by first | rfl | exact v_int (by omega) | exact v_int (by simp) | exact v_int (by simp; omega), rfl, rfl, rfl, rfl, rfl, rfl, hM36, trivial, by simp, by first | exact hs36 | simpa using hs36⟩
      · rintro ⟨i, ts, NS, y16_, r16_⟩ f w37 ⟨e37_17, e37_16, e37_0, e37_1, e37_9, e37_11, e37_13, hM37, hN, hi, hy16_⟩ K38 h38
        obtain ⟨frm, rfl⟩ : ∃ frm, f = (upd (upd (upd (upd (upd (upd (upd frm 17 (.int .i64 (i : Nat))) 16 (y16_)) 0 (x)) 1 (y)) 9 (.pointer none)) 11 (.pointer none)) 13 (.pointer none)) := ⟨f, by rw [upd_self e37_17, upd_self e37_16, upd_self e37_0, upd_self e37_1, upd_self e37_9, upd_self e37_11, upd_self e37_13]⟩
        clear e37_17 e37_16 e37_0 e37_1 e37_9 e37_11 e37_13
        refine seq fun K39 h39 => ?_
        refine seq fun K40 h40 => ?_
        refine stp (v := .int .i64 (i : Nat)) (o_mv rfl) ?_
        refine stp (v := y) (o_mv rfl) ?_
        refine stp (v := .int .i64 (al.length : Nat)) (o_lenR (hy.upd hM37.upd) rfl rfl) ?_
        refine stp (v := .bool (decide (((i : Nat) : Int) < (al.length : Nat)))) (o_bin rfl rfl rfl) ?_
        refine h40 _ _ ?_
        clear h40
        refine cndP rfl (fun c41 => ?_) (fun c41 => ?_)
        ·
          refine h39 _ _ ?_
          clear h39
          refine seq fun K42 h42 => ?_
          refine seq fun K43 h43 => ?_
          refine stp (v := y) (o_mv rfl) ?_
          refine stp (v := .int .i64 (i : Nat)) (o_mv rfl) ?_
          refine m_idxS az (j := i) (hy.upd hM37.upd) rfl rfl (by omega) fun b44 o44 hp44 => ?_
          refine ldA (cs := [.int .i64 ((al.getD i az).op), .int .i64 ((al.getD i az).a), .int .i64 ((al.getD i az).b), .int .i64 ((al.getD i az).c), .int .i64 ((al.getD i az).d)]) rfl rfl (hp44.row (k := 0) rfl rfl) ?_
          refine m_al hM37 fun b45 w46 (hM46 : Mem w [] w46 [r8_, rs21, NS, r16_, [⟨b45, 49, [.int .i64 0, .int .i64 0, .int .i64 0, .int .i64 0, .int .i64 0]⟩]]) => ?_
          refine m_stA (l := [.int .i64 ((al.getD i az).op), .int .i64 ((al.getD i az).a), .int .i64 ((al.getD i az).b), .int .i64 ((al.getD i az).c), .int .i64 ((al.getD i az).d)]) hM46 (i := 4) rfl rfl rfl rfl (by simp [oneCells, Value.oneCell', byteV]) (by simp) fun w47 (hM47 : Mem w [] w47 [r8_, rs21, NS, r16_, [⟨b45, 49, [.int .i64 ((al.getD i az).op), .int .i64 ((al.getD i az).a), .int .i64 ((al.getD i az).b), .int .i64 ((al.getD i az).c), .int .i64 ((al.getD i az).d)]⟩]]) => ?_
          refine h43 _ _ ?_
          clear h43
          refine seq fun K48 h48 => ?_
          refine stp (v := .pointer (some ⟨b45, 0, none⟩)) (o_fa rfl rfl) ?_
          refine m_ld (v := .int .i64 ((al.getD i az).op)) hM47 (i := 4) (j := 0) rfl rfl rfl rfl ?_
          refine h48 _ _ ?_
          clear h48
          refine seq fun K49 h49 => ?_
          refine stp (v := .bool (decide (((al.getD i az).op) = 0))) (o_bin rfl rfl rfl) ?_
          refine stp (v := .bool (decide (((al.getD i az).op) = 0))) (o_mv rfl) ?_
          refine h49 _ _ ?_
          clear h49
          refine cndP rfl (fun c50 => ?_) (fun c50 => ?_)
          ·
            refine seq fun K51 h51 => ?_
            refine stp (v := .pointer none) (o_mv rfl) ?_
            refine stp (v := .pointer (some ⟨b45, 1, none⟩)) (o_fa rfl rfl) ?_
            refine m_ld (v := .int .i64 ((al.getD i az).a)) hM47 (i := 4) (j := 0) rfl rfl rfl rfl ?_
            refine stp (v := .pointer (some ⟨b45, 2, none⟩)) (o_fa rfl rfl) ?_
            refine m_ld (v := .int .i64 ((al.getD i az).b)) hM47 (i := 4) (j := 0) rfl rfl rfl rfl ?_
            refine stp (v := .pointer (some ⟨b45, 3, none⟩)) (o_fa rfl rfl) ?_
            refine m_ld (v := .int .i64 ((al.getD i az).c)) hM47 (i := 4) (j := 0) rfl rfl rfl rfl ?_
            refine m_call (Stop_nil _ _ _ w47) rfl fun v52 w52 ⟨hr52, hu52⟩ => ?_
            have hM52 : Mem w [] w52 [r8_, rs21, NS, r16_, [⟨b45, 49, [.int .i64 ((al.getD i az).op), .int .i64 ((al.getD i az).a), .int .i64 ((al.getD i az).b), .int .i64 ((al.getD i az).c), .int .i64 ((al.getD i az).d)]⟩]] := hM47.pure hu52
            subst hr52
            refine stp (v := .tuple [.int .i64 0, .bool false].toArray) (o_mv rfl) ?_
            refine stp (v := .int .i64 0) (o_ext rfl rfl) ?_
            refine stp (v := .bool false) (o_ext rfl rfl) ?_
            refine stp (v := .int .i64 0) (o_mv rfl) ?_
            refine stp (v := .bool false) (o_mv rfl) ?_
            refine h51 _ _ ?_
            clear h51
            refine seq fun K53 h53 => ?_
            refine stp (v := .pointer none) (o_mv rfl) ?_
            refine stp (v := .pointer (some ⟨b45, 1, none⟩)) (o_fa rfl rfl) ?_
            refine m_ld (v := .int .i64 ((al.getD i az).a)) hM52 (i := 4) (j := 0) rfl rfl rfl rfl ?_
            refine stp (v := .pointer (some ⟨b45, 2, none⟩)) (o_fa rfl rfl) ?_
            refine m_ld (v := .int .i64 ((al.getD i az).b)) hM52 (i := 4) (j := 0) rfl rfl rfl rfl ?_
            refine stp (v := .pointer (some ⟨b45, 3, none⟩)) (o_fa rfl rfl) ?_
            refine m_ld (v := .int .i64 ((al.getD i az).c)) hM52 (i := 4) (j := 0) rfl rfl rfl rfl ?_
            refine m_call (refStop_nil _ _ _ w52) rfl fun v54 w54 ⟨hr54, hu54⟩ => ?_
            have hM54 : Mem w [] w54 [r8_, rs21, NS, r16_, [⟨b45, 49, [.int .i64 ((al.getD i az).op), .int .i64 ((al.getD i az).a), .int .i64 ((al.getD i az).b), .int .i64 ((al.getD i az).c), .int .i64 ((al.getD i az).d)]⟩]] := hM52.pure hu54
            subst hr54
            refine stp (v := .tuple [.int .i64 0, .bool false].toArray) (o_mv rfl) ?_
            refine stp (v := .int .i64 0) (o_ext rfl rfl) ?_
            refine stp (v := .bool false) (o_ext rfl rfl) ?_
            refine stp (v := .int .i64 0) (o_mv rfl) ?_
            refine stp (v := .bool false) (o_mv rfl) ?_
            refine h53 _ _ ?_
            clear h53
            refine seq fun K55 h55 => ?_
            refine stp (v := .int .i64 0) (o_mv rfl) ?_
            refine stp (v := .int .i64 0) (o_mv rfl) ?_
            refine stp (v := .bool false) (o_bin rfl rfl v_neF) ?_
            refine stp (v := .bool false) (o_mv rfl) ?_
            refine splitF rfl ?_
            refine stg rfl (v := .bool false) (o_mv rfl) ?_
            refine stg rfl (v := .bool false) (o_mv rfl) ?_
            refine stg rfl (v := .bool false) (o_beq rfl rfl (by simp)) ?_
            refine stp (v := .bool false) (o_pickF rfl rfl) ?_
            refine h55 _ _ ?_
            clear h55
            refine cndF rfl ?_
            refine h42 _ _ ?_
            clear h42
            refine stp (v := .int .i64 (i : Nat)) (o_mv rfl) ?_
            refine stp (v := .int .i64 ((i : Nat) + 1)) (o_bin rfl rfl (v_add64 (by constructor <;> omega))) ?_
            refine stp (v := .int .i64 ((i : Nat) + 1)) (o_mv rfl) ?_
            refine h38 (i + 1, ts, NS, y16_, r16_) _ _ ⟨by first | rfl | exact v_int (by omega) | exact v_int (by simp) | exact v_int (by simp; omega), rfl, rfl, rfl, rfl, rfl, rfl, hM54.keep (by simp), hN, by omega, by first | exact hy16_ | simpa using hy16_⟩ (by (try dsimp only); omega)
          ·
            refine seq fun K56 h56 => ?_
            refine stp (v := .bool (decide (((al.getD i az).op) = 1))) (o_bin rfl rfl rfl) ?_
            refine stp (v := .bool (decide (((al.getD i az).op) = 1))) (o_mv rfl) ?_
            refine h56 _ _ ?_
            clear h56
            refine cndP rfl (fun c57 => ?_) (fun c57 => ?_)
            ·
              refine seq fun K58 h58 => ?_
              refine stp (v := .pointer none) (o_mv rfl) ?_
              refine stp (v := .pointer (some ⟨b45, 1, none⟩)) (o_fa rfl rfl) ?_
              refine m_ld (v := .int .i64 ((al.getD i az).a)) hM47 (i := 4) (j := 0) rfl rfl rfl rfl ?_
              refine stp (v := .pointer (some ⟨b45, 2, none⟩)) (o_fa rfl rfl) ?_
              refine m_ld (v := .int .i64 ((al.getD i az).b)) hM47 (i := 4) (j := 0) rfl rfl rfl rfl ?_
              refine stp (v := .pointer (some ⟨b45, 3, none⟩)) (o_fa rfl rfl) ?_
              refine m_ld (v := .int .i64 ((al.getD i az).c)) hM47 (i := 4) (j := 0) rfl rfl rfl rfl ?_
              refine stp (v := .pointer (some ⟨b45, 4, none⟩)) (o_fa rfl rfl) ?_
              refine m_ld (v := .int .i64 ((al.getD i az).d)) hM47 (i := 4) (j := 0) rfl rfl rfl rfl ?_
              refine m_call (Due_nil _ _ _ _ w47) rfl fun v59 w59 ⟨hr59, hu59⟩ => ?_
              have hM59 : Mem w [] w59 [r8_, rs21, NS, r16_, [⟨b45, 49, [.int .i64 ((al.getD i az).op), .int .i64 ((al.getD i az).a), .int .i64 ((al.getD i az).b), .int .i64 ((al.getD i az).c), .int .i64 ((al.getD i az).d)]⟩]] := hM47.pure hu59
              subst hr59
              refine stp (v := .slice none 0 0) (o_mv rfl) ?_
              refine h58 _ _ ?_
              clear h58
              refine seq fun K60 h60 => ?_
              refine seq fun K61 h61 => ?_
              refine stp (v := .slice none 0 0) (o_mv rfl) ?_
              refine stp (v := .pointer none) (o_mv rfl) ?_
              refine stp (v := .pointer (some ⟨b45, 1, none⟩)) (o_fa rfl rfl) ?_
              refine m_ld (v := .int .i64 ((al.getD i az).a)) hM59 (i := 4) (j := 0) rfl rfl rfl rfl ?_
              refine stp (v := .pointer (some ⟨b45, 2, none⟩)) (o_fa rfl rfl) ?_
              refine m_ld (v := .int .i64 ((al.getD i az).b)) hM59 (i := 4) (j := 0) rfl rfl rfl rfl ?_
              refine stp (v := .pointer (some ⟨b45, 3, none⟩)) (o_fa rfl rfl) ?_
              refine m_ld (v := .int .i64 ((al.getD i az).c)) hM59 (i := 4) (j := 0) rfl rfl rfl rfl ?_
              refine stp (v := .pointer (some ⟨b45, 4, none⟩)) (o_fa rfl rfl) ?_
              refine m_ld (v := .int .i64 ((al.getD i az).d)) hM59 (i := 4) (j := 0) rfl rfl rfl rfl ?_
              refine m_call (refDue_nil _ _ _ _ w59) rfl fun v62 w62 ⟨hr62, hu62⟩ => ?_
              have hM62 : Mem w [] w62 [r8_, rs21, NS, r16_, [⟨b45, 49, [.int .i64 ((al.getD i az).op), .int .i64 ((al.getD i az).a), .int .i64 ((al.getD i az).b), .int .i64 ((al.getD i az).c), .int .i64 ((al.getD i az).d)]⟩]] := hM59.pure hu62
              subst hr62
              refine m_call (sameFaults_ok _ _ ([] : List Flt) ([] : List Flt) w62 (Sl.rdOwn (Sl.nil 8 25) (by simp)) (Sl.rdOwn (Sl.nil 8 25) (by simp)) (by first | omega | (simp; done) | (simp; omega) | (refine Nat.le_trans (filter_le _ _) ?_; omega))) rfl fun v63 w63 ⟨hr63, hu63⟩ => ?_
              have hM63 : Mem w [] w63 [r8_, rs21, NS, r16_, [⟨b45, 49, [.int .i64 ((al.getD i az).op), .int .i64 ((al.getD i az).a), .int .i64 ((al.getD i az).b), .int .i64 ((al.getD i az).c), .int .i64 ((al.getD i az).d)]⟩]] := hM62.pure hu63
              obtain rfl : v63 = .bool true := hr63.trans (by simp)
              clear hr63
              refine stp (v := .bool false) (o_not rfl rfl) ?_
              refine h61 _ _ ?_
              clear h61
              refine cndF rfl ?_
              refine h60 _ _ ?_
              clear h60
              refine seq fun K64 h64 => ?_
              have hM65 : Mem w [] w63 [r8_, rs21, NS, r16_, [⟨b45, 49, [.int .i64 ((al.getD i az).op), .int .i64 ((al.getD i az).a), .int .i64 ((al.getD i az).b), .int .i64 ((al.getD i az).c), .int .i64 ((al.getD i az).d)]⟩], []] := hM63.addNil
              have hs65 : SlS fltC 8 25 (.slice none 0 0) [] [] := Sl.nil 8 25
              refine stp (v := (.slice none 0 0)) (o_mv rfl) ?_
              refine stp (v := .int .i64 (i : Nat)) (o_mv rfl) ?_
              refine stp (v := .int .i64 (1000 + (i : Nat))) (o_bin rfl rfl (v_add64 (by constructor <;> omega))) ?_
              refine m_call (spoilK_ok _ ([]) (1000 + (i : Nat)) (by omega) ([]) w63 hs65 (hM65.res (i := 5) rfl) (by first | omega | (simp; done) | (refine Nat.le_trans (filter_le _ _) ?_; omega))) rfl fun v66 w66 ⟨l66_, r'66, hs66, hl66, hd66, hm66⟩ => ?_
              have hM66 : Mem w [] w66 [r8_, rs21, NS, r16_, [⟨b45, 49, [.int .i64 ((al.getD i az).op), .int .i64 ((al.getD i az).a), .int .i64 ((al.getD i az).b), .int .i64 ((al.getD i az).c), .int .i64 ((al.getD i az).d)]⟩], r'66] := hM65.step 5 rfl hm66
              refine h64 _ _ ?_
              clear h64
              refine stp (v := y16_) (o_mv rfl) ?_
              refine stp (v := (.slice none 0 0)) (o_mv rfl) ?_
              refine stp (v := .int .i64 (i : Nat)) (o_mv rfl) ?_
              refine stp (v := .int .i64 (1000 + (i : Nat))) (o_bin rfl rfl (v_add64 (by constructor <;> omega))) ?_
              refine stp (v := .agg ([(.slice none 0 0), .int .i64 (1000 + (i : Nat))] : List Value).toArray) (o_bld rfl rfl) ?_
              refine m_app1S (enc := tdC) (q := (⟨none, 0, 0, 1000 + (i : Nat), l66_⟩ : Td)) hM66 (i := 3) rfl hy16_ rfl (by simp) (rfl) (rfl) (by first | omega | (simp; omega)) (by omega) fun v67 w67 r67 u67 (hs67 : SlS tdC 2 52 v67 (ts ++ [(⟨none, 0, 0, 1000 + (i : Nat), l66_⟩ : Td)]) r67) (hM67 : Mem w [] w67 [r8_, rs21, NS, r67, [⟨b45, 49, [.int .i64 ((al.getD i az).op), .int .i64 ((al.getD i az).a), .int .i64 ((al.getD i az).b), .int .i64 ((al.getD i az).c), .int .i64 ((al.getD i az).d)]⟩], r'66]) => ?_
              refine stp (v := v67) (o_mv rfl) ?_
              refine h42 _ _ ?_
              clear h42
              refine stp (v := .int .i64 (i : Nat)) (o_mv rfl) ?_
              refine stp (v := .int .i64 ((i : Nat) + 1)) (o_bin rfl rfl (v_add64 (by constructor <;> omega))) ?_
              refine stp (v := .int .i64 ((i : Nat) + 1)) (o_mv rfl) ?_
              refine h38 (i + 1, (ts ++ [(⟨none, 0, 0, 1000 + (i : Nat), l66_⟩ : Td)]), NS ++ r'66, v67, r67) _ _ ⟨by first | rfl | exact v_int (by omega) | exact v_int (by simp) | exact v_int (by simp; omega), rfl, rfl, rfl, rfl, rfl, rfl, Mem.nestB ((hM67.drop 4).keep (by simp) : Mem w [] w67 [r8_, rs21, NS, r67, r'66]), Nst.app hN ⟨hs66, by have h8 := hl66; first | omega | (rw [h8]; refine Nat.le_trans (filter_le _ _) ?_; omega) | (rw [h8]; omega) | (rw [h8]; simp), hd66⟩, by rw [List.length_append, List.length_singleton]; omega, by first | exact hs67 | simpa using hs67⟩ (by (try dsimp only); omega)
            ·
              refine seq fun K68 h68 => ?_
              refine stp (v := .pointer none) (o_mv rfl) ?_
              refine m_call (Left_nil w47) rfl fun v69 w69 ⟨hr69, hu69⟩ => ?_
              have hM69 : Mem w [] w69 [r8_, rs21, NS, r16_, [⟨b45, 49, [.int .i64 ((al.getD i az).op), .int .i64 ((al.getD i az).a), .int .i64 ((al.getD i az).b), .int .i64 ((al.getD i az).c), .int .i64 ((al.getD i az).d)]⟩]] := hM47.pure hu69
              subst hr69
              refine stp (v := .slice none 0 0) (o_mv rfl) ?_
              refine h68 _ _ ?_
              clear h68
              refine seq fun K70 h70 => ?_
              refine stp (v := .pointer none) (o_mv rfl) ?_
              refine m_call (Left_nil w69) rfl fun v71 w71 ⟨hr71, hu71⟩ => ?_
              have hM71 : Mem w [] w71 [r8_, rs21, NS, r16_, [⟨b45, 49, [.int .i64 ((al.getD i az).op), .int .i64 ((al.getD i az).a), .int .i64 ((al.getD i az).b), .int .i64 ((al.getD i az).c), .int .i64 ((al.getD i az).d)]⟩]] := hM69.pure hu71
              subst hr71
              refine stp (v := .slice none 0 0) (o_mv rfl) ?_
              refine h70 _ _ ?_
              clear h70
              refine seq fun K72 h72 => ?_
              refine seq fun K73 h73 => ?_
              refine stp (v := .slice none 0 0) (o_mv rfl) ?_
              refine stp (v := .pointer none) (o_mv rfl) ?_
              refine m_call (refLeft_nil w71) rfl fun v74 w74 ⟨hr74, hu74⟩ => ?_
              have hM74 : Mem w [] w74 [r8_, rs21, NS, r16_, [⟨b45, 49, [.int .i64 ((al.getD i az).op), .int .i64 ((al.getD i az).a), .int .i64 ((al.getD i az).b), .int .i64 ((al.getD i az).c), .int .i64 ((al.getD i az).d)]⟩]] := hM71.pure hu74
              subst hr74
              refine m_call (sameFaults_ok _ _ ([] : List Flt) ([] : List Flt) w74 (Sl.rdOwn (Sl.nil 8 25) (by simp)) (Sl.rdOwn (Sl.nil 8 25) (by simp)) (by first | omega | (simp; done) | (simp; omega) | (refine Nat.le_trans (filter_le _ _) ?_; omega))) rfl fun v75 w75 ⟨hr75, hu75⟩ => ?_
              have hM75 : Mem w [] w75 [r8_, rs21, NS, r16_, [⟨b45, 49, [.int .i64 ((al.getD i az).op), .int .i64 ((al.getD i az).a), .int .i64 ((al.getD i az).b), .int .i64 ((al.getD i az).c), .int .i64 ((al.getD i az).d)]⟩]] := hM74.pure hu75
              obtain rfl : v75 = .bool true := hr75.trans (by simp)
              clear hr75
              refine stp (v := .bool false) (o_not rfl rfl) ?_
              refine h73 _ _ ?_
              clear h73
              refine cndF rfl ?_
              refine h72 _ _ ?_
              clear h72
              refine seq fun K76 h76 => ?_
              have hM77 : Mem w [] w75 [r8_, rs21, NS, r16_, [⟨b45, 49, [.int .i64 ((al.getD i az).op), .int .i64 ((al.getD i az).a), .int .i64 ((al.getD i az).b), .int .i64 ((al.getD i az).c), .int .i64 ((al.getD i az).d)]⟩], []] := hM75.addNil
              have hs77 : SlS fltC 8 25 (.slice none 0 0) [] [] := Sl.nil 8 25
              refine stp (v := (.slice none 0 0)) (o_mv rfl) ?_
              refine stp (v := .int .i64 (i : Nat)) (o_mv rfl) ?_
              refine stp (v := .int .i64 (1000 + (i : Nat))) (o_bin rfl rfl (v_add64 (by constructor <;> omega))) ?_
              refine m_call (spoilK_ok _ ([]) (1000 + (i : Nat)) (by omega) ([]) w75 hs77 (hM77.res (i := 5) rfl) (by first | omega | (simp; done) | (refine Nat.le_trans (filter_le _ _) ?_; omega))) rfl fun v78 w78 ⟨l78_, r'78, hs78, hl78, hd78, hm78⟩ => ?_
              have hM78 : Mem w [] w78 [r8_, rs21, NS, r16_, [⟨b45, 49, [.int .i64 ((al.getD i az).op), .int .i64 ((al.getD i az).a), .int .i64 ((al.getD i az).b), .int .i64 ((al.getD i az).c), .int .i64 ((al.getD i az).d)]⟩], r'78] := hM77.step 5 rfl hm78
              refine h76 _ _ ?_
              clear h76
              refine seq fun K79 h79 => ?_
              refine seq fun K80 h80 => ?_
              refine stp (v := .slice none 0 0) (o_mv rfl) ?_
              refine stp (v := .pointer none) (o_mv rfl) ?_
              refine m_call (refLeft_nil w78) rfl fun v81 w81 ⟨hr81, hu81⟩ => ?_
              have hM81 : Mem w [] w81 [r8_, rs21, NS, r16_, [⟨b45, 49, [.int .i64 ((al.getD i az).op), .int .i64 ((al.getD i az).a), .int .i64 ((al.getD i az).b), .int .i64 ((al.getD i az).c), .int .i64 ((al.getD i az).d)]⟩], r'78] := hM78.pure hu81
              subst hr81
              refine m_call (sameFaults_ok _ _ ([] : List Flt) ([] : List Flt) w81 (Sl.rdOwn (Sl.nil 8 25) (by simp)) (Sl.rdOwn (Sl.nil 8 25) (by simp)) (by first | omega | (simp; done) | (simp; omega) | (refine Nat.le_trans (filter_le _ _) ?_; omega))) rfl fun v82 w82 ⟨hr82, hu82⟩ => ?_
              have hM82 : Mem w [] w82 [r8_, rs21, NS, r16_, [⟨b45, 49, [.int .i64 ((al.getD i az).op), .int .i64 ((al.getD i az).a), .int .i64 ((al.getD i az).b), .int .i64 ((al.getD i az).c), .int .i64 ((al.getD i az).d)]⟩], r'78] := hM81.pure hu82
              obtain rfl : v82 = .bool true := hr82.trans (by simp)
              clear hr82
              refine stp (v := .bool false) (o_not rfl rfl) ?_
              refine h80 _ _ ?_
              clear h80
              refine cndF rfl ?_
              refine h79 _ _ ?_
              clear h79
              refine stp (v := y16_) (o_mv rfl) ?_
              refine stp (v := (.slice none 0 0)) (o_mv rfl) ?_
              refine stp (v := .int .i64 (i : Nat)) (o_mv rfl) ?_
              refine stp (v := .int .i64 (1000 + (i : Nat))) (o_bin rfl rfl (v_add64 (by constructor <;> omega))) ?_
              refine stp (v := .agg ([(.slice none 0 0), .int .i64 (1000 + (i : Nat))] : List Value).toArray) (o_bld rfl rfl) ?_
              refine m_app1S (enc := tdC) (q := (⟨none, 0, 0, 1000 + (i : Nat), l78_⟩ : Td)) hM82 (i := 3) rfl hy16_ rfl (by simp) (rfl) (rfl) (by first | omega | (simp; omega)) (by omega) fun v83 w83 r83 u83 (hs83 : SlS tdC 2 52 v83 (ts ++ [(⟨none, 0, 0, 1000 + (i : Nat), l78_⟩ : Td)]) r83) (hM83 : Mem w [] w83 [r8_, rs21, NS, r83, [⟨b45, 49, [.int .i64 ((al.getD i az).op), .int .i64 ((al.getD i az).a), .int .i64 ((al.getD i az).b), .int .i64 ((al.getD i az).c), .int .i64 ((al.getD i az).d)]⟩], r'78]) => ?_
              refine stp (v := v83) (o_mv rfl) ?_
              refine h42 _ _ ?_
              clear h42
              refine stp (v := .int .i64 (i : Nat)) (o_mv rfl) ?_
              refine stp (v := .int .i64 ((i : Nat) + 1)) (o_bin rfl rfl (v_add64 (by constructor <;> omega))) ?_
              refine stp (v := .int .i64 ((i : Nat) + 1)) (o_mv rfl) ?_
              refine h38 (i + 1, (ts ++ [(⟨none, 0, 0, 1000 + (i : Nat), l78_⟩ : Td)]), NS ++ r'78, v83, r83) _ _ ⟨by first | rfl | exact v_int (by omega) | exact v_int (by simp) | exact v_int (by simp; omega), rfl, rfl, rfl, rfl, rfl, rfl, Mem.nestB ((hM83.drop 4).keep (by simp) : Mem w [] w83 [r8_, rs21, NS, r83, r'78]), Nst.app hN ⟨hs78, by have h8 := hl78; first | omega | (rw [h8]; refine Nat.le_trans (filter_le _ _) ?_; omega) | (rw [h8]; omega) | (rw [h8]; simp), hd78⟩, by rw [List.length_append, List.length_singleton]; omega, by first | exact hs83 | simpa using hs83⟩ (by (try dsimp only); omega)
        ·
          refine h33 _ _ ?_
          clear h33
          refine seq fun K84 h84 => ?_
          refine stp (v := .pointer none) (o_mv rfl) ?_
          refine m_call (Left_nil w37) rfl fun v85 w85 ⟨hr85, hu85⟩ => ?_
          have hM85 : Mem w [] w85 [r8_, rs21, NS, r16_] := hM37.pure hu85
          subst hr85
          refine stp (v := .slice none 0 0) (o_mv rfl) ?_
          refine h84 _ _ ?_
          clear h84
          refine seq fun K86 h86 => ?_
          refine stp (v := y16_) (o_mv rfl) ?_
          refine m_call (whole_ok _ ts r16_ NS w85 hy16_ hN (Mem.res2 hM85 3 2 rfl rfl (by decide)) (by omega)) rfl fun v87 w87 ⟨hr87, hm87⟩ => ?_
          have hM87 : Mem w [] w87 [r8_, rs21, [], []] := Mem.step2 hM85 3 2 rfl rfl (by decide) (hm87.keep (by simp) : Mem _ _ _ [[], []])
          subst hr87
          refine stp (v := .bool true) (o_mv rfl) ?_
          refine splitT rfl ?_
          refine stg rfl (v := .pointer none) (o_mv rfl) ?_
          refine gyesl rfl ?_
          refine m_call (Left_nil w87) rfl fun v88 w88 ⟨hr88, hu88⟩ => ?_
          have hM88 : Mem w [] w88 [r8_, rs21, [], []] := hM87.pure hu88
          subst hr88
          refine stg rfl (v := .pointer none) (o_mv rfl) ?_
          refine gyesl rfl ?_
          refine m_call (refLeft_nil w88) rfl fun v89 w89 ⟨hr89, hu89⟩ => ?_
          have hM89 : Mem w [] w89 [r8_, rs21, [], []] := hM88.pure hu89
          subst hr89
          refine gyesl rfl ?_
          refine m_call (sameFaults_ok _ _ ([] : List Flt) ([] : List Flt) w89 (Sl.rdOwn (Sl.nil 8 25) (by simp)) (Sl.rdOwn (Sl.nil 8 25) (by simp)) (by first | omega | (simp; done) | (simp; omega) | (refine Nat.le_trans (filter_le _ _) ?_; omega))) rfl fun v90 w90 ⟨hr90, hu90⟩ => ?_
          have hM90 : Mem w [] w90 [r8_, rs21, [], []] := hM89.pure hu90
          obtain rfl : v90 = .bool true := hr90.trans (by simp)
          clear hr90
          refine stp (v := .bool true) (o_pickT rfl rfl) ?_
          refine stp (v := .bool true) (o_mv rfl) ?_
          refine splitT rfl ?_
          refine stg rfl (v := .pointer none) (o_mv rfl) ?_
          refine stg rfl (v := .bool true) (o_isnil rfl rfl) ?_
          refine stg rfl (v := .bool true) (o_mv rfl) ?_
          refine splitT rfl ?_
          refine stg rfl (v := .slice none 0 0) (o_mv rfl) ?_
          refine stg rfl (v := .int .i64 0) (o_len rfl rfl) ?_
          refine stg rfl (v := .bool true) (o_bin rfl rfl v_eqT) ?_
          refine stg rfl (v := .bool true) (o_pickT rfl rfl) ?_
          refine stg rfl (v := .bool true) (o_mv rfl) ?_
          refine splitT rfl ?_
          refine gno rfl (by simp) ?_
          refine gno rfl (by simp) ?_
          refine gno rfl (by simp) ?_
          refine splitU rfl ?_
          refine gnou rfl ?_
          refine gnou rfl ?_
          refine gnolu rfl ?_
          refine gno rfl (by simp) ?_
          refine stg rfl (v := .bool true) (o_pickT rfl rfl) ?_
          refine stp (v := .bool true) (o_pickT rfl rfl) ?_
          refine stp (v := .bool true) (o_mv rfl) ?_
          refine h86 _ _ ?_
          clear h86
          refine ⟨(.bool true), rfl, ?_⟩
          exact ⟨rfl, hM90.upd⟩

theorem FaultPlans_ok (x : Value) (l : List Flt) (y : Value) (al : List Ask) (w : World) (hx : RdS fltC w x l) (hok : ∀ f ∈ l, f.ok) (hl : l.length * 64 ≤ 140737488351232) (hy : RdS askC w y al) (hoka : ∀ f ∈ al, f.ok) (hla : al.length * 40 ≤ 140737488351232) : Calls Try.prog 4 [x, y].toArray w (Rt fun r w' => r = .bool true ∧ Upd [] w w') := by
  by_cases h : check l = 0
  · exact FaultPlans_good x l y al w h hx hok hl hy hoka hla
  · exact FaultPlans_bad x l y al w h hx hok hl hy hoka hla
theorem FaultPlans_row (x : Value) (l : List Flt) (y : Value) (al : List Ask) (w : World) (hx : RdS fltC w x l) (hok : ∀ f ∈ l, f.ok) (hl : l.length * 64 ≤ 140737488351232) (hy : RdS askC w y al) (hoka : ∀ f ∈ al, f.ok) (hla : al.length * 40 ≤ 140737488351232) : Calls Try.prog 4 [x, y].toArray w (Rt fun r w' => r = .bool true ∧ Upd [] w w') := FaultPlans_ok x l y al w hx hok hl hy hoka hla
