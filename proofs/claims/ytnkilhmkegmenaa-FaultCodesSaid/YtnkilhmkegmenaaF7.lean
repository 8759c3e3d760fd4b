/- The class of damage. -/
import Derived.Test.YtnkilhmkegmenaaF6
import Derived.Test.YtnkilhmkegmenaaF3
namespace Go.Proofs.Ytnkilhmkegmenaa.E
open Go
theorem PlanS.ptr {t : TypeId} {p : Value} {l : List Flt} {r : List Ent} (h : PlanS t p l r) : ∃ b, p = .pointer (some ⟨b, 0, none⟩) := by
  obtain ⟨b, _, _, h, _⟩ := h; exact ⟨b, h⟩
theorem works_list : check [⟨0, 0, 1, 1, 0, 0, 9, 0⟩] = 0 := by decide +kernel
theorem works_ok1 : ∀ x ∈ ([⟨0, 0, 1, 1, 0, 0, 9, 0⟩] : List Flt), x.ok := by
  intro x hx; rw [List.mem_singleton.1 hx]; simp only [Flt.ok, inK]; omega
theorem works_dmg : damage [0] ⟨1, 0, 0, 1, 0, 0, 3, 1⟩ = [8] := by decide +kernel
theorem works_fok : Flt.ok ⟨1, 0, 0, 1, 0, 0, 3, 1⟩ := by simp only [Flt.ok, inK]; omega

/-- (*fault.Plan).take -/
theorem take_nil (g : Value) (w : World) : Calls Try.prog 39 [.pointer none, g].toArray w (Rt fun r w' => r = .slice none 0 0 ∧ Upd [] w w') := by
  have hM0 : Mem w [] w [] := Mem.nil w []
  refine calls_vc mixed Try.func39 rfl C39 (by simp [Try.ntmps39]) ?_
  refine seq fun K1 h1 => ?_
  refine stp (v := .slice none 0 0) (o_mv rfl) ?_
  refine h1 _ _ ?_
  clear h1
  refine seq fun K2 h2 => ?_
  refine seq fun K3 h3 => ?_
  refine stp (v := .pointer none) (o_mv rfl) ?_
  refine stp (v := .bool true) (o_isnil rfl rfl) ?_
  refine h3 _ _ ?_
  clear h3
  refine cndT rfl ?_
  refine seq fun K4 h4 => ?_
  refine stp (v := .slice none 0 0) (o_mv rfl) ?_
  refine h4 _ _ ?_
  clear h4
  refine ⟨(.slice none 0 0), rfl, ?_⟩
  exact ⟨rfl, hM0.upd⟩

/-- (*fault.Plan).Stop -/
theorem Stop_nil (k t a : Int) (w : World) : Calls Try.prog 16 [.pointer none, .int .i64 k, .int .i64 t, .int .i64 a].toArray w (Rt fun r w' => r = .tuple [.int .i64 0, .bool false].toArray ∧ Upd [] w w') := by
  have hM0 : Mem w [] w [] := Mem.nil w []
  refine calls_vc mixed Try.func16 rfl C16 (by simp [Try.ntmps16]) ?_
  refine seq fun K1 h1 => ?_
  refine stp (v := .int .i64 0) (o_mv rfl) ?_
  refine stp (v := .bool false) (o_mv rfl) ?_
  refine h1 _ _ ?_
  clear h1
  refine seq fun K2 h2 => ?_
  refine stp (v := .int .i64 k) (o_mv rfl) ?_
  refine stp (v := .int .i64 t) (o_mv rfl) ?_
  refine stp (v := .int .i64 a) (o_mv rfl) ?_
  refine stp (v := .agg ([.int .i64 0, .int .i64 k, .int .i64 t, .int .i64 a] : List Value).toArray) (o_bld rfl rfl) ?_
  refine m_al hM0 fun b3 w4 (hM4 : Mem w [] w4 [[⟨b3, 68, [.int .i64 0, .int .i64 0, .int .i64 0, .int .i64 0]⟩]]) => ?_
  refine m_stA (l := [.int .i64 0, .int .i64 k, .int .i64 t, .int .i64 a]) hM4 (i := 0) rfl rfl rfl rfl (by simp [oneCells, Value.oneCell', byteV]) (by simp) fun w5 (hM5 : Mem w [] w5 [[⟨b3, 68, [.int .i64 0, .int .i64 k, .int .i64 t, .int .i64 a]⟩]]) => ?_
  refine h2 _ _ ?_
  clear h2
  refine seq fun K6 h6 => ?_
  refine stp (v := .pointer none) (o_mv rfl) ?_
  refine stp (v := .func (.func 40) [].toArray [.pointer (some ⟨b3, 0, none⟩)].toArray) (o_mkf rfl) ?_
  refine m_call (take_nil _ w5) rfl fun v7 w7 ⟨hr7, hu7⟩ => ?_
  have hM7 : Mem w [] w7 [[⟨b3, 68, [.int .i64 0, .int .i64 k, .int .i64 t, .int .i64 a]⟩]] := hM5.pure hu7
  subst hr7
  refine stp (v := .slice none 0 0) (o_mv rfl) ?_
  refine h6 _ _ ?_
  clear h6
  refine seq fun K8 h8 => ?_
  refine seq fun K9 h9 => ?_
  refine stp (v := .slice none 0 0) (o_mv rfl) ?_
  refine stp (v := .int .i64 0) (o_len rfl rfl) ?_
  refine stp (v := .bool true) (o_bin rfl rfl v_eqT) ?_
  refine h9 _ _ ?_
  clear h9
  refine cndT rfl ?_
  refine seq fun K10 h10 => ?_
  refine stp (v := .int .i64 0) (o_mv rfl) ?_
  refine stp (v := .bool false) (o_mv rfl) ?_
  refine h10 _ _ ?_
  clear h10
  refine ⟨(.tuple [.int .i64 0, .bool false].toArray), rfl, ?_⟩
  exact ⟨rfl, hM7.upd⟩

/-- (*fault.Plan).Due -/
theorem Due_nil (a b c d : Int) (w : World) : Calls Try.prog 17 [.pointer none, .int .i64 a, .int .i64 b, .int .i64 c, .int .i64 d].toArray w (Rt fun r w' => r = .slice none 0 0 ∧ Upd [] w w') := by
  have hM0 : Mem w [] w [] := Mem.nil w []
  refine calls_vc mixed Try.func17 rfl C17 (by simp [Try.ntmps17]) ?_
  refine seq fun K1 h1 => ?_
  refine m_bx (v := .int .i64 a) hM0 rfl rfl fun b2 w3 (hM3 : Mem w [] w3 [[⟨b2, 3, [.int .i64 a]⟩]]) => ?_
  refine m_bx (v := .int .i64 b) hM3 rfl rfl fun b4 w5 (hM5 : Mem w [] w5 [[⟨b2, 3, [.int .i64 a]⟩], [⟨b4, 3, [.int .i64 b]⟩]]) => ?_
  refine m_bx (v := .int .i64 c) hM5 rfl rfl fun b6 w7 (hM7 : Mem w [] w7 [[⟨b2, 3, [.int .i64 a]⟩], [⟨b4, 3, [.int .i64 b]⟩], [⟨b6, 3, [.int .i64 c]⟩]]) => ?_
  refine m_bx (v := .int .i64 d) hM7 rfl rfl fun b8 w9 (hM9 : Mem w [] w9 [[⟨b2, 3, [.int .i64 a]⟩], [⟨b4, 3, [.int .i64 b]⟩], [⟨b6, 3, [.int .i64 c]⟩], [⟨b8, 3, [.int .i64 d]⟩]]) => ?_
  refine stp (v := .slice none 0 0) (o_mv rfl) ?_
  refine h1 _ _ ?_
  clear h1
  refine seq fun K10 h10 => ?_
  refine stp (v := .pointer none) (o_mv rfl) ?_
  refine stp (v := .func (.func 42) [].toArray [.pointer (some ⟨b2, 0, none⟩), .pointer (some ⟨b4, 0, none⟩), .pointer (some ⟨b6, 0, none⟩), .pointer (some ⟨b8, 0, none⟩)].toArray) (o_mkf rfl) ?_
  refine m_call (take_nil _ w9) rfl fun v11 w11 ⟨hr11, hu11⟩ => ?_
  have hM11 : Mem w [] w11 [[⟨b2, 3, [.int .i64 a]⟩], [⟨b4, 3, [.int .i64 b]⟩], [⟨b6, 3, [.int .i64 c]⟩], [⟨b8, 3, [.int .i64 d]⟩]] := hM9.pure hu11
  subst hr11
  refine stp (v := .slice none 0 0) (o_mv rfl) ?_
  refine h10 _ _ ?_
  clear h10
  refine ⟨(.slice none 0 0), rfl, ?_⟩
  exact ⟨rfl, hM11.upd⟩

/-- (*fault.Plan).Left -/
theorem Left_nil (w : World) : Calls Try.prog 18 [.pointer none].toArray w (Rt fun r w' => r = .slice none 0 0 ∧ Upd [] w w') := by
  have hM0 : Mem w [] w [] := Mem.nil w []
  refine calls_vc mixed Try.func18 rfl C18 (by simp [Try.ntmps18]) ?_
  refine seq fun K1 h1 => ?_
  refine stp (v := .slice none 0 0) (o_mv rfl) ?_
  refine h1 _ _ ?_
  clear h1
  refine seq fun K2 h2 => ?_
  refine seq fun K3 h3 => ?_
  refine stp (v := .pointer none) (o_mv rfl) ?_
  refine stp (v := .bool true) (o_isnil rfl rfl) ?_
  refine h3 _ _ ?_
  clear h3
  refine cndT rfl ?_
  refine seq fun K4 h4 => ?_
  refine stp (v := .slice none 0 0) (o_mv rfl) ?_
  refine h4 _ _ ?_
  clear h4
  refine ⟨(.slice none 0 0), rfl, ?_⟩
  exact ⟨rfl, hM0.upd⟩

/-- (*winnowref16.Plan).Stop -/
theorem refStop_nil (k t a : Int) (w : World) : Calls Try.prog 23 [.pointer none, .int .i64 k, .int .i64 t, .int .i64 a].toArray w (Rt fun r w' => r = .tuple [.int .i64 0, .bool false].toArray ∧ Upd [] w w') := by
  have hM0 : Mem w [] w [] := Mem.nil w []
  refine calls_vc mixed Try.func23 rfl C23 (by simp [Try.ntmps23]) ?_
  refine seq fun K1 h1 => ?_
  refine stp (v := .int .i64 0) (o_mv rfl) ?_
  refine stp (v := .bool false) (o_mv rfl) ?_
  refine h1 _ _ ?_
  clear h1
  refine seq fun K2 h2 => ?_
  refine seq fun K3 h3 => ?_
  refine stp (v := .pointer none) (o_mv rfl) ?_
  refine stp (v := .bool true) (o_isnil rfl rfl) ?_
  refine h3 _ _ ?_
  clear h3
  refine cndT rfl ?_
  refine seq fun K4 h4 => ?_
  refine stp (v := .int .i64 0) (o_mv rfl) ?_
  refine stp (v := .bool false) (o_mv rfl) ?_
  refine h4 _ _ ?_
  clear h4
  refine ⟨(.tuple [.int .i64 0, .bool false].toArray), rfl, ?_⟩
  exact ⟨rfl, hM0.upd⟩

/-- (*winnowref16.Plan).Due -/
theorem refDue_nil (a b c d : Int) (w : World) : Calls Try.prog 24 [.pointer none, .int .i64 a, .int .i64 b, .int .i64 c, .int .i64 d].toArray w (Rt fun r w' => r = .slice none 0 0 ∧ Upd [] w w') := by
  have hM0 : Mem w [] w [] := Mem.nil w []
  refine calls_vc mixed Try.func24 rfl C24 (by simp [Try.ntmps24]) ?_
  refine seq fun K1 h1 => ?_
  refine stp (v := .slice none 0 0) (o_mv rfl) ?_
  refine h1 _ _ ?_
  clear h1
  refine seq fun K2 h2 => ?_
  refine seq fun K3 h3 => ?_
  refine stp (v := .pointer none) (o_mv rfl) ?_
  refine stp (v := .bool true) (o_isnil rfl rfl) ?_
  refine h3 _ _ ?_
  clear h3
  refine cndT rfl ?_
  refine seq fun K4 h4 => ?_
  refine stp (v := .slice none 0 0) (o_mv rfl) ?_
  refine h4 _ _ ?_
  clear h4
  refine ⟨(.slice none 0 0), rfl, ?_⟩
  exact ⟨rfl, hM0.upd⟩

/-- (*winnowref16.Plan).Left -/
theorem refLeft_nil (w : World) : Calls Try.prog 26 [.pointer none].toArray w (Rt fun r w' => r = .slice none 0 0 ∧ Upd [] w w') := by
  have hM0 : Mem w [] w [] := Mem.nil w []
  refine calls_vc mixed Try.func26 rfl C26 (by simp [Try.ntmps26]) ?_
  refine seq fun K1 h1 => ?_
  refine stp (v := .slice none 0 0) (o_mv rfl) ?_
  refine h1 _ _ ?_
  clear h1
  refine seq fun K2 h2 => ?_
  refine seq fun K3 h3 => ?_
  refine stp (v := .pointer none) (o_mv rfl) ?_
  refine stp (v := .bool true) (o_isnil rfl rfl) ?_
  refine h3 _ _ ?_
  clear h3
  refine cndT rfl ?_
  refine seq fun K4 h4 => ?_
  refine stp (v := .slice none 0 0) (o_mv rfl) ?_
  refine h4 _ _ ?_
  clear h4
  refine ⟨(.slice none 0 0), rfl, ?_⟩
  exact ⟨rfl, hM0.upd⟩

/-- winnowlaw16.works -/
theorem works_ok (w : World) : Calls Try.prog 29 [].toArray w (Rt fun r w' => r = .bool true ∧ Upd [] w w') := by
  have hM0 : Mem w [] w [] := Mem.nil w []
  have hc := works_list
  have hok := works_ok1
  have hok2 := works_fok
  refine calls_vc mixed Try.func29 rfl C29 (by simp [Try.ntmps29]) ?_
  refine seq fun K1 h1 => ?_
  refine stp (v := .bool false) (o_mv rfl) ?_
  refine h1 _ _ ?_
  clear h1
  refine seq fun K2 h2 => ?_
  refine stp (v := .agg ([.int .i64 0, .int .i64 0, .int .i64 1, .int .i64 1, .int .i64 0, .int .i64 0, .int .i64 9, .int .u32 0] : List Value).toArray) (o_bld rfl rfl) ?_
  refine m_bs hM0 rfl fun b3 w4 (hM4 : Mem w [] w4 [[⟨b3, 25, [.int .i64 0, .int .i64 0, .int .i64 1, .int .i64 1, .int .i64 0, .int .i64 0, .int .i64 9, .int .u32 0]⟩]]) => ?_
  refine m_call (New_good _ ([(⟨0, 0, 1, 1, 0, 0, 9, 0⟩ : Flt)]) w4 (own_rdS (enc := fltC) (l := [(⟨0, 0, 1, 1, 0, 0, 9, 0⟩ : Flt)]) (hM4.at (i := 0) (j := 0) rfl rfl) rfl) (by first | exact hok | assumption) (by first | omega | (simp; done) | (simp; omega)) (by first | exact hc | assumption)) rfl fun v5 w5 ⟨v_5, rs5, hr5, hp5, hm5⟩ => ?_
  have hM5 : Mem w [] w5 [[⟨b3, 25, [.int .i64 0, .int .i64 0, .int .i64 1, .int .i64 1, .int .i64 0, .int .i64 0, .int .i64 9, .int .u32 0]⟩], rs5] := hM4.add hm5
  subst hr5
  obtain ⟨bp5, rfl⟩ := PlanS.ptr hp5
  refine stp (v := .tuple [.pointer (some ⟨bp5, 0, none⟩), .int .i64 0].toArray) (o_mv rfl) ?_
  refine stp (v := .pointer (some ⟨bp5, 0, none⟩)) (o_ext rfl rfl) ?_
  refine stp (v := .int .i64 0) (o_ext rfl rfl) ?_
  refine stp (v := .pointer (some ⟨bp5, 0, none⟩)) (o_mv rfl) ?_
  refine stp (v := .int .i64 0) (o_mv rfl) ?_
  refine h2 _ _ ?_
  clear h2
  refine seq fun K6 h6 => ?_
  refine stp (v := .pointer (some ⟨bp5, 0, none⟩)) (o_mv rfl) ?_
  refine m_call (Stop_ok _ ([(⟨0, 0, 1, 1, 0, 0, 9, 0⟩ : Flt)]) rs5 0 1 1 w5 hp5 (hM5.res (i := 1) rfl) (by first | assumption | omega | (simp; done) | (simp; omega) | decide +kernel)) rfl fun v7 w7 ⟨r'7, hr7, hp7, hm7⟩ => ?_
  have hM7 : Mem w [] w7 [[⟨b3, 25, [.int .i64 0, .int .i64 0, .int .i64 1, .int .i64 1, .int .i64 0, .int .i64 0, .int .i64 9, .int .u32 0]⟩], r'7] := hM5.step 1 rfl hm7
  subst hr7
  refine stp (v := .tuple [.int .i64 ((stopV ([(⟨0, 0, 1, 1, 0, 0, 9, 0⟩ : Flt)]) (0, 0, 1, 1)).1), .bool ((stopV ([(⟨0, 0, 1, 1, 0, 0, 9, 0⟩ : Flt)]) (0, 0, 1, 1)).2)].toArray) (o_mv rfl) ?_
  refine stp (v := .int .i64 ((stopV ([(⟨0, 0, 1, 1, 0, 0, 9, 0⟩ : Flt)]) (0, 0, 1, 1)).1)) (o_ext rfl rfl) ?_
  refine stp (v := .bool ((stopV ([(⟨0, 0, 1, 1, 0, 0, 9, 0⟩ : Flt)]) (0, 0, 1, 1)).2)) (o_ext rfl rfl) ?_
  refine stp (v := .int .i64 ((stopV ([(⟨0, 0, 1, 1, 0, 0, 9, 0⟩ : Flt)]) (0, 0, 1, 1)).1)) (o_mv rfl) ?_
  refine stp (v := .bool ((stopV ([(⟨0, 0, 1, 1, 0, 0, 9, 0⟩ : Flt)]) (0, 0, 1, 1)).2)) (o_mv rfl) ?_
  refine h6 _ _ ?_
  clear h6
  refine seq fun K8 h8 => ?_
  refine stp (v := .pointer (some ⟨bp5, 0, none⟩)) (o_mv rfl) ?_
  refine m_call (Stop_ok _ (([(⟨0, 0, 1, 1, 0, 0, 9, 0⟩ : Flt)]).filter (!stopQ (0, 0, 1, 1) ·)) r'7 0 1 1 w7 hp7 (hM7.res (i := 1) rfl) (by first | assumption | omega | (simp; done) | (simp; omega) | decide +kernel)) rfl fun v9 w9 ⟨r'9, hr9, hp9, hm9⟩ => ?_
  have hM9 : Mem w [] w9 [[⟨b3, 25, [.int .i64 0, .int .i64 0, .int .i64 1, .int .i64 1, .int .i64 0, .int .i64 0, .int .i64 9, .int .u32 0]⟩], r'9] := hM7.step 1 rfl hm9
  subst hr9
  refine stp (v := .tuple [.int .i64 ((stopV (([(⟨0, 0, 1, 1, 0, 0, 9, 0⟩ : Flt)]).filter (!stopQ (0, 0, 1, 1) ·)) (0, 0, 1, 1)).1), .bool ((stopV (([(⟨0, 0, 1, 1, 0, 0, 9, 0⟩ : Flt)]).filter (!stopQ (0, 0, 1, 1) ·)) (0, 0, 1, 1)).2)].toArray) (o_mv rfl) ?_
  refine stp (v := .int .i64 ((stopV (([(⟨0, 0, 1, 1, 0, 0, 9, 0⟩ : Flt)]).filter (!stopQ (0, 0, 1, 1) ·)) (0, 0, 1, 1)).1)) (o_ext rfl rfl) ?_
  refine stp (v := .bool ((stopV (([(⟨0, 0, 1, 1, 0, 0, 9, 0⟩ : Flt)]).filter (!stopQ (0, 0, 1, 1) ·)) (0, 0, 1, 1)).2)) (o_ext rfl rfl) ?_
  refine stp (v := .int .i64 ((stopV (([(⟨0, 0, 1, 1, 0, 0, 9, 0⟩ : Flt)]).filter (!stopQ (0, 0, 1, 1) ·)) (0, 0, 1, 1)).1)) (o_mv rfl) ?_
  refine stp (v := .bool ((stopV (([(⟨0, 0, 1, 1, 0, 0, 9, 0⟩ : Flt)]).filter (!stopQ (0, 0, 1, 1) ·)) (0, 0, 1, 1)).2)) (o_mv rfl) ?_
  refine h8 _ _ ?_
  clear h8
  refine seq fun K10 h10 => ?_
  refine m_bs hM9 rfl fun b11 w12 (hM12 : Mem w [] w12 [[⟨b3, 25, [.int .i64 0, .int .i64 0, .int .i64 1, .int .i64 1, .int .i64 0, .int .i64 0, .int .i64 9, .int .u32 0]⟩], r'9, [⟨b11, 5, [.int .u8 0]⟩]]) => ?_
  refine stp (v := .agg ([.int .i64 1, .int .i64 0, .int .i64 0, .int .i64 1, .int .i64 0, .int .i64 0, .int .i64 3, .int .u32 1] : List Value).toArray) (o_bld rfl rfl) ?_
  refine m_call (Damage_ok _ ([0]) (⟨1, 0, 0, 1, 0, 0, 3, 1⟩ : Flt) w12 (own_rdE (E := byteV) (l := [0]) (hM12.at (i := 2) (j := 0) rfl rfl) rfl) (by first | assumption | omega) (by first | omega | (simp; done) | (simp; omega))) rfl fun v13 w13 ⟨rs13, hs13, hm13⟩ => ?_
  have hM13 : Mem w [] w13 [[⟨b3, 25, [.int .i64 0, .int .i64 0, .int .i64 1, .int .i64 1, .int .i64 0, .int .i64 0, .int .i64 9, .int .u32 0]⟩], r'9, [⟨b11, 5, [.int .u8 0]⟩], rs13] := hM12.add hm13
  have hdl13 := damage_length ([0]) (⟨1, 0, 0, 1, 0, 0, 3, 1⟩ : Flt)
  rw [works_dmg] at hs13
  refine stp (v := v13) (o_mv rfl) ?_
  refine h10 _ _ ?_
  clear h10
  refine seq fun K14 h14 => ?_
  refine stp (v := .int .i64 0) (o_mv rfl) ?_
  refine stp (v := .bool true) (o_bin rfl rfl v_eqT) ?_
  refine stp (v := .bool true) (o_mv rfl) ?_
  refine splitT rfl ?_
  refine stg rfl (v := .bool ((stopV ([(⟨0, 0, 1, 1, 0, 0, 9, 0⟩ : Flt)]) (0, 0, 1, 1)).2)) (o_mv rfl) ?_
  refine stp (v := .bool ((stopV ([(⟨0, 0, 1, 1, 0, 0, 9, 0⟩ : Flt)]) (0, 0, 1, 1)).2)) (o_pickT rfl rfl) ?_
  refine stp (v := .bool ((stopV ([(⟨0, 0, 1, 1, 0, 0, 9, 0⟩ : Flt)]) (0, 0, 1, 1)).2)) (o_mv rfl) ?_
  refine split rfl (fun c15 => ?_) (fun c15 => absurd ((show ((stopV ([(⟨0, 0, 1, 1, 0, 0, 9, 0⟩ : Flt)]) (0, 0, 1, 1)).2) = true from (by decide +kernel)).symm.trans c15) (by decide))
  refine stg rfl (v := .bool ((stopV (([(⟨0, 0, 1, 1, 0, 0, 9, 0⟩ : Flt)]).filter (!stopQ (0, 0, 1, 1) ·)) (0, 0, 1, 1)).2)) (o_mv rfl) ?_
  refine stg rfl (v := .bool (!((stopV (([(⟨0, 0, 1, 1, 0, 0, 9, 0⟩ : Flt)]).filter (!stopQ (0, 0, 1, 1) ·)) (0, 0, 1, 1)).2))) (o_not rfl rfl) ?_
  refine stp (v := .bool (!((stopV (([(⟨0, 0, 1, 1, 0, 0, 9, 0⟩ : Flt)]).filter (!stopQ (0, 0, 1, 1) ·)) (0, 0, 1, 1)).2))) (o_pickT rfl rfl) ?_
  refine stp (v := .bool (!((stopV (([(⟨0, 0, 1, 1, 0, 0, 9, 0⟩ : Flt)]).filter (!stopQ (0, 0, 1, 1) ·)) (0, 0, 1, 1)).2))) (o_mv rfl) ?_
  refine split rfl (fun c16 => ?_) (fun c16 => absurd ((show (!((stopV (([(⟨0, 0, 1, 1, 0, 0, 9, 0⟩ : Flt)]).filter (!stopQ (0, 0, 1, 1) ·)) (0, 0, 1, 1)).2)) = true from (by decide +kernel)).symm.trans c16) (by decide))
  refine stg rfl (v := .int .i64 ((stopV ([(⟨0, 0, 1, 1, 0, 0, 9, 0⟩ : Flt)]) (0, 0, 1, 1)).1)) (o_mv rfl) ?_
  refine stg rfl (v := .bool (decide (((stopV ([(⟨0, 0, 1, 1, 0, 0, 9, 0⟩ : Flt)]) (0, 0, 1, 1)).1) = 9))) (o_bin rfl rfl rfl) ?_
  refine stp (v := .bool (decide (((stopV ([(⟨0, 0, 1, 1, 0, 0, 9, 0⟩ : Flt)]) (0, 0, 1, 1)).1) = 9))) (o_pickT rfl rfl) ?_
  refine stp (v := .bool (decide (((stopV ([(⟨0, 0, 1, 1, 0, 0, 9, 0⟩ : Flt)]) (0, 0, 1, 1)).1) = 9))) (o_mv rfl) ?_
  refine splitP rfl (fun c17 => ?_) (fun c17 => (c17 (by decide +kernel)).elim)
  refine stg rfl (v := v13) (o_mv rfl) ?_
  refine gyesl rfl ?_
  refine m_bs hM13 rfl fun b18 w19 (hM19 : Mem w [] w19 [[⟨b3, 25, [.int .i64 0, .int .i64 0, .int .i64 1, .int .i64 1, .int .i64 0, .int .i64 0, .int .i64 9, .int .u32 0]⟩], r'9, [⟨b11, 5, [.int .u8 0]⟩], rs13, [⟨b18, 5, [.int .u8 8]⟩]]) => ?_
  refine gyesl rfl ?_
  refine m_call (same_ok _ _ ([8]) ([8]) w19 (hs13.rd hM19 (i := 3) rfl) (own_rdE (E := byteV) (l := [8]) (hM19.at (i := 4) (j := 0) rfl rfl) rfl) (by first | omega | (simp; done) | (simp; omega))) rfl fun v20 w20 ⟨hr20, hu20⟩ => ?_
  have hM20 : Mem w [] w20 [[⟨b3, 25, [.int .i64 0, .int .i64 0, .int .i64 1, .int .i64 1, .int .i64 0, .int .i64 0, .int .i64 9, .int .u32 0]⟩], r'9, [⟨b11, 5, [.int .u8 0]⟩], rs13, [⟨b18, 5, [.int .u8 8]⟩]] := hM19.pure hu20
  obtain rfl : v20 = .bool true := hr20.trans (by simp)
  clear hr20
  refine stp (v := .bool true) (o_pickT rfl rfl) ?_
  refine stp (v := .bool true) (o_mv rfl) ?_
  refine h14 _ _ ?_
  clear h14
  refine ⟨(.bool true), rfl, ?_⟩
  exact ⟨rfl, hM20.upd⟩

theorem check_one (f : Flt) : check [f] = if goodP f then 0 else 160 := by
  unfold check
  rw [if_neg (by simp)]
  have : fine [f] ↔ goodP f := by
    constructor
    · intro h; exact (h 0 (by simp)).1
    · intro h i hi
      have : i = 0 := by simpa using hi
      subst this
      exact ⟨h, fun k hk => by omega⟩
  by_cases h : goodP f
  · rw [if_pos h, if_pos (this.2 h)]
  · rw [if_neg h, if_neg (fun k => h (this.1 k))]
theorem check_good {f : Flt} (h : goodP f) : check [f] = 0 := by rw [check_one, if_pos h]
theorem check_bad {f : Flt} (h : ¬ goodP f) : ¬ check [f] = 0 := by rw [check_one, if_neg h]; omega

def difb (a b : List UInt8) (k : Nat) : Bool := (a.getD (k / 8) 0 ^^^ b.getD (k / 8) 0).toNat.testBit (k % 8)
theorem set_get {c : List UInt8} {j k : Nat} {q : UInt8} (h : j < c.length) : (c.set j q).getD k 0 = if j = k then q else c.getD k 0 := by
  rw [List.getD_eq_getElem?_getD, List.getElem?_set]
  split
  · rename_i e; subst e; first | rfl | (rw [if_pos h]; rfl)
  · rw [List.getD_eq_getElem?_getD]
theorem bit_pow {bit n k : Nat} (hb : bit ≤ 1) (hn : n < 8) : ((bit * 2 ^ n).toUInt8).toNat.testBit k = (decide (bit = 1) && decide (n = k)) := by
  have h1 : bit * 2 ^ n < 256 := by
    have h2 : 2 ^ n ≤ 128 := by
      calc 2 ^ n ≤ 2 ^ 7 := Nat.pow_le_pow_right (by omega) (by omega)
        _ = 128 := by decide
    have := Nat.mul_le_mul hb h2
    omega
  have e : ((bit * 2 ^ n).toUInt8).toNat = bit * 2 ^ n := by simp; omega
  rw [e]
  rcases (show bit = 0 ∨ bit = 1 by omega) with rfl | rfl
  · simp
  · rw [Nat.one_mul, Nat.testBit_two_pow]; simp
theorem flips_dif {b : List UInt8} {p m : Nat} : ∀ (i k : Nat), k < 8 * b.length → difb (flips b p m i) b k = (decide (p ≤ k ∧ k < p + i) && decide (mb m (k - p) = 1)) := by
  intro i
  induction i with
  | zero => intro k hk; simp only [flips, difb, UInt8.xor_self]; rw [decide_eq_false (by omega)]; simp
  | succ i ih =>
    intro k hk
    by_cases h : p + i < 8 * b.length
    · rw [flips_in h]
      have hl := flips_length b p m i
      have hj : (p + i) / 8 < (flips b p m i).length := by omega
      unfold difb flipStep
      rw [set_get hj]
      by_cases e : (p + i) / 8 = k / 8
      · rw [if_pos e, e]
        have hx : ∀ x y z : UInt8, (x ^^^ y ^^^ z) = (x ^^^ z) ^^^ y := fun x y z => by
          rw [UInt8.xor_assoc, UInt8.xor_comm y z, ← UInt8.xor_assoc]
        rw [hx, UInt8.toNat_xor, Nat.testBit_xor, bit_pow (mb_le m i) (by omega)]
        have h2 := ih k hk
        unfold difb at h2
        rw [h2]
        by_cases c : k = p + i
        · subst c
          rw [decide_eq_false (show ¬ (p ≤ p + i ∧ p + i < p + i) by omega), decide_eq_true (show p ≤ p + i ∧ p + i < p + (i + 1) by omega), decide_eq_true (show (p + i) % 8 = (p + i) % 8 from rfl), show p + i - p = i by omega]
          simp
        · have c2 : ¬ (p + i) % 8 = k % 8 := by omega
          rw [decide_eq_false c2]
          by_cases c3 : p ≤ k ∧ k < p + i
          · rw [decide_eq_true c3, decide_eq_true (show p ≤ k ∧ k < p + (i + 1) by omega)]; simp
          · rw [decide_eq_false c3, decide_eq_false (show ¬ (p ≤ k ∧ k < p + (i + 1)) by omega)]; simp
      · rw [if_neg e]
        have h2 := ih k hk
        unfold difb at h2
        rw [h2]
        by_cases c3 : p ≤ k ∧ k < p + i
        · rw [decide_eq_true c3, decide_eq_true (show p ≤ k ∧ k < p + (i + 1) by omega)]
        · have : ¬ k = p + i := fun e2 => e (by rw [e2])
          rw [decide_eq_false c3, decide_eq_false (show ¬ (p ≤ k ∧ k < p + (i + 1)) by omega)]
    · rw [flips_out h, ih k hk]
      by_cases c3 : p ≤ k ∧ k < p + i
      · rw [decide_eq_true c3, decide_eq_true (show p ≤ k ∧ k < p + (i + 1) by omega)]
      · rw [decide_eq_false c3, decide_eq_false (show ¬ (p ≤ k ∧ k < p + (i + 1)) by omega)]
theorem dmg1_dif {b : List UInt8} {f : Flt} (hg : goodP f) (hk : f.kind = 1) {k : Nat} (h : k < 8 * b.length) : difb (damage b f) b k = (decide (f.at_.toNat % (8 * b.length) ≤ k ∧ k < f.at_.toNat % (8 * b.length) + 32) && decide (mb f.mask.toNat (k - f.at_.toNat % (8 * b.length)) = 1)) := by
  rw [damage_flip hg hk (by omega), flips_dif 32 k h]
theorem dmg1_in {b : List UInt8} {f : Flt} (hg : goodP f) (hk : f.kind = 1) {k : Nat} (h : k < 8 * b.length) (hd : difb (damage b f) b k = true) : f.at_.toNat % (8 * b.length) ≤ k ∧ k < f.at_.toNat % (8 * b.length) + 32 := by
  rw [dmg1_dif hg hk h, Bool.and_eq_true] at hd
  exact of_decide_eq_true hd.1
theorem dmg1_at {b : List UInt8} {f : Flt} (hf : f.ok) (hg : goodP f) (hk : f.kind = 1) (h : 0 < b.length) : difb (damage b f) b (f.at_.toNat % (8 * b.length)) = true := by
  have hm : f.mask % 2 = 1 := by simp only [goodP] at hg; omega
  have hl : f.at_.toNat % (8 * b.length) < 8 * b.length := Nat.mod_lt _ (by omega)
  simp only [Flt.ok, inK] at hf
  rw [dmg1_dif hg hk hl, decide_eq_true (by omega), Nat.sub_self]
  have : mb f.mask.toNat 0 = 1 := by unfold mb; rw [Nat.pow_zero, Nat.div_one]; omega
  rw [this]; rfl
theorem dmg1_out {b : List UInt8} {f : Flt} (hf : f.ok) (hg : goodP f) (hk : f.kind = 1) {k : Nat} (h : k < 8 * b.length) (hd : difb (damage b f) b k = false) : ¬ k = f.at_.toNat % (8 * b.length) := fun e => by
  have := dmg1_at hf hg hk (show 0 < b.length by omega)
  rw [← e, hd] at this; cases this
theorem dmg1_len {b : List UInt8} {f : Flt} (hg : goodP f) (hk : f.kind = 1) : (damage b f).length = b.length := by
  by_cases h : b.length = 0
  · rw [damage_none hk h]
  · rw [damage_flip hg hk h, flips_length]
theorem dmg2_len {b : List UInt8} {f : Flt} (hg : goodP f) (hk : f.kind = 2) : ((damage b f).length : Int) = max (b.length + f.at_) 0 := by
  by_cases h : 0 < f.at_
  · rw [damage_more hg hk h, List.length_append, List.length_replicate]; omega
  · rw [damage_less hg hk h, List.length_take]; omega
theorem dmg2_get {b : List UInt8} {f : Flt} (hg : goodP f) (hk : f.kind = 2) {i : Nat} (hi : i < (damage b f).length) : (i < b.length → (damage b f).getD i 0 = b.getD i 0) ∧ (b.length ≤ i → (damage b f).getD i 0 = 0) := by
  by_cases h : 0 < f.at_
  · rw [damage_more hg hk h] at hi ⊢
    simp only [List.length_append, List.length_replicate] at hi
    exact ⟨fun h1 => appG1 0 h1, fun h1 => by rw [appG2 0 h1, repG 0 (by omega)]⟩
  · rw [damage_less hg hk h] at hi ⊢
    rw [List.length_take] at hi
    refine ⟨fun h1 => ?_, fun h1 => by omega⟩
    rw [List.getD_eq_getElem?_getD, List.getElem?_take_of_lt (by omega), ← List.getD_eq_getElem?_getD]
theorem at_mod {a : Int} {n : Nat} (h : 0 ≤ a) : a % (8 * (n : Int)) = ((a.toNat % (8 * n) : Nat) : Int) := by
  obtain ⟨m, rfl⟩ := Int.eq_ofNat_of_zero_le h
  rfl
theorem xor_v8 (x y : UInt8) : xorI .u8 (x.toNat : Int) (y.toNat : Int) = ((x ^^^ y).toNat : Int) := by
  have hx := x.toNat_lt
  have hy := y.toNat_lt
  have h4 : x.toNat ^^^ y.toNat < 2 ^ 8 := Nat.xor_lt_two_pow hx hy
  rw [xorI_nat (k := .u8) (by simpa [IntKind.bits] using hx) (by simpa [IntKind.bits] using hy) (by simp only [inK]; omega), UInt8.toNat_xor]
theorem shr_v8 {x : UInt8} {n : Nat} {z : Int} (hz : z = ((n % 8 : Nat) : Int)) : Value.int .u8 ((x.toNat : Int).fdiv (2 ^ min z.toNat IntKind.u8.bits)) = .int .u8 ((x.toNat / 2 ^ (n % 8) : Nat) : Int) := by
  subst hz; exact v_int (shrI_nat (k := .u8) (by simp only [IntKind.bits]; omega))
theorem rem_v8 {q : Nat} : Value.int .u8 (Int.tmod (q : Int) 2) = .int .u8 ((q % 2 : Nat) : Int) := (v_rem (Int.natCast_nonneg _)).trans rfl
theorem dif_v {a b : List UInt8} {n : Nat} : binI .eql .u8 (((a.getD (n / 8) 0 ^^^ b.getD (n / 8) 0).toNat / 2 ^ (n % 8) % 2 : Nat) : Int) 1 = .bool (difb a b n) := by
  unfold difb
  rw [Nat.testBit_eq_decide_div_mod_eq]
  show Value.bool (decide (((_ : Nat) : Int) = 1)) = _
  congr 1
  rw [decide_eq_decide]
  omega

/-- winnowlaw16.FaultClass -/
theorem FaultClass_ok (x : Value) (b : List UInt8) (fl : Flt) (w : World) (hx : RdE byteV w x b) (hl : b.length ≤ 140737488351232) (hf : fl.ok) : Calls Try.prog 5 [x, .agg (fltC fl).toArray].toArray w (Rt fun r w' => r = .bool true ∧ Upd [] w w') := by
  have hM0 : Mem w [] w [] := Mem.nil w []
  have hf0 := hf
  simp only [Flt.ok, inK] at hf
  refine calls_vc mixed Try.func5 rfl C5 (by simp [Try.ntmps5]) ?_
  refine seq fun K1 h1 => ?_
  refine m_bx (v := .agg ([.int .i64 fl.kind, .int .i64 fl.tk, .int .i64 fl.task, .int .i64 fl.att, .int .i64 fl.mom, .int .i64 fl.rd, .int .i64 fl.at_, .int .u32 fl.mask] : List Value).toArray) hM0 rfl rfl fun b2 w3 (hM3 : Mem w [] w3 [[⟨b2, 25, [.int .i64 fl.kind, .int .i64 fl.tk, .int .i64 fl.task, .int .i64 fl.att, .int .i64 fl.mom, .int .i64 fl.rd, .int .i64 fl.at_, .int .u32 fl.mask]⟩]]) => ?_
  refine stp (v := .bool false) (o_mv rfl) ?_
  refine h1 _ _ ?_
  clear h1
  refine seq fun K4 h4 => ?_
  refine stp (v := x) (o_mv rfl) ?_
  refine m_ldA (l := [.int .i64 fl.kind, .int .i64 fl.tk, .int .i64 fl.task, .int .i64 fl.att, .int .i64 fl.mom, .int .i64 fl.rd, .int .i64 fl.at_, .int .u32 fl.mask]) hM3 (i := 0) (j := 0) rfl rfl rfl rfl rfl ?_
  refine m_call (Damage_ok _ b fl w3 (hx.upd hM3.upd) (by first | assumption | omega) (by first | omega | (simp; done) | (simp; omega))) rfl fun v5 w5 ⟨rs5, hs5, hm5⟩ => ?_
  have hM5 : Mem w [] w5 [[⟨b2, 25, [.int .i64 fl.kind, .int .i64 fl.tk, .int .i64 fl.task, .int .i64 fl.att, .int .i64 fl.mom, .int .i64 fl.rd, .int .i64 fl.at_, .int .u32 fl.mask]⟩], rs5] := hM3.add hm5
  have hdl5 := damage_length b fl
  refine stp (v := v5) (o_mv rfl) ?_
  refine h4 _ _ ?_
  clear h4
  refine seq fun K6 h6 => ?_
  refine seq fun K7 h7 => ?_
  refine m_ldA (l := [.int .i64 fl.kind, .int .i64 fl.tk, .int .i64 fl.task, .int .i64 fl.att, .int .i64 fl.mom, .int .i64 fl.rd, .int .i64 fl.at_, .int .u32 fl.mask]) hM5 (i := 0) (j := 0) rfl rfl rfl rfl rfl ?_
  refine m_bs hM5 rfl fun b8 w9 (hM9 : Mem w [] w9 [[⟨b2, 25, [.int .i64 fl.kind, .int .i64 fl.tk, .int .i64 fl.task, .int .i64 fl.att, .int .i64 fl.mom, .int .i64 fl.rd, .int .i64 fl.at_, .int .u32 fl.mask]⟩], rs5, [⟨b8, 25, [.int .i64 fl.kind, .int .i64 fl.tk, .int .i64 fl.task, .int .i64 fl.att, .int .i64 fl.mom, .int .i64 fl.rd, .int .i64 fl.at_, .int .u32 fl.mask]⟩]]) => ?_
  refine m_call (refCheck_ok _ ([fl]) w9 (own_rdS (enc := fltC) (l := [fl]) (hM9.at (i := 2) (j := 0) rfl rfl) rfl) (by first | assumption | (intro x hx; rw [List.mem_singleton.1 hx]; assumption)) (by first | omega | (simp; done) | (simp; omega))) rfl fun v10 w10 ⟨hr10, hu10⟩ => ?_
  have hM10 : Mem w [] w10 [[⟨b2, 25, [.int .i64 fl.kind, .int .i64 fl.tk, .int .i64 fl.task, .int .i64 fl.att, .int .i64 fl.mom, .int .i64 fl.rd, .int .i64 fl.at_, .int .u32 fl.mask]⟩], rs5, [⟨b8, 25, [.int .i64 fl.kind, .int .i64 fl.tk, .int .i64 fl.task, .int .i64 fl.att, .int .i64 fl.mom, .int .i64 fl.rd, .int .i64 fl.at_, .int .u32 fl.mask]⟩]] := hM9.pure hu10
  subst hr10
  refine stp (v := .bool (decide (¬ (check ([fl])) = 0))) (o_bin rfl rfl v_neq) ?_
  refine stp (v := .bool (decide (¬ (check ([fl])) = 0))) (o_mv rfl) ?_
  refine splitP rfl (fun c11 => ?_) (fun c11 => ?_)
  ·
    refine gno rfl (by simp) ?_
    refine gnol rfl (by simp) ?_
    refine gno rfl (by simp) ?_
    refine stp (v := .bool true) (o_pickT rfl rfl) ?_
    refine h7 _ _ ?_
    clear h7
    refine cndT rfl ?_
    refine seq fun K12 h12 => ?_
    refine stp (v := v5) (o_mv rfl) ?_
    refine stp (v := x) (o_mv rfl) ?_
    refine m_call (same_ok _ _ (damage b fl) b w10 (hs5.rd hM10 (i := 1) rfl) (hx.upd hM10.upd) (by first | omega | (simp; done) | (simp; omega))) rfl fun v13 w13 ⟨hr13, hu13⟩ => ?_
    have hM13 : Mem w [] w13 [[⟨b2, 25, [.int .i64 fl.kind, .int .i64 fl.tk, .int .i64 fl.task, .int .i64 fl.att, .int .i64 fl.mom, .int .i64 fl.rd, .int .i64 fl.at_, .int .u32 fl.mask]⟩], rs5, [⟨b8, 25, [.int .i64 fl.kind, .int .i64 fl.tk, .int .i64 fl.task, .int .i64 fl.att, .int .i64 fl.mom, .int .i64 fl.rd, .int .i64 fl.at_, .int .u32 fl.mask]⟩]] := hM10.pure hu13
    subst hr13
    refine stp (v := .bool (decide ((damage b fl) = b))) (o_mv rfl) ?_
    refine splitP rfl (fun c14 => ?_) (fun c14 => (c14 (by first | exact damage_bad (fun g => absurd (check_good g) (by assumption)) | exact damage_stop (by omega) (by omega))).elim)
    refine gyesl rfl ?_
    refine m_call (works_ok w13) rfl fun v15 w15 ⟨hr15, hu15⟩ => ?_
    have hM15 : Mem w [] w15 [[⟨b2, 25, [.int .i64 fl.kind, .int .i64 fl.tk, .int .i64 fl.task, .int .i64 fl.att, .int .i64 fl.mom, .int .i64 fl.rd, .int .i64 fl.at_, .int .u32 fl.mask]⟩], rs5, [⟨b8, 25, [.int .i64 fl.kind, .int .i64 fl.tk, .int .i64 fl.task, .int .i64 fl.att, .int .i64 fl.mom, .int .i64 fl.rd, .int .i64 fl.at_, .int .u32 fl.mask]⟩]] := hM13.pure hu15
    subst hr15
    refine stp (v := .bool true) (o_pickT rfl rfl) ?_
    refine stp (v := .bool true) (o_mv rfl) ?_
    refine h12 _ _ ?_
    clear h12
    refine ⟨(.bool true), rfl, ?_⟩
    exact ⟨rfl, hM15.upd⟩
  ·
    refine stg rfl (v := .pointer (some ⟨b2, 0, none⟩)) (o_fa rfl rfl) ?_
    refine gyesl rfl ?_
    refine m_ld (v := .int .i64 fl.kind) hM10 (i := 0) (j := 0) rfl rfl rfl rfl ?_
    refine stg rfl (v := .bool (decide (fl.kind = 0))) (o_bin rfl rfl rfl) ?_
    refine stp (v := .bool (decide (fl.kind = 0))) (o_pickF rfl rfl) ?_
    refine h7 _ _ ?_
    clear h7
    refine cndP rfl (fun c16 => ?_) (fun c16 => ?_)
    ·
      refine seq fun K17 h17 => ?_
      refine stp (v := v5) (o_mv rfl) ?_
      refine stp (v := x) (o_mv rfl) ?_
      refine m_call (same_ok _ _ (damage b fl) b w10 (hs5.rd hM10 (i := 1) rfl) (hx.upd hM10.upd) (by first | omega | (simp; done) | (simp; omega))) rfl fun v18 w18 ⟨hr18, hu18⟩ => ?_
      have hM18 : Mem w [] w18 [[⟨b2, 25, [.int .i64 fl.kind, .int .i64 fl.tk, .int .i64 fl.task, .int .i64 fl.att, .int .i64 fl.mom, .int .i64 fl.rd, .int .i64 fl.at_, .int .u32 fl.mask]⟩], rs5, [⟨b8, 25, [.int .i64 fl.kind, .int .i64 fl.tk, .int .i64 fl.task, .int .i64 fl.att, .int .i64 fl.mom, .int .i64 fl.rd, .int .i64 fl.at_, .int .u32 fl.mask]⟩]] := hM10.pure hu18
      subst hr18
      refine stp (v := .bool (decide ((damage b fl) = b))) (o_mv rfl) ?_
      refine splitP rfl (fun c19 => ?_) (fun c19 => (c19 (by first | exact damage_bad (fun g => absurd (check_good g) (by assumption)) | exact damage_stop (by omega) (by omega))).elim)
      refine gyesl rfl ?_
      refine m_call (works_ok w18) rfl fun v20 w20 ⟨hr20, hu20⟩ => ?_
      have hM20 : Mem w [] w20 [[⟨b2, 25, [.int .i64 fl.kind, .int .i64 fl.tk, .int .i64 fl.task, .int .i64 fl.att, .int .i64 fl.mom, .int .i64 fl.rd, .int .i64 fl.at_, .int .u32 fl.mask]⟩], rs5, [⟨b8, 25, [.int .i64 fl.kind, .int .i64 fl.tk, .int .i64 fl.task, .int .i64 fl.att, .int .i64 fl.mom, .int .i64 fl.rd, .int .i64 fl.at_, .int .u32 fl.mask]⟩]] := hM18.pure hu20
      subst hr20
      refine stp (v := .bool true) (o_pickT rfl rfl) ?_
      refine stp (v := .bool true) (o_mv rfl) ?_
      refine h17 _ _ ?_
      clear h17
      refine ⟨(.bool true), rfl, ?_⟩
      exact ⟨rfl, hM20.upd⟩
    ·
      refine h6 _ _ ?_
      clear h6
      refine seq fun K21 h21 => ?_
      refine seq fun K22 h22 => ?_
      have hg : goodP fl := Decidable.byContradiction (fun h => check_bad h (by omega))
      have hg1 := hg
      simp only [goodP, stopP, dmgP] at hg1
      refine stp (v := .pointer (some ⟨b2, 0, none⟩)) (o_fa rfl rfl) ?_
      refine m_ld (v := .int .i64 fl.kind) hM10 (i := 0) (j := 0) rfl rfl rfl rfl ?_
      refine stp (v := .bool (decide (fl.kind = 2))) (o_bin rfl rfl rfl) ?_
      refine h22 _ _ ?_
      clear h22
      refine cndP rfl (fun c23 => ?_) (fun c23 => ?_)
      ·
        refine seq fun K24 h24 => ?_
        refine stp (v := x) (o_mv rfl) ?_
        refine stp (v := .int .i64 (b.length : Nat)) (o_lenR (hx.upd hM10.upd) rfl rfl) ?_
        refine stp (v := .pointer (some ⟨b2, 6, none⟩)) (o_fa rfl rfl) ?_
        refine m_ld (v := .int .i64 fl.at_) hM10 (i := 0) (j := 0) rfl rfl rfl rfl ?_
        refine stp (v := .int .i64 ((b.length : Nat) + fl.at_)) (o_bin rfl rfl (v_add64 (by constructor <;> omega))) ?_
        refine stp (v := .int .i64 (max ((b.length : Nat) + fl.at_ : Int) (0 : Int))) (o_mm rfl rfl rfl) ?_
        refine stp (v := .int .i64 (max ((b.length : Nat) + fl.at_ : Int) (0 : Int))) (o_mv rfl) ?_
        refine h24 _ _ ?_
        clear h24
        refine seq fun K25 h25 => ?_
        refine seq fun K26 h26 => ?_
        refine stp (v := v5) (o_mv rfl) ?_
        refine stp (v := .int .i64 ((damage b fl).length : Nat)) (o_lenR (hs5.rd hM10 (i := 1) rfl) rfl rfl) ?_
        refine stp (v := .int .i64 (max ((b.length : Nat) + fl.at_ : Int) (0 : Int))) (o_mv rfl) ?_
        refine stp (v := .bool (decide (¬ (((damage b fl).length : Nat) : Int) = (max ((b.length : Nat) + fl.at_ : Int) (0 : Int))))) (o_bin rfl rfl v_neq) ?_
        refine h26 _ _ ?_
        clear h26
        refine cndP rfl (fun c27 => absurd c27 (by have := dmg2_len (b := b) hg (by omega); omega)) (fun c27 => ?_)
        refine h25 _ _ ?_
        clear h25
        refine seq fun K28 h28 => ?_
        refine seq fun K29 h29 => ?_
        refine stp (v := .int .i64 0) (o_mv rfl) ?_
        refine h29 _ _ ?_
        clear h29
        refine lp (n := fun _ _ => False) (ι := (Nat)) (fun n f w' => f 7 = .int .i64 (n : Nat) ∧ f 0 = x ∧ f 5 = v5 ∧ Mem w [] w' [[⟨b2, 25, [.int .i64 fl.kind, .int .i64 fl.tk, .int .i64 fl.task, .int .i64 fl.att, .int .i64 fl.mom, .int .i64 fl.rd, .int .i64 fl.at_, .int .u32 fl.mask]⟩], rs5, [⟨b8, 25, [.int .i64 fl.kind, .int .i64 fl.tk, .int .i64 fl.task, .int .i64 fl.att, .int .i64 fl.mom, .int .i64 fl.rd, .int .i64 fl.at_, .int .u32 fl.mask]⟩]] ∧ (n ≤ (damage b fl).length)) (fun n => (damage b fl).length - n) (0) ?_ ?_
        · exact ⟨by first | rfl | exact v_int (by omega) | exact v_int (by simp) | exact v_int (by simp; omega), rfl, rfl, hM10, by omega⟩
        · rintro n f w30 ⟨e30_7, e30_0, e30_5, hM30, hn⟩ K31 h31
          obtain ⟨frm, rfl⟩ : ∃ frm, f = (upd (upd (upd frm 7 (.int .i64 (n : Nat))) 0 (x)) 5 (v5)) := ⟨f, by rw [upd_self e30_7, upd_self e30_0, upd_self e30_5]⟩
          clear e30_7 e30_0 e30_5
          refine seq fun K32 h32 => ?_
          refine seq fun K33 h33 => ?_
          refine stp (v := .int .i64 (n : Nat)) (o_mv rfl) ?_
          refine stp (v := v5) (o_mv rfl) ?_
          refine stp (v := .int .i64 ((damage b fl).length : Nat)) (o_lenR (hs5.rd hM30 (i := 1) rfl) rfl rfl) ?_
          refine stp (v := .bool (decide (((n : Nat) : Int) < ((damage b fl).length : Nat)))) (o_bin rfl rfl rfl) ?_
          refine h33 _ _ ?_
          clear h33
          refine cndP rfl (fun c34 => ?_) (fun c34 => ?_)
          ·
            refine h32 _ _ ?_
            clear h32
            refine seq fun K35 h35 => ?_
            refine seq fun K36 h36 => ?_
            intro wd e1 e2 e3 e4
            have hd := Upd.same e1 e2 e3 e4 []
            have hM37 := hM30.pure hd
            clear e1 e2 e3 e4
            refine ⟨none, ?_⟩
            show vd _ _ _ _ _ _ _
            refine dq (v := .int .i64 (n : Nat)) (o_mv rfl) ?_
            refine dq (v := x) (o_mv rfl) ?_
            refine dq (v := .int .i64 (b.length : Nat)) (o_lenR (hx.upd hM37.upd) rfl rfl) ?_
            refine dq (v := .bool (decide (((n : Nat) : Int) < (b.length : Nat)))) (o_bin rfl rfl rfl) ?_
            refine dq (v := .bool (decide (((n : Nat) : Int) < (b.length : Nat)))) (o_mv rfl) ?_
            refine dsplitP rfl (fun c38 => ?_) (fun c38 => ?_)
            ·
              refine dqg rfl (v := v5) (o_mv rfl) ?_
              refine dqg rfl (v := .int .i64 (n : Nat)) (o_mv rfl) ?_
              refine dgyes rfl rfl (dqp (m_idxE 0 (j := n) (hs5.rd hM37 (i := 1) rfl) rfl rfl (by omega) fun b39 o39 hp39 => ?_))
              show vd _ _ _ _ _ _ _
              refine dqg rfl (v := x) (o_mv rfl) ?_
              refine dqg rfl (v := .int .i64 (n : Nat)) (o_mv rfl) ?_
              refine dgyes rfl rfl (dqp (m_idxE 0 (j := n) (hx.upd hM37.upd) rfl rfl (by omega) fun b40 o40 hp40 => ?_))
              show vd _ _ _ _ _ _ _
              refine dqgyes rfl rfl ?_
              refine dqld rfl (trivial) (v := byteV (b.getD n 0)) (hp40) ?_
              refine dgyesl rfl ?_
              refine dl (ld (v := byteV ((damage b fl).getD n 0)) rfl (hp39) ?_)
              refine ⟨rfl, ?_⟩
              refine dqg rfl (v := .bool (decide (¬ (((damage b fl).getD n 0).toNat : Int) = ((b.getD n 0).toNat : Int)))) (o_bin rfl rfl v_neq) ?_
              refine dq (v := .bool (decide (¬ (((damage b fl).getD n 0).toNat : Int) = ((b.getD n 0).toNat : Int)))) (o_pickT rfl rfl) ?_
              refine dq (v := .bool (decide (¬ (((damage b fl).getD n 0).toNat : Int) = ((b.getD n 0).toNat : Int)))) (o_mv rfl) ?_
              refine dsplitP rfl (fun c41 => absurd c41 (fun h => h (by rw [(dmg2_get hg (by omega) (by omega)).1 (by omega)]))) (fun c41 => ?_)
              refine dqg rfl (v := .int .i64 (n : Nat)) (o_mv rfl) ?_
              refine dqg rfl (v := x) (o_mv rfl) ?_
              refine dqg rfl (v := .int .i64 (b.length : Nat)) (o_lenR (hx.upd hM37.upd) rfl rfl) ?_
              refine dqg rfl (v := .bool (decide (((b.length : Nat) : Int) ≤ ((n : Nat) : Int)))) (o_bin rfl rfl rfl) ?_
              refine dqg rfl (v := .bool (decide (((b.length : Nat) : Int) ≤ ((n : Nat) : Int)))) (o_mv rfl) ?_
              refine dsplitP rfl (fun c42 => ?_) (fun c42 => ?_)
              ·
                refine dqg rfl (v := v5) (o_mv rfl) ?_
                refine dqg rfl (v := .int .i64 (n : Nat)) (o_mv rfl) ?_
                refine dgyes rfl rfl (dqp (m_idxE 0 (j := n) (hs5.rd hM37 (i := 1) rfl) rfl rfl (by omega) fun b43 o43 hp43 => ?_))
                show vd _ _ _ _ _ _ _
                refine dgyesl rfl ?_
                refine dl (ld (v := byteV ((damage b fl).getD n 0)) rfl (hp43) ?_)
                refine ⟨rfl, ?_⟩
                refine dqg rfl (v := .bool (decide (¬ (((damage b fl).getD n 0).toNat : Int) = 0))) (o_bin rfl rfl v_neq) ?_
                refine dqg rfl (v := .bool (decide (¬ (((damage b fl).getD n 0).toNat : Int) = 0))) (o_pickT rfl rfl) ?_
                refine dq (v := .bool (decide (¬ (((damage b fl).getD n 0).toNat : Int) = 0))) (o_pickF rfl rfl) ?_
                refine h36 _ _ ?_
                clear h36
                refine cndP rfl (fun c44 => absurd c44 (fun h => h (by first | (exfalso; omega) | (rw [(dmg2_get hg (by omega) (by omega)).2 (by omega)]; rfl)))) (fun c44 => ?_)
                refine h35 _ _ ?_
                clear h35
                refine stp (v := .int .i64 (n : Nat)) (o_mv rfl) ?_
                refine stp (v := .int .i64 ((n : Nat) + 1)) (o_bin rfl rfl (v_add64 (by constructor <;> omega))) ?_
                refine stp (v := .int .i64 ((n : Nat) + 1)) (o_mv rfl) ?_
                refine h31 (n + 1) _ _ ⟨by first | rfl | exact v_int (by omega) | exact v_int (by simp) | exact v_int (by simp; omega), rfl, rfl, hM37, by omega⟩ (by (try dsimp only); omega)
              ·
                refine dgno rfl (by simp) ?_
                refine dgno rfl (by simp) ?_
                refine dgno rfl (by simp) ?_
                refine dgnol rfl (by simp) ?_
                refine dgno rfl (by simp) ?_
                refine dqg rfl (v := .bool false) (o_pickF rfl rfl) ?_
                refine dq (v := .bool false) (o_pickF rfl rfl) ?_
                refine h36 _ _ ?_
                clear h36
                refine cndF rfl ?_
                refine h35 _ _ ?_
                clear h35
                refine stp (v := .int .i64 (n : Nat)) (o_mv rfl) ?_
                refine stp (v := .int .i64 ((n : Nat) + 1)) (o_bin rfl rfl (v_add64 (by constructor <;> omega))) ?_
                refine stp (v := .int .i64 ((n : Nat) + 1)) (o_mv rfl) ?_
                refine h31 (n + 1) _ _ ⟨by first | rfl | exact v_int (by omega) | exact v_int (by simp) | exact v_int (by simp; omega), rfl, rfl, hM37, by omega⟩ (by (try dsimp only); omega)
            ·
              refine dgno rfl (by simp) ?_
              refine dgno rfl (by simp) ?_
              refine dgno rfl (by simp) ?_
              refine dgno rfl (by simp) ?_
              refine dgno rfl (by simp) ?_
              refine dgno rfl (by simp) ?_
              refine dqgno rfl (by simp) ?_
              refine dgnol rfl (by simp) ?_
              refine dgno rfl (by simp) ?_
              refine dq (v := .bool false) (o_pickF rfl rfl) ?_
              refine dq (v := .bool false) (o_mv rfl) ?_
              refine dsplitF rfl ?_
              refine dqg rfl (v := .int .i64 (n : Nat)) (o_mv rfl) ?_
              refine dqg rfl (v := x) (o_mv rfl) ?_
              refine dqg rfl (v := .int .i64 (b.length : Nat)) (o_lenR (hx.upd hM37.upd) rfl rfl) ?_
              refine dqg rfl (v := .bool (decide (((b.length : Nat) : Int) ≤ ((n : Nat) : Int)))) (o_bin rfl rfl rfl) ?_
              refine dqg rfl (v := .bool (decide (((b.length : Nat) : Int) ≤ ((n : Nat) : Int)))) (o_mv rfl) ?_
              refine dsplitP rfl (fun c45 => ?_) (fun c45 => ?_)
              ·
                refine dqg rfl (v := v5) (o_mv rfl) ?_
                refine dqg rfl (v := .int .i64 (n : Nat)) (o_mv rfl) ?_
                refine dgyes rfl rfl (dqp (m_idxE 0 (j := n) (hs5.rd hM37 (i := 1) rfl) rfl rfl (by omega) fun b46 o46 hp46 => ?_))
                show vd _ _ _ _ _ _ _
                refine dgyesl rfl ?_
                refine dl (ld (v := byteV ((damage b fl).getD n 0)) rfl (hp46) ?_)
                refine ⟨rfl, ?_⟩
                refine dqg rfl (v := .bool (decide (¬ (((damage b fl).getD n 0).toNat : Int) = 0))) (o_bin rfl rfl v_neq) ?_
                refine dqg rfl (v := .bool (decide (¬ (((damage b fl).getD n 0).toNat : Int) = 0))) (o_pickT rfl rfl) ?_
                refine dq (v := .bool (decide (¬ (((damage b fl).getD n 0).toNat : Int) = 0))) (o_pickF rfl rfl) ?_
                refine h36 _ _ ?_
                clear h36
                refine cndP rfl (fun c47 => absurd c47 (fun h => h (by first | (exfalso; omega) | (rw [(dmg2_get hg (by omega) (by omega)).2 (by omega)]; rfl)))) (fun c47 => ?_)
                refine h35 _ _ ?_
                clear h35
                refine stp (v := .int .i64 (n : Nat)) (o_mv rfl) ?_
                refine stp (v := .int .i64 ((n : Nat) + 1)) (o_bin rfl rfl (v_add64 (by constructor <;> omega))) ?_
                refine stp (v := .int .i64 ((n : Nat) + 1)) (o_mv rfl) ?_
                refine h31 (n + 1) _ _ ⟨by first | rfl | exact v_int (by omega) | exact v_int (by simp) | exact v_int (by simp; omega), rfl, rfl, hM37, by omega⟩ (by (try dsimp only); omega)
              ·
                refine dgno rfl (by simp) ?_
                refine dgno rfl (by simp) ?_
                refine dgno rfl (by simp) ?_
                refine dgnol rfl (by simp) ?_
                refine dgno rfl (by simp) ?_
                refine dqg rfl (v := .bool false) (o_pickF rfl rfl) ?_
                refine dq (v := .bool false) (o_pickF rfl rfl) ?_
                refine h36 _ _ ?_
                clear h36
                refine cndF rfl ?_
                refine h35 _ _ ?_
                clear h35
                refine stp (v := .int .i64 (n : Nat)) (o_mv rfl) ?_
                refine stp (v := .int .i64 ((n : Nat) + 1)) (o_bin rfl rfl (v_add64 (by constructor <;> omega))) ?_
                refine stp (v := .int .i64 ((n : Nat) + 1)) (o_mv rfl) ?_
                refine h31 (n + 1) _ _ ⟨by first | rfl | exact v_int (by omega) | exact v_int (by simp) | exact v_int (by simp; omega), rfl, rfl, hM37, by omega⟩ (by (try dsimp only); omega)
          ·
            refine h28 _ _ ?_
            clear h28
            refine seq fun K48 h48 => ?_
            refine m_call (works_ok w30) rfl fun v49 w49 ⟨hr49, hu49⟩ => ?_
            have hM49 : Mem w [] w49 [[⟨b2, 25, [.int .i64 fl.kind, .int .i64 fl.tk, .int .i64 fl.task, .int .i64 fl.att, .int .i64 fl.mom, .int .i64 fl.rd, .int .i64 fl.at_, .int .u32 fl.mask]⟩], rs5, [⟨b8, 25, [.int .i64 fl.kind, .int .i64 fl.tk, .int .i64 fl.task, .int .i64 fl.att, .int .i64 fl.mom, .int .i64 fl.rd, .int .i64 fl.at_, .int .u32 fl.mask]⟩]] := hM30.pure hu49
            subst hr49
            refine stp (v := .bool true) (o_mv rfl) ?_
            refine h48 _ _ ?_
            clear h48
            refine ⟨(.bool true), rfl, ?_⟩
            exact ⟨rfl, hM49.upd⟩
      ·
        refine h21 _ _ ?_
        clear h21
        refine seq fun K50 h50 => ?_
        refine seq fun K51 h51 => ?_
        refine stp (v := v5) (o_mv rfl) ?_
        refine stp (v := .int .i64 ((damage b fl).length : Nat)) (o_lenR (hs5.rd hM10 (i := 1) rfl) rfl rfl) ?_
        refine stp (v := x) (o_mv rfl) ?_
        refine stp (v := .int .i64 (b.length : Nat)) (o_lenR (hx.upd hM10.upd) rfl rfl) ?_
        refine stp (v := .bool (decide (¬ (((damage b fl).length : Nat) : Int) = (b.length : Nat)))) (o_bin rfl rfl v_neq) ?_
        refine h51 _ _ ?_
        clear h51
        refine cndP rfl (fun c52 => absurd c52 (by have := dmg1_len (b := b) hg (by omega); omega)) (fun c52 => ?_)
        refine h50 _ _ ?_
        clear h50
        refine seq fun K53 h53 => ?_
        refine stp (v := .int .i64 (-1)) (o_mv rfl) ?_
        refine h53 _ _ ?_
        clear h53
        refine seq fun K54 h54 => ?_
        refine stp (v := .int .i64 (-1)) (o_mv rfl) ?_
        refine h54 _ _ ?_
        clear h54
        refine seq fun K55 h55 => ?_
        refine seq fun K56 h56 => ?_
        refine stp (v := .int .i64 0) (o_mv rfl) ?_
        refine h56 _ _ ?_
        clear h56
        refine lp (n := fun _ _ => False) (ι := (Nat) × (Int) × (Int)) (fun ⟨n, a, z⟩ f w' => f 8 = .int .i64 a ∧ f 9 = .int .i64 z ∧ f 10 = .int .i64 (n : Nat) ∧ f 0 = x ∧ f 3 = .pointer (some ⟨b2, 0, none⟩) ∧ f 5 = v5 ∧ Mem w [] w' [[⟨b2, 25, [.int .i64 fl.kind, .int .i64 fl.tk, .int .i64 fl.task, .int .i64 fl.att, .int .i64 fl.mom, .int .i64 fl.rd, .int .i64 fl.at_, .int .u32 fl.mask]⟩], rs5, [⟨b8, 25, [.int .i64 fl.kind, .int .i64 fl.tk, .int .i64 fl.task, .int .i64 fl.att, .int .i64 fl.mom, .int .i64 fl.rd, .int .i64 fl.at_, .int .u32 fl.mask]⟩]] ∧ (n ≤ 8 * b.length) ∧ ((n ≤ (fl.at_.toNat % (8 * b.length)) → a = -1) ∧ ((fl.at_.toNat % (8 * b.length)) < n → a = ((fl.at_.toNat % (8 * b.length)) : Nat) ∧ ((fl.at_.toNat % (8 * b.length)) : Nat) ≤ z ∧ z < ((fl.at_.toNat % (8 * b.length)) : Nat) + 32))) (fun ⟨n, a, z⟩ => 8 * b.length - n) (0, -1, -1) ?_ ?_
        · exact ⟨by first | rfl | exact v_int (by omega) | exact v_int (by simp) | exact v_int (by simp; omega), by first | rfl | exact v_int (by omega) | exact v_int (by simp) | exact v_int (by simp; omega), by first | rfl | exact v_int (by omega) | exact v_int (by simp) | exact v_int (by simp; omega), rfl, rfl, rfl, hM10, by omega, ⟨fun _ => rfl, fun h => by omega⟩⟩
        · rintro ⟨n, a, z⟩ f w57 ⟨e57_8, e57_9, e57_10, e57_0, e57_3, e57_5, hM57, hn, hF⟩ K58 h58
          obtain ⟨frm, rfl⟩ : ∃ frm, f = (upd (upd (upd (upd (upd (upd frm 8 (.int .i64 a)) 9 (.int .i64 z)) 10 (.int .i64 (n : Nat))) 0 (x)) 3 (.pointer (some ⟨b2, 0, none⟩))) 5 (v5)) := ⟨f, by rw [upd_self e57_8, upd_self e57_9, upd_self e57_10, upd_self e57_0, upd_self e57_3, upd_self e57_5]⟩
          clear e57_8 e57_9 e57_10 e57_0 e57_3 e57_5
          refine seq fun K59 h59 => ?_
          refine seq fun K60 h60 => ?_
          have hdl1 := dmg1_len (b := b) hg (by omega)
          refine stp (v := .int .i64 (n : Nat)) (o_mv rfl) ?_
          refine stp (v := v5) (o_mv rfl) ?_
          refine stp (v := .int .i64 ((damage b fl).length : Nat)) (o_lenR (hs5.rd hM57 (i := 1) rfl) rfl rfl) ?_
          refine stp (v := .int .i64 (8 * ((damage b fl).length : Nat))) (o_bin rfl rfl (v_mul64 (by constructor <;> omega))) ?_
          refine stp (v := .bool (decide (((n : Nat) : Int) < (8 * ((damage b fl).length : Nat))))) (o_bin rfl rfl rfl) ?_
          refine h60 _ _ ?_
          clear h60
          refine cndP rfl (fun c61 => ?_) (fun c61 => ?_)
          ·
            refine h59 _ _ ?_
            clear h59
            refine seq fun K62 h62 => ?_
            refine seq fun K63 h63 => ?_
            intro wd e1 e2 e3 e4
            have hd := Upd.same e1 e2 e3 e4 []
            have hM64 := hM57.pure hd
            clear e1 e2 e3 e4
            refine ⟨none, ?_⟩
            show vd _ _ _ _ _ _ _
            refine dq (v := v5) (o_mv rfl) ?_
            refine dq (v := .int .i64 (n : Nat)) (o_mv rfl) ?_
            refine dq (v := .int .i64 ((n : Nat) / 8)) (o_quo rfl rfl (by omega) (v_quo (by omega) (by omega) (by simp only [inK]; omega))) ?_
            refine dqp (m_idxE 0 (j := (n / 8)) (hs5.rd hM64 (i := 1) rfl) rfl (v_int (by omega)) (by omega) fun b65 o65 hp65 => ?_)
            show vd _ _ _ _ _ _ _
            refine dq (v := x) (o_mv rfl) ?_
            refine dq (v := .int .i64 (n : Nat)) (o_mv rfl) ?_
            refine dq (v := .int .i64 ((n : Nat) / 8)) (o_quo rfl rfl (by omega) (v_quo (by omega) (by omega) (by simp only [inK]; omega))) ?_
            refine dqp (m_idxE 0 (j := (n / 8)) (hx.upd hM64.upd) rfl (v_int (by omega)) (by omega) fun b66 o66 hp66 => ?_)
            show vd _ _ _ _ _ _ _
            refine dq (v := .int .i64 (n : Nat)) (o_mv rfl) ?_
            refine dq (v := .int .i64 ((n : Nat) % 8)) (o_rem rfl rfl (by omega) (v_rem (by omega))) ?_
            refine dqld rfl (trivial) (v := byteV (b.getD (n / 8) 0)) (hp66) ?_
            refine dl (ld (v := byteV ((damage b fl).getD (n / 8) 0)) rfl (hp65) ?_)
            refine ⟨rfl, ?_⟩
            refine dq (v := .int .u8 (((damage b fl).getD (n / 8) 0 ^^^ b.getD (n / 8) 0).toNat : Int)) (o_bin rfl rfl (v_int (xor_v8 _ _))) ?_
            refine dq (v := .int .u8 (((damage b fl).getD (n / 8) 0 ^^^ b.getD (n / 8) 0).toNat / 2 ^ (n % 8) : Nat)) (o_shr rfl rfl (by omega) (shr_v8 (n := n) (by omega))) ?_
            refine dq (v := .int .u8 (((damage b fl).getD (n / 8) 0 ^^^ b.getD (n / 8) 0).toNat / 2 ^ (n % 8) % 2 : Nat)) (o_rem rfl rfl (by omega) (rem_v8)) ?_
            refine dq (v := .bool (difb (damage b fl) b n)) (o_bin rfl rfl dif_v) ?_
            refine h63 _ _ ?_
            clear h63
            refine cnd rfl (fun c67 => ?_) (fun c67 => ?_)
            ·
              refine seq fun K68 h68 => ?_
              refine seq fun K69 h69 => ?_
              refine stp (v := .int .i64 a) (o_mv rfl) ?_
              refine stp (v := .bool (decide (a < 0))) (o_bin rfl rfl rfl) ?_
              refine h69 _ _ ?_
              clear h69
              refine cndP rfl (fun c70 => ?_) (fun c70 => ?_)
              ·
                refine stp (v := .int .i64 (n : Nat)) (o_mv rfl) ?_
                refine stp (v := .int .i64 (n : Nat)) (o_mv rfl) ?_
                refine h68 _ _ ?_
                clear h68
                refine stp (v := .int .i64 (n : Nat)) (o_mv rfl) ?_
                refine stp (v := .int .i64 (n : Nat)) (o_mv rfl) ?_
                refine h62 _ _ ?_
                clear h62
                refine stp (v := .int .i64 (n : Nat)) (o_mv rfl) ?_
                refine stp (v := .int .i64 ((n : Nat) + 1)) (o_bin rfl rfl (v_add64 (by constructor <;> omega))) ?_
                refine stp (v := .int .i64 ((n : Nat) + 1)) (o_mv rfl) ?_
                refine h58 (n + 1, (n : Int), (n : Int)) _ _ ⟨by first | rfl | exact v_int (by omega) | exact v_int (by simp) | exact v_int (by simp; omega), by first | rfl | exact v_int (by omega) | exact v_int (by simp) | exact v_int (by simp; omega), by first | rfl | exact v_int (by omega) | exact v_int (by simp) | exact v_int (by simp; omega), rfl, rfl, rfl, hM64, by omega, by have h1 := dmg1_in (b := b) (k := n) hg (by omega) (by omega) (by assumption); omega⟩ (by (try dsimp only); omega)
              ·
                refine h68 _ _ ?_
                clear h68
                refine stp (v := .int .i64 (n : Nat)) (o_mv rfl) ?_
                refine stp (v := .int .i64 (n : Nat)) (o_mv rfl) ?_
                refine h62 _ _ ?_
                clear h62
                refine stp (v := .int .i64 (n : Nat)) (o_mv rfl) ?_
                refine stp (v := .int .i64 ((n : Nat) + 1)) (o_bin rfl rfl (v_add64 (by constructor <;> omega))) ?_
                refine stp (v := .int .i64 ((n : Nat) + 1)) (o_mv rfl) ?_
                refine h58 (n + 1, a, (n : Int)) _ _ ⟨by first | rfl | exact v_int (by omega) | exact v_int (by simp) | exact v_int (by simp; omega), by first | rfl | exact v_int (by omega) | exact v_int (by simp) | exact v_int (by simp; omega), by first | rfl | exact v_int (by omega) | exact v_int (by simp) | exact v_int (by simp; omega), rfl, rfl, rfl, hM64, by omega, by have h1 := dmg1_in (b := b) (k := n) hg (by omega) (by omega) (by assumption); omega⟩ (by (try dsimp only); omega)
            ·
              refine h62 _ _ ?_
              clear h62
              refine stp (v := .int .i64 (n : Nat)) (o_mv rfl) ?_
              refine stp (v := .int .i64 ((n : Nat) + 1)) (o_bin rfl rfl (v_add64 (by constructor <;> omega))) ?_
              refine stp (v := .int .i64 ((n : Nat) + 1)) (o_mv rfl) ?_
              refine h58 (n + 1, a, z) _ _ ⟨by first | rfl | exact v_int (by omega) | exact v_int (by simp) | exact v_int (by simp; omega), by first | rfl | exact v_int (by omega) | exact v_int (by simp) | exact v_int (by simp; omega), by first | rfl | exact v_int (by omega) | exact v_int (by simp) | exact v_int (by simp; omega), rfl, rfl, rfl, hM64, by omega, by have h2 := dmg1_out (b := b) (k := n) hf0 hg (by omega) (by omega) (by assumption); omega⟩ (by (try dsimp only); omega)
          ·
            refine h55 _ _ ?_
            clear h55
            refine seq fun K71 h71 => ?_
            refine seq fun K72 h72 => ?_
            refine stp (v := x) (o_mv rfl) ?_
            refine stp (v := .int .i64 (b.length : Nat)) (o_lenR (hx.upd hM57.upd) rfl rfl) ?_
            refine stp (v := .bool (decide (((b.length : Nat) : Int) = 0))) (o_bin rfl rfl rfl) ?_
            refine h72 _ _ ?_
            clear h72
            refine cndP rfl (fun c73 => ?_) (fun c73 => ?_)
            ·
              refine seq fun K74 h74 => ?_
              refine m_call (works_ok w57) rfl fun v75 w75 ⟨hr75, hu75⟩ => ?_
              have hM75 : Mem w [] w75 [[⟨b2, 25, [.int .i64 fl.kind, .int .i64 fl.tk, .int .i64 fl.task, .int .i64 fl.att, .int .i64 fl.mom, .int .i64 fl.rd, .int .i64 fl.at_, .int .u32 fl.mask]⟩], rs5, [⟨b8, 25, [.int .i64 fl.kind, .int .i64 fl.tk, .int .i64 fl.task, .int .i64 fl.att, .int .i64 fl.mom, .int .i64 fl.rd, .int .i64 fl.at_, .int .u32 fl.mask]⟩]] := hM57.pure hu75
              subst hr75
              refine stp (v := .bool true) (o_mv rfl) ?_
              refine h74 _ _ ?_
              clear h74
              refine ⟨(.bool true), rfl, ?_⟩
              exact ⟨rfl, hM75.upd⟩
            ·
              refine h71 _ _ ?_
              clear h71
              refine seq fun K76 h76 => ?_
              refine stp (v := .int .i64 a) (o_mv rfl) ?_
              refine stp (v := .bool (decide ((0 : Int) ≤ a))) (o_bin rfl rfl rfl) ?_
              refine stp (v := .bool (decide ((0 : Int) ≤ a))) (o_mv rfl) ?_
              refine splitP rfl (fun c77 => ?_) (fun c77 => (c77 (by have : (fl.at_.toNat % (8 * b.length)) < 8 * b.length := Nat.mod_lt _ (by omega); omega)).elim)
              refine stg rfl (v := .int .i64 z) (o_mv rfl) ?_
              refine stg rfl (v := .int .i64 a) (o_mv rfl) ?_
              refine stg rfl (v := .int .i64 (z - a)) (o_bin rfl rfl (v_sub64 (by constructor <;> omega))) ?_
              refine stg rfl (v := .bool (decide ((z - a) < 32))) (o_bin rfl rfl rfl) ?_
              refine stp (v := .bool (decide ((z - a) < 32))) (o_pickT rfl rfl) ?_
              refine stp (v := .bool (decide ((z - a) < 32))) (o_mv rfl) ?_
              refine splitP rfl (fun c78 => ?_) (fun c78 => (c78 (by have : (fl.at_.toNat % (8 * b.length)) < 8 * b.length := Nat.mod_lt _ (by omega); omega)).elim)
              refine stg rfl (v := .int .i64 a) (o_mv rfl) ?_
              refine stg rfl (v := .pointer (some ⟨b2, 6, none⟩)) (o_fa rfl rfl) ?_
              refine gyesl rfl ?_
              refine m_ld (v := .int .i64 fl.at_) hM57 (i := 0) (j := 0) rfl rfl rfl rfl ?_
              refine stg rfl (v := x) (o_mv rfl) ?_
              refine stg rfl (v := .int .i64 (b.length : Nat)) (o_lenR (hx.upd hM57.upd) rfl rfl) ?_
              refine stg rfl (v := .int .i64 (8 * (b.length : Nat))) (o_bin rfl rfl (v_mul64 (by constructor <;> omega))) ?_
              refine stg rfl (v := .int .i64 (fl.at_ % (8 * (b.length : Nat)))) (o_rem rfl rfl (by omega) (v_rem (by omega))) ?_
              refine stg rfl (v := .bool (decide (a = (fl.at_ % (8 * (b.length : Nat)))))) (o_bin rfl rfl rfl) ?_
              refine stp (v := .bool (decide (a = (fl.at_ % (8 * (b.length : Nat)))))) (o_pickT rfl rfl) ?_
              refine stp (v := .bool (decide (a = (fl.at_ % (8 * (b.length : Nat)))))) (o_mv rfl) ?_
              refine splitP rfl (fun c79 => ?_) (fun c79 => (c79 (by have : (fl.at_.toNat % (8 * b.length)) < 8 * b.length := Nat.mod_lt _ (by omega); have h2 := at_mod (n := b.length) (show 0 ≤ fl.at_ by omega); omega)).elim)
              refine gyesl rfl ?_
              refine m_call (works_ok w57) rfl fun v80 w80 ⟨hr80, hu80⟩ => ?_
              have hM80 : Mem w [] w80 [[⟨b2, 25, [.int .i64 fl.kind, .int .i64 fl.tk, .int .i64 fl.task, .int .i64 fl.att, .int .i64 fl.mom, .int .i64 fl.rd, .int .i64 fl.at_, .int .u32 fl.mask]⟩], rs5, [⟨b8, 25, [.int .i64 fl.kind, .int .i64 fl.tk, .int .i64 fl.task, .int .i64 fl.att, .int .i64 fl.mom, .int .i64 fl.rd, .int .i64 fl.at_, .int .u32 fl.mask]⟩]] := hM57.pure hu80
              subst hr80
              refine stp (v := .bool true) (o_pickT rfl rfl) ?_
              refine stp (v := .bool true) (o_mv rfl) ?_
              refine h76 _ _ ?_
              clear h76
              refine ⟨(.bool true), rfl, ?_⟩
              exact ⟨rfl, hM80.upd⟩
