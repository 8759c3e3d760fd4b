/- Plans: what is still to come, and what is told. -/
import Derived.Test.YtnkilhmkegmenaaF4
namespace Go.Proofs.Ytnkilhmkegmenaa.E
open Go
/-- A plan that a call owns: the struct's block, and its entries. -/
def PlanS (t : TypeId) (p : Value) (l : List Flt) (r : List Ent) : Prop := ∃ bp vb rb, p = .pointer (some ⟨bp, 0, none⟩) ∧ r = ⟨bp, t, [vb]⟩ :: rb ∧ SlS fltC 8 25 vb l rb
theorem Own.same {w wc : World} {e : Ent} (h : Own w e) (hk : wc.heap[e.b]? = w.heap[e.b]?) : Own wc e := by
  obtain ⟨lo, hi, h, h2⟩ := h
  exact ⟨lo, hi, by rw [hk]; exact h, h2⟩
theorem filter_snoc {l : List Flt} {i : Nat} {q : Flt → Bool} (h : i < l.length) (hq : q (l.getD i fz) = true) : (l.take (i + 1)).filter q = (l.take i).filter q ++ [l.getD i fz] := by
  rw [takeG fz h, List.filter_append, List.filter_cons_of_pos hq]; rfl
theorem filter_skip {l : List Flt} {i : Nat} {q : Flt → Bool} (h : i < l.length) (hq : ¬ q (l.getD i fz) = true) : (l.take (i + 1)).filter q = (l.take i).filter q := by
  rw [takeG fz h, List.filter_append, List.filter_cons_of_neg hq, List.filter_nil, List.append_nil]
theorem filter_le (l : List Flt) (q : Flt → Bool) : (l.filter q).length ≤ l.length := List.length_filter_le _ _
theorem takeF_le (l : List Flt) (q : Flt → Bool) (i : Nat) : ((l.take i).filter q).length ≤ l.length := Nat.le_trans (List.length_filter_le _ _) (by simp; omega)
theorem Mem.stay {w0 w : World} {S : List Nat} {R : List (List Ent)} (h : Mem w0 S w R) {cb : List Nat} (hcb : ∀ b ∈ cb, b < w0.heap.size ∧ b ∉ S) : ∀ b ∈ cb, w.heap[b]? = w0.heap[b]? := fun b hb => h.upd.block b (hcb b hb).1 (hcb b hb).2

/-- (*fault.Plan).take -/
theorem take_ok (p : Value) (l : List Flt) (r0 : List Ent) (g : FuncId) (caps : List Value) (q : Flt → Bool) (cb : List Nat) (w : World) (hp : PlanS 72 p l r0) (hr : Res w r0) (hl : l.length * 64 ≤ 140737488355328) (hcb : ∀ b ∈ cb, b < w.heap.size ∧ b ∉ ids r0) (ho : okFn Try.prog g = true)
    (hq : ∀ (f : Flt) wc, (∀ b ∈ cb, wc.heap[b]? = w.heap[b]?) → Calls Try.prog g (.agg (fltC f).toArray :: caps).toArray wc (Rt fun r w' => r = .bool (q f) ∧ Upd [] wc w')) :
    Calls Try.prog 39 [p, .func (.func g) #[] caps.toArray].toArray w (Rt fun r w' => ∃ r' rs, SlS fltC 8 25 r (l.filter q) rs ∧ PlanS 72 p (l.filter (!q ·)) r' ∧ Mem w (ids r0) w' [r', rs]) := by
  obtain ⟨bp, vb, rb, rfl, rfl, hb⟩ := hp
  have hM0 : Mem w (ids (⟨bp, 72, [vb]⟩ :: rb)) w [[⟨bp, 72, [vb]⟩], rb] := Mem.start2 hr
  refine calls_vc mixed Try.func39 rfl C39 (by simp [Try.ntmps39]) ?_
  refine seq fun K1 h1 => ?_
  refine stp (v := .slice none 0 0) (o_mv rfl) ?_
  refine h1 _ _ ?_
  clear h1
  refine seq fun K2 h2 => ?_
  refine seq fun K3 h3 => ?_
  refine stp (v := .pointer (some ⟨bp, 0, none⟩)) (o_mv rfl) ?_
  refine stp (v := .bool false) (o_isnil rfl rfl) ?_
  refine h3 _ _ ?_
  clear h3
  refine cndF rfl ?_
  refine h2 _ _ ?_
  clear h2
  refine seq fun K4 h4 => ?_
  refine stp (v := .slice none 0 0) (o_mv rfl) ?_
  refine stp (v := .slice none 0 0) (o_mv rfl) ?_
  refine h4 _ _ ?_
  clear h4
  refine seq fun K5 h5 => ?_
  refine seq fun K6 h6 => ?_
  refine stp (v := .pointer (some ⟨bp, 0, none⟩)) (o_mv rfl) ?_
  refine stp (v := .pointer (some ⟨bp, 0, none⟩)) (o_nilchk rfl rfl) ?_
  refine stp (v := .pointer (some ⟨bp, 0, none⟩)) (o_fa rfl rfl) ?_
  refine m_ld (v := vb) hM0 (i := 0) (j := 0) rfl rfl rfl rfl ?_
  refine stp (v := .int .i64 (l.length : Nat)) (o_lenR (hb.rd hM0 (i := 1) rfl) rfl rfl) ?_
  refine stp (v := .int .i64 0) (o_mv rfl) ?_
  refine h6 _ _ ?_
  clear h6
  have hM7 : Mem w (ids (⟨bp, 72, [vb]⟩ :: rb)) w [[⟨bp, 72, [vb]⟩], rb, []] := hM0.addNil
  have hs7 : SlS fltC 8 25 (.slice none 0 0) [] [] := Sl.nil 8 25
  have hM8 : Mem w (ids (⟨bp, 72, [vb]⟩ :: rb)) w [[⟨bp, 72, [vb]⟩], rb, [], []] := hM7.addNil
  have hs8 : SlS fltC 8 25 (.slice none 0 0) [] [] := Sl.nil 8 25
  refine lp (n := fun _ _ => False) (ι := (Nat) × (Value) × (List Ent) × (Value) × (List Ent)) (fun ⟨i, y6_, r6_, y5_, r5_⟩ f w' => f 6 = y6_ ∧ f 5 = y5_ ∧ f 16 = .int .i64 (i : Nat) ∧ f 0 = .pointer (some ⟨bp, 0, none⟩) ∧ f 1 = .func (.func g) #[] caps.toArray ∧ f 14 = vb ∧ f 15 = .int .i64 (l.length : Nat) ∧ Mem w (ids (⟨bp, 72, [vb]⟩ :: rb)) w' [[⟨bp, 72, [vb]⟩], rb, r6_, r5_] ∧ (i ≤ l.length) ∧ (SlS fltC 8 25 y6_ ((l.take i).filter (!q ·)) r6_) ∧ (SlS fltC 8 25 y5_ ((l.take i).filter q) r5_)) (fun ⟨i, y6_, r6_, y5_, r5_⟩ => l.length - i) (0, ((.slice none 0 0)), ([]), ((.slice none 0 0)), ([])) ?_ ?_
  · exact ⟨rfl, rfl, by first | rfl | exact v_int (by omega) | exact v_int (by simp) | exact v_int (by simp; omega), rfl, rfl, rfl, by first | rfl | exact v_int (by omega) | exact v_int (by simp) | exact v_int (by simp; omega), hM8, by omega, by first | exact hs7 | simpa using hs7, by first | exact hs8 | simpa using hs8⟩
  · rintro ⟨i, y6_, r6_, y5_, r5_⟩ f w9 ⟨e9_6, e9_5, e9_16, e9_0, e9_1, e9_14, e9_15, hM9, hi, hy6_, hy5_⟩ K10 h10
    obtain ⟨frm, rfl⟩ : ∃ frm, f = (upd (upd (upd (upd (upd (upd (upd frm 6 (y6_)) 5 (y5_)) 16 (.int .i64 (i : Nat))) 0 (.pointer (some ⟨bp, 0, none⟩))) 1 (.func (.func g) #[] caps.toArray)) 14 (vb)) 15 (.int .i64 (l.length : Nat))) := ⟨f, by rw [upd_self e9_6, upd_self e9_5, upd_self e9_16, upd_self e9_0, upd_self e9_1, upd_self e9_14, upd_self e9_15]⟩
    clear e9_6 e9_5 e9_16 e9_0 e9_1 e9_14 e9_15
    refine seq fun K11 h11 => ?_
    refine stp (v := .bool (decide (((i : Nat) : Int) < (l.length : Nat)))) (o_bin rfl rfl rfl) ?_
    refine h11 _ _ ?_
    clear h11
    refine seq fun K12 h12 => ?_
    refine cndP rfl (fun c13 => ?_) (fun c13 => ?_)
    ·
      refine h12 _ _ ?_
      clear h12
      refine seq fun K14 h14 => ?_
      refine seq fun K15 h15 => ?_
      refine m_idxS fz (j := i) (hb.rd hM9 (i := 1) rfl) rfl rfl (by omega) fun b16 o16 hp16 => ?_
      refine ldA (cs := [.int .i64 ((l.getD i fz).kind), .int .i64 ((l.getD i fz).tk), .int .i64 ((l.getD i fz).task), .int .i64 ((l.getD i fz).att), .int .i64 ((l.getD i fz).mom), .int .i64 ((l.getD i fz).rd), .int .i64 ((l.getD i fz).at_), .int .u32 ((l.getD i fz).mask)]) rfl rfl (hp16.row (k := 0) rfl rfl) ?_
      refine m_al hM9 fun b17 w18 (hM18 : Mem w (ids (⟨bp, 72, [vb]⟩ :: rb)) w18 [[⟨bp, 72, [vb]⟩], rb, r6_, r5_, [⟨b17, 25, [.int .i64 0, .int .i64 0, .int .i64 0, .int .i64 0, .int .i64 0, .int .i64 0, .int .i64 0, .int .u32 0]⟩]]) => ?_
      refine m_stA (l := [.int .i64 ((l.getD i fz).kind), .int .i64 ((l.getD i fz).tk), .int .i64 ((l.getD i fz).task), .int .i64 ((l.getD i fz).att), .int .i64 ((l.getD i fz).mom), .int .i64 ((l.getD i fz).rd), .int .i64 ((l.getD i fz).at_), .int .u32 ((l.getD i fz).mask)]) hM18 (i := 4) rfl rfl rfl rfl (by simp [oneCells, Value.oneCell', byteV]) (by simp) fun w19 (hM19 : Mem w (ids (⟨bp, 72, [vb]⟩ :: rb)) w19 [[⟨bp, 72, [vb]⟩], rb, r6_, r5_, [⟨b17, 25, [.int .i64 ((l.getD i fz).kind), .int .i64 ((l.getD i fz).tk), .int .i64 ((l.getD i fz).task), .int .i64 ((l.getD i fz).att), .int .i64 ((l.getD i fz).mom), .int .i64 ((l.getD i fz).rd), .int .i64 ((l.getD i fz).at_), .int .u32 ((l.getD i fz).mask)]⟩]]) => ?_
      refine h15 _ _ ?_
      clear h15
      refine seq fun K20 h20 => ?_
      refine stp (v := .func (.func g) #[] caps.toArray) (o_mv rfl) ?_
      refine m_ldA (l := [.int .i64 ((l.getD i fz).kind), .int .i64 ((l.getD i fz).tk), .int .i64 ((l.getD i fz).task), .int .i64 ((l.getD i fz).att), .int .i64 ((l.getD i fz).mom), .int .i64 ((l.getD i fz).rd), .int .i64 ((l.getD i fz).at_), .int .u32 ((l.getD i fz).mask)]) hM19 (i := 4) (j := 0) rfl rfl rfl rfl rfl ?_
      refine m_callv rfl (by assumption) (hq (l.getD i fz) w19 (hM19.stay hcb)) rfl fun v21 w21 ⟨hr21, hu21⟩ => ?_
      have hM21 : Mem w (ids (⟨bp, 72, [vb]⟩ :: rb)) w21 [[⟨bp, 72, [vb]⟩], rb, r6_, r5_, [⟨b17, 25, [.int .i64 ((l.getD i fz).kind), .int .i64 ((l.getD i fz).tk), .int .i64 ((l.getD i fz).task), .int .i64 ((l.getD i fz).att), .int .i64 ((l.getD i fz).mom), .int .i64 ((l.getD i fz).rd), .int .i64 ((l.getD i fz).at_), .int .u32 ((l.getD i fz).mask)]⟩]] := hM19.pure hu21
      subst hr21
      refine h20 _ _ ?_
      clear h20
      refine cnd rfl (fun c22 => ?_) (fun c22 => ?_)
      ·
        refine stp (v := y5_) (o_mv rfl) ?_
        refine m_ldA (l := [.int .i64 ((l.getD i fz).kind), .int .i64 ((l.getD i fz).tk), .int .i64 ((l.getD i fz).task), .int .i64 ((l.getD i fz).att), .int .i64 ((l.getD i fz).mom), .int .i64 ((l.getD i fz).rd), .int .i64 ((l.getD i fz).at_), .int .u32 ((l.getD i fz).mask)]) hM21 (i := 4) (j := 0) rfl rfl rfl rfl rfl ?_
        refine m_app1S (enc := fltC) (q := l.getD i fz) hM21 (i := 3) rfl hy5_ rfl (by simp) (rfl) (rfl) (by have := takeF_le l q i; omega) (by omega) fun v23 w23 r23 u23 (hs23 : SlS fltC 8 25 v23 (((l.take i).filter q) ++ [l.getD i fz]) r23) (hM23 : Mem w (ids (⟨bp, 72, [vb]⟩ :: rb)) w23 [[⟨bp, 72, [vb]⟩], rb, r6_, r23, [⟨b17, 25, [.int .i64 ((l.getD i fz).kind), .int .i64 ((l.getD i fz).tk), .int .i64 ((l.getD i fz).task), .int .i64 ((l.getD i fz).att), .int .i64 ((l.getD i fz).mom), .int .i64 ((l.getD i fz).rd), .int .i64 ((l.getD i fz).at_), .int .u32 ((l.getD i fz).mask)]⟩]]) => ?_
        refine stp (v := v23) (o_mv rfl) ?_
        refine h14 _ _ ?_
        clear h14
        refine stp (v := .int .i64 ((i : Nat) + 1)) (o_bin rfl rfl (v_add64 (by constructor <;> omega))) ?_
        refine stp (v := .int .i64 ((i : Nat) + 1)) (o_mv rfl) ?_
        refine h10 (i + 1, y6_, r6_, v23, r23) _ _ ⟨rfl, rfl, by first | rfl | exact v_int (by omega) | exact v_int (by simp) | exact v_int (by simp; omega), rfl, rfl, rfl, by first | rfl | exact v_int (by omega) | exact v_int (by simp) | exact v_int (by simp; omega), hM23.keep (by simp), by omega, by rw [filter_skip (by omega) (by simp; assumption)]; exact hy6_, by rw [filter_snoc (by omega) (by assumption)]; exact hs23⟩ (by (try dsimp only); omega)
      ·
        refine stp (v := y6_) (o_mv rfl) ?_
        refine m_ldA (l := [.int .i64 ((l.getD i fz).kind), .int .i64 ((l.getD i fz).tk), .int .i64 ((l.getD i fz).task), .int .i64 ((l.getD i fz).att), .int .i64 ((l.getD i fz).mom), .int .i64 ((l.getD i fz).rd), .int .i64 ((l.getD i fz).at_), .int .u32 ((l.getD i fz).mask)]) hM21 (i := 4) (j := 0) rfl rfl rfl rfl rfl ?_
        refine m_app1S (enc := fltC) (q := l.getD i fz) hM21 (i := 2) rfl hy6_ rfl (by simp) (rfl) (rfl) (by have := takeF_le l (!q ·) i; omega) (by omega) fun v24 w24 r24 u24 (hs24 : SlS fltC 8 25 v24 (((l.take i).filter (!q ·)) ++ [l.getD i fz]) r24) (hM24 : Mem w (ids (⟨bp, 72, [vb]⟩ :: rb)) w24 [[⟨bp, 72, [vb]⟩], rb, r24, r5_, [⟨b17, 25, [.int .i64 ((l.getD i fz).kind), .int .i64 ((l.getD i fz).tk), .int .i64 ((l.getD i fz).task), .int .i64 ((l.getD i fz).att), .int .i64 ((l.getD i fz).mom), .int .i64 ((l.getD i fz).rd), .int .i64 ((l.getD i fz).at_), .int .u32 ((l.getD i fz).mask)]⟩]]) => ?_
        refine stp (v := v24) (o_mv rfl) ?_
        refine h14 _ _ ?_
        clear h14
        refine stp (v := .int .i64 ((i : Nat) + 1)) (o_bin rfl rfl (v_add64 (by constructor <;> omega))) ?_
        refine stp (v := .int .i64 ((i : Nat) + 1)) (o_mv rfl) ?_
        refine h10 (i + 1, v24, r24, y5_, r5_) _ _ ⟨rfl, rfl, by first | rfl | exact v_int (by omega) | exact v_int (by simp) | exact v_int (by simp; omega), rfl, rfl, rfl, by first | rfl | exact v_int (by omega) | exact v_int (by simp) | exact v_int (by simp; omega), hM24.keep (by simp), by omega, by rw [filter_snoc (by omega) (by simp; assumption)]; exact hs24, by rw [filter_skip (by omega) (by simp; assumption)]; exact hy5_⟩ (by (try dsimp only); omega)
    ·
      refine h5 _ _ ?_
      clear h5
      refine seq fun K25 h25 => ?_
      refine stp (v := .pointer (some ⟨bp, 0, none⟩)) (o_mv rfl) ?_
      refine stp (v := y6_) (o_mv rfl) ?_
      refine stp (v := .pointer (some ⟨bp, 0, none⟩)) (o_nilchk rfl rfl) ?_
      refine stp (v := .pointer (some ⟨bp, 0, none⟩)) (o_fa rfl rfl) ?_
      refine m_st (v := y6_) hM9 (i := 0) rfl rfl rfl (Sl.one hy6_) (by simp) fun w26 (hM26 : Mem w (ids (⟨bp, 72, [vb]⟩ :: rb)) w26 [[⟨bp, 72, [y6_]⟩], rb, r6_, r5_]) => ?_
      refine h25 _ _ ?_
      clear h25
      refine seq fun K27 h27 => ?_
      refine stp (v := y5_) (o_mv rfl) ?_
      refine stp (v := y5_) (o_mv rfl) ?_
      refine h27 _ _ ?_
      clear h27
      refine ⟨y5_, rfl, ?_⟩
      rw [List.take_of_length_le (by omega)] at hy5_ hy6_
      exact ⟨_, _, hy5_, ⟨_, _, _, rfl, rfl, hy6_⟩, (hM26.drop 1).keep (by simp)⟩

def dueP (task att mom rd : Int) (f : Flt) : Prop := ¬ f.kind = 0 ∧ f.task = task ∧ f.att = att ∧ f.mom = mom ∧ (¬ mom = 2 ∨ f.rd = rd)
instance (a b c d : Int) (f : Flt) : Decidable (dueP a b c d f) := by unfold dueP; infer_instance
def stopQ (p : Plc) (f : Flt) : Bool := decide (placeP f = p)
def dueQ (a b c d : Int) (f : Flt) : Bool := decide (dueP a b c d f)
theorem stop_eq {f : Flt} {p : Plc} : (decide (f.kind = p.1) && (decide (f.tk = p.2.1) && (decide (f.task = p.2.2.1) && (decide (f.att = p.2.2.2) && true)))) = stopQ p f := by
  obtain ⟨a, b, c, d⟩ := p
  unfold stopQ placeP
  rw [Bool.eq_iff_iff]
  simp [Prod.ext_iff]
def stopV (l : List Flt) (p : Plc) : Int × Bool := match l.filter (stopQ p) with
  | [] => (0, false)
  | f :: _ => (f.at_, true)
theorem stopV_nil {l : List Flt} {p : Plc} (h : (l.filter (stopQ p)).length = 0) : stopV l p = (0, false) := by unfold stopV; rw [List.length_eq_zero_iff.1 h]
theorem stopV_cons {l : List Flt} {p : Plc} (h : 0 < (l.filter (stopQ p)).length) : stopV l p = (((l.filter (stopQ p)).getD 0 fz).at_, true) := by
  unfold stopV
  cases hl : l.filter (stopQ p) with
  | nil => rw [hl] at h; simp at h
  | cons f r => rfl

/-- (*fault.Plan).Stop$1 -/
theorem stop1_ok (f : Flt) (bw : Nat) (p : Plc) (w : World) (hw : Own w ⟨bw, 68, plC p⟩) : Calls Try.prog 40 [.agg (fltC f).toArray, .pointer (some ⟨bw, 0, none⟩)].toArray w (Rt fun r w' => r = .bool (stopQ p f) ∧ Upd [] w w') := by
  have hM0 : Mem w [] w [] := Mem.nil w []
  refine calls_vc mixed Try.func40 rfl C40 (by simp [Try.ntmps40]) ?_
  refine seq fun K1 h1 => ?_
  refine m_bx (v := .agg ([.int .i64 f.kind, .int .i64 f.tk, .int .i64 f.task, .int .i64 f.att, .int .i64 f.mom, .int .i64 f.rd, .int .i64 f.at_, .int .u32 f.mask] : List Value).toArray) hM0 rfl rfl fun b2 w3 (hM3 : Mem w [] w3 [[⟨b2, 25, [.int .i64 f.kind, .int .i64 f.tk, .int .i64 f.task, .int .i64 f.att, .int .i64 f.mom, .int .i64 f.rd, .int .i64 f.at_, .int .u32 f.mask]⟩]]) => ?_
  refine stp (v := .bool false) (o_mv rfl) ?_
  refine h1 _ _ ?_
  clear h1
  refine seq fun K4 h4 => ?_
  intro wd e1 e2 e3 e4
  have hd := Upd.same e1 e2 e3 e4 []
  have hM5 := hM3.pure hd
  clear e1 e2 e3 e4
  refine ⟨(some [bw]), ?_⟩
  show vd _ _ _ _ _ _ _
  refine dqldA rfl (by simp [isHeld]) rfl ((hw.upd hM5.upd (by simp)).agg (o := 0) (l := plC p) rfl rfl) ?_
  refine dl (m_ldA (l := [.int .i64 f.kind, .int .i64 f.tk, .int .i64 f.task, .int .i64 f.att, .int .i64 f.mom, .int .i64 f.rd, .int .i64 f.at_, .int .u32 f.mask]) hM5 (i := 0) (j := 0) rfl rfl rfl rfl rfl ?_)
  refine ⟨(fun b hb => rfl), ?_⟩
  refine dl (m_call (placeOf_ok f wd) rfl fun v6 w6 ⟨hr6, hu6⟩ => ?_)
  have hM6 : Mem w [] w6 [[⟨b2, 25, [.int .i64 f.kind, .int .i64 f.tk, .int .i64 f.task, .int .i64 f.att, .int .i64 f.mom, .int .i64 f.rd, .int .i64 f.at_, .int .u32 f.mask]⟩]] := hM5.pure hu6
  subst hr6
  have hh6 := held_upd (wr := wd) (bs := [bw]) hu6 (fun b hb => by
    simp only [List.mem_cons, List.not_mem_nil, or_false] at hb
    rw [hb]; exact ⟨(hw.upd hM5.upd (by simp)).lt, by simp⟩) (fun b hb => rfl)
  refine ⟨hh6, ?_⟩
  refine dq (v := .bool (stopQ p f)) (o_aeq (t := stopQ p f) rfl rfl (by rw [← stop_eq]; simp [eqCs, eqC, plC, placeP]) rfl) ?_
  refine dq (v := .bool (stopQ p f)) (o_mv rfl) ?_
  refine h4 _ _ ?_
  clear h4
  refine ⟨(.bool (stopQ p f)), rfl, ?_⟩
  exact ⟨rfl, hM6.upd⟩

/-- (*fault.Plan).Due$1 -/
theorem due1_ok (f : Flt) (b1 b2 b3 b4 : Nat) (a b c d : Int) (w : World) (g1 : Own w ⟨b1, 3, [i64V a]⟩) (g2 : Own w ⟨b2, 3, [i64V b]⟩) (g3 : Own w ⟨b3, 3, [i64V c]⟩) (g4 : Own w ⟨b4, 3, [i64V d]⟩) : Calls Try.prog 42 [.agg (fltC f).toArray, .pointer (some ⟨b1, 0, none⟩), .pointer (some ⟨b2, 0, none⟩), .pointer (some ⟨b3, 0, none⟩), .pointer (some ⟨b4, 0, none⟩)].toArray w (Rt fun r w' => r = .bool (dueQ a b c d f) ∧ Upd [] w w') := by
  have hM0 : Mem w [] w [] := Mem.nil w []
  refine calls_vc mixed Try.func42 rfl C42 (by simp [Try.ntmps42]) ?_
  refine seq fun K1 h1 => ?_
  refine m_bx (v := .agg ([.int .i64 f.kind, .int .i64 f.tk, .int .i64 f.task, .int .i64 f.att, .int .i64 f.mom, .int .i64 f.rd, .int .i64 f.at_, .int .u32 f.mask] : List Value).toArray) hM0 rfl rfl fun b2 w3 (hM3 : Mem w [] w3 [[⟨b2, 25, [.int .i64 f.kind, .int .i64 f.tk, .int .i64 f.task, .int .i64 f.att, .int .i64 f.mom, .int .i64 f.rd, .int .i64 f.at_, .int .u32 f.mask]⟩]]) => ?_
  refine stp (v := .bool false) (o_mv rfl) ?_
  refine h1 _ _ ?_
  clear h1
  refine seq fun K4 h4 => ?_
  refine stp (v := .pointer (some ⟨b2, 0, none⟩)) (o_fa rfl rfl) ?_
  refine m_ld (v := .int .i64 f.kind) hM3 (i := 0) (j := 0) rfl rfl rfl rfl ?_
  refine stp (v := .bool (decide (¬ f.kind = 0))) (o_bin rfl rfl v_neq) ?_
  refine stp (v := .bool (decide (¬ f.kind = 0))) (o_mv rfl) ?_
  refine splitP rfl (fun c5 => ?_) (fun c5 => ?_)
  ·
    refine stg rfl (v := .pointer (some ⟨b2, 2, none⟩)) (o_fa rfl rfl) ?_
    refine gyesl rfl ?_
    refine m_ld (v := .int .i64 f.task) hM3 (i := 0) (j := 0) rfl rfl rfl rfl ?_
    refine gyesl rfl ?_
    refine ld (v := .int .i64 a) rfl ((g1.upd hM3.upd (by simp)).cell 0) ?_
    refine stg rfl (v := .bool (decide (f.task = a))) (o_bin rfl rfl rfl) ?_
    refine stp (v := .bool (decide (f.task = a))) (o_pickT rfl rfl) ?_
    refine stp (v := .bool (decide (f.task = a))) (o_mv rfl) ?_
    refine splitP rfl (fun c6 => ?_) (fun c6 => ?_)
    ·
      refine stg rfl (v := .pointer (some ⟨b2, 3, none⟩)) (o_fa rfl rfl) ?_
      refine gyesl rfl ?_
      refine m_ld (v := .int .i64 f.att) hM3 (i := 0) (j := 0) rfl rfl rfl rfl ?_
      refine gyesl rfl ?_
      refine ld (v := .int .i64 b) rfl ((g2.upd hM3.upd (by simp)).cell 0) ?_
      refine stg rfl (v := .bool (decide (f.att = b))) (o_bin rfl rfl rfl) ?_
      refine stp (v := .bool (decide (f.att = b))) (o_pickT rfl rfl) ?_
      refine stp (v := .bool (decide (f.att = b))) (o_mv rfl) ?_
      refine splitP rfl (fun c7 => ?_) (fun c7 => ?_)
      ·
        refine stg rfl (v := .pointer (some ⟨b2, 4, none⟩)) (o_fa rfl rfl) ?_
        refine gyesl rfl ?_
        refine m_ld (v := .int .i64 f.mom) hM3 (i := 0) (j := 0) rfl rfl rfl rfl ?_
        refine gyesl rfl ?_
        refine ld (v := .int .i64 c) rfl ((g3.upd hM3.upd (by simp)).cell 0) ?_
        refine stg rfl (v := .bool (decide (f.mom = c))) (o_bin rfl rfl rfl) ?_
        refine stp (v := .bool (decide (f.mom = c))) (o_pickT rfl rfl) ?_
        refine stp (v := .bool (decide (f.mom = c))) (o_mv rfl) ?_
        refine splitP rfl (fun c8 => ?_) (fun c8 => ?_)
        ·
          refine gyesl rfl ?_
          refine ld (v := .int .i64 c) rfl ((g3.upd hM3.upd (by simp)).cell 0) ?_
          refine stg rfl (v := .bool (decide (¬ c = 2))) (o_bin rfl rfl v_neq) ?_
          refine stg rfl (v := .bool (decide (¬ c = 2))) (o_mv rfl) ?_
          refine splitP rfl (fun c9 => ?_) (fun c9 => ?_)
          ·
            refine gno rfl (by simp) ?_
            refine gnol rfl (by simp) ?_
            refine gnol rfl (by simp) ?_
            refine gno rfl (by simp) ?_
            refine stg rfl (v := .bool true) (o_pickT rfl rfl) ?_
            refine stp (v := .bool true) (o_pickT rfl rfl) ?_
            refine stp (v := .bool true) (o_mv rfl) ?_
            refine h4 _ _ ?_
            clear h4
            refine ⟨(.bool true), rfl, ?_⟩
            first | exact ⟨bT (by simp only [dueP] at *; omega), hM3.upd⟩ | exact ⟨bF (by simp only [dueP] at *; omega), hM3.upd⟩ | exact ⟨bP (by simp only [dueP] at *; omega), hM3.upd⟩
          ·
            refine stg rfl (v := .pointer (some ⟨b2, 5, none⟩)) (o_fa rfl rfl) ?_
            refine gyesl rfl ?_
            refine m_ld (v := .int .i64 f.rd) hM3 (i := 0) (j := 0) rfl rfl rfl rfl ?_
            refine gyesl rfl ?_
            refine ld (v := .int .i64 d) rfl ((g4.upd hM3.upd (by simp)).cell 0) ?_
            refine stg rfl (v := .bool (decide (f.rd = d))) (o_bin rfl rfl rfl) ?_
            refine stg rfl (v := .bool (decide (f.rd = d))) (o_pickF rfl rfl) ?_
            refine stp (v := .bool (decide (f.rd = d))) (o_pickT rfl rfl) ?_
            refine stp (v := .bool (decide (f.rd = d))) (o_mv rfl) ?_
            refine h4 _ _ ?_
            clear h4
            refine ⟨(.bool (decide (f.rd = d))), rfl, ?_⟩
            first | exact ⟨bT (by simp only [dueP] at *; omega), hM3.upd⟩ | exact ⟨bF (by simp only [dueP] at *; omega), hM3.upd⟩ | exact ⟨bP (by simp only [dueP] at *; omega), hM3.upd⟩
        ·
          refine gnol rfl (by simp) ?_
          refine gno rfl (by simp) ?_
          refine gno rfl (by simp) ?_
          refine splitU rfl ?_
          refine gnou rfl ?_
          refine gnolu rfl ?_
          refine gnolu rfl ?_
          refine gnou rfl ?_
          refine gno rfl (by simp) ?_
          refine stp (v := .bool false) (o_pickF rfl rfl) ?_
          refine stp (v := .bool false) (o_mv rfl) ?_
          refine h4 _ _ ?_
          clear h4
          refine ⟨(.bool false), rfl, ?_⟩
          first | exact ⟨bT (by simp only [dueP] at *; omega), hM3.upd⟩ | exact ⟨bF (by simp only [dueP] at *; omega), hM3.upd⟩ | exact ⟨bP (by simp only [dueP] at *; omega), hM3.upd⟩
      ·
        refine gno rfl (by simp) ?_
        refine gnol rfl (by simp) ?_
        refine gnol rfl (by simp) ?_
        refine gno rfl (by simp) ?_
        refine stp (v := .bool false) (o_pickF rfl rfl) ?_
        refine stp (v := .bool false) (o_mv rfl) ?_
        refine splitF rfl ?_
        refine gnol rfl (by simp) ?_
        refine gno rfl (by simp) ?_
        refine gno rfl (by simp) ?_
        refine splitU rfl ?_
        refine gnou rfl ?_
        refine gnolu rfl ?_
        refine gnolu rfl ?_
        refine gnou rfl ?_
        refine gno rfl (by simp) ?_
        refine stp (v := .bool false) (o_pickF rfl rfl) ?_
        refine stp (v := .bool false) (o_mv rfl) ?_
        refine h4 _ _ ?_
        clear h4
        refine ⟨(.bool false), rfl, ?_⟩
        first | exact ⟨bT (by simp only [dueP] at *; omega), hM3.upd⟩ | exact ⟨bF (by simp only [dueP] at *; omega), hM3.upd⟩ | exact ⟨bP (by simp only [dueP] at *; omega), hM3.upd⟩
    ·
      refine gno rfl (by simp) ?_
      refine gnol rfl (by simp) ?_
      refine gnol rfl (by simp) ?_
      refine gno rfl (by simp) ?_
      refine stp (v := .bool false) (o_pickF rfl rfl) ?_
      refine stp (v := .bool false) (o_mv rfl) ?_
      refine splitF rfl ?_
      refine gno rfl (by simp) ?_
      refine gnol rfl (by simp) ?_
      refine gnol rfl (by simp) ?_
      refine gno rfl (by simp) ?_
      refine stp (v := .bool false) (o_pickF rfl rfl) ?_
      refine stp (v := .bool false) (o_mv rfl) ?_
      refine splitF rfl ?_
      refine gnol rfl (by simp) ?_
      refine gno rfl (by simp) ?_
      refine gno rfl (by simp) ?_
      refine splitU rfl ?_
      refine gnou rfl ?_
      refine gnolu rfl ?_
      refine gnolu rfl ?_
      refine gnou rfl ?_
      refine gno rfl (by simp) ?_
      refine stp (v := .bool false) (o_pickF rfl rfl) ?_
      refine stp (v := .bool false) (o_mv rfl) ?_
      refine h4 _ _ ?_
      clear h4
      refine ⟨(.bool false), rfl, ?_⟩
      first | exact ⟨bT (by simp only [dueP] at *; omega), hM3.upd⟩ | exact ⟨bF (by simp only [dueP] at *; omega), hM3.upd⟩ | exact ⟨bP (by simp only [dueP] at *; omega), hM3.upd⟩
  ·
    refine gno rfl (by simp) ?_
    refine gnol rfl (by simp) ?_
    refine gnol rfl (by simp) ?_
    refine gno rfl (by simp) ?_
    refine stp (v := .bool false) (o_pickF rfl rfl) ?_
    refine stp (v := .bool false) (o_mv rfl) ?_
    refine splitF rfl ?_
    refine gno rfl (by simp) ?_
    refine gnol rfl (by simp) ?_
    refine gnol rfl (by simp) ?_
    refine gno rfl (by simp) ?_
    refine stp (v := .bool false) (o_pickF rfl rfl) ?_
    refine stp (v := .bool false) (o_mv rfl) ?_
    refine splitF rfl ?_
    refine gno rfl (by simp) ?_
    refine gnol rfl (by simp) ?_
    refine gnol rfl (by simp) ?_
    refine gno rfl (by simp) ?_
    refine stp (v := .bool false) (o_pickF rfl rfl) ?_
    refine stp (v := .bool false) (o_mv rfl) ?_
    refine splitF rfl ?_
    refine gnol rfl (by simp) ?_
    refine gno rfl (by simp) ?_
    refine gno rfl (by simp) ?_
    refine splitU rfl ?_
    refine gnou rfl ?_
    refine gnolu rfl ?_
    refine gnolu rfl ?_
    refine gnou rfl ?_
    refine gno rfl (by simp) ?_
    refine stp (v := .bool false) (o_pickF rfl rfl) ?_
    refine stp (v := .bool false) (o_mv rfl) ?_
    refine h4 _ _ ?_
    clear h4
    refine ⟨(.bool false), rfl, ?_⟩
    first | exact ⟨bT (by simp only [dueP] at *; omega), hM3.upd⟩ | exact ⟨bF (by simp only [dueP] at *; omega), hM3.upd⟩ | exact ⟨bP (by simp only [dueP] at *; omega), hM3.upd⟩

/-- (*fault.Plan).Stop -/
theorem Stop_ok (p : Value) (l : List Flt) (r0 : List Ent) (k t a : Int) (w : World) (hp : PlanS 72 p l r0) (hr : Res w r0) (hl : l.length * 64 ≤ 140737488355328) : Calls Try.prog 16 [p, .int .i64 k, .int .i64 t, .int .i64 a].toArray w (Rt fun r w' => ∃ r', r = .tuple [.int .i64 (stopV l (0, k, t, a)).1, .bool (stopV l (0, k, t, a)).2].toArray ∧ PlanS 72 p (l.filter (!stopQ (0, k, t, a) ·)) r' ∧ Mem w (ids r0) w' [r']) := by
  have hM0 : Mem w (ids r0) w [r0] := Mem.start hr
  refine calls_vc mixed Try.func16 rfl C16 (by simp [Try.ntmps16]) ?_
  refine seq fun K1 h1 => ?_
  refine stp (v := .int .i64 0) (o_mv rfl) ?_
  refine stp (v := .bool false) (o_mv rfl) ?_
  refine h1 _ _ ?_
  clear h1
  refine seq fun K2 h2 => ?_
  refine stp (v := .int .i64 k) (o_mv rfl) ?_
  refine stp (v := .int .i64 t) (o_mv rfl) ?_
  refine stp (v := .int .i64 a) (o_mv rfl) ?_
  refine stp (v := .agg ([.int .i64 0, .int .i64 k, .int .i64 t, .int .i64 a] : List Value).toArray) (o_bld rfl rfl) ?_
  refine m_al hM0 fun b3 w4 (hM4 : Mem w (ids r0) w4 [r0, [⟨b3, 68, [.int .i64 0, .int .i64 0, .int .i64 0, .int .i64 0]⟩]]) => ?_
  refine m_stA (l := [.int .i64 0, .int .i64 k, .int .i64 t, .int .i64 a]) hM4 (i := 1) rfl rfl rfl rfl (by simp [oneCells, Value.oneCell', byteV]) (by simp) fun w5 (hM5 : Mem w (ids r0) w5 [r0, [⟨b3, 68, [.int .i64 0, .int .i64 k, .int .i64 t, .int .i64 a]⟩]]) => ?_
  refine h2 _ _ ?_
  clear h2
  refine seq fun K6 h6 => ?_
  refine stp (v := p) (o_mv rfl) ?_
  refine stp (v := .func (.func 40) [].toArray [.pointer (some ⟨b3, 0, none⟩)].toArray) (o_mkf rfl) ?_
  refine m_call (take_ok p l r0 _ _ (stopQ (0, k, t, a)) w5 hp (hM5.res (i := 0) rfl) hl (cb := [b3]) (fun b hb => by simp only [List.mem_cons, List.not_mem_nil, or_false] at hb; rw [hb]; exact ⟨(hM5.at (i := 1) (j := 0) rfl rfl).lt, hM5.apart (i := 1) (j := 0) (k := 0) rfl rfl rfl (by decide)⟩) (by kernel_rfl) (fun f wc hk => stop1_ok f _ (0, k, t, a) wc ((hM5.at (i := 1) (j := 0) rfl rfl).same (hk _ (by simp))))) rfl fun v7 w7 ⟨r'7, rs7, hs7, hp7, hm7⟩ => ?_
  have hM7 : Mem w (ids r0) w7 [r'7, [⟨b3, 68, [.int .i64 0, .int .i64 k, .int .i64 t, .int .i64 a]⟩], rs7] := hM5.stepAdd 0 rfl hm7
  have hpl := hp7
  refine stp (v := v7) (o_mv rfl) ?_
  refine h6 _ _ ?_
  clear h6
  refine seq fun K8 h8 => ?_
  refine seq fun K9 h9 => ?_
  refine stp (v := v7) (o_mv rfl) ?_
  refine stp (v := .int .i64 ((l.filter (stopQ (0, k, t, a))).length : Nat)) (o_lenR (hs7.rd hM7 (i := 2) rfl) rfl rfl) ?_
  refine stp (v := .bool (decide ((((l.filter (stopQ (0, k, t, a))).length : Nat) : Int) = 0))) (o_bin rfl rfl rfl) ?_
  refine h9 _ _ ?_
  clear h9
  refine cndP rfl (fun c10 => ?_) (fun c10 => ?_)
  ·
    refine seq fun K11 h11 => ?_
    refine stp (v := .int .i64 0) (o_mv rfl) ?_
    refine stp (v := .bool false) (o_mv rfl) ?_
    refine h11 _ _ ?_
    clear h11
    refine ⟨(.tuple [.int .i64 0, .bool false].toArray), rfl, ?_⟩
    rw [stopV_nil (by omega)]
    exact ⟨_, rfl, hpl, hM7.keep (by simp; repeat (first | exact List.Sublist.refl _ | apply List.Sublist.cons))⟩
  ·
    refine h8 _ _ ?_
    clear h8
    refine seq fun K12 h12 => ?_
    refine stp (v := v7) (o_mv rfl) ?_
    refine m_idxS fz (j := 0) (hs7.rd hM7 (i := 2) rfl) rfl rfl (by omega) fun b13 o13 hp13 => ?_
    refine stp (v := .pointer (some ⟨b13, o13 + 6, none⟩)) (o_fa rfl rfl) ?_
    refine ld (v := .int .i64 (((l.filter (stopQ (0, k, t, a))).getD 0 fz).at_)) rfl (hp13.get 6 rfl) ?_
    refine stp (v := .int .i64 (((l.filter (stopQ (0, k, t, a))).getD 0 fz).at_)) (o_mv rfl) ?_
    refine stp (v := .bool true) (o_mv rfl) ?_
    refine h12 _ _ ?_
    clear h12
    refine ⟨(.tuple [.int .i64 (((l.filter (stopQ (0, k, t, a))).getD 0 fz).at_), .bool true].toArray), rfl, ?_⟩
    rw [stopV_cons (by omega)]
    exact ⟨_, rfl, hpl, hM7.keep (by simp; repeat (first | exact List.Sublist.refl _ | apply List.Sublist.cons))⟩

/-- (*fault.Plan).Due -/
theorem Due_ok (p : Value) (l : List Flt) (r0 : List Ent) (a b c d : Int) (w : World) (hp : PlanS 72 p l r0) (hr : Res w r0) (hl : l.length * 64 ≤ 140737488355328) : Calls Try.prog 17 [p, .int .i64 a, .int .i64 b, .int .i64 c, .int .i64 d].toArray w (Rt fun r w' => ∃ r' rs, SlS fltC 8 25 r (l.filter (dueQ a b c d)) rs ∧ PlanS 72 p (l.filter (!dueQ a b c d ·)) r' ∧ Mem w (ids r0) w' [r', rs]) := by
  have hM0 : Mem w (ids r0) w [r0] := Mem.start hr
  refine calls_vc mixed Try.func17 rfl C17 (by simp [Try.ntmps17]) ?_
  refine seq fun K1 h1 => ?_
  refine m_bx (v := .int .i64 a) hM0 rfl rfl fun b2 w3 (hM3 : Mem w (ids r0) w3 [r0, [⟨b2, 3, [.int .i64 a]⟩]]) => ?_
  refine m_bx (v := .int .i64 b) hM3 rfl rfl fun b4 w5 (hM5 : Mem w (ids r0) w5 [r0, [⟨b2, 3, [.int .i64 a]⟩], [⟨b4, 3, [.int .i64 b]⟩]]) => ?_
  refine m_bx (v := .int .i64 c) hM5 rfl rfl fun b6 w7 (hM7 : Mem w (ids r0) w7 [r0, [⟨b2, 3, [.int .i64 a]⟩], [⟨b4, 3, [.int .i64 b]⟩], [⟨b6, 3, [.int .i64 c]⟩]]) => ?_
  refine m_bx (v := .int .i64 d) hM7 rfl rfl fun b8 w9 (hM9 : Mem w (ids r0) w9 [r0, [⟨b2, 3, [.int .i64 a]⟩], [⟨b4, 3, [.int .i64 b]⟩], [⟨b6, 3, [.int .i64 c]⟩], [⟨b8, 3, [.int .i64 d]⟩]]) => ?_
  refine stp (v := .slice none 0 0) (o_mv rfl) ?_
  refine h1 _ _ ?_
  clear h1
  refine seq fun K10 h10 => ?_
  refine stp (v := p) (o_mv rfl) ?_
  refine stp (v := .func (.func 42) [].toArray [.pointer (some ⟨b2, 0, none⟩), .pointer (some ⟨b4, 0, none⟩), .pointer (some ⟨b6, 0, none⟩), .pointer (some ⟨b8, 0, none⟩)].toArray) (o_mkf rfl) ?_
  refine m_call (take_ok p l r0 _ _ (dueQ a b c d) w9 hp (hM9.res (i := 0) rfl) hl (cb := [b2, b4, b6, b8]) (fun b hb => by simp only [List.mem_cons, List.not_mem_nil, or_false] at hb; rcases hb with h | h | h | h <;> (rw [h]; first | exact ⟨(hM9.at (i := 1) (j := 0) rfl rfl).lt, hM9.apart (i := 1) (j := 0) (k := 0) rfl rfl rfl (by decide)⟩ | exact ⟨(hM9.at (i := 2) (j := 0) rfl rfl).lt, hM9.apart (i := 2) (j := 0) (k := 0) rfl rfl rfl (by decide)⟩ | exact ⟨(hM9.at (i := 3) (j := 0) rfl rfl).lt, hM9.apart (i := 3) (j := 0) (k := 0) rfl rfl rfl (by decide)⟩ | exact ⟨(hM9.at (i := 4) (j := 0) rfl rfl).lt, hM9.apart (i := 4) (j := 0) (k := 0) rfl rfl rfl (by decide)⟩)) (by kernel_rfl) (fun f wc hk => due1_ok f _ _ _ _ a b c d wc ((hM9.at (i := 1) (j := 0) rfl rfl).same (hk _ (by simp))) ((hM9.at (i := 2) (j := 0) rfl rfl).same (hk _ (by simp))) ((hM9.at (i := 3) (j := 0) rfl rfl).same (hk _ (by simp))) ((hM9.at (i := 4) (j := 0) rfl rfl).same (hk _ (by simp))))) rfl fun v11 w11 ⟨r'11, rs11, hs11, hp11, hm11⟩ => ?_
  have hM11 : Mem w (ids r0) w11 [r'11, [⟨b2, 3, [.int .i64 a]⟩], [⟨b4, 3, [.int .i64 b]⟩], [⟨b6, 3, [.int .i64 c]⟩], [⟨b8, 3, [.int .i64 d]⟩], rs11] := hM9.stepAdd 0 rfl hm11
  have hpl := hp11
  refine stp (v := v11) (o_mv rfl) ?_
  refine h10 _ _ ?_
  clear h10
  refine ⟨v11, rfl, ?_⟩
  exact ⟨_, _, hs11, hpl, hM11.keep (by simp; repeat (first | exact List.Sublist.refl _ | apply List.Sublist.cons))⟩

/-- (*fault.Plan).Left -/
theorem Left_ok (p : Value) (l : List Flt) (r0 : List Ent) (w : World) (hp : PlanS 72 p l r0) (hr : Res w r0) (hl : l.length * 64 ≤ 140737488355328) : Calls Try.prog 18 [p].toArray w (Rt fun r w' => ∃ rs, SlS fltC 8 25 r l rs ∧ Mem w (ids r0) w' [r0, rs]) := by
  obtain ⟨bp, vb, rb, rfl, rfl, hb⟩ := hp
  have hM0 : Mem w (ids (⟨bp, 72, [vb]⟩ :: rb)) w [[⟨bp, 72, [vb]⟩], rb] := Mem.start2 hr
  refine calls_vc mixed Try.func18 rfl C18 (by simp [Try.ntmps18]) ?_
  refine seq fun K1 h1 => ?_
  refine stp (v := .slice none 0 0) (o_mv rfl) ?_
  refine h1 _ _ ?_
  clear h1
  refine seq fun K2 h2 => ?_
  refine seq fun K3 h3 => ?_
  refine stp (v := .pointer (some ⟨bp, 0, none⟩)) (o_mv rfl) ?_
  refine stp (v := .bool false) (o_isnil rfl rfl) ?_
  refine h3 _ _ ?_
  clear h3
  refine cndF rfl ?_
  refine h2 _ _ ?_
  clear h2
  refine seq fun K4 h4 => ?_
  refine m_bs hM0 rfl fun b5 w6 (hM6 : Mem w (ids (⟨bp, 72, [vb]⟩ :: rb)) w6 [[⟨bp, 72, [vb]⟩], rb, [⟨b5, 25, []⟩]]) => ?_
  refine stp (v := .pointer (some ⟨bp, 0, none⟩)) (o_mv rfl) ?_
  refine stp (v := .pointer (some ⟨bp, 0, none⟩)) (o_nilchk rfl rfl) ?_
  refine stp (v := .pointer (some ⟨bp, 0, none⟩)) (o_fa rfl rfl) ?_
  refine m_ld (v := vb) hM6 (i := 0) (j := 0) rfl rfl rfl rfl ?_
  have hs7 : SlS fltC 8 25 (.slice (some ⟨b5, 0, none⟩) 0 0) [] [⟨b5, 25, []⟩] := SlS.lit0
  refine m_appS' (enc := fltC) hM6 (i := 2) rfl hs7 rfl rfl (hb.rd hM6 (i := 1) rfl) (rfl) (by first | omega | (simp; omega)) (by omega) fun v8 w8 r8 (hs8 : SlS fltC 8 25 v8 (l) r8) (hM8 : Mem w (ids (⟨bp, 72, [vb]⟩ :: rb)) w8 [[⟨bp, 72, [vb]⟩], rb, r8]) => ?_
  refine stp (v := v8) (o_mv rfl) ?_
  refine h4 _ _ ?_
  clear h4
  refine ⟨v8, rfl, ?_⟩
  exact ⟨_, hs8, hM8.keep (by simp)⟩

/-- fault.New -/
theorem New_good (x : Value) (l : List Flt) (w : World) (hx : RdS fltC w x l) (hok : ∀ y ∈ l, y.ok) (hl : l.length * 64 ≤ 175921860444160) (hc : check l = 0) : Calls Try.prog 20 [x].toArray w (Rt fun r w' => ∃ v rs, r = .tuple [v, .int .i64 0].toArray ∧ PlanS 72 v l rs ∧ Mem w [] w' [rs]) := by
  have hM0 : Mem w [] w [] := Mem.nil w []
  refine calls_vc mixed Try.func20 rfl C20 (by simp [Try.ntmps20]) ?_
  refine seq fun K1 h1 => ?_
  refine stp (v := .pointer none) (o_mv rfl) ?_
  refine stp (v := .int .i64 0) (o_mv rfl) ?_
  refine h1 _ _ ?_
  clear h1
  refine seq fun K2 h2 => ?_
  refine seq fun K3 h3 => ?_
  refine stp (v := x) (o_mv rfl) ?_
  refine m_call (Check_ok _ l w (hx.upd hM0.upd) hok (by first | omega | (simp; done) | (simp; omega))) rfl fun v4 w4 ⟨hr4, hu4⟩ => ?_
  have hM4 : Mem w [] w4 [] := hM0.pure hu4
  subst hr4
  refine stp (v := .int .i64 (check l)) (o_mv rfl) ?_
  refine h3 _ _ ?_
  clear h3
  refine seq fun K5 h5 => ?_
  refine stp (v := .int .i64 (check l)) (o_mv rfl) ?_
  refine stp (v := .bool (decide (¬ (check l) = 0))) (o_bin rfl rfl v_neq) ?_
  refine h5 _ _ ?_
  clear h5
  refine cndP rfl (fun c6 => absurd c6 (by omega)) (fun c6 => ?_)
  refine h2 _ _ ?_
  clear h2
  refine seq fun K7 h7 => ?_
  refine m_bs hM4 rfl fun b8 w9 (hM9 : Mem w [] w9 [[⟨b8, 25, []⟩]]) => ?_
  refine stp (v := x) (o_mv rfl) ?_
  have hs10 : SlS fltC 8 25 (.slice (some ⟨b8, 0, none⟩) 0 0) [] [⟨b8, 25, []⟩] := SlS.lit0
  refine m_appS' (enc := fltC) hM9 (i := 0) rfl hs10 rfl rfl (hx.upd hM9.upd) (rfl) (by first | omega | (simp; omega)) (by omega) fun v11 w11 r11 (hs11 : SlS fltC 8 25 v11 (l) r11) (hM11 : Mem w [] w11 [r11]) => ?_
  obtain ⟨a12_, n12_, c12_, rfl⟩ := Sl.isSlice hs11
  refine stp (v := .agg ([(.slice a12_ n12_ c12_)] : List Value).toArray) (o_bld rfl rfl) ?_
  refine m_bx (v := .agg ([(.slice a12_ n12_ c12_)] : List Value).toArray) hM11 rfl rfl fun b13 w14 (hM14 : Mem w [] w14 [r11, [⟨b13, 72, [(.slice a12_ n12_ c12_)]⟩]]) => ?_
  refine stp (v := .pointer (some ⟨b13, 0, none⟩)) (o_mv rfl) ?_
  refine stp (v := .int .i64 0) (o_mv rfl) ?_
  refine h7 _ _ ?_
  clear h7
  refine ⟨(.tuple [.pointer (some ⟨b13, 0, none⟩), .int .i64 0].toArray), rfl, ?_⟩
  exact ⟨_, _, rfl, ⟨_, _, _, rfl, rfl, hs11⟩, hM14.perm (by simp; exact (List.perm_append_singleton _ _).symm)⟩

/-- fault.New -/
theorem New_bad (x : Value) (l : List Flt) (w : World) (hx : RdS fltC w x l) (hok : ∀ y ∈ l, y.ok) (hl : l.length * 64 ≤ 175921860444160) (hc : ¬ check l = 0) : Calls Try.prog 20 [x].toArray w (Rt fun r w' => r = .tuple [.pointer none, .int .i64 (check l)].toArray ∧ Upd [] w w') := by
  have hM0 : Mem w [] w [] := Mem.nil w []
  refine calls_vc mixed Try.func20 rfl C20 (by simp [Try.ntmps20]) ?_
  refine seq fun K1 h1 => ?_
  refine stp (v := .pointer none) (o_mv rfl) ?_
  refine stp (v := .int .i64 0) (o_mv rfl) ?_
  refine h1 _ _ ?_
  clear h1
  refine seq fun K2 h2 => ?_
  refine seq fun K3 h3 => ?_
  refine stp (v := x) (o_mv rfl) ?_
  refine m_call (Check_ok _ l w (hx.upd hM0.upd) hok (by first | omega | (simp; done) | (simp; omega))) rfl fun v4 w4 ⟨hr4, hu4⟩ => ?_
  have hM4 : Mem w [] w4 [] := hM0.pure hu4
  subst hr4
  refine stp (v := .int .i64 (check l)) (o_mv rfl) ?_
  refine h3 _ _ ?_
  clear h3
  refine seq fun K5 h5 => ?_
  refine stp (v := .int .i64 (check l)) (o_mv rfl) ?_
  refine stp (v := .bool (decide (¬ (check l) = 0))) (o_bin rfl rfl v_neq) ?_
  refine h5 _ _ ?_
  clear h5
  refine cndP rfl (fun c6 => ?_) (fun c6 => (c6 (by omega)).elim)
  refine seq fun K7 h7 => ?_
  refine stp (v := .int .i64 (check l)) (o_mv rfl) ?_
  refine stp (v := .pointer none) (o_mv rfl) ?_
  refine stp (v := .int .i64 (check l)) (o_mv rfl) ?_
  refine h7 _ _ ?_
  clear h7
  refine ⟨(.tuple [.pointer none, .int .i64 (check l)].toArray), rfl, ?_⟩
  exact ⟨rfl, hM4.upd⟩

/-- (*winnowref16.Plan).Left -/
theorem refLeft_ok (p : Value) (l : List Flt) (r0 : List Ent) (w : World) (hp : PlanS 74 p l r0) (hr : Res w r0) (hl : l.length * 64 ≤ 140737488355328) : Calls Try.prog 26 [p].toArray w (Rt fun r w' => ∃ rs, SlS fltC 8 25 r l rs ∧ Mem w (ids r0) w' [r0, rs]) := by
  obtain ⟨bp, vb, rb, rfl, rfl, hb⟩ := hp
  have hM0 : Mem w (ids (⟨bp, 74, [vb]⟩ :: rb)) w [[⟨bp, 74, [vb]⟩], rb] := Mem.start2 hr
  refine calls_vc mixed Try.func26 rfl C26 (by simp [Try.ntmps26]) ?_
  refine seq fun K1 h1 => ?_
  refine stp (v := .slice none 0 0) (o_mv rfl) ?_
  refine h1 _ _ ?_
  clear h1
  refine seq fun K2 h2 => ?_
  refine seq fun K3 h3 => ?_
  refine stp (v := .pointer (some ⟨bp, 0, none⟩)) (o_mv rfl) ?_
  refine stp (v := .bool false) (o_isnil rfl rfl) ?_
  refine h3 _ _ ?_
  clear h3
  refine cndF rfl ?_
  refine h2 _ _ ?_
  clear h2
  refine seq fun K4 h4 => ?_
  refine m_bs hM0 rfl fun b5 w6 (hM6 : Mem w (ids (⟨bp, 74, [vb]⟩ :: rb)) w6 [[⟨bp, 74, [vb]⟩], rb, [⟨b5, 25, []⟩]]) => ?_
  refine stp (v := .pointer (some ⟨bp, 0, none⟩)) (o_mv rfl) ?_
  refine stp (v := .pointer (some ⟨bp, 0, none⟩)) (o_nilchk rfl rfl) ?_
  refine stp (v := .pointer (some ⟨bp, 0, none⟩)) (o_fa rfl rfl) ?_
  refine m_ld (v := vb) hM6 (i := 0) (j := 0) rfl rfl rfl rfl ?_
  have hs7 : SlS fltC 8 25 (.slice (some ⟨b5, 0, none⟩) 0 0) [] [⟨b5, 25, []⟩] := SlS.lit0
  refine m_appS' (enc := fltC) hM6 (i := 2) rfl hs7 rfl rfl (hb.rd hM6 (i := 1) rfl) (rfl) (by first | omega | (simp; omega)) (by omega) fun v8 w8 r8 (hs8 : SlS fltC 8 25 v8 (l) r8) (hM8 : Mem w (ids (⟨bp, 74, [vb]⟩ :: rb)) w8 [[⟨bp, 74, [vb]⟩], rb, r8]) => ?_
  refine stp (v := v8) (o_mv rfl) ?_
  refine h4 _ _ ?_
  clear h4
  refine ⟨v8, rfl, ?_⟩
  exact ⟨_, hs8, hM8.keep (by simp)⟩

/-- winnowref16.New -/
theorem refNew_good (x : Value) (l : List Flt) (w : World) (hx : RdS fltC w x l) (hok : ∀ y ∈ l, y.ok) (hl : l.length * 64 ≤ 175921860444160) (hc : check l = 0) : Calls Try.prog 21 [x].toArray w (Rt fun r w' => ∃ v rs, r = .tuple [v, .int .i64 0].toArray ∧ PlanS 74 v l rs ∧ Mem w [] w' [rs]) := by
  have hM0 : Mem w [] w [] := Mem.nil w []
  refine calls_vc mixed Try.func21 rfl C21 (by simp [Try.ntmps21]) ?_
  refine seq fun K1 h1 => ?_
  refine stp (v := .pointer none) (o_mv rfl) ?_
  refine stp (v := .int .i64 0) (o_mv rfl) ?_
  refine h1 _ _ ?_
  clear h1
  refine seq fun K2 h2 => ?_
  refine stp (v := x) (o_mv rfl) ?_
  refine m_call (refCheck_ok _ l w (hx.upd hM0.upd) hok (by first | omega | (simp; done) | (simp; omega))) rfl fun v3 w3 ⟨hr3, hu3⟩ => ?_
  have hM3 : Mem w [] w3 [] := hM0.pure hu3
  subst hr3
  refine stp (v := .int .i64 (check l)) (o_mv rfl) ?_
  refine h2 _ _ ?_
  clear h2
  refine seq fun K4 h4 => ?_
  refine seq fun K5 h5 => ?_
  refine stp (v := .int .i64 (check l)) (o_mv rfl) ?_
  refine stp (v := .bool (decide (¬ (check l) = 0))) (o_bin rfl rfl v_neq) ?_
  refine h5 _ _ ?_
  clear h5
  refine cndP rfl (fun c6 => absurd c6 (by omega)) (fun c6 => ?_)
  refine h4 _ _ ?_
  clear h4
  refine seq fun K7 h7 => ?_
  refine m_bs hM3 rfl fun b8 w9 (hM9 : Mem w [] w9 [[⟨b8, 25, []⟩]]) => ?_
  refine stp (v := x) (o_mv rfl) ?_
  have hs10 : SlS fltC 8 25 (.slice (some ⟨b8, 0, none⟩) 0 0) [] [⟨b8, 25, []⟩] := SlS.lit0
  refine m_appS' (enc := fltC) hM9 (i := 0) rfl hs10 rfl rfl (hx.upd hM9.upd) (rfl) (by first | omega | (simp; omega)) (by omega) fun v11 w11 r11 (hs11 : SlS fltC 8 25 v11 (l) r11) (hM11 : Mem w [] w11 [r11]) => ?_
  obtain ⟨a12_, n12_, c12_, rfl⟩ := Sl.isSlice hs11
  refine stp (v := .agg ([(.slice a12_ n12_ c12_)] : List Value).toArray) (o_bld rfl rfl) ?_
  refine m_bx (v := .agg ([(.slice a12_ n12_ c12_)] : List Value).toArray) hM11 rfl rfl fun b13 w14 (hM14 : Mem w [] w14 [r11, [⟨b13, 74, [(.slice a12_ n12_ c12_)]⟩]]) => ?_
  refine stp (v := .pointer (some ⟨b13, 0, none⟩)) (o_mv rfl) ?_
  refine stp (v := .int .i64 0) (o_mv rfl) ?_
  refine h7 _ _ ?_
  clear h7
  refine ⟨(.tuple [.pointer (some ⟨b13, 0, none⟩), .int .i64 0].toArray), rfl, ?_⟩
  exact ⟨_, _, rfl, ⟨_, _, _, rfl, rfl, hs11⟩, hM14.perm (by simp; exact (List.perm_append_singleton _ _).symm)⟩

/-- winnowref16.New -/
theorem refNew_bad (x : Value) (l : List Flt) (w : World) (hx : RdS fltC w x l) (hok : ∀ y ∈ l, y.ok) (hl : l.length * 64 ≤ 175921860444160) (hc : ¬ check l = 0) : Calls Try.prog 21 [x].toArray w (Rt fun r w' => r = .tuple [.pointer none, .int .i64 (check l)].toArray ∧ Upd [] w w') := by
  have hM0 : Mem w [] w [] := Mem.nil w []
  refine calls_vc mixed Try.func21 rfl C21 (by simp [Try.ntmps21]) ?_
  refine seq fun K1 h1 => ?_
  refine stp (v := .pointer none) (o_mv rfl) ?_
  refine stp (v := .int .i64 0) (o_mv rfl) ?_
  refine h1 _ _ ?_
  clear h1
  refine seq fun K2 h2 => ?_
  refine stp (v := x) (o_mv rfl) ?_
  refine m_call (refCheck_ok _ l w (hx.upd hM0.upd) hok (by first | omega | (simp; done) | (simp; omega))) rfl fun v3 w3 ⟨hr3, hu3⟩ => ?_
  have hM3 : Mem w [] w3 [] := hM0.pure hu3
  subst hr3
  refine stp (v := .int .i64 (check l)) (o_mv rfl) ?_
  refine h2 _ _ ?_
  clear h2
  refine seq fun K4 h4 => ?_
  refine seq fun K5 h5 => ?_
  refine stp (v := .int .i64 (check l)) (o_mv rfl) ?_
  refine stp (v := .bool (decide (¬ (check l) = 0))) (o_bin rfl rfl v_neq) ?_
  refine h5 _ _ ?_
  clear h5
  refine cndP rfl (fun c6 => ?_) (fun c6 => (c6 (by omega)).elim)
  refine seq fun K7 h7 => ?_
  refine stp (v := .int .i64 (check l)) (o_mv rfl) ?_
  refine stp (v := .pointer none) (o_mv rfl) ?_
  refine stp (v := .int .i64 (check l)) (o_mv rfl) ?_
  refine h7 _ _ ?_
  clear h7
  refine ⟨(.tuple [.pointer none, .int .i64 (check l)].toArray), rfl, ?_⟩
  exact ⟨rfl, hM3.upd⟩
