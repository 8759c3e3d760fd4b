/- Plans: the document's own; the laws' helpers. -/
import Derived.Test.YtnkilhmkegmenaaF5
namespace Go.Proofs.Ytnkilhmkegmenaa.E
open Go
theorem sq_yes {f : Flt} {k t a : Int} (h : f.kind = 0 ∧ f.tk = k ∧ f.task = t ∧ f.att = a) : stopQ (0, k, t, a) f = true := by unfold stopQ placeP; simpa [Prod.ext_iff] using h
theorem sq_no {f : Flt} {k t a : Int} (h : ¬ (f.kind = 0 ∧ f.tk = k ∧ f.task = t ∧ f.att = a)) : ¬ stopQ (0, k, t, a) f = true := by unfold stopQ placeP; simpa [Prod.ext_iff] using h
theorem dq_yes {f : Flt} {a b c d : Int} (h : dueP a b c d f) : dueQ a b c d f = true := decide_eq_true h
theorem dq_no {f : Flt} {a b c d : Int} (h : ¬ dueP a b c d f) : ¬ dueQ a b c d f = true := by unfold dueQ; simpa using h
theorem filterN_snoc {l : List Flt} {i : Nat} {q : Flt → Bool} (h : i < l.length) (hq : ¬ q (l.getD i fz) = true) : (l.take (i + 1)).filter (!q ·) = (l.take i).filter (!q ·) ++ [l.getD i fz] := filter_snoc h (by simpa using hq)
theorem filterN_skip {l : List Flt} {i : Nat} {q : Flt → Bool} (h : i < l.length) (hq : q (l.getD i fz) = true) : (l.take (i + 1)).filter (!q ·) = (l.take i).filter (!q ·) := filter_skip h (by simpa using hq)
def atL (m : List Flt) : Int := match m.getLast? with
  | none => 0
  | some f => f.at_
def thL (m : List Flt) : Bool := m.getLast?.isSome
theorem atL_snoc (m : List Flt) (x : Flt) : atL (m ++ [x]) = x.at_ := by simp [atL]
theorem thL_snoc (m : List Flt) (x : Flt) : thL (m ++ [x]) = true := by simp [thL]
def uniq (l : List Flt) : Prop := (l.map placeP).Nodup
theorem uniq_filter {l : List Flt} (h : uniq l) (q : Flt → Bool) : uniq (l.filter q) := (List.filter_sublist.map _).nodup h
theorem filter_one {p : Plc} : ∀ {l : List Flt}, uniq l → (l.filter (stopQ p)).length ≤ 1
  | [], _ => by simp
  | f :: l, h => by
    unfold uniq at h
    rw [List.map_cons, List.nodup_cons] at h
    by_cases c : stopQ p f = true
    · rw [List.filter_cons_of_pos c]
      have : l.filter (stopQ p) = [] := by
        rw [List.filter_eq_nil_iff]
        intro g hg hq
        apply h.1
        have e1 : placeP f = p := of_decide_eq_true c
        have e2 : placeP g = p := of_decide_eq_true hq
        rw [e1, ← e2]
        exact List.mem_map.2 ⟨g, hg, rfl⟩
      rw [this]; simp
    · rw [List.filter_cons_of_neg c]; exact filter_one h.2
theorem last_eq {l : List Flt} (h : uniq l) (p : Plc) : (atL (l.filter (stopQ p)), thL (l.filter (stopQ p))) = stopV l p := by
  have h1 := filter_one (p := p) h
  unfold stopV
  cases hl : l.filter (stopQ p) with
  | nil => rfl
  | cons f r =>
    cases r with
    | nil => rfl
    | cons g r => rw [hl] at h1; simp at h1
theorem fine_uniq {l : List Flt} (h : fine l) : uniq l := by
  unfold uniq
  rw [List.nodup_iff_pairwise_ne, List.pairwise_iff_getElem]
  intro i j hi hj hij e
  simp only [List.length_map] at hi hj
  have := (h j hj).2 i hij
  apply this
  simp only [List.getElem_map] at e
  rw [List.getD_eq_getElem?_getD, List.getD_eq_getElem?_getD, List.getElem?_eq_getElem hi, List.getElem?_eq_getElem hj]
  exact e
theorem check_zero {l : List Flt} (h : check l = 0) : l.length ≤ 256 ∧ fine l := by
  unfold check at h
  split at h
  · omega
  · split at h
    · rename_i h1 h2; exact ⟨by omega, h2⟩
    · omega

/-- (*winnowref16.Plan).Stop -/
theorem refStop_ok (p : Value) (l : List Flt) (r0 : List Ent) (k t a : Int) (w : World) (hp : PlanS 74 p l r0) (hr : Res w r0) (hl : l.length * 64 ≤ 140737488355328) (hu : uniq l) : Calls Try.prog 23 [p, .int .i64 k, .int .i64 t, .int .i64 a].toArray w (Rt fun r w' => ∃ r', r = .tuple [.int .i64 (stopV l (0, k, t, a)).1, .bool (stopV l (0, k, t, a)).2].toArray ∧ PlanS 74 p (l.filter (!stopQ (0, k, t, a) ·)) r' ∧ Mem w (ids r0) w' [r']) := by
  obtain ⟨bp, vb, rb, rfl, rfl, hb⟩ := hp
  have hM0 : Mem w (ids (⟨bp, 74, [vb]⟩ :: rb)) w [[⟨bp, 74, [vb]⟩], rb] := Mem.start2 hr
  refine calls_vc mixed Try.func23 rfl C23 (by simp [Try.ntmps23]) ?_
  refine seq fun K1 h1 => ?_
  refine stp (v := .int .i64 0) (o_mv rfl) ?_
  refine stp (v := .bool false) (o_mv rfl) ?_
  refine h1 _ _ ?_
  clear h1
  refine seq fun K2 h2 => ?_
  refine seq fun K3 h3 => ?_
  refine stp (v := .pointer (some ⟨bp, 0, none⟩)) (o_mv rfl) ?_
  refine stp (v := .bool false) (o_isnil rfl rfl) ?_
  refine h3 _ _ ?_
  clear h3
  refine cndF rfl ?_
  refine h2 _ _ ?_
  clear h2
  refine seq fun K4 h4 => ?_
  refine stp (v := .slice none 0 0) (o_mv rfl) ?_
  refine h4 _ _ ?_
  clear h4
  refine seq fun K5 h5 => ?_
  refine stp (v := .int .i64 0) (o_mv rfl) ?_
  refine h5 _ _ ?_
  clear h5
  refine seq fun K6 h6 => ?_
  refine stp (v := .bool false) (o_mv rfl) ?_
  refine h6 _ _ ?_
  clear h6
  refine seq fun K7 h7 => ?_
  refine seq fun K8 h8 => ?_
  refine stp (v := .int .i64 0) (o_mv rfl) ?_
  refine h8 _ _ ?_
  clear h8
  have hM9 : Mem w (ids (⟨bp, 74, [vb]⟩ :: rb)) w [[⟨bp, 74, [vb]⟩], rb, []] := hM0.addNil
  have hs9 : SlS fltC 8 25 (.slice none 0 0) [] [] := Sl.nil 8 25
  refine lp (n := fun _ _ => False) (ι := (Nat) × (Value) × (List Ent)) (fun ⟨i, y10_, r10_⟩ f w' => f 10 = y10_ ∧ f 11 = .int .i64 (atL ((l.take i).filter (stopQ (0, k, t, a)))) ∧ f 12 = .bool (thL ((l.take i).filter (stopQ (0, k, t, a)))) ∧ f 13 = .int .i64 (i : Nat) ∧ f 0 = .pointer (some ⟨bp, 0, none⟩) ∧ f 1 = .int .i64 k ∧ f 2 = .int .i64 t ∧ f 3 = .int .i64 a ∧ Mem w (ids (⟨bp, 74, [vb]⟩ :: rb)) w' [[⟨bp, 74, [vb]⟩], rb, r10_] ∧ (i ≤ l.length) ∧ (SlS fltC 8 25 y10_ ((l.take i).filter (!stopQ (0, k, t, a) ·)) r10_)) (fun ⟨i, y10_, r10_⟩ => l.length - i) (0, ((.slice none 0 0)), ([])) ?_ ?_
  · exact ⟨rfl, rfl, rfl, by first | rfl | exact v_int (by omega) | exact v_int (by simp) | exact v_int (by simp; omega), rfl, by first | rfl | exact v_int (by omega) | exact v_int (by simp) | exact v_int (by simp; omega), by first | rfl | exact v_int (by omega) | exact v_int (by simp) | exact v_int (by simp; omega), by first | rfl | exact v_int (by omega) | exact v_int (by simp) | exact v_int (by simp; omega), hM9, by omega, by first | exact hs9 | simpa using hs9⟩
  · rintro ⟨i, y10_, r10_⟩ f w10 ⟨e10_10, e10_11, e10_12, e10_13, e10_0, e10_1, e10_2, e10_3, hM10, hi, hy10_⟩ K11 h11
    obtain ⟨frm, rfl⟩ : ∃ frm, f = (upd (upd (upd (upd (upd (upd (upd (upd frm 10 (y10_)) 11 (.int .i64 (atL ((l.take i).filter (stopQ (0, k, t, a)))))) 12 (.bool (thL ((l.take i).filter (stopQ (0, k, t, a)))))) 13 (.int .i64 (i : Nat))) 0 (.pointer (some ⟨bp, 0, none⟩))) 1 (.int .i64 k)) 2 (.int .i64 t)) 3 (.int .i64 a)) := ⟨f, by rw [upd_self e10_10, upd_self e10_11, upd_self e10_12, upd_self e10_13, upd_self e10_0, upd_self e10_1, upd_self e10_2, upd_self e10_3]⟩
    clear e10_10 e10_11 e10_12 e10_13 e10_0 e10_1 e10_2 e10_3
    refine seq fun K12 h12 => ?_
    refine seq fun K13 h13 => ?_
    refine stp (v := .int .i64 (i : Nat)) (o_mv rfl) ?_
    refine stp (v := .pointer (some ⟨bp, 0, none⟩)) (o_mv rfl) ?_
    refine stp (v := .pointer (some ⟨bp, 0, none⟩)) (o_nilchk rfl rfl) ?_
    refine stp (v := .pointer (some ⟨bp, 0, none⟩)) (o_fa rfl rfl) ?_
    refine m_ld (v := vb) hM10 (i := 0) (j := 0) rfl rfl rfl rfl ?_
    refine stp (v := .int .i64 (l.length : Nat)) (o_lenR (hb.rd hM10 (i := 1) rfl) rfl rfl) ?_
    refine stp (v := .bool (decide (((i : Nat) : Int) < (l.length : Nat)))) (o_bin rfl rfl rfl) ?_
    refine h13 _ _ ?_
    clear h13
    refine cndP rfl (fun c14 => ?_) (fun c14 => ?_)
    ·
      refine h12 _ _ ?_
      clear h12
      refine seq fun K15 h15 => ?_
      refine seq fun K16 h16 => ?_
      refine stp (v := .pointer (some ⟨bp, 0, none⟩)) (o_mv rfl) ?_
      refine stp (v := .pointer (some ⟨bp, 0, none⟩)) (o_nilchk rfl rfl) ?_
      refine stp (v := .pointer (some ⟨bp, 0, none⟩)) (o_fa rfl rfl) ?_
      refine m_ld (v := vb) hM10 (i := 0) (j := 0) rfl rfl rfl rfl ?_
      refine stp (v := .int .i64 (i : Nat)) (o_mv rfl) ?_
      refine m_idxS fz (j := i) (hb.rd hM10 (i := 1) rfl) rfl rfl (by omega) fun b17 o17 hp17 => ?_
      refine ldA (cs := [.int .i64 ((l.getD i fz).kind), .int .i64 ((l.getD i fz).tk), .int .i64 ((l.getD i fz).task), .int .i64 ((l.getD i fz).att), .int .i64 ((l.getD i fz).mom), .int .i64 ((l.getD i fz).rd), .int .i64 ((l.getD i fz).at_), .int .u32 ((l.getD i fz).mask)]) rfl rfl (hp17.row (k := 0) rfl rfl) ?_
      refine m_al hM10 fun b18 w19 (hM19 : Mem w (ids (⟨bp, 74, [vb]⟩ :: rb)) w19 [[⟨bp, 74, [vb]⟩], rb, r10_, [⟨b18, 25, [.int .i64 0, .int .i64 0, .int .i64 0, .int .i64 0, .int .i64 0, .int .i64 0, .int .i64 0, .int .u32 0]⟩]]) => ?_
      refine m_stA (l := [.int .i64 ((l.getD i fz).kind), .int .i64 ((l.getD i fz).tk), .int .i64 ((l.getD i fz).task), .int .i64 ((l.getD i fz).att), .int .i64 ((l.getD i fz).mom), .int .i64 ((l.getD i fz).rd), .int .i64 ((l.getD i fz).at_), .int .u32 ((l.getD i fz).mask)]) hM19 (i := 3) rfl rfl rfl rfl (by simp [oneCells, Value.oneCell', byteV]) (by simp) fun w20 (hM20 : Mem w (ids (⟨bp, 74, [vb]⟩ :: rb)) w20 [[⟨bp, 74, [vb]⟩], rb, r10_, [⟨b18, 25, [.int .i64 ((l.getD i fz).kind), .int .i64 ((l.getD i fz).tk), .int .i64 ((l.getD i fz).task), .int .i64 ((l.getD i fz).att), .int .i64 ((l.getD i fz).mom), .int .i64 ((l.getD i fz).rd), .int .i64 ((l.getD i fz).at_), .int .u32 ((l.getD i fz).mask)]⟩]]) => ?_
      refine h16 _ _ ?_
      clear h16
      refine seq fun K21 h21 => ?_
      refine stp (v := .pointer (some ⟨b18, 0, none⟩)) (o_fa rfl rfl) ?_
      refine m_ld (v := .int .i64 ((l.getD i fz).kind)) hM20 (i := 3) (j := 0) rfl rfl rfl rfl ?_
      refine stp (v := .bool (decide (((l.getD i fz).kind) = 0))) (o_bin rfl rfl rfl) ?_
      refine stp (v := .bool (decide (((l.getD i fz).kind) = 0))) (o_mv rfl) ?_
      refine splitP rfl (fun c22 => ?_) (fun c22 => ?_)
      ·
        refine stg rfl (v := .pointer (some ⟨b18, 1, none⟩)) (o_fa rfl rfl) ?_
        refine gyesl rfl ?_
        refine m_ld (v := .int .i64 ((l.getD i fz).tk)) hM20 (i := 3) (j := 0) rfl rfl rfl rfl ?_
        refine stg rfl (v := .int .i64 k) (o_mv rfl) ?_
        refine stg rfl (v := .bool (decide (((l.getD i fz).tk) = k))) (o_bin rfl rfl rfl) ?_
        refine stp (v := .bool (decide (((l.getD i fz).tk) = k))) (o_pickT rfl rfl) ?_
        refine stp (v := .bool (decide (((l.getD i fz).tk) = k))) (o_mv rfl) ?_
        refine splitP rfl (fun c23 => ?_) (fun c23 => ?_)
        ·
          refine stg rfl (v := .pointer (some ⟨b18, 2, none⟩)) (o_fa rfl rfl) ?_
          refine gyesl rfl ?_
          refine m_ld (v := .int .i64 ((l.getD i fz).task)) hM20 (i := 3) (j := 0) rfl rfl rfl rfl ?_
          refine stg rfl (v := .int .i64 t) (o_mv rfl) ?_
          refine stg rfl (v := .bool (decide (((l.getD i fz).task) = t))) (o_bin rfl rfl rfl) ?_
          refine stp (v := .bool (decide (((l.getD i fz).task) = t))) (o_pickT rfl rfl) ?_
          refine stp (v := .bool (decide (((l.getD i fz).task) = t))) (o_mv rfl) ?_
          refine splitP rfl (fun c24 => ?_) (fun c24 => ?_)
          ·
            refine stg rfl (v := .pointer (some ⟨b18, 3, none⟩)) (o_fa rfl rfl) ?_
            refine gyesl rfl ?_
            refine m_ld (v := .int .i64 ((l.getD i fz).att)) hM20 (i := 3) (j := 0) rfl rfl rfl rfl ?_
            refine stg rfl (v := .int .i64 a) (o_mv rfl) ?_
            refine stg rfl (v := .bool (decide (((l.getD i fz).att) = a))) (o_bin rfl rfl rfl) ?_
            refine stp (v := .bool (decide (((l.getD i fz).att) = a))) (o_pickT rfl rfl) ?_
            refine h21 _ _ ?_
            clear h21
            refine cndP rfl (fun c25 => ?_) (fun c25 => ?_)
            ·
              refine seq fun K26 h26 => ?_
              refine stp (v := .pointer (some ⟨b18, 6, none⟩)) (o_fa rfl rfl) ?_
              refine m_ld (v := .int .i64 ((l.getD i fz).at_)) hM20 (i := 3) (j := 0) rfl rfl rfl rfl ?_
              refine stp (v := .int .i64 ((l.getD i fz).at_)) (o_mv rfl) ?_
              refine h26 _ _ ?_
              clear h26
              refine stp (v := .bool true) (o_mv rfl) ?_
              refine h15 _ _ ?_
              clear h15
              refine stp (v := .int .i64 (i : Nat)) (o_mv rfl) ?_
              refine stp (v := .int .i64 ((i : Nat) + 1)) (o_bin rfl rfl (v_add64 (by constructor <;> omega))) ?_
              refine stp (v := .int .i64 ((i : Nat) + 1)) (o_mv rfl) ?_
              refine h11 (i + 1, y10_, r10_) _ _ ⟨rfl, by first | exact v_int (by rw [filter_snoc (by omega) (sq_yes (by omega)), atL_snoc]) | exact v_int (by rw [filter_skip (by omega) (sq_no (by omega))]), by first | (show Value.bool true = .bool (thL _); rw [filter_snoc (by omega) (sq_yes (by omega)), thL_snoc]) | (show Value.bool (thL _) = .bool (thL _); rw [filter_skip (by omega) (sq_no (by omega))]), by first | rfl | exact v_int (by omega) | exact v_int (by simp) | exact v_int (by simp; omega), rfl, by first | rfl | exact v_int (by omega) | exact v_int (by simp) | exact v_int (by simp; omega), by first | rfl | exact v_int (by omega) | exact v_int (by simp) | exact v_int (by simp; omega), by first | rfl | exact v_int (by omega) | exact v_int (by simp) | exact v_int (by simp; omega), hM20.keep (by simp), by omega, by rw [filterN_skip (by omega) (sq_yes (by omega))]; exact hy10_⟩ (by (try dsimp only); omega)
            ·
              refine stp (v := y10_) (o_mv rfl) ?_
              refine m_ldA (l := [.int .i64 ((l.getD i fz).kind), .int .i64 ((l.getD i fz).tk), .int .i64 ((l.getD i fz).task), .int .i64 ((l.getD i fz).att), .int .i64 ((l.getD i fz).mom), .int .i64 ((l.getD i fz).rd), .int .i64 ((l.getD i fz).at_), .int .u32 ((l.getD i fz).mask)]) hM20 (i := 3) (j := 0) rfl rfl rfl rfl rfl ?_
              refine m_app1S (enc := fltC) (q := l.getD i fz) hM20 (i := 2) rfl hy10_ rfl (by simp) (rfl) (rfl) (by have := takeF_le l (!stopQ (0, k, t, a) ·) i; omega) (by omega) fun v27 w27 r27 u27 (hs27 : SlS fltC 8 25 v27 (((l.take i).filter (!stopQ (0, k, t, a) ·)) ++ [l.getD i fz]) r27) (hM27 : Mem w (ids (⟨bp, 74, [vb]⟩ :: rb)) w27 [[⟨bp, 74, [vb]⟩], rb, r27, [⟨b18, 25, [.int .i64 ((l.getD i fz).kind), .int .i64 ((l.getD i fz).tk), .int .i64 ((l.getD i fz).task), .int .i64 ((l.getD i fz).att), .int .i64 ((l.getD i fz).mom), .int .i64 ((l.getD i fz).rd), .int .i64 ((l.getD i fz).at_), .int .u32 ((l.getD i fz).mask)]⟩]]) => ?_
              refine stp (v := v27) (o_mv rfl) ?_
              refine h15 _ _ ?_
              clear h15
              refine stp (v := .int .i64 (i : Nat)) (o_mv rfl) ?_
              refine stp (v := .int .i64 ((i : Nat) + 1)) (o_bin rfl rfl (v_add64 (by constructor <;> omega))) ?_
              refine stp (v := .int .i64 ((i : Nat) + 1)) (o_mv rfl) ?_
              refine h11 (i + 1, v27, r27) _ _ ⟨rfl, by first | exact v_int (by rw [filter_snoc (by omega) (sq_yes (by omega)), atL_snoc]) | exact v_int (by rw [filter_skip (by omega) (sq_no (by omega))]), by first | (show Value.bool true = .bool (thL _); rw [filter_snoc (by omega) (sq_yes (by omega)), thL_snoc]) | (show Value.bool (thL _) = .bool (thL _); rw [filter_skip (by omega) (sq_no (by omega))]), by first | rfl | exact v_int (by omega) | exact v_int (by simp) | exact v_int (by simp; omega), rfl, by first | rfl | exact v_int (by omega) | exact v_int (by simp) | exact v_int (by simp; omega), by first | rfl | exact v_int (by omega) | exact v_int (by simp) | exact v_int (by simp; omega), by first | rfl | exact v_int (by omega) | exact v_int (by simp) | exact v_int (by simp; omega), hM27.keep (by simp), by omega, by rw [filterN_snoc (by omega) (sq_no (by omega))]; exact hs27⟩ (by (try dsimp only); omega)
          ·
            refine gno rfl (by simp) ?_
            refine gnol rfl (by simp) ?_
            refine gno rfl (by simp) ?_
            refine gno rfl (by simp) ?_
            refine stp (v := .bool false) (o_pickF rfl rfl) ?_
            refine h21 _ _ ?_
            clear h21
            refine cndF rfl ?_
            refine stp (v := y10_) (o_mv rfl) ?_
            refine m_ldA (l := [.int .i64 ((l.getD i fz).kind), .int .i64 ((l.getD i fz).tk), .int .i64 ((l.getD i fz).task), .int .i64 ((l.getD i fz).att), .int .i64 ((l.getD i fz).mom), .int .i64 ((l.getD i fz).rd), .int .i64 ((l.getD i fz).at_), .int .u32 ((l.getD i fz).mask)]) hM20 (i := 3) (j := 0) rfl rfl rfl rfl rfl ?_
            refine m_app1S (enc := fltC) (q := l.getD i fz) hM20 (i := 2) rfl hy10_ rfl (by simp) (rfl) (rfl) (by have := takeF_le l (!stopQ (0, k, t, a) ·) i; omega) (by omega) fun v28 w28 r28 u28 (hs28 : SlS fltC 8 25 v28 (((l.take i).filter (!stopQ (0, k, t, a) ·)) ++ [l.getD i fz]) r28) (hM28 : Mem w (ids (⟨bp, 74, [vb]⟩ :: rb)) w28 [[⟨bp, 74, [vb]⟩], rb, r28, [⟨b18, 25, [.int .i64 ((l.getD i fz).kind), .int .i64 ((l.getD i fz).tk), .int .i64 ((l.getD i fz).task), .int .i64 ((l.getD i fz).att), .int .i64 ((l.getD i fz).mom), .int .i64 ((l.getD i fz).rd), .int .i64 ((l.getD i fz).at_), .int .u32 ((l.getD i fz).mask)]⟩]]) => ?_
            refine stp (v := v28) (o_mv rfl) ?_
            refine h15 _ _ ?_
            clear h15
            refine stp (v := .int .i64 (i : Nat)) (o_mv rfl) ?_
            refine stp (v := .int .i64 ((i : Nat) + 1)) (o_bin rfl rfl (v_add64 (by constructor <;> omega))) ?_
            refine stp (v := .int .i64 ((i : Nat) + 1)) (o_mv rfl) ?_
            refine h11 (i + 1, v28, r28) _ _ ⟨rfl, by first | exact v_int (by rw [filter_snoc (by omega) (sq_yes (by omega)), atL_snoc]) | exact v_int (by rw [filter_skip (by omega) (sq_no (by omega))]), by first | (show Value.bool true = .bool (thL _); rw [filter_snoc (by omega) (sq_yes (by omega)), thL_snoc]) | (show Value.bool (thL _) = .bool (thL _); rw [filter_skip (by omega) (sq_no (by omega))]), by first | rfl | exact v_int (by omega) | exact v_int (by simp) | exact v_int (by simp; omega), rfl, by first | rfl | exact v_int (by omega) | exact v_int (by simp) | exact v_int (by simp; omega), by first | rfl | exact v_int (by omega) | exact v_int (by simp) | exact v_int (by simp; omega), by first | rfl | exact v_int (by omega) | exact v_int (by simp) | exact v_int (by simp; omega), hM28.keep (by simp), by omega, by rw [filterN_snoc (by omega) (sq_no (by omega))]; exact hs28⟩ (by (try dsimp only); omega)
        ·
          refine gno rfl (by simp) ?_
          refine gnol rfl (by simp) ?_
          refine gno rfl (by simp) ?_
          refine gno rfl (by simp) ?_
          refine stp (v := .bool false) (o_pickF rfl rfl) ?_
          refine stp (v := .bool false) (o_mv rfl) ?_
          refine splitF rfl ?_
          refine gno rfl (by simp) ?_
          refine gnol rfl (by simp) ?_
          refine gno rfl (by simp) ?_
          refine gno rfl (by simp) ?_
          refine stp (v := .bool false) (o_pickF rfl rfl) ?_
          refine h21 _ _ ?_
          clear h21
          refine cndF rfl ?_
          refine stp (v := y10_) (o_mv rfl) ?_
          refine m_ldA (l := [.int .i64 ((l.getD i fz).kind), .int .i64 ((l.getD i fz).tk), .int .i64 ((l.getD i fz).task), .int .i64 ((l.getD i fz).att), .int .i64 ((l.getD i fz).mom), .int .i64 ((l.getD i fz).rd), .int .i64 ((l.getD i fz).at_), .int .u32 ((l.getD i fz).mask)]) hM20 (i := 3) (j := 0) rfl rfl rfl rfl rfl ?_
          refine m_app1S (enc := fltC) (q := l.getD i fz) hM20 (i := 2) rfl hy10_ rfl (by simp) (rfl) (rfl) (by have := takeF_le l (!stopQ (0, k, t, a) ·) i; omega) (by omega) fun v29 w29 r29 u29 (hs29 : SlS fltC 8 25 v29 (((l.take i).filter (!stopQ (0, k, t, a) ·)) ++ [l.getD i fz]) r29) (hM29 : Mem w (ids (⟨bp, 74, [vb]⟩ :: rb)) w29 [[⟨bp, 74, [vb]⟩], rb, r29, [⟨b18, 25, [.int .i64 ((l.getD i fz).kind), .int .i64 ((l.getD i fz).tk), .int .i64 ((l.getD i fz).task), .int .i64 ((l.getD i fz).att), .int .i64 ((l.getD i fz).mom), .int .i64 ((l.getD i fz).rd), .int .i64 ((l.getD i fz).at_), .int .u32 ((l.getD i fz).mask)]⟩]]) => ?_
          refine stp (v := v29) (o_mv rfl) ?_
          refine h15 _ _ ?_
          clear h15
          refine stp (v := .int .i64 (i : Nat)) (o_mv rfl) ?_
          refine stp (v := .int .i64 ((i : Nat) + 1)) (o_bin rfl rfl (v_add64 (by constructor <;> omega))) ?_
          refine stp (v := .int .i64 ((i : Nat) + 1)) (o_mv rfl) ?_
          refine h11 (i + 1, v29, r29) _ _ ⟨rfl, by first | exact v_int (by rw [filter_snoc (by omega) (sq_yes (by omega)), atL_snoc]) | exact v_int (by rw [filter_skip (by omega) (sq_no (by omega))]), by first | (show Value.bool true = .bool (thL _); rw [filter_snoc (by omega) (sq_yes (by omega)), thL_snoc]) | (show Value.bool (thL _) = .bool (thL _); rw [filter_skip (by omega) (sq_no (by omega))]), by first | rfl | exact v_int (by omega) | exact v_int (by simp) | exact v_int (by simp; omega), rfl, by first | rfl | exact v_int (by omega) | exact v_int (by simp) | exact v_int (by simp; omega), by first | rfl | exact v_int (by omega) | exact v_int (by simp) | exact v_int (by simp; omega), by first | rfl | exact v_int (by omega) | exact v_int (by simp) | exact v_int (by simp; omega), hM29.keep (by simp), by omega, by rw [filterN_snoc (by omega) (sq_no (by omega))]; exact hs29⟩ (by (try dsimp only); omega)
      ·
        refine gno rfl (by simp) ?_
        refine gnol rfl (by simp) ?_
        refine gno rfl (by simp) ?_
        refine gno rfl (by simp) ?_
        refine stp (v := .bool false) (o_pickF rfl rfl) ?_
        refine stp (v := .bool false) (o_mv rfl) ?_
        refine splitF rfl ?_
        refine gno rfl (by simp) ?_
        refine gnol rfl (by simp) ?_
        refine gno rfl (by simp) ?_
        refine gno rfl (by simp) ?_
        refine stp (v := .bool false) (o_pickF rfl rfl) ?_
        refine stp (v := .bool false) (o_mv rfl) ?_
        refine splitF rfl ?_
        refine gno rfl (by simp) ?_
        refine gnol rfl (by simp) ?_
        refine gno rfl (by simp) ?_
        refine gno rfl (by simp) ?_
        refine stp (v := .bool false) (o_pickF rfl rfl) ?_
        refine h21 _ _ ?_
        clear h21
        refine cndF rfl ?_
        refine stp (v := y10_) (o_mv rfl) ?_
        refine m_ldA (l := [.int .i64 ((l.getD i fz).kind), .int .i64 ((l.getD i fz).tk), .int .i64 ((l.getD i fz).task), .int .i64 ((l.getD i fz).att), .int .i64 ((l.getD i fz).mom), .int .i64 ((l.getD i fz).rd), .int .i64 ((l.getD i fz).at_), .int .u32 ((l.getD i fz).mask)]) hM20 (i := 3) (j := 0) rfl rfl rfl rfl rfl ?_
        refine m_app1S (enc := fltC) (q := l.getD i fz) hM20 (i := 2) rfl hy10_ rfl (by simp) (rfl) (rfl) (by have := takeF_le l (!stopQ (0, k, t, a) ·) i; omega) (by omega) fun v30 w30 r30 u30 (hs30 : SlS fltC 8 25 v30 (((l.take i).filter (!stopQ (0, k, t, a) ·)) ++ [l.getD i fz]) r30) (hM30 : Mem w (ids (⟨bp, 74, [vb]⟩ :: rb)) w30 [[⟨bp, 74, [vb]⟩], rb, r30, [⟨b18, 25, [.int .i64 ((l.getD i fz).kind), .int .i64 ((l.getD i fz).tk), .int .i64 ((l.getD i fz).task), .int .i64 ((l.getD i fz).att), .int .i64 ((l.getD i fz).mom), .int .i64 ((l.getD i fz).rd), .int .i64 ((l.getD i fz).at_), .int .u32 ((l.getD i fz).mask)]⟩]]) => ?_
        refine stp (v := v30) (o_mv rfl) ?_
        refine h15 _ _ ?_
        clear h15
        refine stp (v := .int .i64 (i : Nat)) (o_mv rfl) ?_
        refine stp (v := .int .i64 ((i : Nat) + 1)) (o_bin rfl rfl (v_add64 (by constructor <;> omega))) ?_
        refine stp (v := .int .i64 ((i : Nat) + 1)) (o_mv rfl) ?_
        refine h11 (i + 1, v30, r30) _ _ ⟨rfl, by first | exact v_int (by rw [filter_snoc (by omega) (sq_yes (by omega)), atL_snoc]) | exact v_int (by rw [filter_skip (by omega) (sq_no (by omega))]), by first | (show Value.bool true = .bool (thL _); rw [filter_snoc (by omega) (sq_yes (by omega)), thL_snoc]) | (show Value.bool (thL _) = .bool (thL _); rw [filter_skip (by omega) (sq_no (by omega))]), by first | rfl | exact v_int (by omega) | exact v_int (by simp) | exact v_int (by simp; omega), rfl, by first | rfl | exact v_int (by omega) | exact v_int (by simp) | exact v_int (by simp; omega), by first | rfl | exact v_int (by omega) | exact v_int (by simp) | exact v_int (by simp; omega), by first | rfl | exact v_int (by omega) | exact v_int (by simp) | exact v_int (by simp; omega), hM30.keep (by simp), by omega, by rw [filterN_snoc (by omega) (sq_no (by omega))]; exact hs30⟩ (by (try dsimp only); omega)
    ·
      refine h7 _ _ ?_
      clear h7
      refine seq fun K31 h31 => ?_
      refine stp (v := .pointer (some ⟨bp, 0, none⟩)) (o_mv rfl) ?_
      refine stp (v := y10_) (o_mv rfl) ?_
      refine stp (v := .pointer (some ⟨bp, 0, none⟩)) (o_nilchk rfl rfl) ?_
      refine stp (v := .pointer (some ⟨bp, 0, none⟩)) (o_fa rfl rfl) ?_
      refine m_st (v := y10_) hM10 (i := 0) rfl rfl rfl (Sl.one hy10_) (by simp) fun w32 (hM32 : Mem w (ids (⟨bp, 74, [vb]⟩ :: rb)) w32 [[⟨bp, 74, [y10_]⟩], rb, r10_]) => ?_
      refine h31 _ _ ?_
      clear h31
      refine seq fun K33 h33 => ?_
      refine stp (v := .int .i64 (atL ((l.take i).filter (stopQ (0, k, t, a))))) (o_mv rfl) ?_
      refine stp (v := .bool (thL ((l.take i).filter (stopQ (0, k, t, a))))) (o_mv rfl) ?_
      refine stp (v := .int .i64 (atL ((l.take i).filter (stopQ (0, k, t, a))))) (o_mv rfl) ?_
      refine stp (v := .bool (thL ((l.take i).filter (stopQ (0, k, t, a))))) (o_mv rfl) ?_
      refine h33 _ _ ?_
      clear h33
      refine ⟨(.tuple [.int .i64 (atL ((l.take i).filter (stopQ (0, k, t, a)))), .bool (thL ((l.take i).filter (stopQ (0, k, t, a))))].toArray), rfl, ?_⟩
      rw [List.take_of_length_le (by omega)] at hy10_ ⊢
      rw [← last_eq hu]
      exact ⟨_, rfl, ⟨_, _, _, rfl, rfl, hy10_⟩, (hM32.drop 1).keep (by simp)⟩

/-- (*winnowref16.Plan).Due -/
theorem refDue_ok (p : Value) (l : List Flt) (r0 : List Ent) (a b c d : Int) (w : World) (hp : PlanS 74 p l r0) (hr : Res w r0) (hl : l.length * 64 ≤ 140737488355328) : Calls Try.prog 24 [p, .int .i64 a, .int .i64 b, .int .i64 c, .int .i64 d].toArray w (Rt fun r w' => ∃ r' rs, SlS fltC 8 25 r (l.filter (dueQ a b c d)) rs ∧ PlanS 74 p (l.filter (!dueQ a b c d ·)) r' ∧ Mem w (ids r0) w' [r', rs]) := by
  obtain ⟨bp, vb, rb, rfl, rfl, hb⟩ := hp
  have hM0 : Mem w (ids (⟨bp, 74, [vb]⟩ :: rb)) w [[⟨bp, 74, [vb]⟩], rb] := Mem.start2 hr
  refine calls_vc mixed Try.func24 rfl C24 (by simp [Try.ntmps24]) ?_
  refine seq fun K1 h1 => ?_
  refine stp (v := .slice none 0 0) (o_mv rfl) ?_
  refine h1 _ _ ?_
  clear h1
  refine seq fun K2 h2 => ?_
  refine seq fun K3 h3 => ?_
  refine stp (v := .pointer (some ⟨bp, 0, none⟩)) (o_mv rfl) ?_
  refine stp (v := .bool false) (o_isnil rfl rfl) ?_
  refine h3 _ _ ?_
  clear h3
  refine cndF rfl ?_
  refine h2 _ _ ?_
  clear h2
  refine seq fun K4 h4 => ?_
  refine stp (v := .slice none 0 0) (o_mv rfl) ?_
  refine stp (v := .slice none 0 0) (o_mv rfl) ?_
  refine h4 _ _ ?_
  clear h4
  refine seq fun K5 h5 => ?_
  refine seq fun K6 h6 => ?_
  refine stp (v := .int .i64 0) (o_mv rfl) ?_
  refine h6 _ _ ?_
  clear h6
  have hM7 : Mem w (ids (⟨bp, 74, [vb]⟩ :: rb)) w [[⟨bp, 74, [vb]⟩], rb, []] := hM0.addNil
  have hs7 : SlS fltC 8 25 (.slice none 0 0) [] [] := Sl.nil 8 25
  have hM8 : Mem w (ids (⟨bp, 74, [vb]⟩ :: rb)) w [[⟨bp, 74, [vb]⟩], rb, [], []] := hM7.addNil
  have hs8 : SlS fltC 8 25 (.slice none 0 0) [] [] := Sl.nil 8 25
  refine lp (n := fun _ _ => False) (ι := (Nat) × (Value) × (List Ent) × (Value) × (List Ent)) (fun ⟨i, y11_, r11_, y12_, r12_⟩ f w' => f 11 = y11_ ∧ f 12 = y12_ ∧ f 13 = .int .i64 (i : Nat) ∧ f 0 = .pointer (some ⟨bp, 0, none⟩) ∧ f 1 = .int .i64 a ∧ f 2 = .int .i64 b ∧ f 3 = .int .i64 c ∧ f 4 = .int .i64 d ∧ Mem w (ids (⟨bp, 74, [vb]⟩ :: rb)) w' [[⟨bp, 74, [vb]⟩], rb, r11_, r12_] ∧ (i ≤ l.length) ∧ (SlS fltC 8 25 y11_ ((l.take i).filter (!dueQ a b c d ·)) r11_) ∧ (SlS fltC 8 25 y12_ ((l.take i).filter (dueQ a b c d)) r12_)) (fun ⟨i, y11_, r11_, y12_, r12_⟩ => l.length - i) (0, ((.slice none 0 0)), ([]), ((.slice none 0 0)), ([])) ?_ ?_
  · exact ⟨rfl, rfl, by first | rfl | exact v_int (by omega) | exact v_int (by simp) | exact v_int (by simp; omega), rfl, by first | rfl | exact v_int (by omega) | exact v_int (by simp) | exact v_int (by simp; omega), by first | rfl | exact v_int (by omega) | exact v_int (by simp) | exact v_int (by simp; omega), by first | rfl | exact v_int (by omega) | exact v_int (by simp) | exact v_int (by simp; omega), by first | rfl | exact v_int (by omega) | exact v_int (by simp) | exact v_int (by simp; omega), hM8, by omega, by first | exact hs7 | simpa using hs7, by first | exact hs8 | simpa using hs8⟩
  · rintro ⟨i, y11_, r11_, y12_, r12_⟩ f w9 ⟨e9_11, e9_12, e9_13, e9_0, e9_1, e9_2, e9_3, e9_4, hM9, hi, hy11_, hy12_⟩ K10 h10
    obtain ⟨frm, rfl⟩ : ∃ frm, f = (upd (upd (upd (upd (upd (upd (upd (upd frm 11 (y11_)) 12 (y12_)) 13 (.int .i64 (i : Nat))) 0 (.pointer (some ⟨bp, 0, none⟩))) 1 (.int .i64 a)) 2 (.int .i64 b)) 3 (.int .i64 c)) 4 (.int .i64 d)) := ⟨f, by rw [upd_self e9_11, upd_self e9_12, upd_self e9_13, upd_self e9_0, upd_self e9_1, upd_self e9_2, upd_self e9_3, upd_self e9_4]⟩
    clear e9_11 e9_12 e9_13 e9_0 e9_1 e9_2 e9_3 e9_4
    refine seq fun K11 h11 => ?_
    refine seq fun K12 h12 => ?_
    refine stp (v := .int .i64 (i : Nat)) (o_mv rfl) ?_
    refine stp (v := .pointer (some ⟨bp, 0, none⟩)) (o_mv rfl) ?_
    refine stp (v := .pointer (some ⟨bp, 0, none⟩)) (o_nilchk rfl rfl) ?_
    refine stp (v := .pointer (some ⟨bp, 0, none⟩)) (o_fa rfl rfl) ?_
    refine m_ld (v := vb) hM9 (i := 0) (j := 0) rfl rfl rfl rfl ?_
    refine stp (v := .int .i64 (l.length : Nat)) (o_lenR (hb.rd hM9 (i := 1) rfl) rfl rfl) ?_
    refine stp (v := .bool (decide (((i : Nat) : Int) < (l.length : Nat)))) (o_bin rfl rfl rfl) ?_
    refine h12 _ _ ?_
    clear h12
    refine cndP rfl (fun c13 => ?_) (fun c13 => ?_)
    ·
      refine h11 _ _ ?_
      clear h11
      refine seq fun K14 h14 => ?_
      refine seq fun K15 h15 => ?_
      refine stp (v := .pointer (some ⟨bp, 0, none⟩)) (o_mv rfl) ?_
      refine stp (v := .pointer (some ⟨bp, 0, none⟩)) (o_nilchk rfl rfl) ?_
      refine stp (v := .pointer (some ⟨bp, 0, none⟩)) (o_fa rfl rfl) ?_
      refine m_ld (v := vb) hM9 (i := 0) (j := 0) rfl rfl rfl rfl ?_
      refine stp (v := .int .i64 (i : Nat)) (o_mv rfl) ?_
      refine m_idxS fz (j := i) (hb.rd hM9 (i := 1) rfl) rfl rfl (by omega) fun b16 o16 hp16 => ?_
      refine ldA (cs := [.int .i64 ((l.getD i fz).kind), .int .i64 ((l.getD i fz).tk), .int .i64 ((l.getD i fz).task), .int .i64 ((l.getD i fz).att), .int .i64 ((l.getD i fz).mom), .int .i64 ((l.getD i fz).rd), .int .i64 ((l.getD i fz).at_), .int .u32 ((l.getD i fz).mask)]) rfl rfl (hp16.row (k := 0) rfl rfl) ?_
      refine m_al hM9 fun b17 w18 (hM18 : Mem w (ids (⟨bp, 74, [vb]⟩ :: rb)) w18 [[⟨bp, 74, [vb]⟩], rb, r11_, r12_, [⟨b17, 25, [.int .i64 0, .int .i64 0, .int .i64 0, .int .i64 0, .int .i64 0, .int .i64 0, .int .i64 0, .int .u32 0]⟩]]) => ?_
      refine m_stA (l := [.int .i64 ((l.getD i fz).kind), .int .i64 ((l.getD i fz).tk), .int .i64 ((l.getD i fz).task), .int .i64 ((l.getD i fz).att), .int .i64 ((l.getD i fz).mom), .int .i64 ((l.getD i fz).rd), .int .i64 ((l.getD i fz).at_), .int .u32 ((l.getD i fz).mask)]) hM18 (i := 4) rfl rfl rfl rfl (by simp [oneCells, Value.oneCell', byteV]) (by simp) fun w19 (hM19 : Mem w (ids (⟨bp, 74, [vb]⟩ :: rb)) w19 [[⟨bp, 74, [vb]⟩], rb, r11_, r12_, [⟨b17, 25, [.int .i64 ((l.getD i fz).kind), .int .i64 ((l.getD i fz).tk), .int .i64 ((l.getD i fz).task), .int .i64 ((l.getD i fz).att), .int .i64 ((l.getD i fz).mom), .int .i64 ((l.getD i fz).rd), .int .i64 ((l.getD i fz).at_), .int .u32 ((l.getD i fz).mask)]⟩]]) => ?_
      refine h15 _ _ ?_
      clear h15
      refine seq fun K20 h20 => ?_
      refine stp (v := .pointer (some ⟨b17, 0, none⟩)) (o_fa rfl rfl) ?_
      refine m_ld (v := .int .i64 ((l.getD i fz).kind)) hM19 (i := 4) (j := 0) rfl rfl rfl rfl ?_
      refine stp (v := .bool (decide (¬ ((l.getD i fz).kind) = 0))) (o_bin rfl rfl v_neq) ?_
      refine stp (v := .bool (decide (¬ ((l.getD i fz).kind) = 0))) (o_mv rfl) ?_
      refine splitP rfl (fun c21 => ?_) (fun c21 => ?_)
      ·
        refine stg rfl (v := .pointer (some ⟨b17, 2, none⟩)) (o_fa rfl rfl) ?_
        refine gyesl rfl ?_
        refine m_ld (v := .int .i64 ((l.getD i fz).task)) hM19 (i := 4) (j := 0) rfl rfl rfl rfl ?_
        refine stg rfl (v := .int .i64 a) (o_mv rfl) ?_
        refine stg rfl (v := .bool (decide (((l.getD i fz).task) = a))) (o_bin rfl rfl rfl) ?_
        refine stp (v := .bool (decide (((l.getD i fz).task) = a))) (o_pickT rfl rfl) ?_
        refine stp (v := .bool (decide (((l.getD i fz).task) = a))) (o_mv rfl) ?_
        refine splitP rfl (fun c22 => ?_) (fun c22 => ?_)
        ·
          refine stg rfl (v := .pointer (some ⟨b17, 3, none⟩)) (o_fa rfl rfl) ?_
          refine gyesl rfl ?_
          refine m_ld (v := .int .i64 ((l.getD i fz).att)) hM19 (i := 4) (j := 0) rfl rfl rfl rfl ?_
          refine stg rfl (v := .int .i64 b) (o_mv rfl) ?_
          refine stg rfl (v := .bool (decide (((l.getD i fz).att) = b))) (o_bin rfl rfl rfl) ?_
          refine stp (v := .bool (decide (((l.getD i fz).att) = b))) (o_pickT rfl rfl) ?_
          refine stp (v := .bool (decide (((l.getD i fz).att) = b))) (o_mv rfl) ?_
          refine splitP rfl (fun c23 => ?_) (fun c23 => ?_)
          ·
            refine stg rfl (v := .pointer (some ⟨b17, 4, none⟩)) (o_fa rfl rfl) ?_
            refine gyesl rfl ?_
            refine m_ld (v := .int .i64 ((l.getD i fz).mom)) hM19 (i := 4) (j := 0) rfl rfl rfl rfl ?_
            refine stg rfl (v := .int .i64 c) (o_mv rfl) ?_
            refine stg rfl (v := .bool (decide (((l.getD i fz).mom) = c))) (o_bin rfl rfl rfl) ?_
            refine stp (v := .bool (decide (((l.getD i fz).mom) = c))) (o_pickT rfl rfl) ?_
            refine stp (v := .bool (decide (((l.getD i fz).mom) = c))) (o_mv rfl) ?_
            refine splitP rfl (fun c24 => ?_) (fun c24 => ?_)
            ·
              refine stg rfl (v := .int .i64 c) (o_mv rfl) ?_
              refine stg rfl (v := .bool (decide (¬ c = 2))) (o_bin rfl rfl v_neq) ?_
              refine stg rfl (v := .bool (decide (¬ c = 2))) (o_mv rfl) ?_
              refine splitP rfl (fun c25 => ?_) (fun c25 => ?_)
              ·
                refine gno rfl (by simp) ?_
                refine gnol rfl (by simp) ?_
                refine gno rfl (by simp) ?_
                refine gno rfl (by simp) ?_
                refine stg rfl (v := .bool true) (o_pickT rfl rfl) ?_
                refine stp (v := .bool true) (o_pickT rfl rfl) ?_
                refine h20 _ _ ?_
                clear h20
                refine cndT rfl ?_
                refine stp (v := y12_) (o_mv rfl) ?_
                refine m_ldA (l := [.int .i64 ((l.getD i fz).kind), .int .i64 ((l.getD i fz).tk), .int .i64 ((l.getD i fz).task), .int .i64 ((l.getD i fz).att), .int .i64 ((l.getD i fz).mom), .int .i64 ((l.getD i fz).rd), .int .i64 ((l.getD i fz).at_), .int .u32 ((l.getD i fz).mask)]) hM19 (i := 4) (j := 0) rfl rfl rfl rfl rfl ?_
                refine m_app1S (enc := fltC) (q := l.getD i fz) hM19 (i := 3) rfl hy12_ rfl (by simp) (rfl) (rfl) (by have := takeF_le l (dueQ a b c d) i; omega) (by omega) fun v26 w26 r26 u26 (hs26 : SlS fltC 8 25 v26 (((l.take i).filter (dueQ a b c d)) ++ [l.getD i fz]) r26) (hM26 : Mem w (ids (⟨bp, 74, [vb]⟩ :: rb)) w26 [[⟨bp, 74, [vb]⟩], rb, r11_, r26, [⟨b17, 25, [.int .i64 ((l.getD i fz).kind), .int .i64 ((l.getD i fz).tk), .int .i64 ((l.getD i fz).task), .int .i64 ((l.getD i fz).att), .int .i64 ((l.getD i fz).mom), .int .i64 ((l.getD i fz).rd), .int .i64 ((l.getD i fz).at_), .int .u32 ((l.getD i fz).mask)]⟩]]) => ?_
                refine stp (v := v26) (o_mv rfl) ?_
                refine h14 _ _ ?_
                clear h14
                refine stp (v := .int .i64 (i : Nat)) (o_mv rfl) ?_
                refine stp (v := .int .i64 ((i : Nat) + 1)) (o_bin rfl rfl (v_add64 (by constructor <;> omega))) ?_
                refine stp (v := .int .i64 ((i : Nat) + 1)) (o_mv rfl) ?_
                refine h10 (i + 1, y11_, r11_, v26, r26) _ _ ⟨rfl, rfl, by first | rfl | exact v_int (by omega) | exact v_int (by simp) | exact v_int (by simp; omega), rfl, by first | rfl | exact v_int (by omega) | exact v_int (by simp) | exact v_int (by simp; omega), by first | rfl | exact v_int (by omega) | exact v_int (by simp) | exact v_int (by simp; omega), by first | rfl | exact v_int (by omega) | exact v_int (by simp) | exact v_int (by simp; omega), by first | rfl | exact v_int (by omega) | exact v_int (by simp) | exact v_int (by simp; omega), hM26.keep (by simp), by omega, by first | (rw [filterN_skip (by omega) (dq_yes (by unfold dueP; omega))]; exact hy11_) | (rw [filterN_snoc (by omega) (dq_no (by unfold dueP; omega))]; exact hy11_), by first | (rw [filter_snoc (by omega) (dq_yes (by unfold dueP; omega))]; exact hs26) | (rw [filter_skip (by omega) (dq_no (by unfold dueP; omega))]; exact hs26)⟩ (by (try dsimp only); omega)
              ·
                refine stg rfl (v := .pointer (some ⟨b17, 5, none⟩)) (o_fa rfl rfl) ?_
                refine gyesl rfl ?_
                refine m_ld (v := .int .i64 ((l.getD i fz).rd)) hM19 (i := 4) (j := 0) rfl rfl rfl rfl ?_
                refine stg rfl (v := .int .i64 d) (o_mv rfl) ?_
                refine stg rfl (v := .bool (decide (((l.getD i fz).rd) = d))) (o_bin rfl rfl rfl) ?_
                refine stg rfl (v := .bool (decide (((l.getD i fz).rd) = d))) (o_pickF rfl rfl) ?_
                refine stp (v := .bool (decide (((l.getD i fz).rd) = d))) (o_pickT rfl rfl) ?_
                refine h20 _ _ ?_
                clear h20
                refine cndP rfl (fun c27 => ?_) (fun c27 => ?_)
                ·
                  refine stp (v := y12_) (o_mv rfl) ?_
                  refine m_ldA (l := [.int .i64 ((l.getD i fz).kind), .int .i64 ((l.getD i fz).tk), .int .i64 ((l.getD i fz).task), .int .i64 ((l.getD i fz).att), .int .i64 ((l.getD i fz).mom), .int .i64 ((l.getD i fz).rd), .int .i64 ((l.getD i fz).at_), .int .u32 ((l.getD i fz).mask)]) hM19 (i := 4) (j := 0) rfl rfl rfl rfl rfl ?_
                  refine m_app1S (enc := fltC) (q := l.getD i fz) hM19 (i := 3) rfl hy12_ rfl (by simp) (rfl) (rfl) (by have := takeF_le l (dueQ a b c d) i; omega) (by omega) fun v28 w28 r28 u28 (hs28 : SlS fltC 8 25 v28 (((l.take i).filter (dueQ a b c d)) ++ [l.getD i fz]) r28) (hM28 : Mem w (ids (⟨bp, 74, [vb]⟩ :: rb)) w28 [[⟨bp, 74, [vb]⟩], rb, r11_, r28, [⟨b17, 25, [.int .i64 ((l.getD i fz).kind), .int .i64 ((l.getD i fz).tk), .int .i64 ((l.getD i fz).task), .int .i64 ((l.getD i fz).att), .int .i64 ((l.getD i fz).mom), .int .i64 ((l.getD i fz).rd), .int .i64 ((l.getD i fz).at_), .int .u32 ((l.getD i fz).mask)]⟩]]) => ?_
                  refine stp (v := v28) (o_mv rfl) ?_
                  refine h14 _ _ ?_
                  clear h14
                  refine stp (v := .int .i64 (i : Nat)) (o_mv rfl) ?_
                  refine stp (v := .int .i64 ((i : Nat) + 1)) (o_bin rfl rfl (v_add64 (by constructor <;> omega))) ?_
                  refine stp (v := .int .i64 ((i : Nat) + 1)) (o_mv rfl) ?_
                  refine h10 (i + 1, y11_, r11_, v28, r28) _ _ ⟨rfl, rfl, by first | rfl | exact v_int (by omega) | exact v_int (by simp) | exact v_int (by simp; omega), rfl, by first | rfl | exact v_int (by omega) | exact v_int (by simp) | exact v_int (by simp; omega), by first | rfl | exact v_int (by omega) | exact v_int (by simp) | exact v_int (by simp; omega), by first | rfl | exact v_int (by omega) | exact v_int (by simp) | exact v_int (by simp; omega), by first | rfl | exact v_int (by omega) | exact v_int (by simp) | exact v_int (by simp; omega), hM28.keep (by simp), by omega, by first | (rw [filterN_skip (by omega) (dq_yes (by unfold dueP; omega))]; exact hy11_) | (rw [filterN_snoc (by omega) (dq_no (by unfold dueP; omega))]; exact hy11_), by first | (rw [filter_snoc (by omega) (dq_yes (by unfold dueP; omega))]; exact hs28) | (rw [filter_skip (by omega) (dq_no (by unfold dueP; omega))]; exact hs28)⟩ (by (try dsimp only); omega)
                ·
                  refine stp (v := y11_) (o_mv rfl) ?_
                  refine m_ldA (l := [.int .i64 ((l.getD i fz).kind), .int .i64 ((l.getD i fz).tk), .int .i64 ((l.getD i fz).task), .int .i64 ((l.getD i fz).att), .int .i64 ((l.getD i fz).mom), .int .i64 ((l.getD i fz).rd), .int .i64 ((l.getD i fz).at_), .int .u32 ((l.getD i fz).mask)]) hM19 (i := 4) (j := 0) rfl rfl rfl rfl rfl ?_
                  refine m_app1S (enc := fltC) (q := l.getD i fz) hM19 (i := 2) rfl hy11_ rfl (by simp) (rfl) (rfl) (by have := takeF_le l (!dueQ a b c d ·) i; omega) (by omega) fun v29 w29 r29 u29 (hs29 : SlS fltC 8 25 v29 (((l.take i).filter (!dueQ a b c d ·)) ++ [l.getD i fz]) r29) (hM29 : Mem w (ids (⟨bp, 74, [vb]⟩ :: rb)) w29 [[⟨bp, 74, [vb]⟩], rb, r29, r12_, [⟨b17, 25, [.int .i64 ((l.getD i fz).kind), .int .i64 ((l.getD i fz).tk), .int .i64 ((l.getD i fz).task), .int .i64 ((l.getD i fz).att), .int .i64 ((l.getD i fz).mom), .int .i64 ((l.getD i fz).rd), .int .i64 ((l.getD i fz).at_), .int .u32 ((l.getD i fz).mask)]⟩]]) => ?_
                  refine stp (v := v29) (o_mv rfl) ?_
                  refine h14 _ _ ?_
                  clear h14
                  refine stp (v := .int .i64 (i : Nat)) (o_mv rfl) ?_
                  refine stp (v := .int .i64 ((i : Nat) + 1)) (o_bin rfl rfl (v_add64 (by constructor <;> omega))) ?_
                  refine stp (v := .int .i64 ((i : Nat) + 1)) (o_mv rfl) ?_
                  refine h10 (i + 1, v29, r29, y12_, r12_) _ _ ⟨rfl, rfl, by first | rfl | exact v_int (by omega) | exact v_int (by simp) | exact v_int (by simp; omega), rfl, by first | rfl | exact v_int (by omega) | exact v_int (by simp) | exact v_int (by simp; omega), by first | rfl | exact v_int (by omega) | exact v_int (by simp) | exact v_int (by simp; omega), by first | rfl | exact v_int (by omega) | exact v_int (by simp) | exact v_int (by simp; omega), by first | rfl | exact v_int (by omega) | exact v_int (by simp) | exact v_int (by simp; omega), hM29.keep (by simp), by omega, by first | (rw [filterN_skip (by omega) (dq_yes (by unfold dueP; omega))]; exact hs29) | (rw [filterN_snoc (by omega) (dq_no (by unfold dueP; omega))]; exact hs29), by first | (rw [filter_snoc (by omega) (dq_yes (by unfold dueP; omega))]; exact hy12_) | (rw [filter_skip (by omega) (dq_no (by unfold dueP; omega))]; exact hy12_)⟩ (by (try dsimp only); omega)
            ·
              refine gno rfl (by simp) ?_
              refine gno rfl (by simp) ?_
              refine gno rfl (by simp) ?_
              refine splitU rfl ?_
              refine gnou rfl ?_
              refine gnolu rfl ?_
              refine gnou rfl ?_
              refine gnou rfl ?_
              refine gno rfl (by simp) ?_
              refine stp (v := .bool false) (o_pickF rfl rfl) ?_
              refine h20 _ _ ?_
              clear h20
              refine cndF rfl ?_
              refine stp (v := y11_) (o_mv rfl) ?_
              refine m_ldA (l := [.int .i64 ((l.getD i fz).kind), .int .i64 ((l.getD i fz).tk), .int .i64 ((l.getD i fz).task), .int .i64 ((l.getD i fz).att), .int .i64 ((l.getD i fz).mom), .int .i64 ((l.getD i fz).rd), .int .i64 ((l.getD i fz).at_), .int .u32 ((l.getD i fz).mask)]) hM19 (i := 4) (j := 0) rfl rfl rfl rfl rfl ?_
              refine m_app1S (enc := fltC) (q := l.getD i fz) hM19 (i := 2) rfl hy11_ rfl (by simp) (rfl) (rfl) (by have := takeF_le l (!dueQ a b c d ·) i; omega) (by omega) fun v30 w30 r30 u30 (hs30 : SlS fltC 8 25 v30 (((l.take i).filter (!dueQ a b c d ·)) ++ [l.getD i fz]) r30) (hM30 : Mem w (ids (⟨bp, 74, [vb]⟩ :: rb)) w30 [[⟨bp, 74, [vb]⟩], rb, r30, r12_, [⟨b17, 25, [.int .i64 ((l.getD i fz).kind), .int .i64 ((l.getD i fz).tk), .int .i64 ((l.getD i fz).task), .int .i64 ((l.getD i fz).att), .int .i64 ((l.getD i fz).mom), .int .i64 ((l.getD i fz).rd), .int .i64 ((l.getD i fz).at_), .int .u32 ((l.getD i fz).mask)]⟩]]) => ?_
              refine stp (v := v30) (o_mv rfl) ?_
              refine h14 _ _ ?_
              clear h14
              refine stp (v := .int .i64 (i : Nat)) (o_mv rfl) ?_
              refine stp (v := .int .i64 ((i : Nat) + 1)) (o_bin rfl rfl (v_add64 (by constructor <;> omega))) ?_
              refine stp (v := .int .i64 ((i : Nat) + 1)) (o_mv rfl) ?_
              refine h10 (i + 1, v30, r30, y12_, r12_) _ _ ⟨rfl, rfl, by first | rfl | exact v_int (by omega) | exact v_int (by simp) | exact v_int (by simp; omega), rfl, by first | rfl | exact v_int (by omega) | exact v_int (by simp) | exact v_int (by simp; omega), by first | rfl | exact v_int (by omega) | exact v_int (by simp) | exact v_int (by simp; omega), by first | rfl | exact v_int (by omega) | exact v_int (by simp) | exact v_int (by simp; omega), by first | rfl | exact v_int (by omega) | exact v_int (by simp) | exact v_int (by simp; omega), hM30.keep (by simp), by omega, by first | (rw [filterN_skip (by omega) (dq_yes (by unfold dueP; omega))]; exact hs30) | (rw [filterN_snoc (by omega) (dq_no (by unfold dueP; omega))]; exact hs30), by first | (rw [filter_snoc (by omega) (dq_yes (by unfold dueP; omega))]; exact hy12_) | (rw [filter_skip (by omega) (dq_no (by unfold dueP; omega))]; exact hy12_)⟩ (by (try dsimp only); omega)
          ·
            refine gno rfl (by simp) ?_
            refine gnol rfl (by simp) ?_
            refine gno rfl (by simp) ?_
            refine gno rfl (by simp) ?_
            refine stp (v := .bool false) (o_pickF rfl rfl) ?_
            refine stp (v := .bool false) (o_mv rfl) ?_
            refine splitF rfl ?_
            refine gno rfl (by simp) ?_
            refine gno rfl (by simp) ?_
            refine gno rfl (by simp) ?_
            refine splitU rfl ?_
            refine gnou rfl ?_
            refine gnolu rfl ?_
            refine gnou rfl ?_
            refine gnou rfl ?_
            refine gno rfl (by simp) ?_
            refine stp (v := .bool false) (o_pickF rfl rfl) ?_
            refine h20 _ _ ?_
            clear h20
            refine cndF rfl ?_
            refine stp (v := y11_) (o_mv rfl) ?_
            refine m_ldA (l := [.int .i64 ((l.getD i fz).kind), .int .i64 ((l.getD i fz).tk), .int .i64 ((l.getD i fz).task), .int .i64 ((l.getD i fz).att), .int .i64 ((l.getD i fz).mom), .int .i64 ((l.getD i fz).rd), .int .i64 ((l.getD i fz).at_), .int .u32 ((l.getD i fz).mask)]) hM19 (i := 4) (j := 0) rfl rfl rfl rfl rfl ?_
            refine m_app1S (enc := fltC) (q := l.getD i fz) hM19 (i := 2) rfl hy11_ rfl (by simp) (rfl) (rfl) (by have := takeF_le l (!dueQ a b c d ·) i; omega) (by omega) fun v31 w31 r31 u31 (hs31 : SlS fltC 8 25 v31 (((l.take i).filter (!dueQ a b c d ·)) ++ [l.getD i fz]) r31) (hM31 : Mem w (ids (⟨bp, 74, [vb]⟩ :: rb)) w31 [[⟨bp, 74, [vb]⟩], rb, r31, r12_, [⟨b17, 25, [.int .i64 ((l.getD i fz).kind), .int .i64 ((l.getD i fz).tk), .int .i64 ((l.getD i fz).task), .int .i64 ((l.getD i fz).att), .int .i64 ((l.getD i fz).mom), .int .i64 ((l.getD i fz).rd), .int .i64 ((l.getD i fz).at_), .int .u32 ((l.getD i fz).mask)]⟩]]) => ?_
            refine stp (v := v31) (o_mv rfl) ?_
            refine h14 _ _ ?_
            clear h14
            refine stp (v := .int .i64 (i : Nat)) (o_mv rfl) ?_
            refine stp (v := .int .i64 ((i : Nat) + 1)) (o_bin rfl rfl (v_add64 (by constructor <;> omega))) ?_
            refine stp (v := .int .i64 ((i : Nat) + 1)) (o_mv rfl) ?_
            refine h10 (i + 1, v31, r31, y12_, r12_) _ _ ⟨rfl, rfl, by first | rfl | exact v_int (by omega) | exact v_int (by simp) | exact v_int (by simp; omega), rfl, by first | rfl | exact v_int (by omega) | exact v_int (by simp) | exact v_int (by simp; omega), by first | rfl | exact v_int (by omega) | exact v_int (by simp) | exact v_int (by simp; omega), by first | rfl | exact v_int (by omega) | exact v_int (by simp) | exact v_int (by simp; omega), by first | rfl | exact v_int (by omega) | exact v_int (by simp) | exact v_int (by simp; omega), hM31.keep (by simp), by omega, by first | (rw [filterN_skip (by omega) (dq_yes (by unfold dueP; omega))]; exact hs31) | (rw [filterN_snoc (by omega) (dq_no (by unfold dueP; omega))]; exact hs31), by first | (rw [filter_snoc (by omega) (dq_yes (by unfold dueP; omega))]; exact hy12_) | (rw [filter_skip (by omega) (dq_no (by unfold dueP; omega))]; exact hy12_)⟩ (by (try dsimp only); omega)
        ·
          refine gno rfl (by simp) ?_
          refine gnol rfl (by simp) ?_
          refine gno rfl (by simp) ?_
          refine gno rfl (by simp) ?_
          refine stp (v := .bool false) (o_pickF rfl rfl) ?_
          refine stp (v := .bool false) (o_mv rfl) ?_
          refine splitF rfl ?_
          refine gno rfl (by simp) ?_
          refine gnol rfl (by simp) ?_
          refine gno rfl (by simp) ?_
          refine gno rfl (by simp) ?_
          refine stp (v := .bool false) (o_pickF rfl rfl) ?_
          refine stp (v := .bool false) (o_mv rfl) ?_
          refine splitF rfl ?_
          refine gno rfl (by simp) ?_
          refine gno rfl (by simp) ?_
          refine gno rfl (by simp) ?_
          refine splitU rfl ?_
          refine gnou rfl ?_
          refine gnolu rfl ?_
          refine gnou rfl ?_
          refine gnou rfl ?_
          refine gno rfl (by simp) ?_
          refine stp (v := .bool false) (o_pickF rfl rfl) ?_
          refine h20 _ _ ?_
          clear h20
          refine cndF rfl ?_
          refine stp (v := y11_) (o_mv rfl) ?_
          refine m_ldA (l := [.int .i64 ((l.getD i fz).kind), .int .i64 ((l.getD i fz).tk), .int .i64 ((l.getD i fz).task), .int .i64 ((l.getD i fz).att), .int .i64 ((l.getD i fz).mom), .int .i64 ((l.getD i fz).rd), .int .i64 ((l.getD i fz).at_), .int .u32 ((l.getD i fz).mask)]) hM19 (i := 4) (j := 0) rfl rfl rfl rfl rfl ?_
          refine m_app1S (enc := fltC) (q := l.getD i fz) hM19 (i := 2) rfl hy11_ rfl (by simp) (rfl) (rfl) (by have := takeF_le l (!dueQ a b c d ·) i; omega) (by omega) fun v32 w32 r32 u32 (hs32 : SlS fltC 8 25 v32 (((l.take i).filter (!dueQ a b c d ·)) ++ [l.getD i fz]) r32) (hM32 : Mem w (ids (⟨bp, 74, [vb]⟩ :: rb)) w32 [[⟨bp, 74, [vb]⟩], rb, r32, r12_, [⟨b17, 25, [.int .i64 ((l.getD i fz).kind), .int .i64 ((l.getD i fz).tk), .int .i64 ((l.getD i fz).task), .int .i64 ((l.getD i fz).att), .int .i64 ((l.getD i fz).mom), .int .i64 ((l.getD i fz).rd), .int .i64 ((l.getD i fz).at_), .int .u32 ((l.getD i fz).mask)]⟩]]) => ?_
          refine stp (v := v32) (o_mv rfl) ?_
          refine h14 _ _ ?_
          clear h14
          refine stp (v := .int .i64 (i : Nat)) (o_mv rfl) ?_
          refine stp (v := .int .i64 ((i : Nat) + 1)) (o_bin rfl rfl (v_add64 (by constructor <;> omega))) ?_
          refine stp (v := .int .i64 ((i : Nat) + 1)) (o_mv rfl) ?_
          refine h10 (i + 1, v32, r32, y12_, r12_) _ _ ⟨rfl, rfl, by first | rfl | exact v_int (by omega) | exact v_int (by simp) | exact v_int (by simp; omega), rfl, by first | rfl | exact v_int (by omega) | exact v_int (by simp) | exact v_int (by simp; omega), by first | rfl | exact v_int (by omega) | exact v_int (by simp) | exact v_int (by simp; omega), by first | rfl | exact v_int (by omega) | exact v_int (by simp) | exact v_int (by simp; omega), by first | rfl | exact v_int (by omega) | exact v_int (by simp) | exact v_int (by simp; omega), hM32.keep (by simp), by omega, by first | (rw [filterN_skip (by omega) (dq_yes (by unfold dueP; omega))]; exact hs32) | (rw [filterN_snoc (by omega) (dq_no (by unfold dueP; omega))]; exact hs32), by first | (rw [filter_snoc (by omega) (dq_yes (by unfold dueP; omega))]; exact hy12_) | (rw [filter_skip (by omega) (dq_no (by unfold dueP; omega))]; exact hy12_)⟩ (by (try dsimp only); omega)
      ·
        refine gno rfl (by simp) ?_
        refine gnol rfl (by simp) ?_
        refine gno rfl (by simp) ?_
        refine gno rfl (by simp) ?_
        refine stp (v := .bool false) (o_pickF rfl rfl) ?_
        refine stp (v := .bool false) (o_mv rfl) ?_
        refine splitF rfl ?_
        refine gno rfl (by simp) ?_
        refine gnol rfl (by simp) ?_
        refine gno rfl (by simp) ?_
        refine gno rfl (by simp) ?_
        refine stp (v := .bool false) (o_pickF rfl rfl) ?_
        refine stp (v := .bool false) (o_mv rfl) ?_
        refine splitF rfl ?_
        refine gno rfl (by simp) ?_
        refine gnol rfl (by simp) ?_
        refine gno rfl (by simp) ?_
        refine gno rfl (by simp) ?_
        refine stp (v := .bool false) (o_pickF rfl rfl) ?_
        refine stp (v := .bool false) (o_mv rfl) ?_
        refine splitF rfl ?_
        refine gno rfl (by simp) ?_
        refine gno rfl (by simp) ?_
        refine gno rfl (by simp) ?_
        refine splitU rfl ?_
        refine gnou rfl ?_
        refine gnolu rfl ?_
        refine gnou rfl ?_
        refine gnou rfl ?_
        refine gno rfl (by simp) ?_
        refine stp (v := .bool false) (o_pickF rfl rfl) ?_
        refine h20 _ _ ?_
        clear h20
        refine cndF rfl ?_
        refine stp (v := y11_) (o_mv rfl) ?_
        refine m_ldA (l := [.int .i64 ((l.getD i fz).kind), .int .i64 ((l.getD i fz).tk), .int .i64 ((l.getD i fz).task), .int .i64 ((l.getD i fz).att), .int .i64 ((l.getD i fz).mom), .int .i64 ((l.getD i fz).rd), .int .i64 ((l.getD i fz).at_), .int .u32 ((l.getD i fz).mask)]) hM19 (i := 4) (j := 0) rfl rfl rfl rfl rfl ?_
        refine m_app1S (enc := fltC) (q := l.getD i fz) hM19 (i := 2) rfl hy11_ rfl (by simp) (rfl) (rfl) (by have := takeF_le l (!dueQ a b c d ·) i; omega) (by omega) fun v33 w33 r33 u33 (hs33 : SlS fltC 8 25 v33 (((l.take i).filter (!dueQ a b c d ·)) ++ [l.getD i fz]) r33) (hM33 : Mem w (ids (⟨bp, 74, [vb]⟩ :: rb)) w33 [[⟨bp, 74, [vb]⟩], rb, r33, r12_, [⟨b17, 25, [.int .i64 ((l.getD i fz).kind), .int .i64 ((l.getD i fz).tk), .int .i64 ((l.getD i fz).task), .int .i64 ((l.getD i fz).att), .int .i64 ((l.getD i fz).mom), .int .i64 ((l.getD i fz).rd), .int .i64 ((l.getD i fz).at_), .int .u32 ((l.getD i fz).mask)]⟩]]) => ?_
        refine stp (v := v33) (o_mv rfl) ?_
        refine h14 _ _ ?_
        clear h14
        refine stp (v := .int .i64 (i : Nat)) (o_mv rfl) ?_
        refine stp (v := .int .i64 ((i : Nat) + 1)) (o_bin rfl rfl (v_add64 (by constructor <;> omega))) ?_
        refine stp (v := .int .i64 ((i : Nat) + 1)) (o_mv rfl) ?_
        refine h10 (i + 1, v33, r33, y12_, r12_) _ _ ⟨rfl, rfl, by first | rfl | exact v_int (by omega) | exact v_int (by simp) | exact v_int (by simp; omega), rfl, by first | rfl | exact v_int (by omega) | exact v_int (by simp) | exact v_int (by simp; omega), by first | rfl | exact v_int (by omega) | exact v_int (by simp) | exact v_int (by simp; omega), by first | rfl | exact v_int (by omega) | exact v_int (by simp) | exact v_int (by simp; omega), by first | rfl | exact v_int (by omega) | exact v_int (by simp) | exact v_int (by simp; omega), hM33.keep (by simp), by omega, by first | (rw [filterN_skip (by omega) (dq_yes (by unfold dueP; omega))]; exact hs33) | (rw [filterN_snoc (by omega) (dq_no (by unfold dueP; omega))]; exact hs33), by first | (rw [filter_snoc (by omega) (dq_yes (by unfold dueP; omega))]; exact hy12_) | (rw [filter_skip (by omega) (dq_no (by unfold dueP; omega))]; exact hy12_)⟩ (by (try dsimp only); omega)
    ·
      refine h5 _ _ ?_
      clear h5
      refine seq fun K34 h34 => ?_
      refine stp (v := .pointer (some ⟨bp, 0, none⟩)) (o_mv rfl) ?_
      refine stp (v := y11_) (o_mv rfl) ?_
      refine stp (v := .pointer (some ⟨bp, 0, none⟩)) (o_nilchk rfl rfl) ?_
      refine stp (v := .pointer (some ⟨bp, 0, none⟩)) (o_fa rfl rfl) ?_
      refine m_st (v := y11_) hM9 (i := 0) rfl rfl rfl (Sl.one hy11_) (by simp) fun w35 (hM35 : Mem w (ids (⟨bp, 74, [vb]⟩ :: rb)) w35 [[⟨bp, 74, [y11_]⟩], rb, r11_, r12_]) => ?_
      refine h34 _ _ ?_
      clear h34
      refine seq fun K36 h36 => ?_
      refine stp (v := y12_) (o_mv rfl) ?_
      refine stp (v := y12_) (o_mv rfl) ?_
      refine h36 _ _ ?_
      clear h36
      refine ⟨y12_, rfl, ?_⟩
      rw [List.take_of_length_le (by omega)] at hy11_ hy12_
      exact ⟨_, _, hy12_, ⟨_, _, _, rfl, rfl, hy11_⟩, (hM35.drop 1).keep (by simp)⟩

/-- winnowlaw16.given -/
theorem given_ok (x : Value) (b : List Flt) (w : World) (hx : RdS fltC w x b) (hl : b.length ≤ 2199023255552) : Calls Try.prog 19 [x].toArray w (Rt fun r w' => ∃ rs, SlS fltC 8 25 r (b ++ List.replicate 64 (⟨7001, 0, 5, 0, 0, 0, 0, 0⟩ : Flt)) rs ∧ Mem w [] w' [rs]) := by
  have hM0 : Mem w [] w [] := Mem.nil w []
  refine calls_vc mixed Try.func19 rfl C19 (by simp [Try.ntmps19]) ?_
  refine seq fun K1 h1 => ?_
  refine stp (v := .slice none 0 0) (o_mv rfl) ?_
  refine h1 _ _ ?_
  clear h1
  refine seq fun K2 h2 => ?_
  refine stp (v := x) (o_mv rfl) ?_
  refine stp (v := .int .i64 (b.length : Nat)) (o_lenR (hx.upd hM0.upd) rfl rfl) ?_
  refine stp (v := .int .i64 ((b.length : Nat) + 64)) (o_bin rfl rfl (v_add64 (by constructor <;> omega))) ?_
  refine m_mksS (enc := fltC) (z := fz) (n := (b.length + 64)) (c := (b.length + 64)) (rfl) hM0 (v_int (by omega)) (v_int (by omega)) (by omega) (by omega) (by omega) fun v3 w3 r3 hs3 (hM3 : Mem w [] w3 [r3]) => ?_
  refine stp (v := v3) (o_mv rfl) ?_
  refine h2 _ _ ?_
  clear h2
  refine seq fun K4 h4 => ?_
  refine seq fun K5 h5 => ?_
  refine stp (v := .int .i64 0) (o_mv rfl) ?_
  refine h5 _ _ ?_
  clear h5
  refine lp (n := fun _ _ => False) (ι := (Nat) × (Value) × (List Ent)) (fun ⟨i, y3_, r3_⟩ f w' => f 3 = y3_ ∧ f 4 = .int .i64 (i : Nat) ∧ f 0 = x ∧ Mem w [] w' [r3_] ∧ (i ≤ (b.length + 64)) ∧ (((b ++ List.replicate 64 (⟨7001, 0, 5, 0, 0, 0, 0, 0⟩ : Flt)).take i ++ List.replicate ((b.length + 64) - i) fz).length = (b.length + 64)) ∧ (SlS fltC 8 25 y3_ ((b ++ List.replicate 64 (⟨7001, 0, 5, 0, 0, 0, 0, 0⟩ : Flt)).take i ++ List.replicate ((b.length + 64) - i) fz) r3_)) (fun ⟨i, y3_, r3_⟩ => (b.length + 64) - i) (0, v3, r3) ?_ ?_
  · exact ⟨rfl, by first | rfl | exact v_int (by omega) | exact v_int (by simp) | exact v_int (by simp; omega), rfl, hM3, by omega, by simp, by simpa using hs3⟩
  · rintro ⟨i, y3_, r3_⟩ f w6 ⟨e6_3, e6_4, e6_0, hM6, hi, hq, hy3_⟩ K7 h7
    obtain ⟨frm, rfl⟩ : ∃ frm, f = (upd (upd (upd frm 3 (y3_)) 4 (.int .i64 (i : Nat))) 0 (x)) := ⟨f, by rw [upd_self e6_3, upd_self e6_4, upd_self e6_0]⟩
    clear e6_3 e6_4 e6_0
    refine seq fun K8 h8 => ?_
    refine seq fun K9 h9 => ?_
    refine stp (v := .int .i64 (i : Nat)) (o_mv rfl) ?_
    refine stp (v := y3_) (o_mv rfl) ?_
    refine stp (v := .int .i64 (((b ++ List.replicate 64 (⟨7001, 0, 5, 0, 0, 0, 0, 0⟩ : Flt)).take i ++ List.replicate ((b.length + 64) - i) fz).length : Nat)) (o_lenR (hy3_.rd hM6 (i := 0) rfl) rfl rfl) ?_
    refine stp (v := .bool (decide (((i : Nat) : Int) < (((b ++ List.replicate 64 (⟨7001, 0, 5, 0, 0, 0, 0, 0⟩ : Flt)).take i ++ List.replicate ((b.length + 64) - i) fz).length : Nat)))) (o_bin rfl rfl rfl) ?_
    refine h9 _ _ ?_
    clear h9
    refine cndP rfl (fun c10 => ?_) (fun c10 => ?_)
    ·
      refine h8 _ _ ?_
      clear h8
      refine seq fun K11 h11 => ?_
      refine seq fun K12 h12 => ?_
      refine stp (v := y3_) (o_mv rfl) ?_
      refine stp (v := .int .i64 (i : Nat)) (o_mv rfl) ?_
      refine stp (v := .agg ([.int .i64 7001, .int .i64 0, .int .i64 5, .int .i64 0, .int .i64 0, .int .i64 0, .int .i64 0, .int .u32 0] : List Value).toArray) (o_bld rfl rfl) ?_
      refine m_setS (enc := fltC) fz (q := (⟨7001, 0, 5, 0, 0, 0, 0, 0⟩ : Flt)) (j := i) hM6 (i := 0) rfl hy3_ rfl rfl (by omega) (by simp) (rfl) fun w13 r13 u13 he13 hs13 (hM13 : Mem w [] w13 [r13]) => ?_
      refine h12 _ _ ?_
      clear h12
      refine seq fun K14 h14 => ?_
      refine stp (v := .int .i64 (i : Nat)) (o_mv rfl) ?_
      refine stp (v := x) (o_mv rfl) ?_
      refine stp (v := .int .i64 (b.length : Nat)) (o_lenR (hx.upd hM13.upd) rfl rfl) ?_
      refine stp (v := .bool (decide (((i : Nat) : Int) < (b.length : Nat)))) (o_bin rfl rfl rfl) ?_
      refine h14 _ _ ?_
      clear h14
      refine cndP rfl (fun c15 => ?_) (fun c15 => ?_)
      ·
        refine stp (v := y3_) (o_mv rfl) ?_
        refine stp (v := .int .i64 (i : Nat)) (o_mv rfl) ?_
        refine stp (v := x) (o_mv rfl) ?_
        refine stp (v := .int .i64 (i : Nat)) (o_mv rfl) ?_
        refine m_idxS fz (j := i) (hx.upd hM13.upd) rfl rfl (by omega) fun b16 o16 hp16 => ?_
        refine ldA (cs := [.int .i64 ((b.getD i fz).kind), .int .i64 ((b.getD i fz).tk), .int .i64 ((b.getD i fz).task), .int .i64 ((b.getD i fz).att), .int .i64 ((b.getD i fz).mom), .int .i64 ((b.getD i fz).rd), .int .i64 ((b.getD i fz).at_), .int .u32 ((b.getD i fz).mask)]) rfl rfl (hp16.row (k := 0) rfl rfl) ?_
        refine m_setS (enc := fltC) fz (q := (b.getD i fz)) (j := i) hM13 (i := 0) rfl hs13 rfl rfl (by simp; omega) (by simp) (rfl) fun w17 r17 u17 he17 hs17 (hM17 : Mem w [] w17 [r17]) => ?_
        refine h11 _ _ ?_
        clear h11
        refine stp (v := .int .i64 (i : Nat)) (o_mv rfl) ?_
        refine stp (v := .int .i64 ((i : Nat) + 1)) (o_bin rfl rfl (v_add64 (by constructor <;> omega))) ?_
        refine stp (v := .int .i64 ((i : Nat) + 1)) (o_mv rfl) ?_
        refine h7 (i + 1, y3_, r17) _ _ ⟨rfl, by first | rfl | exact v_int (by omega) | exact v_int (by simp) | exact v_int (by simp; omega), rfl, hM17, by omega, by simp; omega, by rw [← setG fz rfl (c := b.getD i fz) (by omega) rfl]; simpa [List.set_set] using hs17⟩ (by (try dsimp only); omega)
      ·
        refine h11 _ _ ?_
        clear h11
        refine stp (v := .int .i64 (i : Nat)) (o_mv rfl) ?_
        refine stp (v := .int .i64 ((i : Nat) + 1)) (o_bin rfl rfl (v_add64 (by constructor <;> omega))) ?_
        refine stp (v := .int .i64 ((i : Nat) + 1)) (o_mv rfl) ?_
        refine h7 (i + 1, y3_, r13) _ _ ⟨rfl, by first | rfl | exact v_int (by omega) | exact v_int (by simp) | exact v_int (by simp; omega), rfl, hM13, by omega, by simp; omega, by rw [← setG2 fz rfl (by omega) (by omega)]; exact hs13⟩ (by (try dsimp only); omega)
    ·
      refine h4 _ _ ?_
      clear h4
      refine seq fun K18 h18 => ?_
      refine stp (v := y3_) (o_mv rfl) ?_
      refine stp (v := y3_) (o_mv rfl) ?_
      refine h18 _ _ ?_
      clear h18
      refine ⟨y3_, rfl, ?_⟩
      have e : i = (b.length + 64) := by omega
      subst e
      rw [Nat.sub_self, List.replicate_zero, List.append_nil, List.take_of_length_le (by simp)] at hy3_
      exact ⟨_, hy3_, hM6⟩

/-- winnowlaw16.spoil -/
theorem spoil_ok (x : Value) (l : List Flt) (m : Int) (hm : -9223372036854775807 ≤ m ∧ m ≤ 9223372036854775807) (r0 : List Ent) (w : World) (hs0 : SlS fltC 8 25 x l r0) (hr : Res w r0) (hl : l.length ≤ 2199023255552) : Calls Try.prog 25 [x, .int .i64 m].toArray w (Rt fun r w' => r = .int .i64 ((l.length + 64 : Nat) : Int) ∧ Mem w (ids r0) w' []) := by
  have hM0 : Mem w (ids r0) w [r0] := Mem.start hr
  refine calls_vc mixed Try.func25 rfl C25 (by simp [Try.ntmps25]) ?_
  refine seq fun K1 h1 => ?_
  refine stp (v := .int .i64 0) (o_mv rfl) ?_
  refine h1 _ _ ?_
  clear h1
  refine seq fun K2 h2 => ?_
  refine seq fun K3 h3 => ?_
  refine stp (v := .int .i64 0) (o_mv rfl) ?_
  refine h3 _ _ ?_
  clear h3
  refine lp (n := fun _ _ => False) (ι := (Nat) × (List Flt) × (Value) × (List Ent)) (fun ⟨i, la, y0_, r0_⟩ f w' => f 0 = y0_ ∧ f 5 = .int .i64 (i : Nat) ∧ f 1 = .int .i64 m ∧ Mem w (ids r0) w' [r0_] ∧ (la.length = l.length) ∧ (i ≤ la.length) ∧ (SlS fltC 8 25 y0_ (la) r0_)) (fun ⟨i, la, y0_, r0_⟩ => l.length - i) (0, l, x, r0) ?_ ?_
  · exact ⟨rfl, by first | rfl | exact v_int (by omega) | exact v_int (by simp) | exact v_int (by simp; omega), by first | rfl | exact v_int (by omega) | exact v_int (by simp) | exact v_int (by simp; omega), hM0, rfl, by omega, by first | exact hs0 | simpa using hs0⟩
  · rintro ⟨i, la, y0_, r0_⟩ f w4 ⟨e4_0, e4_5, e4_1, hM4, hla, hi, hy0_⟩ K5 h5
    obtain ⟨frm, rfl⟩ : ∃ frm, f = (upd (upd (upd frm 0 (y0_)) 5 (.int .i64 (i : Nat))) 1 (.int .i64 m)) := ⟨f, by rw [upd_self e4_0, upd_self e4_5, upd_self e4_1]⟩
    clear e4_0 e4_5 e4_1
    refine seq fun K6 h6 => ?_
    refine seq fun K7 h7 => ?_
    refine stp (v := .int .i64 (i : Nat)) (o_mv rfl) ?_
    refine stp (v := y0_) (o_mv rfl) ?_
    refine stp (v := .int .i64 (la.length : Nat)) (o_lenR (hy0_.rd hM4 (i := 0) rfl) rfl rfl) ?_
    refine stp (v := .bool (decide (((i : Nat) : Int) < (la.length : Nat)))) (o_bin rfl rfl rfl) ?_
    refine h7 _ _ ?_
    clear h7
    refine cndP rfl (fun c8 => ?_) (fun c8 => ?_)
    ·
      refine h6 _ _ ?_
      clear h6
      refine seq fun K9 h9 => ?_
      refine stp (v := y0_) (o_mv rfl) ?_
      refine stp (v := .int .i64 (i : Nat)) (o_mv rfl) ?_
      refine stp (v := .int .i64 m) (o_mv rfl) ?_
      refine stp (v := .agg ([.int .i64 m, .int .i64 0, .int .i64 0, .int .i64 0, .int .i64 0, .int .i64 0, .int .i64 0, .int .u32 0] : List Value).toArray) (o_bld rfl rfl) ?_
      refine m_setS (enc := fltC) fz (q := (⟨m, 0, 0, 0, 0, 0, 0, 0⟩ : Flt)) (j := i) hM4 (i := 0) rfl hy0_ rfl rfl (by omega) (by simp) (rfl) fun w10 r10 u10 he10 hs10 (hM10 : Mem w (ids r0) w10 [r10]) => ?_
      refine h9 _ _ ?_
      clear h9
      refine stp (v := .int .i64 (i : Nat)) (o_mv rfl) ?_
      refine stp (v := .int .i64 ((i : Nat) + 1)) (o_bin rfl rfl (v_add64 (by constructor <;> omega))) ?_
      refine stp (v := .int .i64 ((i : Nat) + 1)) (o_mv rfl) ?_
      refine h5 (i + 1, la.set i ⟨m, 0, 0, 0, 0, 0, 0, 0⟩, y0_, r10) _ _ ⟨rfl, by first | rfl | exact v_int (by omega) | exact v_int (by simp) | exact v_int (by simp; omega), by first | rfl | exact v_int (by omega) | exact v_int (by simp) | exact v_int (by simp; omega), hM10, by simp; omega, by simp; omega, by first | exact hs10 | simpa using hs10⟩ (by (try dsimp only); omega)
    ·
      refine h2 _ _ ?_
      clear h2
      refine seq fun K11 h11 => ?_
      refine seq fun K12 h12 => ?_
      refine stp (v := .int .i64 0) (o_mv rfl) ?_
      refine h12 _ _ ?_
      clear h12
      refine lp (n := fun _ _ => False) (ι := (Nat) × (List Flt) × (Value) × (List Ent)) (fun ⟨i, lb, y0_, r0_⟩ f w' => f 0 = y0_ ∧ f 6 = .int .i64 (i : Nat) ∧ f 1 = .int .i64 m ∧ Mem w (ids r0) w' [r0_] ∧ (lb.length = l.length + i) ∧ (i ≤ 64) ∧ (SlS fltC 8 25 y0_ (lb) r0_)) (fun ⟨i, lb, y0_, r0_⟩ => 64 - i) (0, la, y0_, r0_) ?_ ?_
      · exact ⟨rfl, by first | rfl | exact v_int (by omega) | exact v_int (by simp) | exact v_int (by simp; omega), by first | rfl | exact v_int (by omega) | exact v_int (by simp) | exact v_int (by simp; omega), hM4, by omega, by omega, by first | exact hy0_ | simpa using hy0_⟩
      · rintro ⟨i, lb, y0_, r0_⟩ f w13 ⟨e13_0, e13_6, e13_1, hM13, hlb, hi, hy0_⟩ K14 h14
        obtain ⟨frm, rfl⟩ : ∃ frm, f = (upd (upd (upd frm 0 (y0_)) 6 (.int .i64 (i : Nat))) 1 (.int .i64 m)) := ⟨f, by rw [upd_self e13_0, upd_self e13_6, upd_self e13_1]⟩
        clear e13_0 e13_6 e13_1
        refine seq fun K15 h15 => ?_
        refine seq fun K16 h16 => ?_
        refine stp (v := .int .i64 (i : Nat)) (o_mv rfl) ?_
        refine stp (v := .bool (decide (((i : Nat) : Int) < 64))) (o_bin rfl rfl rfl) ?_
        refine h16 _ _ ?_
        clear h16
        refine cndP rfl (fun c17 => ?_) (fun c17 => ?_)
        ·
          refine h15 _ _ ?_
          clear h15
          refine seq fun K18 h18 => ?_
          refine stp (v := y0_) (o_mv rfl) ?_
          refine stp (v := .int .i64 m) (o_mv rfl) ?_
          refine stp (v := .int .i64 (0 - m)) (o_neg rfl (v_same (by simp only [inK]; omega))) ?_
          refine stp (v := .agg ([.int .i64 (0 - m), .int .i64 0, .int .i64 0, .int .i64 0, .int .i64 0, .int .i64 0, .int .i64 0, .int .u32 0] : List Value).toArray) (o_bld rfl rfl) ?_
          refine m_app1S (enc := fltC) (q := (⟨0 - m, 0, 0, 0, 0, 0, 0, 0⟩ : Flt)) hM13 (i := 0) rfl hy0_ rfl (by simp) (rfl) (rfl) (by first | omega | (simp; omega)) (by omega) fun v19 w19 r19 u19 (hs19 : SlS fltC 8 25 v19 (lb ++ [(⟨0 - m, 0, 0, 0, 0, 0, 0, 0⟩ : Flt)]) r19) (hM19 : Mem w (ids r0) w19 [r19]) => ?_
          refine stp (v := v19) (o_mv rfl) ?_
          refine h18 _ _ ?_
          clear h18
          refine stp (v := .int .i64 (i : Nat)) (o_mv rfl) ?_
          refine stp (v := .int .i64 ((i : Nat) + 1)) (o_bin rfl rfl (v_add64 (by constructor <;> omega))) ?_
          refine stp (v := .int .i64 ((i : Nat) + 1)) (o_mv rfl) ?_
          refine h14 (i + 1, lb ++ [⟨0 - m, 0, 0, 0, 0, 0, 0, 0⟩], v19, r19) _ _ ⟨rfl, by first | rfl | exact v_int (by omega) | exact v_int (by simp) | exact v_int (by simp; omega), by first | rfl | exact v_int (by omega) | exact v_int (by simp) | exact v_int (by simp; omega), hM19, by simp; omega, by omega, by first | exact hs19 | simpa using hs19⟩ (by (try dsimp only); omega)
        ·
          refine h11 _ _ ?_
          clear h11
          refine seq fun K20 h20 => ?_
          refine stp (v := y0_) (o_mv rfl) ?_
          refine stp (v := .int .i64 (lb.length : Nat)) (o_lenR (hy0_.rd hM13 (i := 0) rfl) rfl rfl) ?_
          refine stp (v := .int .i64 (lb.length : Nat)) (o_mv rfl) ?_
          refine h20 _ _ ?_
          clear h20
          refine ⟨(.int .i64 (lb.length : Nat)), rfl, ?_⟩
          exact ⟨v_int (by omega), hM13.keep (by simp)⟩

theorem flt_bool (x y : Flt) : (decide (x.kind = y.kind) && (decide (x.tk = y.tk) && (decide (x.task = y.task) && (decide (x.att = y.att) && (decide (x.mom = y.mom) && (decide (x.rd = y.rd) && (decide (x.at_ = y.at_) && (decide (x.mask = y.mask) && true)))))))) = decide (x = y) := by
  obtain ⟨a1, a2, a3, a4, a5, a6, a7, a8⟩ := x
  obtain ⟨b1, b2, b3, b4, b5, b6, b7, b8⟩ := y
  rw [Bool.eq_iff_iff]
  simp
theorem flt_aeq (x y : Flt) : eqCs [1, 1, 1, 1, 1, 1, 1, 1] (fltC x) (fltC y) = some (decide (x = y)) := by
  rw [← flt_bool]; simp [eqCs, eqC, fltC]

/-- winnowlaw16.sameFaults -/
theorem sameFaults_ok (x y : Value) (a b : List Flt) (w : World) (hx : RdS fltC w x a) (hy : RdS fltC w y b) (hla : a.length ≤ 9223372036854775807) : Calls Try.prog 22 [x, y].toArray w (Rt fun r w' => r = .bool (decide (a = b)) ∧ Upd [] w w') := by
  have hM0 : Mem w [] w [] := Mem.nil w []
  refine calls_vc mixed Try.func22 rfl C22 (by simp [Try.ntmps22]) ?_
  refine seq fun K1 h1 => ?_
  refine stp (v := .bool false) (o_mv rfl) ?_
  refine h1 _ _ ?_
  clear h1
  refine seq fun K2 h2 => ?_
  refine seq fun K3 h3 => ?_
  refine stp (v := x) (o_mv rfl) ?_
  refine stp (v := .int .i64 (a.length : Nat)) (o_lenR (hx.upd hM0.upd) rfl rfl) ?_
  refine stp (v := y) (o_mv rfl) ?_
  refine stp (v := .int .i64 (b.length : Nat)) (o_lenR (hy.upd hM0.upd) rfl rfl) ?_
  refine stp (v := .bool (decide (¬ ((a.length : Nat) : Int) = (b.length : Nat)))) (o_bin rfl rfl v_neq) ?_
  refine h3 _ _ ?_
  clear h3
  refine cndP rfl (fun c4 => ?_) (fun c4 => ?_)
  ·
    refine seq fun K5 h5 => ?_
    refine stp (v := .bool false) (o_mv rfl) ?_
    refine h5 _ _ ?_
    clear h5
    refine ⟨(.bool false), rfl, ?_⟩
    exact ⟨by rw [decide_eq_false (fun e => c4 (by rw [e]))], hM0.upd⟩
  ·
    refine h2 _ _ ?_
    clear h2
    refine seq fun K6 h6 => ?_
    refine seq fun K7 h7 => ?_
    refine stp (v := .int .i64 0) (o_mv rfl) ?_
    refine h7 _ _ ?_
    clear h7
    refine lp (n := fun _ _ => False) (ι := (Nat)) (fun i f w' => f 5 = .int .i64 (i : Nat) ∧ f 0 = x ∧ f 1 = y ∧ Mem w [] w' [] ∧ (i ≤ a.length) ∧ (a.take i = b.take i)) (fun i => a.length - i) (0) ?_ ?_
    · exact ⟨by first | rfl | exact v_int (by omega) | exact v_int (by simp) | exact v_int (by simp; omega), rfl, rfl, hM0, by omega, by simp⟩
    · rintro i f w8 ⟨e8_5, e8_0, e8_1, hM8, hi, hp⟩ K9 h9
      obtain ⟨frm, rfl⟩ : ∃ frm, f = (upd (upd (upd frm 5 (.int .i64 (i : Nat))) 0 (x)) 1 (y)) := ⟨f, by rw [upd_self e8_5, upd_self e8_0, upd_self e8_1]⟩
      clear e8_5 e8_0 e8_1
      refine seq fun K10 h10 => ?_
      refine seq fun K11 h11 => ?_
      refine stp (v := .int .i64 (i : Nat)) (o_mv rfl) ?_
      refine stp (v := x) (o_mv rfl) ?_
      refine stp (v := .int .i64 (a.length : Nat)) (o_lenR (hx.upd hM8.upd) rfl rfl) ?_
      refine stp (v := .bool (decide (((i : Nat) : Int) < (a.length : Nat)))) (o_bin rfl rfl rfl) ?_
      refine h11 _ _ ?_
      clear h11
      refine cndP rfl (fun c12 => ?_) (fun c12 => ?_)
      ·
        refine h10 _ _ ?_
        clear h10
        refine seq fun K13 h13 => ?_
        refine seq fun K14 h14 => ?_
        intro wd e1 e2 e3 e4
        have hd := Upd.same e1 e2 e3 e4 []
        have hM15 := hM8.pure hd
        clear e1 e2 e3 e4
        refine ⟨none, ?_⟩
        show vd _ _ _ _ _ _ _
        refine dq (v := x) (o_mv rfl) ?_
        refine dq (v := .int .i64 (i : Nat)) (o_mv rfl) ?_
        refine dqp (m_idxS fz (j := i) (hx.upd hM15.upd) rfl rfl (by omega) fun b16 o16 hp16 => ?_)
        show vd _ _ _ _ _ _ _
        refine dq (v := y) (o_mv rfl) ?_
        refine dq (v := .int .i64 (i : Nat)) (o_mv rfl) ?_
        refine dqp (m_idxS fz (j := i) (hy.upd hM15.upd) rfl rfl (by omega) fun b17 o17 hp17 => ?_)
        show vd _ _ _ _ _ _ _
        refine dqldA (cs := [.int .i64 ((b.getD i fz).kind), .int .i64 ((b.getD i fz).tk), .int .i64 ((b.getD i fz).task), .int .i64 ((b.getD i fz).att), .int .i64 ((b.getD i fz).mom), .int .i64 ((b.getD i fz).rd), .int .i64 ((b.getD i fz).at_), .int .u32 ((b.getD i fz).mask)]) rfl (trivial) rfl (hp17.row (k := 0) rfl rfl) ?_
        refine dl (ldA (cs := [.int .i64 ((a.getD i fz).kind), .int .i64 ((a.getD i fz).tk), .int .i64 ((a.getD i fz).task), .int .i64 ((a.getD i fz).att), .int .i64 ((a.getD i fz).mom), .int .i64 ((a.getD i fz).rd), .int .i64 ((a.getD i fz).at_), .int .u32 ((a.getD i fz).mask)]) rfl rfl (hp16.row (k := 0) rfl rfl) ?_)
        refine ⟨rfl, ?_⟩
        refine dq (v := .bool (decide (¬ (a.getD i fz) = (b.getD i fz)))) (o_aeq rfl rfl (flt_aeq (a.getD i fz) (b.getD i fz)) v_not) ?_
        refine h14 _ _ ?_
        clear h14
        refine cndP rfl (fun c18 => ?_) (fun c18 => ?_)
        ·
          refine seq fun K19 h19 => ?_
          refine stp (v := .bool false) (o_mv rfl) ?_
          refine h19 _ _ ?_
          clear h19
          refine ⟨(.bool false), rfl, ?_⟩
          exact ⟨by rw [decide_eq_false (ne_atG fz i (by assumption))], hM15.upd⟩
        ·
          refine h13 _ _ ?_
          clear h13
          refine stp (v := .int .i64 (i : Nat)) (o_mv rfl) ?_
          refine stp (v := .int .i64 ((i : Nat) + 1)) (o_bin rfl rfl (v_add64 (by constructor <;> omega))) ?_
          refine stp (v := .int .i64 ((i : Nat) + 1)) (o_mv rfl) ?_
          refine h9 (i + 1) _ _ ⟨by first | rfl | exact v_int (by omega) | exact v_int (by simp) | exact v_int (by simp; omega), rfl, rfl, hM15, by omega, take_eqG fz hp (by omega) (by omega) (Decidable.not_not.1 (by assumption))⟩ (by (try dsimp only); omega)
      ·
        refine h6 _ _ ?_
        clear h6
        refine seq fun K20 h20 => ?_
        refine stp (v := .bool true) (o_mv rfl) ?_
        refine h20 _ _ ?_
        clear h20
        refine ⟨(.bool true), rfl, ?_⟩
        exact ⟨by rw [decide_eq_true]; rw [← List.take_of_length_le (l := a) (i := i) (by omega), ← List.take_of_length_le (l := b) (i := i) (by omega), hp], hM8.upd⟩
