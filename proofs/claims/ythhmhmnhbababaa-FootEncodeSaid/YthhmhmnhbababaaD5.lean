/- Footers as bytes: bodies. -/
import Derived.Test.YthhmhmnhbababaaD4
import Derived.Test.YthhmhmnhbababaaD3
namespace Go.Proofs.Ythhmhmnhbababaa.E
open Go
def putAll (ns : List Int) : List UInt8 := ns.flatMap putI
def bkB (key : List UInt8) (b : Bi) : List UInt8 := putAll [b.st, b.ra, b.ct, (common key b.cut : Nat), (b.cut.length : Nat) - (common key b.cut : Nat)] ++ b.cut.drop (common key b.cut)
def bksB : List UInt8 → List Bi → List UInt8
  | _, [] => []
  | key, b :: bs => bkB key b ++ bksB b.cut bs
def parB (last : Int) (p : Pp) : List UInt8 := putAll [p.part - last - 1, ((encF p.a p.h p.d).1.length : Nat)] ++ (encF p.a p.h p.d).1 ++ putAll [(p.bl.length : Nat)] ++ bksB [] p.bl
def infB : Int → List Pp → List UInt8
  | _, [] => []
  | last, p :: ps => parB last p ++ infB p.part ps
def bodyF (parts : Int) (ps : List Pp) : List UInt8 := putAll [parts, (ps.length : Nat)] ++ infB (-1) ps
def spB (bs : List Bi) : Int := (bs.map fun b => b.st + 5).sum
def spaceF (ps : List Pp) : Int := (ps.map fun p => spB p.bl).sum
theorem putAll_len {ns : List Int} (h : ∀ n ∈ ns, n ≤ 9223372036854775807) : (putAll ns).length ≤ 9 * ns.length := by
  induction ns with
  | nil => simp [putAll]
  | cons n ns ih =>
    have h1 := putI_len (h n (by simp))
    have h2 := ih fun m hm => h m (List.mem_cons_of_mem _ hm)
    unfold putAll at h2 ⊢
    rw [List.flatMap_cons, List.length_append, List.length_cons]; omega
theorem putAll_snoc {ns : List Int} {i : Nat} (h : i < ns.length) : putAll (ns.take (i + 1)) = putAll (ns.take i) ++ putI (ns.getD i 0) := by
  unfold putAll; rw [takeG 0 h, List.flatMap_append]; simp
section
variable {ps : List Pr} {i : Nat}
theorem infB_cons {last : Int} (h : i < ps.length) : infB last ((ps.drop i).map Pr.p) = parB last (ps.getD i pz).p ++ infB (ps.getD i pz).part ((ps.drop (i + 1)).map Pr.p) := by rw [drop_p h]; rfl
theorem infB_end {last : Int} (h : ps.length ≤ i) : infB last ((ps.drop i).map Pr.p) = [] := by rw [List.drop_eq_nil_of_le h]; rfl
theorem bksB_cons {key : List UInt8} {bl : List Bi} {k : Nat} (h : k < bl.length) : bksB key (bl.drop k) = bkB key (bl.getD k bz) ++ bksB (bl.getD k bz).cut (bl.drop (k + 1)) := by rw [dropG bz h]; rfl
theorem bksB_end {key : List UInt8} {bl : List Bi} {k : Nat} (h : bl.length ≤ k) : bksB key (bl.drop k) = [] := by rw [List.drop_eq_nil_of_le h]; rfl
theorem spB_cons {bl : List Bi} {k : Nat} (h : k < bl.length) : spB (bl.drop k) = (bl.getD k bz).st + 5 + spB (bl.drop (k + 1)) := by unfold spB; rw [dropG bz h, List.map_cons, List.sum_cons]
theorem spB_end {bl : List Bi} {k : Nat} (h : bl.length ≤ k) : spB (bl.drop k) = 0 := by rw [List.drop_eq_nil_of_le h]; rfl
theorem sp_cons (h : i < ps.length) : spaceF ((ps.drop i).map Pr.p) = spB (ps.getD i pz).bl + spaceF ((ps.drop (i + 1)).map Pr.p) := by unfold spaceF; rw [drop_p h, List.map_cons, List.sum_cons]
theorem sp_end (h : ps.length ≤ i) : spaceF ((ps.drop i).map Pr.p) = 0 := by rw [List.drop_eq_nil_of_le h]; rfl
end
/-- where the bytes are gathered: a slice in a cell of its own -/
def OutS (bo : Nat) (L : List UInt8) (r : List Ent) : Prop := ∃ v rb, r = ⟨bo, 34, [v]⟩ :: rb ∧ SlE byteV 5 v L rb
theorem OutS.nil (bo : Nat) : OutS bo [] [⟨bo, 34, [.slice none 0 0]⟩] := ⟨_, [], rfl, Sl.nil 1 5⟩
theorem Mem.farE {α : Type} {E : α → Value} {w0 w w' : World} {S : List Nat} {R : List (List Ent)} {i j : Nat} {r rj : List Ent} {t : TypeId} {v : Value} {l : List α} (hM : Mem w0 S w R) (hi : R[i]? = some r) (hj : R[j]? = some rj) (hn : j ≠ i) (hs : SlE E t v l rj) (u : Upd (ids r) w w') : RdE E w' v l :=
  Sl.rdOwn hs fun e he => by
    obtain ⟨k, hk, rfl⟩ := List.getElem_of_mem he
    exact ((hM.res hj).1 _ he).upd u (hM.apart hj (List.getElem?_eq_getElem hk) hi hn)
theorem Mem.farE2 {α : Type} {E : α → Value} {w0 w w' : World} {S : List Nat} {R : List (List Ent)} {i j k : Nat} {a b rk : List Ent} {t : TypeId} {v : Value} {l : List α} (hM : Mem w0 S w R) (hi : R[i]? = some a) (hj : R[j]? = some b) (hk : R[k]? = some rk) (hki : k ≠ i) (hkj : k ≠ j) (hs : SlE E t v l rk) (u : Upd (ids (a ++ b)) w w') : RdE E w' v l :=
  Sl.rdOwn hs fun e he => by
    obtain ⟨q, hq, rfl⟩ := List.getElem_of_mem he
    refine ((hM.res hk).1 _ he).upd u fun hm => ?_
    unfold ids at hm
    rw [List.map_append, List.mem_append] at hm
    rcases hm with hm | hm
    · exact hM.apart hk (List.getElem?_eq_getElem hq) hi hki hm
    · exact hM.apart hk (List.getElem?_eq_getElem hq) hj hkj hm
theorem openO1 {a : Ent} {r : List Ent} {w0 w : World} {S : List Nat} (h : Mem w0 S w [a :: r]) : Mem w0 S w [[a], r] := h.perm (by simp)
theorem openO {a : Ent} {r : List Ent} {R : List (List Ent)} {w0 w : World} {S : List Nat} (h : Mem w0 S w ((a :: r) :: R)) : Mem w0 S w ([a] :: r :: R) := h.perm (by simp)
theorem shutO {a : Ent} {r : List Ent} {R : List (List Ent)} {w0 w : World} {S : List Nat} (h : Mem w0 S w ([a] :: r :: R)) : Mem w0 S w ((a :: r) :: R) := h.perm (by simp)

/-- nums.Common -/
theorem Common_ok (a b : List UInt8) (w : World) (hla : a.length ≤ 1152921504606846976) (hlb : b.length ≤ 1152921504606846976) : Calls Try.prog 78 [.string (str a), .string (str b)].toArray w (Rt fun r w' => r = .int .i64 ((common a b : Nat) : Int) ∧ Upd [] w w') := by
  have hM0 : Mem w [] w [] := Mem.nil w []
  refine calls_vc mixed Try.func78 rfl C78 (by simp [Try.ntmps78]) ?_
  refine seq fun K1 h1 => ?_
  refine stp (v := .int .i64 0) (o_mv rfl) ?_
  refine h1 _ _ ?_
  clear h1
  refine seq fun K2 h2 => ?_
  refine seq fun K3 h3 => ?_
  refine stp (v := .string (str a)) (o_mv rfl) ?_
  refine stp (v := .int .i64 (a.length : Nat)) (o_lens rfl rfl) ?_
  refine stp (v := .string (str b)) (o_mv rfl) ?_
  refine stp (v := .int .i64 (b.length : Nat)) (o_lens rfl rfl) ?_
  refine stp (v := .int .i64 (min ((a.length : Nat) : Int) ((b.length : Nat) : Int))) (o_mm rfl rfl rfl) ?_
  refine stp (v := .int .i64 0) (o_mv rfl) ?_
  refine h3 _ _ ?_
  clear h3
  refine lp (n := fun _ _ => False) (ι := (Nat)) (fun i f w' => f 0 = .string (str a) ∧ f 1 = .string (str b) ∧ f 10 = .int .i64 (min a.length b.length : Nat) ∧ f 11 = .int .i64 (i : Nat) ∧ Mem w [] w' [] ∧ (i ≤ min a.length b.length) ∧ (a.take i = b.take i)) (fun i => min a.length b.length - i) (0) ?_ ?_
  · exact ⟨by first | rfl | simp [upd], by first | rfl | simp [upd], by first | rfl | exact v_int (by omega) | exact v_int (by simp) | exact v_int (by simp; omega), by first | rfl | exact v_int (by omega) | exact v_int (by simp) | exact v_int (by simp; omega), hM0, by omega, by simp⟩
  · rintro i f w4 ⟨e4_0, e4_1, e4_10, e4_11, hM4, hi, hp⟩ K5 h5
    obtain ⟨frm, rfl⟩ : ∃ frm, f = (upd (upd (upd (upd frm 0 (.string (str a))) 1 (.string (str b))) 10 (.int .i64 (min a.length b.length : Nat))) 11 (.int .i64 (i : Nat))) := ⟨f, by rw [upd_self e4_0, upd_self e4_1, upd_self e4_10, upd_self e4_11]⟩
    clear e4_0 e4_1 e4_10 e4_11
    refine seq fun K6 h6 => ?_
    refine stp (v := .bool (decide (((i : Nat) : Int) < (min a.length b.length : Nat)))) (o_bin rfl rfl rfl) ?_
    refine h6 _ _ ?_
    clear h6
    refine seq fun K7 h7 => ?_
    refine cndP rfl (fun c8 => ?_) (fun c8 => ?_)
    ·
      refine h7 _ _ ?_
      clear h7
      refine seq fun K9 h9 => ?_
      refine seq fun K10 h10 => ?_
      refine stp (v := .int .i64 (i : Nat)) (o_mv rfl) ?_
      refine stp (v := .int .i64 (i : Nat)) (o_mv rfl) ?_
      refine h10 _ _ ?_
      clear h10
      refine seq fun K11 h11 => ?_
      intro wd e1 e2 e3 e4
      have hd := Upd.same e1 e2 e3 e4 []
      have hM12 := hM4.pure hd
      clear e1 e2 e3 e4
      refine ⟨none, ?_⟩
      show vd _ _ _ _ _ _ _
      refine dq (v := .string (str a)) (o_mv rfl) ?_
      refine dq (v := .int .i64 (i : Nat)) (o_mv rfl) ?_
      refine dq (v := byteV (a.getD i 0)) (o_idxs rfl rfl (by omega) rfl) ?_
      refine dq (v := .string (str b)) (o_mv rfl) ?_
      refine dq (v := .int .i64 (i : Nat)) (o_mv rfl) ?_
      refine dq (v := byteV (b.getD i 0)) (o_idxs rfl rfl (by omega) rfl) ?_
      refine dq (v := .bool (decide (¬ ((a.getD i 0).toNat : Int) = ((b.getD i 0).toNat : Int)))) (o_bin rfl rfl v_neq) ?_
      refine h11 _ _ ?_
      clear h11
      refine cndP rfl (fun c13 => ?_) (fun c13 => ?_)
      ·
        refine seq fun K14 h14 => ?_
        refine stp (v := .int .i64 (i : Nat)) (o_mv rfl) ?_
        refine stp (v := .int .i64 (i : Nat)) (o_mv rfl) ?_
        refine h14 _ _ ?_
        clear h14
        refine ⟨(.int .i64 (i : Nat)), rfl, ?_⟩
        exact ⟨by rw [common_at hp (by omega) (by omega) (nat_ne (by omega))], hM12.upd⟩
      ·
        refine h9 _ _ ?_
        clear h9
        refine stp (v := .int .i64 ((i : Nat) + 1)) (o_bin rfl rfl (v_add64 (by constructor <;> omega))) ?_
        refine stp (v := .int .i64 ((i : Nat) + 1)) (o_mv rfl) ?_
        refine h5 (i + 1) _ _ ⟨by first | rfl | simp [upd], by first | rfl | simp [upd], by first | rfl | exact v_int (by omega) | exact v_int (by simp) | exact v_int (by simp; omega), by first | rfl | exact v_int (by omega) | exact v_int (by simp) | exact v_int (by simp; omega), hM12, by omega, take_succ_eq hp (by omega) (by omega) (u8_eq (by omega))⟩ (by (try dsimp only); omega)
    ·
      refine h2 _ _ ?_
      clear h2
      refine seq fun K15 h15 => ?_
      refine stp (v := .string (str a)) (o_mv rfl) ?_
      refine stp (v := .int .i64 (a.length : Nat)) (o_lens rfl rfl) ?_
      refine stp (v := .string (str b)) (o_mv rfl) ?_
      refine stp (v := .int .i64 (b.length : Nat)) (o_lens rfl rfl) ?_
      refine stp (v := .int .i64 (min ((a.length : Nat) : Int) ((b.length : Nat) : Int))) (o_mm rfl rfl rfl) ?_
      refine stp (v := .int .i64 (min ((a.length : Nat) : Int) ((b.length : Nat) : Int))) (o_mv rfl) ?_
      refine h15 _ _ ?_
      clear h15
      refine ⟨(.int .i64 (min ((a.length : Nat) : Int) ((b.length : Nat) : Int))), rfl, ?_⟩
      exact ⟨by rw [common_end hp (by omega)]; exact v_int (by omega), hM4.upd⟩

/-- foot.body$1 -/
theorem put_ok (x : Value) (ns : List Int) (bo : Nat) (L : List UInt8) (r0 : List Ent) (w : World) (ho : OutS bo L r0) (hr : Res w r0) (hfar : ∀ w', Upd (ids r0) w w' → RdE i64V w' x ns) (hn : ∀ n ∈ ns, inK .i64 n) (hl : L.length + 9 * ns.length ≤ 140737488351232) : Calls Try.prog 75 [x, .pointer (some ⟨bo, 0, none⟩)].toArray w (Rt fun _ w' => ∃ r', OutS bo (L ++ putAll ns) r' ∧ Mem w (ids r0) w' [r']) := by
  obtain ⟨v0, rb0, rfl, hs0⟩ := ho
  have hM0 : Mem w (ids (⟨bo, 34, [v0]⟩ :: rb0)) w [[⟨bo, 34, [v0]⟩], rb0] := Mem.start2 hr
  refine calls_vc mixed Try.func75 rfl C75 (by simp [Try.ntmps75]) ?_
  refine seq fun K1 h1 => ?_
  refine stp (v := x) (o_mv rfl) ?_
  refine stp (v := .int .i64 (ns.length : Nat)) (o_lenR ((hfar _ hM0.upd)) rfl rfl) ?_
  refine stp (v := .int .i64 0) (o_mv rfl) ?_
  refine h1 _ _ ?_
  clear h1
  refine lp (n := fun _ _ => False) (ι := (Nat) × (Value) × (List Ent)) (fun ⟨i, v, rb⟩ f w' => f 1 = .pointer (some ⟨bo, 0, none⟩) ∧ f 7 = .int .i64 (i : Nat) ∧ f 5 = x ∧ f 6 = .int .i64 (ns.length : Nat) ∧ Mem w (ids (⟨bo, 34, [v0]⟩ :: rb0)) w' [[⟨bo, 34, [v]⟩], rb] ∧ (SlE byteV 5 v (L ++ putAll (ns.take i)) rb) ∧ (i ≤ ns.length) ∧ ((putAll (ns.take i)).length ≤ 9 * i)) (fun ⟨i, v, rb⟩ => ns.length - i) (0, v0, rb0) ?_ ?_
  · exact ⟨rfl, by first | rfl | exact v_int (by omega) | exact v_int (by simp) | exact v_int (by simp; omega), rfl, by first | rfl | exact v_int (by omega) | exact v_int (by simp) | exact v_int (by simp; omega), hM0, by simpa [putAll] using hs0, by omega, by simp [putAll]⟩
  · rintro ⟨i, v, rb⟩ f w2 ⟨e2_1, e2_7, e2_5, e2_6, hM2, hs, hi, hL⟩ K3 h3
    obtain ⟨frm, rfl⟩ : ∃ frm, f = (upd (upd (upd (upd frm 1 (.pointer (some ⟨bo, 0, none⟩))) 7 (.int .i64 (i : Nat))) 5 (x)) 6 (.int .i64 (ns.length : Nat))) := ⟨f, by rw [upd_self e2_1, upd_self e2_7, upd_self e2_5, upd_self e2_6]⟩
    clear e2_1 e2_7 e2_5 e2_6
    refine seq fun K4 h4 => ?_
    refine stp (v := .bool (decide (((i : Nat) : Int) < (ns.length : Nat)))) (o_bin rfl rfl rfl) ?_
    refine h4 _ _ ?_
    clear h4
    refine seq fun K5 h5 => ?_
    refine cndP rfl (fun c6 => ?_) (fun c6 => ?_)
    ·
      refine h5 _ _ ?_
      clear h5
      refine seq fun K7 h7 => ?_
      refine seq fun K8 h8 => ?_
      refine m_idxE 0 (j := i) ((hfar _ hM2.upd)) rfl rfl (by omega) fun b9 o9 hp9 => ?_
      refine ld (v := .int .i64 (ns.getD i 0)) rfl (hp9) ?_
      refine stp (v := .int .i64 (ns.getD i 0)) (o_mv rfl) ?_
      refine h8 _ _ ?_
      clear h8
      intro wd e1 e2 e3 e4
      have hd := Upd.same e1 e2 e3 e4 []
      have hM10 := hM2.pure hd
      clear e1 e2 e3 e4
      refine ⟨(some []), ?_⟩
      show vd _ _ _ _ _ _ _
      have hpn := hn _ (getD_memG 0 (l := ns) (i := i) (by omega))
      have hpl := putI_len (v := ns.getD i 0) (by simp only [inK] at hpn; omega)
      simp only [inK] at hpn
      refine dq (v := .int .i64 (ns.getD i 0)) (o_mv rfl) ?_
      show _ ∧ _
      refine ⟨?_, ?_⟩
      ·
        show vd _ _ _ _ _ _ _
        refine dl (m_ld (v := v) hM10 (i := 0) (j := 0) rfl rfl rfl rfl ?_)
        refine ⟨(fun b hb => by cases hb), ?_⟩
        refine dl (m_call (Put_ok (ns.getD i 0) (by simp only [inK]; omega) wd) rfl fun v11 w11 ⟨rs11, hs11, hm11⟩ => ?_)
        have hM11 : Mem w (ids (⟨bo, 34, [v0]⟩ :: rb0)) w11 [[⟨bo, 34, [v]⟩], rb, rs11] := hM10.add hm11
        have hn11 := putI_len (v := ns.getD i 0) (by omega)
        refine ⟨(fun b hb => by cases hb), ?_⟩
        refine dl (m_appE hM11 (i := 1) rfl hs rfl rfl (hs11.rd hM11 (i := 2) rfl) (by rw [List.length_append]; omega) (by omega) fun v12 w12 r12 (hs12 : SlE byteV 5 v12 ((L ++ putAll (ns.take i)) ++ (putI (ns.getD i 0))) r12) (hM12 : Mem w (ids (⟨bo, 34, [v0]⟩ :: rb0)) w12 [[⟨bo, 34, [v]⟩], r12, rs11]) => ?_)
        refine ⟨(fun b hb => by cases hb), ?_⟩
        refine dl (m_st (v := v12) hM12 (i := 0) rfl rfl rfl (Sl.one hs12) (by simp) fun w13 (hM13 : Mem w (ids (⟨bo, 34, [v0]⟩ :: rb0)) w13 [[⟨bo, 34, [v12]⟩], r12, rs11]) => ?_)
        refine ⟨(fun b hb => by cases hb), ?_⟩
        refine h7 _ _ ?_
        clear h7
        refine stp (v := .int .i64 ((i : Nat) + 1)) (o_bin rfl rfl (v_add64 (by constructor <;> omega))) ?_
        refine stp (v := .int .i64 ((i : Nat) + 1)) (o_mv rfl) ?_
        refine h3 (i + 1, v12, r12) _ _ ⟨rfl, by first | rfl | exact v_int (by omega) | exact v_int (by simp) | exact v_int (by simp; omega), rfl, by first | rfl | exact v_int (by omega) | exact v_int (by simp) | exact v_int (by simp; omega), hM13.keep (by simp), by rw [putAll_snoc (by omega), ← List.append_assoc]; exact hs12, by omega, by rw [putAll_snoc (by omega), List.length_append]; omega⟩ (by (try dsimp only); omega)
      ·
        show vd _ _ _ _ _ _ _
        refine dl (m_call (Put_ok (ns.getD i 0) (by simp only [inK]; omega) wd) rfl fun v14 w14 ⟨rs14, hs14, hm14⟩ => ?_)
        have hM14 : Mem w (ids (⟨bo, 34, [v0]⟩ :: rb0)) w14 [[⟨bo, 34, [v]⟩], rb, rs14] := hM10.add hm14
        have hn14 := putI_len (v := ns.getD i 0) (by omega)
        refine ⟨(fun b hb => by cases hb), ?_⟩
        refine dl (m_ld (v := v) hM14 (i := 0) (j := 0) rfl rfl rfl rfl ?_)
        refine ⟨(fun b hb => by cases hb), ?_⟩
        refine dl (m_appE hM14 (i := 1) rfl hs rfl rfl (hs14.rd hM14 (i := 2) rfl) (by rw [List.length_append]; omega) (by omega) fun v15 w15 r15 (hs15 : SlE byteV 5 v15 ((L ++ putAll (ns.take i)) ++ (putI (ns.getD i 0))) r15) (hM15 : Mem w (ids (⟨bo, 34, [v0]⟩ :: rb0)) w15 [[⟨bo, 34, [v]⟩], r15, rs14]) => ?_)
        refine ⟨(fun b hb => by cases hb), ?_⟩
        refine dl (m_st (v := v15) hM15 (i := 0) rfl rfl rfl (Sl.one hs15) (by simp) fun w16 (hM16 : Mem w (ids (⟨bo, 34, [v0]⟩ :: rb0)) w16 [[⟨bo, 34, [v15]⟩], r15, rs14]) => ?_)
        refine ⟨(fun b hb => by cases hb), ?_⟩
        refine h7 _ _ ?_
        clear h7
        refine stp (v := .int .i64 ((i : Nat) + 1)) (o_bin rfl rfl (v_add64 (by constructor <;> omega))) ?_
        refine stp (v := .int .i64 ((i : Nat) + 1)) (o_mv rfl) ?_
        refine h3 (i + 1, v15, r15) _ _ ⟨rfl, by first | rfl | exact v_int (by omega) | exact v_int (by simp) | exact v_int (by simp; omega), rfl, by first | rfl | exact v_int (by omega) | exact v_int (by simp) | exact v_int (by simp; omega), hM16.keep (by simp), by rw [putAll_snoc (by omega), ← List.append_assoc]; exact hs15, by omega, by rw [putAll_snoc (by omega), List.length_append]; omega⟩ (by (try dsimp only); omega)
    ·
      refine ⟨(.tuple [].toArray), rfl, ?_⟩
      obtain rfl : i = ns.length := by omega
      rw [List.take_length] at hs
      exact ⟨_, ⟨_, _, rfl, hs⟩, shutO hM2⟩

/-- foot.blocksOf -/
theorem space_ok (parts : Int) (x : Value) (ps : List Pr) (w : World) (hx : RdS prC w x ps) (hok : ∀ p ∈ ps, p.ok w) (hl : ps.length ≤ 1954687338211) (hp : inK .i64 parts) (hft : ftOk parts (ps.map Pr.p)) : Calls Try.prog 56 [.agg [.int .i64 parts, x].toArray].toArray w (Rt fun r w' => r = .int .i64 (spaceF (ps.map Pr.p)) ∧ Upd [] w w') := by
  have hM0 : Mem w [] w [] := Mem.nil w []
  refine calls_vc mixed Try.func56 rfl C56 (by simp [Try.ntmps56]) ?_
  refine seq fun K1 h1 => ?_
  refine m_bx (v := .agg ([.int .i64 parts, x] : List Value).toArray) hM0 rfl rfl fun b2 w3 (hM3 : Mem w [] w3 [[⟨b2, 24, [.int .i64 parts, x]⟩]]) => ?_
  refine stp (v := .int .i64 0) (o_mv rfl) ?_
  refine h1 _ _ ?_
  clear h1
  refine seq fun K4 h4 => ?_
  refine stp (v := .int .i64 0) (o_mv rfl) ?_
  refine h4 _ _ ?_
  clear h4
  refine seq fun K5 h5 => ?_
  refine seq fun K6 h6 => ?_
  refine stp (v := .pointer (some ⟨b2, 1, none⟩)) (o_fa rfl rfl) ?_
  refine m_ld (v := x) hM3 (i := 0) (j := 0) rfl rfl rfl rfl ?_
  refine stp (v := .int .i64 (ps.length : Nat)) (o_lenR (hx.upd hM3.upd) rfl rfl) ?_
  refine stp (v := .int .i64 0) (o_mv rfl) ?_
  refine h6 _ _ ?_
  clear h6
  refine lp (n := fun _ _ => False) (ι := (Nat) × (Int) × (Nat) × (Int)) (fun ⟨i, last, n, s⟩ f w' => f 3 = .int .i64 s ∧ f 11 = .int .i64 (i : Nat) ∧ f 9 = x ∧ f 10 = .int .i64 (ps.length : Nat) ∧ Mem w [] w' [[⟨b2, 24, [.int .i64 parts, x]⟩]] ∧ (i ≤ ps.length) ∧ (infOk parts last n ((ps.drop i).map Pr.p)) ∧ (n ≤ 262144) ∧ (0 ≤ s ∧ s ≤ n * 65541) ∧ (spaceF (ps.map Pr.p) = s + spaceF ((ps.drop i).map Pr.p))) (fun ⟨i, last, n, s⟩ => ps.length - i) (0, (-1), 0, 0) ?_ ?_
  · exact ⟨by first | rfl | exact v_int (by omega) | exact v_int (by simp) | exact v_int (by simp; omega), by first | rfl | exact v_int (by omega) | exact v_int (by simp) | exact v_int (by simp; omega), rfl, by first | rfl | exact v_int (by omega) | exact v_int (by simp) | exact v_int (by simp; omega), hM3, by omega, hft.2, by omega, by omega, by rw [List.drop_zero]; omega⟩
  · rintro ⟨i, last, n, s⟩ f w7 ⟨e7_3, e7_11, e7_9, e7_10, hM7, hi, hI, hn, hs, hE⟩ K8 h8
    obtain ⟨frm, rfl⟩ : ∃ frm, f = (upd (upd (upd (upd frm 3 (.int .i64 s)) 11 (.int .i64 (i : Nat))) 9 (x)) 10 (.int .i64 (ps.length : Nat))) := ⟨f, by rw [upd_self e7_3, upd_self e7_11, upd_self e7_9, upd_self e7_10]⟩
    clear e7_3 e7_11 e7_9 e7_10
    refine seq fun K9 h9 => ?_
    refine stp (v := .bool (decide (((i : Nat) : Int) < (ps.length : Nat)))) (o_bin rfl rfl rfl) ?_
    refine h9 _ _ ?_
    clear h9
    refine seq fun K10 h10 => ?_
    refine cndP rfl (fun c11 => ?_) (fun c11 => ?_)
    ·
      refine h10 _ _ ?_
      clear h10
      refine seq fun K12 h12 => ?_
      refine seq fun K13 h13 => ?_
      have hpi := hok _ (getD_memG pz (l := ps) (i := i) (by omega))
      have hic := (inf_cons (ps := ps) (i := i) (parts := parts) (last := last) (n := n) (by omega)).1 hI
      have hsc := sp_cons (ps := ps) (i := i) (by omega)
      refine m_idxS pz (j := i) (hx.upd hM7.upd) rfl rfl (by omega) fun b14 o14 hp14 => ?_
      refine ldA (cs := [.int .i64 ((ps.getD i pz).part), (ps.getD i pz).bv, .bool ((ps.getD i pz).a), .int .i64 ((ps.getD i pz).h), (ps.getD i pz).dv]) rfl rfl (hp14.row (k := 0) rfl rfl) ?_
      refine m_al hM7 fun b15 w16 (hM16 : Mem w [] w16 [[⟨b2, 24, [.int .i64 parts, x]⟩], [⟨b15, 71, [.int .i64 0, .slice none 0 0, .bool false, .int .i64 0, .slice none 0 0]⟩]]) => ?_
      refine m_stA (l := [.int .i64 ((ps.getD i pz).part), (ps.getD i pz).bv, .bool ((ps.getD i pz).a), .int .i64 ((ps.getD i pz).h), (ps.getD i pz).dv]) hM16 (i := 1) rfl rfl rfl rfl (by simp [oneCells, Value.oneCell', byteV]) (by simp) fun w17 (hM17 : Mem w [] w17 [[⟨b2, 24, [.int .i64 parts, x]⟩], [⟨b15, 71, [.int .i64 ((ps.getD i pz).part), (ps.getD i pz).bv, .bool ((ps.getD i pz).a), .int .i64 ((ps.getD i pz).h), (ps.getD i pz).dv]⟩]]) => ?_
      refine h13 _ _ ?_
      clear h13
      refine seq fun K18 h18 => ?_
      refine stp (v := .pointer (some ⟨b15, 1, none⟩)) (o_fa rfl rfl) ?_
      refine m_ld (v := (ps.getD i pz).bv) hM17 (i := 1) (j := 0) rfl rfl rfl rfl ?_
      refine stp (v := .int .i64 (((ps.getD i pz).bl).length : Nat)) (o_lenR (((fun p hp => (hok p hp).upd hM17.upd) _ (getD_memG pz (by omega))).rb) rfl rfl) ?_
      refine stp (v := .int .i64 0) (o_mv rfl) ?_
      refine h18 _ _ ?_
      clear h18
      refine lp (n := fun _ _ => False) (ι := (Nat) × (List UInt8) × (Int)) (fun ⟨k, key, t⟩ f w' => f 3 = .int .i64 t ∧ f 18 = .int .i64 (k : Nat) ∧ f 9 = x ∧ f 10 = .int .i64 (ps.length : Nat) ∧ f 11 = .int .i64 (i : Nat) ∧ f 16 = (ps.getD i pz).bv ∧ f 17 = .int .i64 (((ps.getD i pz).bl).length : Nat) ∧ Mem w [] w' [[⟨b2, 24, [.int .i64 parts, x]⟩], [⟨b15, 71, [.int .i64 ((ps.getD i pz).part), (ps.getD i pz).bv, .bool ((ps.getD i pz).a), .int .i64 ((ps.getD i pz).h), (ps.getD i pz).dv]⟩]] ∧ (k ≤ (ps.getD i pz).bl.length) ∧ (blsOk key ((ps.getD i pz).bl.drop k)) ∧ (0 ≤ t ∧ t ≤ (n + k : Nat) * 65541) ∧ (s + spB (ps.getD i pz).bl = t + spB ((ps.getD i pz).bl.drop k))) (fun ⟨k, key, t⟩ => (ps.getD i pz).bl.length - k) (0, [], s) ?_ ?_
      · exact ⟨by first | rfl | exact v_int (by omega) | exact v_int (by simp) | exact v_int (by simp; omega), by first | rfl | exact v_int (by omega) | exact v_int (by simp) | exact v_int (by simp; omega), rfl, by first | rfl | exact v_int (by omega) | exact v_int (by simp) | exact v_int (by simp; omega), by first | rfl | exact v_int (by omega) | exact v_int (by simp) | exact v_int (by simp; omega), rfl, by first | rfl | exact v_int (by omega) | exact v_int (by simp) | exact v_int (by simp; omega), hM17, by omega, hic.1.1.2.2.2.2, by omega, by rw [List.drop_zero]⟩
      · rintro ⟨k, key, t⟩ f w19 ⟨e19_3, e19_18, e19_9, e19_10, e19_11, e19_16, e19_17, hM19, hk, hB, ht, hT⟩ K20 h20
        obtain ⟨frm, rfl⟩ : ∃ frm, f = (upd (upd (upd (upd (upd (upd (upd frm 3 (.int .i64 t)) 18 (.int .i64 (k : Nat))) 9 (x)) 10 (.int .i64 (ps.length : Nat))) 11 (.int .i64 (i : Nat))) 16 ((ps.getD i pz).bv)) 17 (.int .i64 (((ps.getD i pz).bl).length : Nat))) := ⟨f, by rw [upd_self e19_3, upd_self e19_18, upd_self e19_9, upd_self e19_10, upd_self e19_11, upd_self e19_16, upd_self e19_17]⟩
        clear e19_3 e19_18 e19_9 e19_10 e19_11 e19_16 e19_17
        refine seq fun K21 h21 => ?_
        refine stp (v := .bool (decide (((k : Nat) : Int) < (((ps.getD i pz).bl).length : Nat)))) (o_bin rfl rfl rfl) ?_
        refine h21 _ _ ?_
        clear h21
        refine seq fun K22 h22 => ?_
        refine cndP rfl (fun c23 => ?_) (fun c23 => ?_)
        ·
          refine h22 _ _ ?_
          clear h22
          refine seq fun K24 h24 => ?_
          refine seq fun K25 h25 => ?_
          have hbc := (bls_cons (last := key) (bl := (ps.getD i pz).bl) (k := k) (by omega)).1 hB
          have hbk := hbc.1.1.1
          have hsk := spB_cons (bl := (ps.getD i pz).bl) (k := k) (by omega)
          refine m_idxS bz (j := k) (((fun p hp => (hok p hp).upd hM19.upd) _ (getD_memG pz (by omega))).rb) rfl rfl (by omega) fun b26 o26 hp26 => ?_
          refine ldA (cs := [.int .i64 ((((ps.getD i pz).bl).getD k bz).st), .int .i64 ((((ps.getD i pz).bl).getD k bz).ra), .int .i64 ((((ps.getD i pz).bl).getD k bz).ct), .string (str ((((ps.getD i pz).bl).getD k bz).cut))]) rfl rfl (hp26.row (k := 0) rfl rfl) ?_
          refine m_al hM19 fun b27 w28 (hM28 : Mem w [] w28 [[⟨b2, 24, [.int .i64 parts, x]⟩], [⟨b15, 71, [.int .i64 ((ps.getD i pz).part), (ps.getD i pz).bv, .bool ((ps.getD i pz).a), .int .i64 ((ps.getD i pz).h), (ps.getD i pz).dv]⟩], [⟨b27, 74, [.int .i64 0, .int .i64 0, .int .i64 0, .string (str ([]))]⟩]]) => ?_
          refine m_stA (l := [.int .i64 ((((ps.getD i pz).bl).getD k bz).st), .int .i64 ((((ps.getD i pz).bl).getD k bz).ra), .int .i64 ((((ps.getD i pz).bl).getD k bz).ct), .string (str ((((ps.getD i pz).bl).getD k bz).cut))]) hM28 (i := 2) rfl rfl rfl rfl (by simp [oneCells, Value.oneCell', byteV]) (by simp) fun w29 (hM29 : Mem w [] w29 [[⟨b2, 24, [.int .i64 parts, x]⟩], [⟨b15, 71, [.int .i64 ((ps.getD i pz).part), (ps.getD i pz).bv, .bool ((ps.getD i pz).a), .int .i64 ((ps.getD i pz).h), (ps.getD i pz).dv]⟩], [⟨b27, 74, [.int .i64 ((((ps.getD i pz).bl).getD k bz).st), .int .i64 ((((ps.getD i pz).bl).getD k bz).ra), .int .i64 ((((ps.getD i pz).bl).getD k bz).ct), .string (str ((((ps.getD i pz).bl).getD k bz).cut))]⟩]]) => ?_
          refine h25 _ _ ?_
          clear h25
          refine stp (v := .int .i64 t) (o_mv rfl) ?_
          refine stp (v := .pointer (some ⟨b27, 0, none⟩)) (o_fa rfl rfl) ?_
          refine m_ld (v := .int .i64 ((((ps.getD i pz).bl).getD k bz).st)) hM29 (i := 2) (j := 0) rfl rfl rfl rfl ?_
          refine stp (v := .int .i64 (((((ps.getD i pz).bl).getD k bz).st) + 5)) (o_bin rfl rfl (v_add64 (by constructor <;> omega))) ?_
          refine stp (v := .int .i64 (t + (((((ps.getD i pz).bl).getD k bz).st) + 5))) (o_bin rfl rfl (v_add64 (by constructor <;> omega))) ?_
          refine stp (v := .int .i64 (t + (((((ps.getD i pz).bl).getD k bz).st) + 5))) (o_mv rfl) ?_
          refine h24 _ _ ?_
          clear h24
          refine stp (v := .int .i64 ((k : Nat) + 1)) (o_bin rfl rfl (v_add64 (by constructor <;> omega))) ?_
          refine stp (v := .int .i64 ((k : Nat) + 1)) (o_mv rfl) ?_
          refine h20 (k + 1, ((ps.getD i pz).bl.getD k bz).cut, t + (((ps.getD i pz).bl.getD k bz).st + 5)) _ _ ⟨by first | rfl | exact v_int (by omega) | exact v_int (by simp) | exact v_int (by simp; omega), by first | rfl | exact v_int (by omega) | exact v_int (by simp) | exact v_int (by simp; omega), rfl, by first | rfl | exact v_int (by omega) | exact v_int (by simp) | exact v_int (by simp; omega), by first | rfl | exact v_int (by omega) | exact v_int (by simp) | exact v_int (by simp; omega), rfl, by first | rfl | exact v_int (by omega) | exact v_int (by simp) | exact v_int (by simp; omega), hM29.keep (by simp), by omega, hbc.2, by omega, by omega⟩ (by (try dsimp only); omega)
        ·
          refine h12 _ _ ?_
          clear h12
          refine stp (v := .int .i64 ((i : Nat) + 1)) (o_bin rfl rfl (v_add64 (by constructor <;> omega))) ?_
          refine stp (v := .int .i64 ((i : Nat) + 1)) (o_mv rfl) ?_
          refine h8 (i + 1, (ps.getD i pz).part, n + (ps.getD i pz).bl.length, t) _ _ ⟨by first | rfl | exact v_int (by omega) | exact v_int (by simp) | exact v_int (by simp; omega), by first | rfl | exact v_int (by omega) | exact v_int (by simp) | exact v_int (by simp; omega), rfl, by first | rfl | exact v_int (by omega) | exact v_int (by simp) | exact v_int (by simp; omega), hM19.keep (by simp), by omega, hic.2, hic.1.2, by omega, by have := spB_end (bl := (ps.getD i pz).bl) (k := k) (by omega); omega⟩ (by (try dsimp only); omega)
    ·
      refine h5 _ _ ?_
      clear h5
      refine seq fun K30 h30 => ?_
      refine stp (v := .int .i64 s) (o_mv rfl) ?_
      refine stp (v := .int .i64 s) (o_mv rfl) ?_
      refine h30 _ _ ?_
      clear h30
      refine ⟨(.int .i64 s), rfl, ?_⟩
      exact ⟨v_int (by have := sp_end (ps := ps) (i := i) (by omega); omega), hM7.upd⟩

/-- foot.body -/
theorem body_ok (parts : Int) (x : Value) (ps : List Pr) (w : World) (hx : RdS prC w x ps) (hok : ∀ p ∈ ps, p.ok w) (hl : ps.length ≤ 1954687338211) (hp : inK .i64 parts) (hft : ftOk parts (ps.map Pr.p)) : Calls Try.prog 55 [.agg [.int .i64 parts, x].toArray].toArray w (Rt fun r w' => ∃ rs, SlE byteV 5 r (bodyF parts (ps.map Pr.p)) rs ∧ Mem w [] w' [rs]) := by
  have hM0 : Mem w [] w [] := Mem.nil w []
  have hpp := hft.1
  refine calls_vc mixed Try.func55 rfl C55 (by simp [Try.ntmps55]) ?_
  refine seq fun K1 h1 => ?_
  refine m_bx (v := .agg ([.int .i64 parts, x] : List Value).toArray) hM0 rfl rfl fun b2 w3 (hM3 : Mem w [] w3 [[⟨b2, 24, [.int .i64 parts, x]⟩]]) => ?_
  refine stp (v := .slice none 0 0) (o_mv rfl) ?_
  refine h1 _ _ ?_
  clear h1
  refine seq fun K4 h4 => ?_
  refine m_al hM3 fun b5 w6 (hM6 : Mem w [] w6 [[⟨b2, 24, [.int .i64 parts, x]⟩], [⟨b5, 34, [.slice none 0 0]⟩]]) => ?_
  refine h4 _ _ ?_
  clear h4
  refine seq fun K7 h7 => ?_
  have hM8 : Mem w [] w6 [[⟨b2, 24, [.int .i64 parts, x]⟩], [⟨b5, 34, [.slice none 0 0]⟩], []] := hM6.addNil
  have hs8 : SlE byteV 5 (.slice none 0 0) [] [] := Sl.nil 1 5
  refine stp (v := .func (.func 75) [].toArray [.pointer (some ⟨b5, 0, none⟩)].toArray) (o_mkf rfl) ?_
  refine stp (v := .func (.func 75) [].toArray [.pointer (some ⟨b5, 0, none⟩)].toArray) (o_mv rfl) ?_
  refine h7 _ _ ?_
  clear h7
  refine seq fun K9 h9 => ?_
  refine stp (v := .func (.func 75) [].toArray [.pointer (some ⟨b5, 0, none⟩)].toArray) (o_mv rfl) ?_
  refine stp (v := .pointer (some ⟨b2, 0, none⟩)) (o_fa rfl rfl) ?_
  refine m_ld (v := .int .i64 parts) hM8 (i := 0) (j := 0) rfl rfl rfl rfl ?_
  refine stp (v := .pointer (some ⟨b2, 1, none⟩)) (o_fa rfl rfl) ?_
  refine m_ld (v := x) hM8 (i := 0) (j := 0) rfl rfl rfl rfl ?_
  refine stp (v := .int .i64 (ps.length : Nat)) (o_lenR (hx.upd hM8.upd) rfl rfl) ?_
  refine m_bs hM8 rfl fun b10 w11 (hM11 : Mem w [] w11 [[⟨b2, 24, [.int .i64 parts, x]⟩], [⟨b5, 34, [(.slice none 0 0)]⟩], [], [⟨b10, 3, [.int .i64 parts, .int .i64 (ps.length : Nat)]⟩]]) => ?_
  refine m_callv rfl (by kernel_rfl) (put_ok _ ([parts, (ps.length : Nat)] : List Int) b5 ([]) ([⟨b5, 34, [(.slice none 0 0)]⟩] ++ ([])) w11 ⟨_, _, rfl, hs8⟩ (hM11.res2 1 2 rfl rfl (by decide)) (fun w9 hu9 => hM11.farE2 (i := 1) (j := 2) (k := 3) rfl rfl rfl (by decide) (by decide) (SlE.lit (l := ([parts, (ps.length : Nat)] : List Int)) rfl) hu9) (by intro n hn9; simp only [List.mem_cons, List.not_mem_nil, or_false] at hn9; simp only [inK]; omega) (by first | (simp only [List.length_cons, List.length_nil]; omega) | (simp only [List.length_append, List.length_cons, List.length_nil] at *; omega))) rfl fun v12 w12 ⟨r'12, ⟨v12, rb12, hre12, hs12⟩, hm12⟩ => ?_
  subst hre12
  have hM12 : Mem w [] w12 [[⟨b2, 24, [.int .i64 parts, x]⟩], [⟨b5, 34, [v12]⟩], rb12, [⟨b10, 3, [.int .i64 parts, .int .i64 (ps.length : Nat)]⟩]] := hM11.step2 1 2 rfl rfl (by decide) (openO1 hm12)
  have hpl12 := putAll_len (ns := ([parts, (ps.length : Nat)] : List Int)) (by intro n hn9; simp only [List.mem_cons, List.not_mem_nil, or_false] at hn9; omega)
  simp only [List.length_cons, List.length_nil] at hpl12
  have hla12 : (([]) ++ putAll ([parts, (ps.length : Nat)] : List Int)).length = ([]).length + (putAll ([parts, (ps.length : Nat)] : List Int)).length := List.length_append
  refine h9 _ _ ?_
  clear h9
  refine seq fun K13 h13 => ?_
  refine stp (v := .int .i64 (-1)) (o_mv rfl) ?_
  refine h13 _ _ ?_
  clear h13
  refine seq fun K14 h14 => ?_
  refine seq fun K15 h15 => ?_
  refine stp (v := .pointer (some ⟨b2, 1, none⟩)) (o_fa rfl rfl) ?_
  refine m_ld (v := x) hM12 (i := 0) (j := 0) rfl rfl rfl rfl ?_
  refine stp (v := .int .i64 (ps.length : Nat)) (o_lenR (hx.upd hM12.upd) rfl rfl) ?_
  refine stp (v := .int .i64 0) (o_mv rfl) ?_
  refine h15 _ _ ?_
  clear h15
  refine lp (n := fun _ _ => False) (ι := (Nat) × (Int) × (Nat) × (List UInt8) × (Value) × (List Ent)) (fun ⟨i, last, n, B, v, rb⟩ f w' => f 3 = .pointer (some ⟨b5, 0, none⟩) ∧ f 5 = .int .i64 last ∧ f 26 = .int .i64 (i : Nat) ∧ f 4 = .func (.func 75) [].toArray [.pointer (some ⟨b5, 0, none⟩)].toArray ∧ f 24 = x ∧ f 25 = .int .i64 (ps.length : Nat) ∧ Mem w [] w' [[⟨b2, 24, [.int .i64 parts, x]⟩], [⟨b5, 34, [v]⟩], rb] ∧ (SlE byteV 5 v B rb) ∧ (i ≤ ps.length) ∧ (infOk parts last n ((ps.drop i).map Pr.p)) ∧ (n ≤ 262144) ∧ (-1 ≤ last ∧ (i : Int) ≤ last + 1 ∧ last < parts) ∧ (bodyF parts (ps.map Pr.p) = B ++ infB last ((ps.drop i).map Pr.p)) ∧ (B.length ≤ 18 + i * 4126 + n * 109)) (fun ⟨i, last, n, B, v, rb⟩ => ps.length - i) (0, (-1), 0, ([]) ++ putAll ([parts, (ps.length : Nat)] : List Int), v12, rb12) ?_ ?_
  · exact ⟨rfl, by first | rfl | exact v_int (by omega) | exact v_int (by simp) | exact v_int (by simp; omega), by first | rfl | exact v_int (by omega) | exact v_int (by simp) | exact v_int (by simp; omega), rfl, rfl, by first | rfl | exact v_int (by omega) | exact v_int (by simp) | exact v_int (by simp; omega), hM12.keep (by simp), hs12, by omega, hft.2, by omega, by omega, by unfold bodyF; rw [List.nil_append, List.drop_zero, List.length_map], by simp only [List.nil_append] at *; omega⟩
  · rintro ⟨i, last, n, B, v, rb⟩ f w16 ⟨e16_3, e16_5, e16_26, e16_4, e16_24, e16_25, hM16, hs, hi, hI, hn, hlast, hE, hBl⟩ K17 h17
    obtain ⟨frm, rfl⟩ : ∃ frm, f = (upd (upd (upd (upd (upd (upd frm 3 (.pointer (some ⟨b5, 0, none⟩))) 5 (.int .i64 last)) 26 (.int .i64 (i : Nat))) 4 (.func (.func 75) [].toArray [.pointer (some ⟨b5, 0, none⟩)].toArray)) 24 (x)) 25 (.int .i64 (ps.length : Nat))) := ⟨f, by rw [upd_self e16_3, upd_self e16_5, upd_self e16_26, upd_self e16_4, upd_self e16_24, upd_self e16_25]⟩
    clear e16_3 e16_5 e16_26 e16_4 e16_24 e16_25
    refine seq fun K18 h18 => ?_
    refine stp (v := .bool (decide (((i : Nat) : Int) < (ps.length : Nat)))) (o_bin rfl rfl rfl) ?_
    refine h18 _ _ ?_
    clear h18
    refine seq fun K19 h19 => ?_
    refine cndP rfl (fun c20 => ?_) (fun c20 => ?_)
    ·
      refine h19 _ _ ?_
      clear h19
      refine seq fun K21 h21 => ?_
      refine seq fun K22 h22 => ?_
      have hpi := hok _ (getD_memG pz (l := ps) (i := i) (by omega))
      have hlb := hpi.lb
      have hld := hpi.ld
      have hkp := hpi.kp
      simp only [inK] at hkp
      have hic := (inf_cons (ps := ps) (i := i) (parts := parts) (last := last) (n := n) (by omega)).1 hI
      have hpo := parOk_p.1 hic.1.1
      refine m_idxS pz (j := i) (hx.upd hM16.upd) rfl rfl (by omega) fun b23 o23 hp23 => ?_
      refine ldA (cs := [.int .i64 ((ps.getD i pz).part), (ps.getD i pz).bv, .bool ((ps.getD i pz).a), .int .i64 ((ps.getD i pz).h), (ps.getD i pz).dv]) rfl rfl (hp23.row (k := 0) rfl rfl) ?_
      refine m_al hM16 fun b24 w25 (hM25 : Mem w [] w25 [[⟨b2, 24, [.int .i64 parts, x]⟩], [⟨b5, 34, [v]⟩], rb, [⟨b24, 71, [.int .i64 0, .slice none 0 0, .bool false, .int .i64 0, .slice none 0 0]⟩]]) => ?_
      refine m_stA (l := [.int .i64 ((ps.getD i pz).part), (ps.getD i pz).bv, .bool ((ps.getD i pz).a), .int .i64 ((ps.getD i pz).h), (ps.getD i pz).dv]) hM25 (i := 3) rfl rfl rfl rfl (by simp [oneCells, Value.oneCell', byteV]) (by simp) fun w26 (hM26 : Mem w [] w26 [[⟨b2, 24, [.int .i64 parts, x]⟩], [⟨b5, 34, [v]⟩], rb, [⟨b24, 71, [.int .i64 ((ps.getD i pz).part), (ps.getD i pz).bv, .bool ((ps.getD i pz).a), .int .i64 ((ps.getD i pz).h), (ps.getD i pz).dv]⟩]]) => ?_
      refine h22 _ _ ?_
      clear h22
      refine seq fun K27 h27 => ?_
      refine stp (v := .pointer (some ⟨b24, 2, none⟩)) (o_fa rfl rfl) ?_
      refine m_ldA (l := [.bool ((ps.getD i pz).a), .int .i64 ((ps.getD i pz).h), (ps.getD i pz).dv]) hM26 (i := 3) (j := 0) rfl rfl rfl rfl rfl ?_
      refine m_call (fEncode_ok (ps.getD i pz).a ((ps.getD i pz).h) _ ((ps.getD i pz).d) w26 (((fun p hp => (hok p hp).upd hM26.upd) _ (getD_memG pz (by omega))).rd) (by first | omega | (simp; done) | (simp; omega))) rfl fun v28 w28 ⟨y28, rs28, hr28, hs28, hm28⟩ => ?_
      have hM28 : Mem w [] w28 [[⟨b2, 24, [.int .i64 parts, x]⟩], [⟨b5, 34, [v]⟩], rb, [⟨b24, 71, [.int .i64 ((ps.getD i pz).part), (ps.getD i pz).bv, .bool ((ps.getD i pz).a), .int .i64 ((ps.getD i pz).h), (ps.getD i pz).dv]⟩], rs28] := hM26.add hm28
      subst hr28
      have hfl28 := encF_len (ps.getD i pz).a ((ps.getD i pz).h) ((ps.getD i pz).d)
      refine stp (v := .tuple [y28, .int .i64 ((encF (ps.getD i pz).a ((ps.getD i pz).h) ((ps.getD i pz).d)).2)].toArray) (o_mv rfl) ?_
      refine stp (v := y28) (o_ext rfl rfl) ?_
      refine stp (v := .int .i64 ((encF (ps.getD i pz).a ((ps.getD i pz).h) ((ps.getD i pz).d)).2)) (o_ext rfl rfl) ?_
      refine stp (v := y28) (o_mv rfl) ?_
      refine stp (v := .int .i64 ((encF (ps.getD i pz).a ((ps.getD i pz).h) ((ps.getD i pz).d)).2)) (o_mv rfl) ?_
      refine h27 _ _ ?_
      clear h27
      refine seq fun K29 h29 => ?_
      refine stp (v := .func (.func 75) [].toArray [.pointer (some ⟨b5, 0, none⟩)].toArray) (o_mv rfl) ?_
      refine stp (v := .pointer (some ⟨b24, 0, none⟩)) (o_fa rfl rfl) ?_
      refine m_ld (v := .int .i64 ((ps.getD i pz).part)) hM28 (i := 3) (j := 0) rfl rfl rfl rfl ?_
      refine stp (v := .int .i64 last) (o_mv rfl) ?_
      refine stp (v := .int .i64 (((ps.getD i pz).part) - last)) (o_bin rfl rfl (v_sub64 (by constructor <;> omega))) ?_
      refine stp (v := .int .i64 ((((ps.getD i pz).part) - last) - 1)) (o_bin rfl rfl (v_sub64 (by constructor <;> omega))) ?_
      refine stp (v := y28) (o_mv rfl) ?_
      refine stp (v := .int .i64 (((encF (ps.getD i pz).a ((ps.getD i pz).h) ((ps.getD i pz).d)).1).length : Nat)) (o_lenR (hs28.rd hM28 (i := 4) rfl) rfl rfl) ?_
      refine m_bs hM28 rfl fun b30 w31 (hM31 : Mem w [] w31 [[⟨b2, 24, [.int .i64 parts, x]⟩], [⟨b5, 34, [v]⟩], rb, [⟨b24, 71, [.int .i64 ((ps.getD i pz).part), (ps.getD i pz).bv, .bool ((ps.getD i pz).a), .int .i64 ((ps.getD i pz).h), (ps.getD i pz).dv]⟩], rs28, [⟨b30, 3, [.int .i64 ((((ps.getD i pz).part) - last) - 1), .int .i64 (((encF (ps.getD i pz).a ((ps.getD i pz).h) ((ps.getD i pz).d)).1).length : Nat)]⟩]]) => ?_
      refine m_callv rfl (by kernel_rfl) (put_ok _ ([(((ps.getD i pz).part) - last) - 1, (((encF (ps.getD i pz).a ((ps.getD i pz).h) ((ps.getD i pz).d)).1).length : Nat)] : List Int) b5 B ([⟨b5, 34, [v]⟩] ++ rb) w31 ⟨_, _, rfl, hs⟩ (hM31.res2 1 2 rfl rfl (by decide)) (fun w9 hu9 => hM31.farE2 (i := 1) (j := 2) (k := 5) rfl rfl rfl (by decide) (by decide) (SlE.lit (l := ([(((ps.getD i pz).part) - last) - 1, (((encF (ps.getD i pz).a ((ps.getD i pz).h) ((ps.getD i pz).d)).1).length : Nat)] : List Int)) rfl) hu9) (by intro n hn9; simp only [List.mem_cons, List.not_mem_nil, or_false] at hn9; simp only [inK]; omega) (by first | (simp only [List.length_cons, List.length_nil]; omega) | (simp only [List.length_append, List.length_cons, List.length_nil] at *; omega))) rfl fun v32 w32 ⟨r'32, ⟨v32, rb32, hre32, hs32⟩, hm32⟩ => ?_
      subst hre32
      have hM32 : Mem w [] w32 [[⟨b2, 24, [.int .i64 parts, x]⟩], [⟨b5, 34, [v32]⟩], rb32, [⟨b24, 71, [.int .i64 ((ps.getD i pz).part), (ps.getD i pz).bv, .bool ((ps.getD i pz).a), .int .i64 ((ps.getD i pz).h), (ps.getD i pz).dv]⟩], rs28, [⟨b30, 3, [.int .i64 ((((ps.getD i pz).part) - last) - 1), .int .i64 (((encF (ps.getD i pz).a ((ps.getD i pz).h) ((ps.getD i pz).d)).1).length : Nat)]⟩]] := hM31.step2 1 2 rfl rfl (by decide) (openO1 hm32)
      have hpl32 := putAll_len (ns := ([(((ps.getD i pz).part) - last) - 1, (((encF (ps.getD i pz).a ((ps.getD i pz).h) ((ps.getD i pz).d)).1).length : Nat)] : List Int)) (by intro n hn9; simp only [List.mem_cons, List.not_mem_nil, or_false] at hn9; omega)
      simp only [List.length_cons, List.length_nil] at hpl32
      have hla32 : (B ++ putAll ([(((ps.getD i pz).part) - last) - 1, (((encF (ps.getD i pz).a ((ps.getD i pz).h) ((ps.getD i pz).d)).1).length : Nat)] : List Int)).length = (B).length + (putAll ([(((ps.getD i pz).part) - last) - 1, (((encF (ps.getD i pz).a ((ps.getD i pz).h) ((ps.getD i pz).d)).1).length : Nat)] : List Int)).length := List.length_append
      refine h29 _ _ ?_
      clear h29
      refine seq fun K33 h33 => ?_
      refine m_ld (v := v32) hM32 (i := 1) (j := 0) rfl rfl rfl rfl ?_
      refine stp (v := y28) (o_mv rfl) ?_
      refine m_appE hM32 (i := 2) rfl hs32 rfl rfl (hs28.rd hM32 (i := 4) rfl) (by first | omega | (simp; omega)) (by omega) fun v34 w34 r34 (hs34 : SlE byteV 5 v34 ((B ++ putAll ([(((ps.getD i pz).part) - last) - 1, (((encF (ps.getD i pz).a ((ps.getD i pz).h) ((ps.getD i pz).d)).1).length : Nat)] : List Int)) ++ ((encF (ps.getD i pz).a ((ps.getD i pz).h) ((ps.getD i pz).d)).1)) r34) (hM34 : Mem w [] w34 [[⟨b2, 24, [.int .i64 parts, x]⟩], [⟨b5, 34, [v32]⟩], r34, [⟨b24, 71, [.int .i64 ((ps.getD i pz).part), (ps.getD i pz).bv, .bool ((ps.getD i pz).a), .int .i64 ((ps.getD i pz).h), (ps.getD i pz).dv]⟩], rs28, [⟨b30, 3, [.int .i64 ((((ps.getD i pz).part) - last) - 1), .int .i64 (((encF (ps.getD i pz).a ((ps.getD i pz).h) ((ps.getD i pz).d)).1).length : Nat)]⟩]]) => ?_
      refine m_st (v := v34) hM34 (i := 1) rfl rfl rfl (Sl.one hs34) (by simp) fun w35 (hM35 : Mem w [] w35 [[⟨b2, 24, [.int .i64 parts, x]⟩], [⟨b5, 34, [v34]⟩], r34, [⟨b24, 71, [.int .i64 ((ps.getD i pz).part), (ps.getD i pz).bv, .bool ((ps.getD i pz).a), .int .i64 ((ps.getD i pz).h), (ps.getD i pz).dv]⟩], rs28, [⟨b30, 3, [.int .i64 ((((ps.getD i pz).part) - last) - 1), .int .i64 (((encF (ps.getD i pz).a ((ps.getD i pz).h) ((ps.getD i pz).d)).1).length : Nat)]⟩]]) => ?_
      refine h33 _ _ ?_
      clear h33
      refine seq fun K36 h36 => ?_
      refine stp (v := .func (.func 75) [].toArray [.pointer (some ⟨b5, 0, none⟩)].toArray) (o_mv rfl) ?_
      refine stp (v := .pointer (some ⟨b24, 1, none⟩)) (o_fa rfl rfl) ?_
      refine m_ld (v := (ps.getD i pz).bv) hM35 (i := 3) (j := 0) rfl rfl rfl rfl ?_
      refine stp (v := .int .i64 (((ps.getD i pz).bl).length : Nat)) (o_lenR (((fun p hp => (hok p hp).upd hM35.upd) _ (getD_memG pz (by omega))).rb) rfl rfl) ?_
      refine m_bs hM35 rfl fun b37 w38 (hM38 : Mem w [] w38 [[⟨b2, 24, [.int .i64 parts, x]⟩], [⟨b5, 34, [v34]⟩], r34, [⟨b24, 71, [.int .i64 ((ps.getD i pz).part), (ps.getD i pz).bv, .bool ((ps.getD i pz).a), .int .i64 ((ps.getD i pz).h), (ps.getD i pz).dv]⟩], rs28, [⟨b30, 3, [.int .i64 ((((ps.getD i pz).part) - last) - 1), .int .i64 (((encF (ps.getD i pz).a ((ps.getD i pz).h) ((ps.getD i pz).d)).1).length : Nat)]⟩], [⟨b37, 3, [.int .i64 (((ps.getD i pz).bl).length : Nat)]⟩]]) => ?_
      refine m_callv rfl (by kernel_rfl) (put_ok _ ([(((ps.getD i pz).bl).length : Nat)] : List Int) b5 ((B ++ putAll ([(((ps.getD i pz).part) - last) - 1, (((encF (ps.getD i pz).a ((ps.getD i pz).h) ((ps.getD i pz).d)).1).length : Nat)] : List Int)) ++ ((encF (ps.getD i pz).a ((ps.getD i pz).h) ((ps.getD i pz).d)).1)) ([⟨b5, 34, [v34]⟩] ++ r34) w38 ⟨_, _, rfl, hs34⟩ (hM38.res2 1 2 rfl rfl (by decide)) (fun w9 hu9 => hM38.farE2 (i := 1) (j := 2) (k := 6) rfl rfl rfl (by decide) (by decide) (SlE.lit (l := ([(((ps.getD i pz).bl).length : Nat)] : List Int)) rfl) hu9) (by intro n hn9; simp only [List.mem_cons, List.not_mem_nil, or_false] at hn9; simp only [inK]; omega) (by first | (simp only [List.length_cons, List.length_nil]; omega) | (simp only [List.length_append, List.length_cons, List.length_nil] at *; omega))) rfl fun v39 w39 ⟨r'39, ⟨v39, rb39, hre39, hs39⟩, hm39⟩ => ?_
      subst hre39
      have hM39 : Mem w [] w39 [[⟨b2, 24, [.int .i64 parts, x]⟩], [⟨b5, 34, [v39]⟩], rb39, [⟨b24, 71, [.int .i64 ((ps.getD i pz).part), (ps.getD i pz).bv, .bool ((ps.getD i pz).a), .int .i64 ((ps.getD i pz).h), (ps.getD i pz).dv]⟩], rs28, [⟨b30, 3, [.int .i64 ((((ps.getD i pz).part) - last) - 1), .int .i64 (((encF (ps.getD i pz).a ((ps.getD i pz).h) ((ps.getD i pz).d)).1).length : Nat)]⟩], [⟨b37, 3, [.int .i64 (((ps.getD i pz).bl).length : Nat)]⟩]] := hM38.step2 1 2 rfl rfl (by decide) (openO1 hm39)
      have hpl39 := putAll_len (ns := ([(((ps.getD i pz).bl).length : Nat)] : List Int)) (by intro n hn9; simp only [List.mem_cons, List.not_mem_nil, or_false] at hn9; omega)
      simp only [List.length_cons, List.length_nil] at hpl39
      have hla39 : (((B ++ putAll ([(((ps.getD i pz).part) - last) - 1, (((encF (ps.getD i pz).a ((ps.getD i pz).h) ((ps.getD i pz).d)).1).length : Nat)] : List Int)) ++ ((encF (ps.getD i pz).a ((ps.getD i pz).h) ((ps.getD i pz).d)).1)) ++ putAll ([(((ps.getD i pz).bl).length : Nat)] : List Int)).length = ((B ++ putAll ([(((ps.getD i pz).part) - last) - 1, (((encF (ps.getD i pz).a ((ps.getD i pz).h) ((ps.getD i pz).d)).1).length : Nat)] : List Int)) ++ ((encF (ps.getD i pz).a ((ps.getD i pz).h) ((ps.getD i pz).d)).1)).length + (putAll ([(((ps.getD i pz).bl).length : Nat)] : List Int)).length := List.length_append
      refine h36 _ _ ?_
      clear h36
      refine seq fun K40 h40 => ?_
      refine stp (v := .pointer (some ⟨b24, 0, none⟩)) (o_fa rfl rfl) ?_
      refine m_ld (v := .int .i64 ((ps.getD i pz).part)) hM39 (i := 3) (j := 0) rfl rfl rfl rfl ?_
      refine stp (v := .int .i64 ((ps.getD i pz).part)) (o_mv rfl) ?_
      refine h40 _ _ ?_
      clear h40
      refine seq fun K41 h41 => ?_
      refine stp (v := .string (str ([]))) (o_mv rfl) ?_
      refine h41 _ _ ?_
      clear h41
      refine seq fun K42 h42 => ?_
      refine stp (v := .pointer (some ⟨b24, 1, none⟩)) (o_fa rfl rfl) ?_
      refine m_ld (v := (ps.getD i pz).bv) hM39 (i := 3) (j := 0) rfl rfl rfl rfl ?_
      refine stp (v := .int .i64 (((ps.getD i pz).bl).length : Nat)) (o_lenR (((fun p hp => (hok p hp).upd hM39.upd) _ (getD_memG pz (by omega))).rb) rfl rfl) ?_
      refine stp (v := .int .i64 0) (o_mv rfl) ?_
      refine h42 _ _ ?_
      clear h42
      refine lp (n := fun _ _ => False) (ι := (Nat) × (List UInt8) × (List UInt8) × (Value) × (List Ent)) (fun ⟨k, key, B2, v, rb⟩ f w' => f 3 = .pointer (some ⟨b5, 0, none⟩) ∧ f 10 = .string (str key) ∧ f 60 = .int .i64 (k : Nat) ∧ f 4 = .func (.func 75) [].toArray [.pointer (some ⟨b5, 0, none⟩)].toArray ∧ f 5 = .int .i64 ((ps.getD i pz).part) ∧ f 24 = x ∧ f 25 = .int .i64 (ps.length : Nat) ∧ f 26 = .int .i64 (i : Nat) ∧ f 58 = (ps.getD i pz).bv ∧ f 59 = .int .i64 (((ps.getD i pz).bl).length : Nat) ∧ Mem w [] w' [[⟨b2, 24, [.int .i64 parts, x]⟩], [⟨b5, 34, [v]⟩], rb] ∧ (SlE byteV 5 v B2 rb) ∧ (k ≤ (ps.getD i pz).bl.length) ∧ (blsOk key ((ps.getD i pz).bl.drop k)) ∧ (key.length ≤ 64) ∧ (bodyF parts (ps.map Pr.p) = B2 ++ (bksB key ((ps.getD i pz).bl.drop k) ++ infB (ps.getD i pz).part ((ps.drop (i + 1)).map Pr.p))) ∧ (B2.length ≤ 18 + (i + 1) * 4126 + (n + k) * 109)) (fun ⟨k, key, B2, v, rb⟩ => (ps.getD i pz).bl.length - k) (0, [], ((B ++ putAll ([(((ps.getD i pz).part) - last) - 1, (((encF (ps.getD i pz).a ((ps.getD i pz).h) ((ps.getD i pz).d)).1).length : Nat)] : List Int)) ++ ((encF (ps.getD i pz).a ((ps.getD i pz).h) ((ps.getD i pz).d)).1)) ++ putAll ([(((ps.getD i pz).bl).length : Nat)] : List Int), v39, rb39) ?_ ?_
      · exact ⟨rfl, by first | rfl | simp [upd], by first | rfl | exact v_int (by omega) | exact v_int (by simp) | exact v_int (by simp; omega), rfl, by first | rfl | exact v_int (by omega) | exact v_int (by simp) | exact v_int (by simp; omega), rfl, by first | rfl | exact v_int (by omega) | exact v_int (by simp) | exact v_int (by simp; omega), by first | rfl | exact v_int (by omega) | exact v_int (by simp) | exact v_int (by simp; omega), rfl, by first | rfl | exact v_int (by omega) | exact v_int (by simp) | exact v_int (by simp; omega), hM39.keep (by simp), hs39, by omega, hpo.2.2.2.2, by simp, by rw [hE, infB_cons (by omega)]; unfold parB; simp only [List.append_assoc]; rfl, by simp only [List.length_append] at *; omega⟩
      · rintro ⟨k, key, B2, v, rb⟩ f w43 ⟨e43_3, e43_10, e43_60, e43_4, e43_5, e43_24, e43_25, e43_26, e43_58, e43_59, hM43, hs, hk, hB, hkl, hE2, hB2⟩ K44 h44
        obtain ⟨frm, rfl⟩ : ∃ frm, f = (upd (upd (upd (upd (upd (upd (upd (upd (upd (upd frm 3 (.pointer (some ⟨b5, 0, none⟩))) 10 (.string (str key))) 60 (.int .i64 (k : Nat))) 4 (.func (.func 75) [].toArray [.pointer (some ⟨b5, 0, none⟩)].toArray)) 5 (.int .i64 ((ps.getD i pz).part))) 24 (x)) 25 (.int .i64 (ps.length : Nat))) 26 (.int .i64 (i : Nat))) 58 ((ps.getD i pz).bv)) 59 (.int .i64 (((ps.getD i pz).bl).length : Nat))) := ⟨f, by rw [upd_self e43_3, upd_self e43_10, upd_self e43_60, upd_self e43_4, upd_self e43_5, upd_self e43_24, upd_self e43_25, upd_self e43_26, upd_self e43_58, upd_self e43_59]⟩
        clear e43_3 e43_10 e43_60 e43_4 e43_5 e43_24 e43_25 e43_26 e43_58 e43_59
        refine seq fun K45 h45 => ?_
        refine stp (v := .bool (decide (((k : Nat) : Int) < (((ps.getD i pz).bl).length : Nat)))) (o_bin rfl rfl rfl) ?_
        refine h45 _ _ ?_
        clear h45
        refine seq fun K46 h46 => ?_
        refine cndP rfl (fun c47 => ?_) (fun c47 => ?_)
        ·
          refine h46 _ _ ?_
          clear h46
          refine seq fun K48 h48 => ?_
          refine seq fun K49 h49 => ?_
          have hbc := (bls_cons (last := key) (bl := (ps.getD i pz).bl) (k := k) (by omega)).1 hB
          have hbk := hbc.1.1
          unfold blkOk at hbk
          have hcm := common_le key ((ps.getD i pz).bl.getD k bz).cut
          refine m_idxS bz (j := k) (((fun p hp => (hok p hp).upd hM43.upd) _ (getD_memG pz (by omega))).rb) rfl rfl (by omega) fun b50 o50 hp50 => ?_
          refine ldA (cs := [.int .i64 ((((ps.getD i pz).bl).getD k bz).st), .int .i64 ((((ps.getD i pz).bl).getD k bz).ra), .int .i64 ((((ps.getD i pz).bl).getD k bz).ct), .string (str ((((ps.getD i pz).bl).getD k bz).cut))]) rfl rfl (hp50.row (k := 0) rfl rfl) ?_
          refine m_al hM43 fun b51 w52 (hM52 : Mem w [] w52 [[⟨b2, 24, [.int .i64 parts, x]⟩], [⟨b5, 34, [v]⟩], rb, [⟨b51, 74, [.int .i64 0, .int .i64 0, .int .i64 0, .string (str ([]))]⟩]]) => ?_
          refine m_stA (l := [.int .i64 ((((ps.getD i pz).bl).getD k bz).st), .int .i64 ((((ps.getD i pz).bl).getD k bz).ra), .int .i64 ((((ps.getD i pz).bl).getD k bz).ct), .string (str ((((ps.getD i pz).bl).getD k bz).cut))]) hM52 (i := 3) rfl rfl rfl rfl (by simp [oneCells, Value.oneCell', byteV]) (by simp) fun w53 (hM53 : Mem w [] w53 [[⟨b2, 24, [.int .i64 parts, x]⟩], [⟨b5, 34, [v]⟩], rb, [⟨b51, 74, [.int .i64 ((((ps.getD i pz).bl).getD k bz).st), .int .i64 ((((ps.getD i pz).bl).getD k bz).ra), .int .i64 ((((ps.getD i pz).bl).getD k bz).ct), .string (str ((((ps.getD i pz).bl).getD k bz).cut))]⟩]]) => ?_
          refine h49 _ _ ?_
          clear h49
          refine seq fun K54 h54 => ?_
          refine stp (v := .string (str key)) (o_mv rfl) ?_
          refine stp (v := .pointer (some ⟨b51, 3, none⟩)) (o_fa rfl rfl) ?_
          refine m_ld (v := .string (str ((((ps.getD i pz).bl).getD k bz).cut))) hM53 (i := 3) (j := 0) rfl rfl rfl rfl ?_
          refine m_call (Common_ok key ((((ps.getD i pz).bl).getD k bz).cut) w53 (by first | omega | (simp; done) | (simp; omega)) (by first | omega | (simp; done) | (simp; omega))) rfl fun v55 w55 ⟨hr55, hu55⟩ => ?_
          have hM55 : Mem w [] w55 [[⟨b2, 24, [.int .i64 parts, x]⟩], [⟨b5, 34, [v]⟩], rb, [⟨b51, 74, [.int .i64 ((((ps.getD i pz).bl).getD k bz).st), .int .i64 ((((ps.getD i pz).bl).getD k bz).ra), .int .i64 ((((ps.getD i pz).bl).getD k bz).ct), .string (str ((((ps.getD i pz).bl).getD k bz).cut))]⟩]] := hM53.pure hu55
          subst hr55
          refine stp (v := .int .i64 (common key ((((ps.getD i pz).bl).getD k bz).cut) : Nat)) (o_mv rfl) ?_
          refine h54 _ _ ?_
          clear h54
          refine seq fun K56 h56 => ?_
          refine stp (v := .func (.func 75) [].toArray [.pointer (some ⟨b5, 0, none⟩)].toArray) (o_mv rfl) ?_
          refine stp (v := .pointer (some ⟨b51, 0, none⟩)) (o_fa rfl rfl) ?_
          refine m_ld (v := .int .i64 ((((ps.getD i pz).bl).getD k bz).st)) hM55 (i := 3) (j := 0) rfl rfl rfl rfl ?_
          refine stp (v := .pointer (some ⟨b51, 1, none⟩)) (o_fa rfl rfl) ?_
          refine m_ld (v := .int .i64 ((((ps.getD i pz).bl).getD k bz).ra)) hM55 (i := 3) (j := 0) rfl rfl rfl rfl ?_
          refine stp (v := .pointer (some ⟨b51, 2, none⟩)) (o_fa rfl rfl) ?_
          refine m_ld (v := .int .i64 ((((ps.getD i pz).bl).getD k bz).ct)) hM55 (i := 3) (j := 0) rfl rfl rfl rfl ?_
          refine stp (v := .int .i64 (common key ((((ps.getD i pz).bl).getD k bz).cut) : Nat)) (o_mv rfl) ?_
          refine stp (v := .pointer (some ⟨b51, 3, none⟩)) (o_fa rfl rfl) ?_
          refine m_ld (v := .string (str ((((ps.getD i pz).bl).getD k bz).cut))) hM55 (i := 3) (j := 0) rfl rfl rfl rfl ?_
          refine stp (v := .int .i64 (((((ps.getD i pz).bl).getD k bz).cut).length : Nat)) (o_lens rfl rfl) ?_
          refine stp (v := .int .i64 (common key ((((ps.getD i pz).bl).getD k bz).cut) : Nat)) (o_mv rfl) ?_
          refine stp (v := .int .i64 (((((ps.getD i pz).bl.getD k bz).cut.length : Nat) : Int) - ((common key ((ps.getD i pz).bl.getD k bz).cut : Nat) : Int))) (o_bin rfl rfl (v_sub64 (by omega))) ?_
          refine m_bs hM55 rfl fun b57 w58 (hM58 : Mem w [] w58 [[⟨b2, 24, [.int .i64 parts, x]⟩], [⟨b5, 34, [v]⟩], rb, [⟨b51, 74, [.int .i64 ((((ps.getD i pz).bl).getD k bz).st), .int .i64 ((((ps.getD i pz).bl).getD k bz).ra), .int .i64 ((((ps.getD i pz).bl).getD k bz).ct), .string (str ((((ps.getD i pz).bl).getD k bz).cut))]⟩], [⟨b57, 3, [.int .i64 ((((ps.getD i pz).bl).getD k bz).st), .int .i64 ((((ps.getD i pz).bl).getD k bz).ra), .int .i64 ((((ps.getD i pz).bl).getD k bz).ct), .int .i64 (common key ((((ps.getD i pz).bl).getD k bz).cut) : Nat), .int .i64 (((((ps.getD i pz).bl.getD k bz).cut.length : Nat) : Int) - ((common key ((ps.getD i pz).bl.getD k bz).cut : Nat) : Int))]⟩]]) => ?_
          refine m_callv rfl (by kernel_rfl) (put_ok _ ([(((ps.getD i pz).bl).getD k bz).st, (((ps.getD i pz).bl).getD k bz).ra, (((ps.getD i pz).bl).getD k bz).ct, (common key ((((ps.getD i pz).bl).getD k bz).cut) : Nat), ((((ps.getD i pz).bl.getD k bz).cut.length : Nat) : Int) - ((common key ((ps.getD i pz).bl.getD k bz).cut : Nat) : Int)] : List Int) b5 B2 ([⟨b5, 34, [v]⟩] ++ rb) w58 ⟨_, _, rfl, hs⟩ (hM58.res2 1 2 rfl rfl (by decide)) (fun w9 hu9 => hM58.farE2 (i := 1) (j := 2) (k := 4) rfl rfl rfl (by decide) (by decide) (SlE.lit (l := ([(((ps.getD i pz).bl).getD k bz).st, (((ps.getD i pz).bl).getD k bz).ra, (((ps.getD i pz).bl).getD k bz).ct, (common key ((((ps.getD i pz).bl).getD k bz).cut) : Nat), ((((ps.getD i pz).bl.getD k bz).cut.length : Nat) : Int) - ((common key ((ps.getD i pz).bl.getD k bz).cut : Nat) : Int)] : List Int)) rfl) hu9) (by intro n hn9; simp only [List.mem_cons, List.not_mem_nil, or_false] at hn9; simp only [inK]; omega) (by first | (simp only [List.length_cons, List.length_nil]; omega) | (simp only [List.length_append, List.length_cons, List.length_nil] at *; omega))) rfl fun v59 w59 ⟨r'59, ⟨v59, rb59, hre59, hs59⟩, hm59⟩ => ?_
          subst hre59
          have hM59 : Mem w [] w59 [[⟨b2, 24, [.int .i64 parts, x]⟩], [⟨b5, 34, [v59]⟩], rb59, [⟨b51, 74, [.int .i64 ((((ps.getD i pz).bl).getD k bz).st), .int .i64 ((((ps.getD i pz).bl).getD k bz).ra), .int .i64 ((((ps.getD i pz).bl).getD k bz).ct), .string (str ((((ps.getD i pz).bl).getD k bz).cut))]⟩], [⟨b57, 3, [.int .i64 ((((ps.getD i pz).bl).getD k bz).st), .int .i64 ((((ps.getD i pz).bl).getD k bz).ra), .int .i64 ((((ps.getD i pz).bl).getD k bz).ct), .int .i64 (common key ((((ps.getD i pz).bl).getD k bz).cut) : Nat), .int .i64 (((((ps.getD i pz).bl.getD k bz).cut.length : Nat) : Int) - ((common key ((ps.getD i pz).bl.getD k bz).cut : Nat) : Int))]⟩]] := hM58.step2 1 2 rfl rfl (by decide) (openO1 hm59)
          have hpl59 := putAll_len (ns := ([(((ps.getD i pz).bl).getD k bz).st, (((ps.getD i pz).bl).getD k bz).ra, (((ps.getD i pz).bl).getD k bz).ct, (common key ((((ps.getD i pz).bl).getD k bz).cut) : Nat), ((((ps.getD i pz).bl.getD k bz).cut.length : Nat) : Int) - ((common key ((ps.getD i pz).bl.getD k bz).cut : Nat) : Int)] : List Int)) (by intro n hn9; simp only [List.mem_cons, List.not_mem_nil, or_false] at hn9; omega)
          simp only [List.length_cons, List.length_nil] at hpl59
          have hla59 : (B2 ++ putAll ([(((ps.getD i pz).bl).getD k bz).st, (((ps.getD i pz).bl).getD k bz).ra, (((ps.getD i pz).bl).getD k bz).ct, (common key ((((ps.getD i pz).bl).getD k bz).cut) : Nat), ((((ps.getD i pz).bl.getD k bz).cut.length : Nat) : Int) - ((common key ((ps.getD i pz).bl.getD k bz).cut : Nat) : Int)] : List Int)).length = (B2).length + (putAll ([(((ps.getD i pz).bl).getD k bz).st, (((ps.getD i pz).bl).getD k bz).ra, (((ps.getD i pz).bl).getD k bz).ct, (common key ((((ps.getD i pz).bl).getD k bz).cut) : Nat), ((((ps.getD i pz).bl.getD k bz).cut.length : Nat) : Int) - ((common key ((ps.getD i pz).bl.getD k bz).cut : Nat) : Int)] : List Int)).length := List.length_append
          refine h56 _ _ ?_
          clear h56
          refine seq fun K60 h60 => ?_
          intro wd e1 e2 e3 e4
          have hd := Upd.same e1 e2 e3 e4 []
          have hM61 := hM59.pure hd
          clear e1 e2 e3 e4
          refine ⟨(some [b51]), ?_⟩
          show vd _ _ _ _ _ _ _
          refine dq (v := .pointer (some ⟨b51, 3, none⟩)) (o_fa rfl rfl) ?_
          refine dq (v := .int .i64 (common key ((((ps.getD i pz).bl).getD k bz).cut) : Nat)) (o_mv rfl) ?_
          refine dqld rfl (by simp [isHeld]) (v := .string (str ((((ps.getD i pz).bl).getD k bz).cut))) ((hM61.at (i := 3) (j := 0) rfl rfl).cell 3) ?_
          refine dq (v := .string (str ((((((ps.getD i pz).bl).getD k bz).cut).take (((ps.getD i pz).bl.getD k bz).cut.length)).drop (common key ((ps.getD i pz).bl.getD k bz).cut)))) (o_slcs (a := common key ((ps.getD i pz).bl.getD k bz).cut) (b := ((ps.getD i pz).bl.getD k bz).cut.length) rfl (by omega) rfl ⟨_, v_int (by omega)⟩ rfl) ?_
          refine dl (m_ld (v := v59) hM61 (i := 1) (j := 0) rfl rfl rfl rfl ?_)
          refine ⟨(fun b hb => rfl), ?_⟩
          refine dl (m_appTU hM61 (i := 2) rfl hs59 rfl rfl (by simp only [List.length_append, List.length_drop, List.length_take] at *; omega) fun v62 w62 r62 (hs62 : SlE byteV 5 v62 ((B2 ++ putAll ([(((ps.getD i pz).bl).getD k bz).st, (((ps.getD i pz).bl).getD k bz).ra, (((ps.getD i pz).bl).getD k bz).ct, (common key ((((ps.getD i pz).bl).getD k bz).cut) : Nat), ((((ps.getD i pz).bl.getD k bz).cut.length : Nat) : Int) - ((common key ((ps.getD i pz).bl.getD k bz).cut : Nat) : Int)] : List Int)) ++ ((((((ps.getD i pz).bl).getD k bz).cut).take (((ps.getD i pz).bl.getD k bz).cut.length)).drop (common key ((ps.getD i pz).bl.getD k bz).cut))) r62) hup62 (hM62 : Mem w [] w62 [[⟨b2, 24, [.int .i64 parts, x]⟩], [⟨b5, 34, [v59]⟩], r62, [⟨b51, 74, [.int .i64 ((((ps.getD i pz).bl).getD k bz).st), .int .i64 ((((ps.getD i pz).bl).getD k bz).ra), .int .i64 ((((ps.getD i pz).bl).getD k bz).ct), .string (str ((((ps.getD i pz).bl).getD k bz).cut))]⟩], [⟨b57, 3, [.int .i64 ((((ps.getD i pz).bl).getD k bz).st), .int .i64 ((((ps.getD i pz).bl).getD k bz).ra), .int .i64 ((((ps.getD i pz).bl).getD k bz).ct), .int .i64 (common key ((((ps.getD i pz).bl).getD k bz).cut) : Nat), .int .i64 (((((ps.getD i pz).bl.getD k bz).cut.length : Nat) : Int) - ((common key ((ps.getD i pz).bl.getD k bz).cut : Nat) : Int))]⟩]]) => ?_)
          have hh62 := held_upd (wr := wd) (bs := [b51]) hup62 (fun b hb => by
            simp only [List.mem_cons, List.not_mem_nil, or_false] at hb
            rw [hb]; exact ⟨(hM61.at (i := 3) (j := 0) rfl rfl).lt, hM61.apart (i := 3) (j := 0) (k := 2) rfl rfl rfl (by decide)⟩) (fun b hb => rfl)
          refine ⟨hh62, ?_⟩
          refine dl (m_stU (v := v62) hM62 (i := 1) rfl rfl rfl (Sl.one hs62) (by simp) fun w63 hup63 (hM63 : Mem w [] w63 [[⟨b2, 24, [.int .i64 parts, x]⟩], [⟨b5, 34, [v62]⟩], r62, [⟨b51, 74, [.int .i64 ((((ps.getD i pz).bl).getD k bz).st), .int .i64 ((((ps.getD i pz).bl).getD k bz).ra), .int .i64 ((((ps.getD i pz).bl).getD k bz).ct), .string (str ((((ps.getD i pz).bl).getD k bz).cut))]⟩], [⟨b57, 3, [.int .i64 ((((ps.getD i pz).bl).getD k bz).st), .int .i64 ((((ps.getD i pz).bl).getD k bz).ra), .int .i64 ((((ps.getD i pz).bl).getD k bz).ct), .int .i64 (common key ((((ps.getD i pz).bl).getD k bz).cut) : Nat), .int .i64 (((((ps.getD i pz).bl.getD k bz).cut.length : Nat) : Int) - ((common key ((ps.getD i pz).bl.getD k bz).cut : Nat) : Int))]⟩]]) => ?_)
          have hh63 := held_upd (wr := wd) (bs := [b51]) hup63 (fun b hb => by
            simp only [List.mem_cons, List.not_mem_nil, or_false] at hb
            rw [hb]; exact ⟨(hM62.at (i := 3) (j := 0) rfl rfl).lt, hM62.apart (i := 3) (j := 0) (k := 1) rfl rfl rfl (by decide)⟩) hh62
          refine ⟨hh63, ?_⟩
          refine h60 _ _ ?_
          clear h60
          refine stp (v := .pointer (some ⟨b51, 3, none⟩)) (o_fa rfl rfl) ?_
          refine m_ld (v := .string (str ((((ps.getD i pz).bl).getD k bz).cut))) hM63 (i := 3) (j := 0) rfl rfl rfl rfl ?_
          refine stp (v := .string (str ((((ps.getD i pz).bl).getD k bz).cut))) (o_mv rfl) ?_
          refine h48 _ _ ?_
          clear h48
          refine stp (v := .int .i64 ((k : Nat) + 1)) (o_bin rfl rfl (v_add64 (by constructor <;> omega))) ?_
          refine stp (v := .int .i64 ((k : Nat) + 1)) (o_mv rfl) ?_
          refine h44 (k + 1, ((ps.getD i pz).bl.getD k bz).cut, (B2 ++ putAll ([(((ps.getD i pz).bl).getD k bz).st, (((ps.getD i pz).bl).getD k bz).ra, (((ps.getD i pz).bl).getD k bz).ct, (common key ((((ps.getD i pz).bl).getD k bz).cut) : Nat), ((((ps.getD i pz).bl.getD k bz).cut.length : Nat) : Int) - ((common key ((ps.getD i pz).bl.getD k bz).cut : Nat) : Int)] : List Int)) ++ ((((((ps.getD i pz).bl).getD k bz).cut).take (((ps.getD i pz).bl.getD k bz).cut.length)).drop (common key ((ps.getD i pz).bl.getD k bz).cut)), v62, r62) _ _ ⟨rfl, by first | rfl | simp [upd], by first | rfl | exact v_int (by omega) | exact v_int (by simp) | exact v_int (by simp; omega), rfl, by first | rfl | exact v_int (by omega) | exact v_int (by simp) | exact v_int (by simp; omega), rfl, by first | rfl | exact v_int (by omega) | exact v_int (by simp) | exact v_int (by simp; omega), by first | rfl | exact v_int (by omega) | exact v_int (by simp) | exact v_int (by simp; omega), rfl, by first | rfl | exact v_int (by omega) | exact v_int (by simp) | exact v_int (by simp; omega), hM63.keep (by simp), hs62, by omega, hbc.2, hbk.2.2.2.2.2, by rw [hE2, bksB_cons (by omega)]; unfold bkB; simp only [List.append_assoc, List.take_length], by simp only [List.length_append, List.length_drop, List.take_length] at *; omega⟩ (by (try dsimp only); omega)
        ·
          refine h21 _ _ ?_
          clear h21
          refine stp (v := .int .i64 ((i : Nat) + 1)) (o_bin rfl rfl (v_add64 (by constructor <;> omega))) ?_
          refine stp (v := .int .i64 ((i : Nat) + 1)) (o_mv rfl) ?_
          refine h17 (i + 1, (ps.getD i pz).part, n + (ps.getD i pz).bl.length, B2, v, rb) _ _ ⟨rfl, by first | rfl | exact v_int (by omega) | exact v_int (by simp) | exact v_int (by simp; omega), by first | rfl | exact v_int (by omega) | exact v_int (by simp) | exact v_int (by simp; omega), rfl, rfl, by first | rfl | exact v_int (by omega) | exact v_int (by simp) | exact v_int (by simp; omega), hM43.keep (by simp), hs, by omega, hic.2, hic.1.2, by omega, by rw [hE2, bksB_end (by omega), List.nil_append], by omega⟩ (by (try dsimp only); omega)
    ·
      refine h14 _ _ ?_
      clear h14
      refine seq fun K64 h64 => ?_
      refine m_ld (v := v) hM16 (i := 1) (j := 0) rfl rfl rfl rfl ?_
      refine stp (v := v) (o_mv rfl) ?_
      refine h64 _ _ ?_
      clear h64
      refine ⟨v, rfl, ?_⟩
      exact ⟨_, by rw [hE, infB_end (by omega), List.append_nil]; exact hs, hM16.keep (by simp)⟩
