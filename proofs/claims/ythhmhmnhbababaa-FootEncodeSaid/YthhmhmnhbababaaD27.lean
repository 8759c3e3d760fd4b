/- Footers in new memory, with marks behind their lists. -/
import Derived.Test.YthhmhmnhbababaaD21
import Derived.Test.YthhmhmnhbababaaE21
namespace Go.Proofs.Ythhmhmnhbababaa.E
open Go
/-! slots in parts -/
theorem part_perm (X A r B Y : List Ent) : (X ++ (A ++ B) ++ Y ++ r).Perm (X ++ (A ++ (r ++ B)) ++ Y) := by
  simp only [List.append_assoc]
  refine List.Perm.append_left X (List.Perm.append_left A ?_)
  rw [← List.append_assoc B Y r, ← List.append_assoc r B Y, List.append_assoc r B Y]
  exact List.perm_append_comm
theorem Mem.part {w0 w : World} {S : List Nat} {R : List (List Ent)} {i : Nat} {A B r : List Ent} (h : Mem w0 S w R) (hi : R[i]? = some (A ++ (r ++ B))) : Mem w0 S w (R.set i (A ++ B) ++ [r]) := by
  refine h.perm ?_
  obtain ⟨X, Y, e1, e2⟩ := flatten_set R i _ (A ++ B) hi
  rw [List.flatten_append, e1, e2]
  simp only [List.flatten_cons, List.flatten_nil, List.append_nil]
  exact part_perm X A r B Y
theorem Mem.joinM {w0 w : World} {S : List Nat} {R : List (List Ent)} {i : Nat} {A B r : List Ent} (h : Mem w0 S w (R ++ [r])) (hi : R[i]? = some (A ++ B)) : Mem w0 S w (R.set i (A ++ (r ++ B))) := by
  refine h.perm ?_
  obtain ⟨X, Y, e1, e2⟩ := flatten_set R i _ (A ++ (r ++ B)) hi
  rw [List.flatten_append, e1, e2]
  simp only [List.flatten_cons, List.flatten_nil, List.append_nil]
  exact (part_perm X A r B Y).symm
theorem cutAt_0 (sz : Nat) (a : Option Addr) (c : Nat) : cutAt sz a 0 c = a := by
  cases a with
  | none => simp [cutAt]
  | some a =>
    obtain ⟨b, o, m⟩ := a
    cases m <;> simp [cutAt, Addr.add]
/-- a cut anew, within the room -/
theorem o_slcTo {f : Fr} {x y : Operand} {sz n c j : Nat} {a : Option Addr} {k : IntKind} (hx : ev f x = .slice a n c) (hy : ev f y = .int k j) (hj : j ≤ c) : PeV (.slc sz x none (some y) none) f (.slice a j c) := fun K h => by
  have key : bnd ((none : Option Operand).map (ev f)) c c fun m => bnd ((some y).map (ev f)) n m fun h => bnd ((none : Option Operand).map (ev f)) 0 h fun l => K (.slice (cutAt sz a l m) (h - l) (m - l)) := by
    refine bndN ?_
    show bnd (some (ev f y)) n c _
    refine bndS hy ⟨by omega, by omega⟩ ?_
    refine bndN ?_
    rw [cutAt_0, Int.toNat_natCast, Nat.sub_zero, Nat.sub_zero]; exact h
  show kslice (ev f x) _; rw [hx]; exact key
theorem rd_cap {w : World} {a : Option Addr} {n c m : Nat} {cs : List Value} (h : Rd w (.slice a n c) m cs) : m ≤ c := by
  obtain ⟨a', c', h1, h2, _, _⟩ := h.form
  injection h1 with e1 e2 e3
  omega
section
variable {P : Program} {r : List MI} {f : Fr} {w : World} {K : Fr → World → Prop} {d : Nat}
theorem m_slcT {α : Type} {E : α → Value} {t : TypeId} {x y : Operand} {u : Value} {l : List α} {rs : List Ent} {k : IntKind} (B : Nat) (h : SlE E t u l rs) (hx : ev f x = u) (hB : B ≤ l.length) (hy : ev f y = .int k B)
    (hk : ∀ a c, SlE E t (.slice a l.length c) l rs → vr P r (upd f d (.slice a B c)) w K) : vr P (.p none d (.slc 1 x none (some y) none) :: r) f w K := by
  obtain ⟨a, c, rfl, hc⟩ : ∃ a c, u = .slice a l.length c ∧ l.length ≤ c := by
    rcases h.form with ⟨rfl, h, _⟩ | ⟨b, c, _, rfl, _, h, _⟩
    · exact ⟨_, 0, by rw [h], by omega⟩
    · exact ⟨_, c, rfl, h⟩
  exact o_slcTo hx hy (by omega) (fun v => vr P r (upd f d v) w K) (hk a c h)
theorem m_slcTS {α : Type} {enc : α → List Value} {sz : Nat} {t : TypeId} {x y : Operand} {u : Value} {l : List α} {rs : List Ent} {k : IntKind} (B : Nat) (h : SlS enc sz t u l rs) (hx : ev f x = u) (hB : B ≤ l.length) (hy : ev f y = .int k B)
    (hk : ∀ a c, SlS enc sz t (.slice a l.length c) l rs → vr P r (upd f d (.slice a B c)) w K) : vr P (.p none d (.slc sz x none (some y) none) :: r) f w K := by
  obtain ⟨a, c, rfl, hc⟩ : ∃ a c, u = .slice a l.length c ∧ l.length ≤ c := by
    rcases h.form with ⟨rfl, h, _⟩ | ⟨b, c, _, rfl, _, h, _⟩
    · exact ⟨_, 0, by rw [h], by omega⟩
    · exact ⟨_, c, rfl, h⟩
  exact o_slcTo hx hy (by omega) (fun v => vr P r (upd f d v) w K) (hk a c h)
end
/-! twins -/
def bm : Bi := ⟨-9, 0, 0, []⟩
def pm : Pr := ⟨-9, none, 0, 0, [], false, 0, none, 0, 0, []⟩
structure TwP (p : Pr) (rd rb : List Ent) : Prop where
  sd : SlE byteV 5 (.slice p.dad (p.d.length + 2) p.dcp) (p.d ++ [209, 210]) rd
  sb : SlS biC 4 74 (.slice p.bad (p.bl.length + 1) p.bcp) (p.bl ++ [bm]) rb
  nd : p.dln = p.d.length
  nb : p.bln = p.bl.length
  kp : inK .i64 p.part
  kh : inK .i64 p.h
  ld : p.d.length ≤ 140737488351232
  lb : p.bl.length ≤ 3518437208780
  kb : ∀ b ∈ p.bl, b.ok
def Tw : List Pr → List Ent → Prop
  | [], NS => NS = []
  | p :: ps, NS => ∃ rd rb T, NS = rd ++ (rb ++ T) ∧ TwP p rd rb ∧ Tw ps T
theorem Tw.snoc : ∀ {ps : List Pr} {NS : List Ent} {p : Pr} {rd rb : List Ent}, Tw ps NS → TwP p rd rb → Tw (ps ++ [p]) (NS ++ (rd ++ rb))
  | [], _, _, rd, rb, h, hp => by
    obtain rfl : _ = [] := h
    exact ⟨rd, rb, [], by simp, hp, rfl⟩
  | _ :: _, _, _, _, _, h, hp => by
    obtain ⟨rd', rb', T, rfl, hq, hT⟩ := h
    exact ⟨rd', rb', T ++ _, by simp, hq, hT.snoc hp⟩
theorem Tw.at : ∀ {ps : List Pr} {NS : List Ent} {i : Nat}, Tw ps NS → i < ps.length → ∃ A B rd rb, NS = A ++ (rb ++ B) ∧ TwP (ps.getD i pz) rd rb ∧ ∀ q rb', TwP q rd rb' → Tw (ps.set i q) (A ++ (rb' ++ B))
  | [], _, _, _, h => by simp at h
  | p :: ps, _, 0, h, _ => by
    obtain ⟨rd, rb, T, rfl, hp, hT⟩ := h
    exact ⟨rd, T, rd, rb, rfl, hp, fun q rb' h => ⟨rd, rb', T, rfl, h, hT⟩⟩
  | p :: ps, _, i + 1, h, hi => by
    obtain ⟨rd, rb, T, rfl, hp, hT⟩ := h
    obtain ⟨A, B, rd', rb', rfl, h1, h2⟩ := hT.at (i := i) (by simpa using hi)
    exact ⟨rd ++ (rb ++ A), B, rd', rb', by simp, h1, fun q rb2 hq => ⟨rd, rb, A ++ (rb2 ++ B), by simp, hp, h2 q rb2 hq⟩⟩
/-- a twin's part, as it can be read -/
structure Tk (w : World) (p : Pr) : Prop where
  ok : p.ok w
  r2 : RdE byteV w (.slice p.dad (p.d.length + 2) p.dcp) (p.d ++ [209, 210])
  r1 : RdS biC w (.slice p.bad (p.bl.length + 1) p.bcp) (p.bl ++ [bm])
  nd : p.dln = p.d.length
  nb : p.bln = p.bl.length
theorem Tk.upd {w w' : World} {p : Pr} (h : Tk w p) (u : Upd [] w w') : Tk w' p := ⟨h.ok.upd u, h.r2.upd u, h.r1.upd u, h.nd, h.nb⟩
theorem TwP.tk {p : Pr} {rd rb : List Ent} {w : World} (h : TwP p rd rb) (h1 : ∀ e ∈ rd, Own w e) (h2 : ∀ e ∈ rb, Own w e) : Tk w p := by
  refine ⟨⟨?_, ?_, h.kp, h.kh, h.ld, h.lb, h.kb⟩, Sl.rdOwn h.sd h1, Sl.rdOwn h.sb h2, h.nd, h.nb⟩
  · have e := SlS.cut h.sb p.bl.length (by simp)
    rw [List.take_left' rfl] at e
    unfold Pr.bv; rw [h.nb]
    exact Sl.rdOwn e h2
  · have e := SlE.cut h.sd p.d.length (by simp)
    rw [List.take_left' rfl] at e
    unfold Pr.dv; rw [h.nd]
    exact Sl.rdOwn e h1
theorem Tw.tk : ∀ {ps : List Pr} {NS : List Ent} {w : World}, Tw ps NS → (∀ e ∈ NS, Own w e) → ∀ p ∈ ps, Tk w p
  | [], _, _, _, _, p, hp => by cases hp
  | q :: ps, _, w, h, ho, p, hp => by
    obtain ⟨rd, rb, T, rfl, hq, hT⟩ := h
    rcases List.mem_cons.1 hp with rfl | hp
    · exact hq.tk (fun e he => ho e (by simp [he])) fun e he => ho e (by simp [he])
    · exact hT.tk (fun e he => ho e (by simp [he])) p hp
theorem take_p {ps : List Pr} {i : Nat} (h : i < ps.length) : (ps.take (i + 1)).map Pr.p = (ps.take i).map Pr.p ++ [(ps.getD i pz).p] := by
  rw [takeG pz h, List.map_append]; rfl

set_option maxRecDepth 100000 in
/-- winnowlaw8.twin -/
theorem twin_ok (parts : Int) (x : Value) (ps : List Pr) (w : World) (hx : RdS prC w x ps) (hok : ∀ p ∈ ps, p.ok w) (hl : ps.length ≤ 1954687338211) (hp : inK .i64 parts) : Calls Try.prog 15 [.agg [.int .i64 parts, x].toArray].toArray w (Rt fun r w' => ∃ a c qs rs NS, r = .agg #[.int .i64 parts, .slice a ps.length c] ∧ SlS prC 5 71 (.slice a (ps.length + 1) c) (qs ++ [pm]) rs ∧ Tw qs NS ∧ qs.map Pr.p = ps.map Pr.p ∧ Mem w [] w' [rs, NS]) := by
  have hM0 : Mem w [] w [] := Mem.nil w []
  refine calls_vc mixed Try.func15 rfl C15 (by simp [Try.ntmps15]) ?_
  refine seq fun K1 h1 => ?_
  refine m_bx (v := .agg ([.int .i64 parts, x] : List Value).toArray) hM0 rfl rfl fun b2 w3 (hM3 : Mem w [] w3 [[⟨b2, 24, [.int .i64 parts, x]⟩]]) => ?_
  refine m_al hM3 fun b4 w5 (hM5 : Mem w [] w5 [[⟨b2, 24, [.int .i64 parts, x]⟩], [⟨b4, 24, [.int .i64 0, .slice none 0 0]⟩]]) => ?_
  refine h1 _ _ ?_
  clear h1
  refine seq fun K6 h6 => ?_
  refine stp (v := .slice none 0 0) (o_mv rfl) ?_
  refine h6 _ _ ?_
  clear h6
  refine seq fun K7 h7 => ?_
  refine seq fun K8 h8 => ?_
  refine stp (v := .int .i64 0) (o_mv rfl) ?_
  refine h8 _ _ ?_
  clear h8
  refine lp (n := fun _ _ => False) (ι := (Nat) × (List Pr) × (Option Addr) × (Nat) × (Nat) × (List Ent) × (List Ent)) (fun ⟨i, qs, av, lv, cv, rsP, NS⟩ f w' => f 4 = .int .i64 (i : Nat) ∧ f 3 = (.slice av lv cv) ∧ f 1 = .pointer (some ⟨b2, 0, none⟩) ∧ f 2 = .pointer (some ⟨b4, 0, none⟩) ∧ Mem w [] w' [[⟨b2, 24, [.int .i64 parts, x]⟩], [⟨b4, 24, [.int .i64 0, .slice none 0 0]⟩], rsP, NS] ∧ (i ≤ ps.length) ∧ (SlS prC 5 71 (.slice av lv cv) qs rsP) ∧ (Tw qs NS) ∧ (qs.length = i) ∧ (qs.map Pr.p = (ps.take i).map Pr.p)) (fun ⟨i, qs, av, lv, cv, rsP, NS⟩ => ps.length - i) (0, [], none, 0, 0, [], []) ?_ ?_
  · exact ⟨by first | rfl | exact v_int (by omega) | exact v_int (by simp) | exact v_int (by simp; omega), rfl, rfl, rfl, hM5.addNil.addNil, by omega, Sl.nil 5 71, rfl, rfl, by simp⟩
  · rintro ⟨i, qs, av, lv, cv, rsP, NS⟩ f w9 ⟨e9_4, e9_3, e9_1, e9_2, hM9, hi, hs, hT, hql, hqp⟩ K10 h10
    obtain ⟨frm, rfl⟩ : ∃ frm, f = (upd (upd (upd (upd frm 4 (.int .i64 (i : Nat))) 3 ((.slice av lv cv))) 1 (.pointer (some ⟨b2, 0, none⟩))) 2 (.pointer (some ⟨b4, 0, none⟩))) := ⟨f, by rw [upd_self e9_4, upd_self e9_3, upd_self e9_1, upd_self e9_2]⟩
    clear e9_4 e9_3 e9_1 e9_2
    refine seq fun K11 h11 => ?_
    refine seq fun K12 h12 => ?_
    refine stp (v := .int .i64 (i : Nat)) (o_mv rfl) ?_
    refine stp (v := .pointer (some ⟨b2, 1, none⟩)) (o_fa rfl rfl) ?_
    refine m_ld (v := x) hM9 (i := 0) (j := 0) rfl rfl rfl rfl ?_
    refine stp (v := .int .i64 (ps.length : Nat)) (o_lenR (hx.upd hM9.upd) rfl rfl) ?_
    refine stp (v := .bool (decide (((i : Nat) : Int) < (ps.length : Nat)))) (o_bin rfl rfl rfl) ?_
    refine h12 _ _ ?_
    clear h12
    refine cndP rfl (fun c13 => ?_) (fun c13 => ?_)
    ·
      refine h11 _ _ ?_
      clear h11
      refine seq fun K14 h14 => ?_
      refine seq fun K15 h15 => ?_
      refine stp (v := .pointer (some ⟨b2, 1, none⟩)) (o_fa rfl rfl) ?_
      refine m_ld (v := x) hM9 (i := 0) (j := 0) rfl rfl rfl rfl ?_
      refine stp (v := .int .i64 (i : Nat)) (o_mv rfl) ?_
      have hpi := hok _ (getD_memG pz (l := ps) (i := i) (by omega))
      have hld := hpi.ld
      have hlb := hpi.lb
      have hld2 := hld
      have hlb2 := hlb
      simp only [List.getD_eq_getElem?_getD] at hld2 hlb2
      refine m_idxS pz (j := i) (hx.upd hM9.upd) rfl rfl (by omega) fun b16 o16 hp16 => ?_
      refine ldA (cs := [.int .i64 ((ps.getD i pz).part), (ps.getD i pz).bv, .bool ((ps.getD i pz).a), .int .i64 ((ps.getD i pz).h), (ps.getD i pz).dv]) rfl rfl (hp16.row (k := 0) rfl rfl) ?_
      refine m_al hM9 fun b17 w18 (hM18 : Mem w [] w18 [[⟨b2, 24, [.int .i64 parts, x]⟩], [⟨b4, 24, [.int .i64 0, .slice none 0 0]⟩], rsP, NS, [⟨b17, 71, [.int .i64 0, .slice none 0 0, .bool false, .int .i64 0, .slice none 0 0]⟩]]) => ?_
      refine m_stA (l := [.int .i64 ((ps.getD i pz).part), (ps.getD i pz).bv, .bool ((ps.getD i pz).a), .int .i64 ((ps.getD i pz).h), (ps.getD i pz).dv]) hM18 (i := 4) rfl rfl rfl rfl (by simp [oneCells, Value.oneCell', byteV]) (by simp) fun w19 (hM19 : Mem w [] w19 [[⟨b2, 24, [.int .i64 parts, x]⟩], [⟨b4, 24, [.int .i64 0, .slice none 0 0]⟩], rsP, NS, [⟨b17, 71, [.int .i64 ((ps.getD i pz).part), (ps.getD i pz).bv, .bool ((ps.getD i pz).a), .int .i64 ((ps.getD i pz).h), (ps.getD i pz).dv]⟩]]) => ?_
      refine h15 _ _ ?_
      clear h15
      refine seq fun K20 h20 => ?_
      refine stp (v := .slice none 0 0) (o_mv rfl) ?_
      refine h20 _ _ ?_
      clear h20
      refine seq fun K21 h21 => ?_
      refine stp (v := .slice none 0 0) (o_mv rfl) ?_
      refine stp (v := .pointer (some ⟨b17, 2, none⟩)) (o_fa rfl rfl) ?_
      refine stp (v := .pointer (some ⟨b17, 4, none⟩)) (o_fa rfl rfl) ?_
      refine m_ld (v := (ps.getD i pz).dv) hM19 (i := 4) (j := 0) rfl rfl rfl rfl ?_
      have hM22 : Mem w [] w19 [[⟨b2, 24, [.int .i64 parts, x]⟩], [⟨b4, 24, [.int .i64 0, .slice none 0 0]⟩], rsP, NS, [⟨b17, 71, [.int .i64 ((ps.getD i pz).part), (ps.getD i pz).bv, .bool ((ps.getD i pz).a), .int .i64 ((ps.getD i pz).h), (ps.getD i pz).dv]⟩], []] := hM19.addNil
      have hs22 : SlE byteV 5 (.slice none 0 0) [] [] := Sl.nil 1 5
      refine m_appE hM22 (i := 5) rfl hs22 rfl rfl (((fun p hp => (hok p hp).upd hM22.upd) _ (getD_memG pz (by omega))).rd) (by first | omega | (simp; omega)) (by omega) fun v23 w23 r23 (hs23 : SlE byteV 5 v23 ((ps.getD i pz).d) r23) (hM23 : Mem w [] w23 [[⟨b2, 24, [.int .i64 parts, x]⟩], [⟨b4, 24, [.int .i64 0, .slice none 0 0]⟩], rsP, NS, [⟨b17, 71, [.int .i64 ((ps.getD i pz).part), (ps.getD i pz).bv, .bool ((ps.getD i pz).a), .int .i64 ((ps.getD i pz).h), (ps.getD i pz).dv]⟩], r23]) => ?_
      refine stp (v := v23) (o_mv rfl) ?_
      refine h21 _ _ ?_
      clear h21
      refine seq fun K24 h24 => ?_
      refine stp (v := v23) (o_mv rfl) ?_
      refine m_bs hM23 rfl fun b25 w26 (hM26 : Mem w [] w26 [[⟨b2, 24, [.int .i64 parts, x]⟩], [⟨b4, 24, [.int .i64 0, .slice none 0 0]⟩], rsP, NS, [⟨b17, 71, [.int .i64 ((ps.getD i pz).part), (ps.getD i pz).bv, .bool ((ps.getD i pz).a), .int .i64 ((ps.getD i pz).h), (ps.getD i pz).dv]⟩], r23, [⟨b25, 5, [.int .u8 209, .int .u8 210]⟩]]) => ?_
      refine m_appE hM26 (i := 5) rfl hs23 rfl rfl (own_rdE (E := byteV) (l := [209, 210]) (hM26.at (i := 6) (j := 0) rfl rfl) rfl) (by first | omega | (simp; omega)) (by omega) fun v27 w27 r27 (hs27 : SlE byteV 5 v27 (((ps.getD i pz).d) ++ ([209, 210])) r27) (hM27 : Mem w [] w27 [[⟨b2, 24, [.int .i64 parts, x]⟩], [⟨b4, 24, [.int .i64 0, .slice none 0 0]⟩], rsP, NS, [⟨b17, 71, [.int .i64 ((ps.getD i pz).part), (ps.getD i pz).bv, .bool ((ps.getD i pz).a), .int .i64 ((ps.getD i pz).h), (ps.getD i pz).dv]⟩], r27, [⟨b25, 5, [.int .u8 209, .int .u8 210]⟩]]) => ?_
      refine stp (v := v27) (o_mv rfl) ?_
      refine h24 _ _ ?_
      clear h24
      refine seq fun K28 h28 => ?_
      refine stp (v := v27) (o_mv rfl) ?_
      refine stp (v := .pointer (some ⟨b2, 1, none⟩)) (o_fa rfl rfl) ?_
      refine m_ld (v := x) hM27 (i := 0) (j := 0) rfl rfl rfl rfl ?_
      refine stp (v := .int .i64 (i : Nat)) (o_mv rfl) ?_
      refine m_idxS pz (j := i) (hx.upd hM27.upd) rfl rfl (by omega) fun b29 o29 hp29 => ?_
      refine stp (v := .pointer (some ⟨b29, o29 + 2, none⟩)) (o_fa rfl rfl) ?_
      refine stp (v := .pointer (some ⟨b29, o29 + 4, none⟩)) (o_fa rfl rfl) ?_
      refine ld (v := (ps.getD i pz).dv) rfl (hp29.get 4 rfl) ?_
      refine stp (v := .int .i64 (((ps.getD i pz).d).length : Nat)) (o_lenR (((fun p hp => (hok p hp).upd hM27.upd) _ (getD_memG pz (by omega))).rd) rfl rfl) ?_
      refine m_slcT (ps.getD i pz).d.length hs27 rfl (by simp) rfl fun a37 c37 hs37 => ?_
      refine stp (v := .pointer (some ⟨b17, 2, none⟩)) (o_fa rfl rfl) ?_
      refine stp (v := .pointer (some ⟨b17, 4, none⟩)) (o_fa rfl rfl) ?_
      refine m_st (v := (.slice a37 ((ps.getD i pz).d.length) c37)) hM27 (i := 4) rfl rfl rfl rfl (by simp) fun w30 (hM30 : Mem w [] w30 [[⟨b2, 24, [.int .i64 parts, x]⟩], [⟨b4, 24, [.int .i64 0, .slice none 0 0]⟩], rsP, NS, [⟨b17, 71, [.int .i64 ((ps.getD i pz).part), (ps.getD i pz).bv, .bool ((ps.getD i pz).a), .int .i64 ((ps.getD i pz).h), (.slice a37 ((ps.getD i pz).d.length) c37)]⟩], r27, [⟨b25, 5, [.int .u8 209, .int .u8 210]⟩]]) => ?_
      refine h28 _ _ ?_
      clear h28
      refine seq fun K31 h31 => ?_
      refine stp (v := .slice none 0 0) (o_mv rfl) ?_
      refine h31 _ _ ?_
      clear h31
      refine seq fun K32 h32 => ?_
      refine stp (v := .slice none 0 0) (o_mv rfl) ?_
      refine stp (v := .pointer (some ⟨b17, 1, none⟩)) (o_fa rfl rfl) ?_
      refine m_ld (v := (ps.getD i pz).bv) hM30 (i := 4) (j := 0) rfl rfl rfl rfl ?_
      have hM33 : Mem w [] w30 [[⟨b2, 24, [.int .i64 parts, x]⟩], [⟨b4, 24, [.int .i64 0, .slice none 0 0]⟩], rsP, NS, [⟨b17, 71, [.int .i64 ((ps.getD i pz).part), (ps.getD i pz).bv, .bool ((ps.getD i pz).a), .int .i64 ((ps.getD i pz).h), (.slice a37 ((ps.getD i pz).d.length) c37)]⟩], r27, [⟨b25, 5, [.int .u8 209, .int .u8 210]⟩], []] := hM30.addNil
      have hs33 : SlS biC 4 74 (.slice none 0 0) [] [] := Sl.nil 4 74
      refine m_appS' (enc := biC) hM33 (i := 7) rfl hs33 rfl rfl (((fun p hp => (hok p hp).upd hM33.upd) _ (getD_memG pz (by omega))).rb) (rfl) (by first | omega | (simp; omega)) (by omega) fun v34 w34 r34 (hs34 : SlS biC 4 74 v34 ((ps.getD i pz).bl) r34) (hM34 : Mem w [] w34 [[⟨b2, 24, [.int .i64 parts, x]⟩], [⟨b4, 24, [.int .i64 0, .slice none 0 0]⟩], rsP, NS, [⟨b17, 71, [.int .i64 ((ps.getD i pz).part), (ps.getD i pz).bv, .bool ((ps.getD i pz).a), .int .i64 ((ps.getD i pz).h), (.slice a37 ((ps.getD i pz).d.length) c37)]⟩], r27, [⟨b25, 5, [.int .u8 209, .int .u8 210]⟩], r34]) => ?_
      refine stp (v := v34) (o_mv rfl) ?_
      refine h32 _ _ ?_
      clear h32
      refine seq fun K35 h35 => ?_
      refine stp (v := v34) (o_mv rfl) ?_
      refine stp (v := .agg ([.int .i64 (-9), .int .i64 0, .int .i64 0, .string (str ([]))] : List Value).toArray) (o_bld rfl rfl) ?_
      refine m_app1S (enc := biC) (q := (⟨-9, 0, 0, []⟩ : Bi)) hM34 (i := 7) rfl hs34 rfl (by simp) (rfl) (rfl) (by first | omega | (simp; omega)) (by omega) fun v36 w36 r36 u36 (hs36 : SlS biC 4 74 v36 (((ps.getD i pz).bl) ++ [(⟨-9, 0, 0, []⟩ : Bi)]) r36) (hM36 : Mem w [] w36 [[⟨b2, 24, [.int .i64 parts, x]⟩], [⟨b4, 24, [.int .i64 0, .slice none 0 0]⟩], rsP, NS, [⟨b17, 71, [.int .i64 ((ps.getD i pz).part), (ps.getD i pz).bv, .bool ((ps.getD i pz).a), .int .i64 ((ps.getD i pz).h), (.slice a37 ((ps.getD i pz).d.length) c37)]⟩], r27, [⟨b25, 5, [.int .u8 209, .int .u8 210]⟩], r36]) => ?_
      refine stp (v := v36) (o_mv rfl) ?_
      refine h35 _ _ ?_
      clear h35
      refine seq fun K37 h37 => ?_
      refine stp (v := v36) (o_mv rfl) ?_
      refine stp (v := .pointer (some ⟨b2, 1, none⟩)) (o_fa rfl rfl) ?_
      refine m_ld (v := x) hM36 (i := 0) (j := 0) rfl rfl rfl rfl ?_
      refine stp (v := .int .i64 (i : Nat)) (o_mv rfl) ?_
      refine m_idxS pz (j := i) (hx.upd hM36.upd) rfl rfl (by omega) fun b38 o38 hp38 => ?_
      refine stp (v := .pointer (some ⟨b38, o38 + 1, none⟩)) (o_fa rfl rfl) ?_
      refine ld (v := (ps.getD i pz).bv) rfl (hp38.get 1 rfl) ?_
      refine stp (v := .int .i64 (((ps.getD i pz).bl).length : Nat)) (o_lenR (((fun p hp => (hok p hp).upd hM36.upd) _ (getD_memG pz (by omega))).rb) rfl rfl) ?_
      refine m_slcTS (ps.getD i pz).bl.length hs36 rfl (by simp) rfl fun a56 c56 hs56 => ?_
      refine stp (v := .pointer (some ⟨b17, 1, none⟩)) (o_fa rfl rfl) ?_
      refine m_st (v := (.slice a56 ((ps.getD i pz).bl.length) c56)) hM36 (i := 4) rfl rfl rfl rfl (by simp) fun w39 (hM39 : Mem w [] w39 [[⟨b2, 24, [.int .i64 parts, x]⟩], [⟨b4, 24, [.int .i64 0, .slice none 0 0]⟩], rsP, NS, [⟨b17, 71, [.int .i64 ((ps.getD i pz).part), (.slice a56 ((ps.getD i pz).bl.length) c56), .bool ((ps.getD i pz).a), .int .i64 ((ps.getD i pz).h), (.slice a37 ((ps.getD i pz).d.length) c37)]⟩], r27, [⟨b25, 5, [.int .u8 209, .int .u8 210]⟩], r36]) => ?_
      refine h37 _ _ ?_
      clear h37
      refine stp (v := (.slice av lv cv)) (o_mv rfl) ?_
      refine m_ldA (l := [.int .i64 ((ps.getD i pz).part), (.slice a56 ((ps.getD i pz).bl.length) c56), .bool ((ps.getD i pz).a), .int .i64 ((ps.getD i pz).h), (.slice a37 ((ps.getD i pz).d.length) c37)]) hM39 (i := 4) (j := 0) rfl rfl rfl rfl rfl ?_
      refine m_app1S (enc := prC) (q := (⟨(ps.getD i pz).part, a56, ((ps.getD i pz).bl.length), c56, (ps.getD i pz).bl, (ps.getD i pz).a, (ps.getD i pz).h, a37, ((ps.getD i pz).d.length), c37, (ps.getD i pz).d⟩ : Pr)) hM39 (i := 2) rfl hs rfl (by simp) (rfl) (rfl) (by first | omega | (simp; omega)) (by omega) fun v40 w40 r40 u40 (hs40 : SlS prC 5 71 v40 (qs ++ [(⟨(ps.getD i pz).part, a56, ((ps.getD i pz).bl.length), c56, (ps.getD i pz).bl, (ps.getD i pz).a, (ps.getD i pz).h, a37, ((ps.getD i pz).d.length), c37, (ps.getD i pz).d⟩ : Pr)]) r40) (hM40 : Mem w [] w40 [[⟨b2, 24, [.int .i64 parts, x]⟩], [⟨b4, 24, [.int .i64 0, .slice none 0 0]⟩], r40, NS, [⟨b17, 71, [.int .i64 ((ps.getD i pz).part), (.slice a56 ((ps.getD i pz).bl.length) c56), .bool ((ps.getD i pz).a), .int .i64 ((ps.getD i pz).h), (.slice a37 ((ps.getD i pz).d.length) c37)]⟩], r27, [⟨b25, 5, [.int .u8 209, .int .u8 210]⟩], r36]) => ?_
      refine stp (v := v40) (o_mv rfl) ?_
      refine h14 _ _ ?_
      clear h14
      refine stp (v := .int .i64 (i : Nat)) (o_mv rfl) ?_
      obtain ⟨av9, lv9, cv9, rfl⟩ := hs40.isSlice
      refine stp (v := .int .i64 ((i : Nat) + 1)) (o_bin rfl rfl (v_add64 (by constructor <;> omega))) ?_
      refine stp (v := .int .i64 ((i : Nat) + 1)) (o_mv rfl) ?_
      refine h10 (i + 1, qs ++ [(⟨(ps.getD i pz).part, a56, (ps.getD i pz).bl.length, c56, (ps.getD i pz).bl, (ps.getD i pz).a, (ps.getD i pz).h, a37, (ps.getD i pz).d.length, c37, (ps.getD i pz).d⟩ : Pr)], av9, lv9, cv9, r40, NS ++ (r27 ++ r36)) _ _ ⟨by first | rfl | exact v_int (by omega) | exact v_int (by simp) | exact v_int (by simp; omega), rfl, rfl, rfl, ((hM40.drop 4).drop 6).keep (by simp), by omega, hs40, hT.snoc ⟨by first | exact hs37 | (simp only [List.nil_append, List.length_append, List.length_cons, List.length_nil] at hs37; exact hs37), by first | exact hs56 | (simp only [List.nil_append, List.length_append, List.length_cons, List.length_nil] at hs56; exact hs56), rfl, rfl, hpi.kp, hpi.kh, hpi.ld, hpi.lb, hpi.kb⟩, by rw [List.length_append, hql]; rfl, by rw [List.map_append, take_p (by omega), hqp]; rfl⟩ (by (try dsimp only); omega)
    ·
      refine h7 _ _ ?_
      clear h7
      refine seq fun K41 h41 => ?_
      refine stp (v := (.slice av lv cv)) (o_mv rfl) ?_
      refine stp (v := .agg ([.int .i64 (-9), .slice none 0 0, .bool false, .int .i64 0, .slice none 0 0] : List Value).toArray) (o_bld rfl rfl) ?_
      refine m_app1S (enc := prC) (q := (⟨-9, none, 0, 0, [], false, 0, none, 0, 0, []⟩ : Pr)) hM9 (i := 2) rfl hs rfl (by simp) (rfl) (rfl) (by first | omega | (simp; omega)) (by omega) fun v42 w42 r42 u42 (hs42 : SlS prC 5 71 v42 (qs ++ [(⟨-9, none, 0, 0, [], false, 0, none, 0, 0, []⟩ : Pr)]) r42) (hM42 : Mem w [] w42 [[⟨b2, 24, [.int .i64 parts, x]⟩], [⟨b4, 24, [.int .i64 0, .slice none 0 0]⟩], r42, NS]) => ?_
      refine stp (v := v42) (o_mv rfl) ?_
      refine h41 _ _ ?_
      clear h41
      refine seq fun K43 h43 => ?_
      refine stp (v := v42) (o_mv rfl) ?_
      refine stp (v := v42) (o_mv rfl) ?_
      refine stp (v := .int .i64 ((qs ++ [(⟨-9, none, 0, 0, [], false, 0, none, 0, 0, []⟩ : Pr)]).length : Nat)) (o_lenR (hs42.rd hM42 (i := 2) rfl) rfl rfl) ?_
      refine stp (v := .int .i64 (((qs ++ [(⟨-9, none, 0, 0, [], false, 0, none, 0, 0, []⟩ : Pr)]).length : Nat) - 1)) (o_bin rfl rfl (v_sub64 (by simp only [List.length_append, List.length_cons, List.length_nil]; omega))) ?_
      refine m_slcTS ps.length hs42 rfl (by simp; omega) (v_int (by simp; omega)) fun a70 c70 hs70 => ?_
      refine stp (v := .pointer (some ⟨b2, 1, none⟩)) (o_fa rfl rfl) ?_
      refine m_st (v := (.slice a70 ps.length c70)) hM42 (i := 0) rfl rfl rfl rfl (by simp) fun w44 (hM44 : Mem w [] w44 [[⟨b2, 24, [.int .i64 parts, (.slice a70 ps.length c70)]⟩], [⟨b4, 24, [.int .i64 0, .slice none 0 0]⟩], r42, NS]) => ?_
      refine h43 _ _ ?_
      clear h43
      refine seq fun K45 h45 => ?_
      refine m_ldA (l := [.int .i64 parts, (.slice a70 ps.length c70)]) hM44 (i := 0) (j := 0) rfl rfl rfl rfl rfl ?_
      refine m_stA (l := [.int .i64 parts, (.slice a70 ps.length c70)]) hM44 (i := 1) rfl rfl rfl rfl (by simp [oneCells, Value.oneCell', byteV]) (by simp) fun w46 (hM46 : Mem w [] w46 [[⟨b2, 24, [.int .i64 parts, (.slice a70 ps.length c70)]⟩], [⟨b4, 24, [.int .i64 parts, (.slice a70 ps.length c70)]⟩], r42, NS]) => ?_
      refine h45 _ _ ?_
      clear h45
      show resV _ _ _ _ _
      refine res_cell (s := some 2) (by kernel_rfl) ?_
      refine vl_ldA (cs := [.int .i64 parts, (.slice a70 ps.length c70)]) rfl rfl ((hM46.at (i := 1) (j := 0) rfl rfl).agg rfl rfl) ?_
      refine ⟨(.agg ([.int .i64 parts, (.slice a70 ps.length c70)] : List Value).toArray), rfl, ?_⟩
      exact ⟨_, _, qs, r42, NS, rfl, by have h := hs70; rw [List.length_append, show qs.length = ps.length by omega] at h; exact h, hT, by rw [hqp, List.take_of_length_le (by omega)], ((hM46.drop 0).drop 1).keep (by simp)⟩
