/- An answered footer's lists, written full, grown and looked at again. -/
import Derived.Test.YthhmhmnhbababaaD13
import Derived.Test.YthhmhmnhbababaaE23
import Derived.Test.YthhmhmnhbababaaE22
import Derived.Test.YthhmhmnhbababaaE24
namespace Go.Proofs.Ythhmhmnhbababaa.E
open Go
def m8 (i : Nat) : UInt8 := (i % 199).toUInt8
theorem v_m8 (i : Nat) : Value.int .u8 (IntKind.u8.wrap (((i : Nat) : Int) % 199)) = byteV (m8 i) := by
 rw [wrap_u8]
 show _ = Value.int .u8 ((m8 i).toNat : Int)
 congr 1
def setD (p : Pr) (d : List UInt8) : Pr := ⟨p.part, p.bad, p.bln, p.bcp, p.bl, p.a, p.h, p.dad, p.dln, p.dcp, d⟩
def setBl (p : Pr) (bl : List Bi) : Pr := ⟨p.part, p.bad, p.bln, p.bcp, bl, p.a, p.h, p.dad, p.dln, p.dcp, p.d⟩
theorem NwP.setD {p : Pr} {d : List UInt8} {rd rb r' : List Ent} (h : NwP p rd rb) (hs : SlE byteV 5 p.dv d r') (hl : d.length = p.d.length) : NwP (setD p d) r' rb :=
 ⟨hs, h.sb, h.kp, h.kh, by show d.length ≤ _; rw [hl]; exact h.ld, h.lb, h.kb⟩
theorem NwP.setBl {p : Pr} {k : Nat} {b : Bi} {rd rb r' : List Ent} (h : NwP p rd rb) (hs : SlS biC 4 74 p.bv (p.bl.set k b) r') (hb : b.ok) : NwP (setBl p (p.bl.set k b)) rd r' :=
 ⟨h.sd, hs, h.kp, h.kh, h.ld, by show (p.bl.set k b).length ≤ _; rw [List.length_set]; exact h.lb, fun x hx => by
  rcases List.mem_or_eq_of_mem_set hx with h2 | h2
  ·exact h.kb x h2
  subst h2; exact hb⟩
def Scr (m : Nat) (p : Pr) : Prop := (∀ k, k < p.d.length → p.d.getD k 0 = m8 m) ∧ ∀ k, k < p.bl.length → (p.bl.getD k bz).st = 0 - (m : Int) - 1
theorem fm_sameG : ∀ {qs : List Pr} {i : Nat} {q : Pr}, prC q = prC (qs.getD i pz) → (qs.set i q).flatMap prC = qs.flatMap prC
 | [], _, _, _ => rfl
 | p :: ps, 0, q, h => by
  have h' : prC q = prC p := h
  rw [List.set_cons_zero, List.flatMap_cons, List.flatMap_cons, h']
 | p :: ps, i + 1, q, h => by
  rw [List.set_cons_succ, List.flatMap_cons, List.flatMap_cons, fm_sameG (by simpa using h)]
theorem sl_sameG {v : Value} {qs : List Pr} {i : Nat} {q : Pr} {r : List Ent} (h : SlS prC 5 71 v qs r) (e : prC q = prC (qs.getD i pz)) : SlS prC 5 71 v (qs.set i q) r := by
 show Sl 5 71 v (qs.set i q).length ((qs.set i q).flatMap prC) r
 rw [List.length_set, fm_sameG e]; exact h
theorem getG_set {α : Type} {z : α} {qs : List α} {i : Nat} {q : α} (h : i < qs.length) : (qs.set i q).getD i z = q := by
 rw [List.getD_eq_getElem?_getD, List.getElem?_set_self h]; rfl
theorem getG_ne {α : Type} {z : α} {qs : List α} {i m : Nat} {q : α} (h : ¬ m = i) : (qs.set i q).getD m z = qs.getD m z := by
 rw [List.getD_eq_getElem?_getD, List.getElem?_set_ne (fun e => h e.symm), ← List.getD_eq_getElem?_getD]
theorem Mem.shut3 {w0 w : World} {S : List Nat} {x b y a a2 : List Ent} (h : Mem w0 S w [x, b, y, a, a2]) : Mem w0 S w [x, (a ++ a2) ++ b, y] := Mem.shutP2 (R := [x, b, y]) (i := 1) h rfl
theorem Mem.sub5 {w0 w : World} {S : List Nat} {x b y a a2 c c2 : List Ent} (h : Mem w0 S w [x, b, y, a, a2]) (h1 : c.Sublist a) (h2 : c2.Sublist a2) : Mem w0 S w [x, b, y, c, c2] :=
 h.keep (by simpa using h1.append h2)
set_option maxRecDepth 100000 in
theorem scrawl_ok (parts : Int) (v : Value) (ps : List Pr) (rs N0 : List Ent) (w : World) (hs0 : SlS prC 5 71 v ps rs) (hN0 : Nest N0 ps) (hr : Res w (rs ++ N0)) (hl : ps.length ≤ 65535) : Calls Try.prog 38 [.agg [.int .i64 parts, v].toArray].toArray w (Rt fun r w' => r = .bool true ∧ Mem w (ids (rs ++ N0)) w' [[], []]) := by
 have hM0 : Mem w (ids (rs ++ N0)) w [rs, N0] := (Mem.start hr).keep (by simp)
 refine calls_vc mixed Try.func38 rfl C38 (by simp [Try.ntmps38]) <| seq fun _ h1 => m_bx (v := .agg ([.int .i64 parts, v] : List Value).toArray) hM0 rfl rfl fun b2 w3 (hM3 : Mem w (ids (rs ++ N0)) w3 [rs, N0, [⟨b2, 24, [.int .i64 parts, v]⟩]]) => mv <| h1 _ _ <| seq fun _ h4 => fa rfl <| m_ld (v := v) hM3 (i := 2) (j := 0) rfl rfl rfl rfl <| mv <| h4 _ _ <| seq fun _ h5 => seq fun _ h6 => mv <| h6 _ _ ?_
 refine lp (n := fun _ _ => False) (ι := (Nat) × (List Pr) × (List Ent)) (fun ⟨i, qs, NS⟩ f w' => f 4 = .int .i64 (i : Nat) ∧ f 3 = v ∧ Mem w (ids (rs ++ N0)) w' [rs, NS, [⟨b2, 24, [.int .i64 parts, v]⟩]] ∧ (i ≤ ps.length) ∧ (Nest NS qs) ∧ (qs.length = ps.length) ∧ (SlS prC 5 71 v qs rs) ∧ (∀ m, m < i → Scr m (qs.getD m pz))) (fun ⟨i, qs, NS⟩ => ps.length - i) (0, ps, N0) ?_ ?_
 ·exact ⟨vi, rfl, hM3, by omega, hN0, rfl, hs0, fun m hm => by omega⟩
 rintro ⟨i, qs, NS⟩ f w7 ⟨e7_4, e7_3, hM7, hi, hN, hql, hs, hc⟩ K8 h8
 obtain ⟨frm, rfl⟩ := re2 e7_4 e7_3
 refine seq fun _ h9 => seq fun _ h10 => mv <| mv <| stp (v := .int .i64 (qs.length : Nat)) (o_lenR (hs.rd hM7 (i := 0) rfl) rfl rfl) <| bn rfl rfl <| h10 _ _ <| cndP rfl (fun c11 => ?_) (fun c11 => ?_)
 ·refine h9 _ _ <| seq fun _ h12 => seq fun _ h13 => seq fun _ h14 => mv <| h14 _ _ <| lp (n := fun _ _ => False) (ι := (Nat) × (List Pr) × (List Ent)) (fun ⟨k, qs, NS⟩ f w' => f 5 = .int .i64 (k : Nat) ∧ f 3 = v ∧ f 4 = .int .i64 (i : Nat) ∧ Mem w (ids (rs ++ N0)) w' [rs, NS, [⟨b2, 24, [.int .i64 parts, v]⟩]] ∧ (Nest NS qs) ∧ (qs.length = ps.length) ∧ (SlS prC 5 71 v qs rs) ∧ (∀ m, m < i → Scr m (qs.getD m pz)) ∧ (k ≤ (qs.getD i pz).d.length) ∧ (∀ j, j < k → (qs.getD i pz).d.getD j 0 = m8 i)) (fun ⟨k, qs, NS⟩ => (qs.getD i pz).d.length - k) (0, qs, NS) ?_ ?_
  ·exact ⟨vi, rfl, vi, hM7, hN, hql, hs, hc, by omega, fun j hj => by omega⟩
  rintro ⟨k, qs, NS⟩ f w15 ⟨e15_5, e15_3, e15_4, hM15, hN, hql, hs, hc, hk, hd⟩ K16 h16
  obtain ⟨frm, rfl⟩ := re3 e15_5 e15_3 e15_4
  refine seq fun _ h17 => seq fun _ h18 => ?_
  have hli := (hN.rd _ (hM15.res (i := 1) rfl).1) _ (getD_memG pz (l := qs) (i := i) (by omega))
  have hld := hli.ld
  have hlb := hli.lb
  refine mv <| mv <| mv <| m_idxS pz (j := i) (hs.rd hM15 (i := 0) rfl) rfl rfl (by omega) fun b19 o19 hp19 => fa rfl <| fa rfl <| ld (v := (qs.getD i pz).dv) rfl (hp19.get 4 rfl) <| stp (v := .int .i64 (((qs.getD i pz).d).length : Nat)) (o_lenR (((hN.rd _ (hM15.res (i := 1) rfl).1) _ (getD_memG pz (by omega))).rd) rfl rfl) <| bn rfl rfl <| h18 _ _ <| cndP rfl (fun c20 => ?_) (fun c20 => ?_)
  ·refine h17 _ _ <| seq fun _ h21 => mv <| mv <| m_idxS pz (j := i) (hs.rd hM15 (i := 0) rfl) rfl rfl (by omega) fun b22 o22 hp22 => fa rfl <| fa rfl <| ld (v := (qs.getD i pz).dv) rfl (hp22.get 4 rfl) <| mv <| mv <| stp (v := .int .i64 ((i : Nat) % 199)) (o_rem rfl rfl (by omega) (v_rem (by omega))) <| stp (v := byteV (m8 i)) (o_conv rfl (v_m8 i)) ?_
   obtain ⟨a0, b0, hp, ⟨rd, rb, rfl, hP⟩, hup⟩ := Nst.open pz (i := i) hN (by omega)
   have hM23 : Mem w (ids (rs ++ N0)) w15 [rs, b0, [⟨b2, 24, [.int .i64 parts, v]⟩], rd, rb] := hM15.openP2 (i := 1) rfl hp
   refine m_set (E := byteV) (q := (m8 i)) (j := k) hM23 (i := 3) rfl hP.sd rfl rfl (by omega) (by simp) (rfl) fun w24 r24 u24 he24 hs24 (hM24 : Mem w (ids (rs ++ N0)) w24 [rs, b0, [⟨b2, 24, [.int .i64 parts, v]⟩], r24, rb]) => h21 _ _ <| mv <| stp (v := .int .i64 ((k : Nat) + 1)) (o_bin rfl rfl (v_add64 (by omega))) <| mv ?_
   refine h16 (k + 1, (qs.set i (setD (qs.getD i pz) ((qs.getD i pz).d.set k (m8 i)))), ((r24 ++ rb) ++ b0)) _ _ ⟨vi, rfl, vi, Mem.shut3 hM24, hup _ _ ⟨_, _, rfl, hP.setD hs24 (by rw [List.length_set])⟩, by rw [List.length_set]; exact hql, sl_sameG hs rfl, fun m hm => by rw [getG_ne (by omega)]; exact hc m hm, by rw [getG_set (by omega)]; show k + 1 ≤ ((qs.getD i pz).d.set k (m8 i)).length; rw [List.length_set]; omega, fun j hj => by
    rw [getG_set (by omega)]
    show ((qs.getD i pz).d.set k (m8 i)).getD j 0 = _
    by_cases e : j = k
    ·subst e; rw [getG_set (by omega)]
    rw [getG_ne e]; exact hd j (by omega)⟩ (by (try dsimp only); rw [getG_set (by omega)]; show ((qs.getD i pz).d.set k (m8 i)).length - (k + 1) < _; rw [List.length_set]; omega)
  refine h13 _ _ <| seq fun _ h25 => mv <| h25 _ _ <| lp (n := fun _ _ => False) (ι := (Nat) × (List Pr) × (List Ent)) (fun ⟨k, qs, NS⟩ f w' => f 6 = .int .i64 (k : Nat) ∧ f 3 = v ∧ f 4 = .int .i64 (i : Nat) ∧ Mem w (ids (rs ++ N0)) w' [rs, NS, [⟨b2, 24, [.int .i64 parts, v]⟩]] ∧ (Nest NS qs) ∧ (qs.length = ps.length) ∧ (SlS prC 5 71 v qs rs) ∧ (∀ m, m < i → Scr m (qs.getD m pz)) ∧ (∀ j, j < (qs.getD i pz).d.length → (qs.getD i pz).d.getD j 0 = m8 i) ∧ (k ≤ (qs.getD i pz).bl.length) ∧ (∀ j, j < k → ((qs.getD i pz).bl.getD j bz).st = 0 - (i : Int) - 1)) (fun ⟨k, qs, NS⟩ => (qs.getD i pz).bl.length - k) (0, qs, NS) ?_ ?_
  ·exact ⟨vi, rfl, vi, hM15, hN, hql, hs, hc, fun j hj => hd j (by omega), by omega, fun j hj => by omega⟩
  rintro ⟨k, qs, NS⟩ f w26 ⟨e26_6, e26_3, e26_4, hM26, hN, hql, hs, hc, hd, hk, hb⟩ K27 h27
  obtain ⟨frm, rfl⟩ := re3 e26_6 e26_3 e26_4
  refine seq fun _ h28 => seq fun _ h29 => ?_
  have hli := (hN.rd _ (hM26.res (i := 1) rfl).1) _ (getD_memG pz (l := qs) (i := i) (by omega))
  have hld := hli.ld
  have hlb := hli.lb
  refine mv <| mv <| mv <| m_idxS pz (j := i) (hs.rd hM26 (i := 0) rfl) rfl rfl (by omega) fun b30 o30 hp30 => fa rfl <| ld (v := (qs.getD i pz).bv) rfl (hp30.get 1 rfl) <| stp (v := .int .i64 (((qs.getD i pz).bl).length : Nat)) (o_lenR (((hN.rd _ (hM26.res (i := 1) rfl).1) _ (getD_memG pz (by omega))).rb) rfl rfl) <| bn rfl rfl <| h29 _ _ <| cndP rfl (fun c31 => ?_) (fun c31 => ?_)
  ·refine h28 _ _ <| seq fun _ h32 => mv <| mv <| m_idxS pz (j := i) (hs.rd hM26 (i := 0) rfl) rfl rfl (by omega) fun b33 o33 hp33 => fa rfl <| ld (v := (qs.getD i pz).bv) rfl (hp33.get 1 rfl) <| mv <| mv <| stp (v := .int .i64 (0 - (i : Nat))) (o_neg rfl (v_same (by simp only [inK]; omega))) <| stp (v := .int .i64 ((0 - (i : Nat)) - 1)) (o_bin rfl rfl (v_sub64 (by omega))) <| stp (v := .agg ([.int .i64 ((0 - (i : Nat)) - 1), .int .i64 0, .int .i64 0, .string (str ([]))] : List Value).toArray) (o_bld rfl rfl) ?_
   obtain ⟨a0, b0, hp, ⟨rd, rb, rfl, hP⟩, hup⟩ := Nst.open pz (i := i) hN (by omega)
   have hM34 : Mem w (ids (rs ++ N0)) w26 [rs, b0, [⟨b2, 24, [.int .i64 parts, v]⟩], rd, rb] := hM26.openP2 (i := 1) rfl hp
   refine m_setS (enc := biC) bz (q := (⟨(0 - (i : Nat)) - 1, 0, 0, []⟩ : Bi)) (j := k) hM34 (i := 4) rfl hP.sb rfl rfl (by omega) (by simp) (rfl) fun w35 r35 u35 he35 hs35 (hM35 : Mem w (ids (rs ++ N0)) w35 [rs, b0, [⟨b2, 24, [.int .i64 parts, v]⟩], rd, r35]) => h32 _ _ <| mv <| stp (v := .int .i64 ((k : Nat) + 1)) (o_bin rfl rfl (v_add64 (by omega))) <| mv ?_
   refine h27 (k + 1, (qs.set i (setBl (qs.getD i pz) ((qs.getD i pz).bl.set k (⟨0 - (i : Nat) - 1, 0, 0, []⟩ : Bi)))), ((rd ++ r35) ++ b0)) _ _ ⟨vi, rfl, vi, Mem.shut3 hM35, hup _ _ ⟨_, _, rfl, hP.setBl hs35 ⟨by simp only [inK]; omega, by simp [inK], by simp [inK], by simp⟩⟩, by rw [List.length_set]; exact hql, sl_sameG hs rfl, fun m hm => by rw [getG_ne (by omega)]; exact hc m hm, fun j hj => by
    rw [getG_set (by omega)] at hj ⊢
    exact hd j hj, by rw [getG_set (by omega)]; show k + 1 ≤ ((qs.getD i pz).bl.set k (⟨0 - (i : Nat) - 1, 0, 0, []⟩ : Bi)).length; rw [List.length_set]; omega, fun j hj => by
    rw [getG_set (by omega)]
    show (((qs.getD i pz).bl.set k (⟨0 - (i : Nat) - 1, 0, 0, []⟩ : Bi)).getD j bz).st = _
    by_cases e : j = k
    ·subst e; rw [getG_set (by omega)]
    rw [getG_ne e]; exact hb j (by omega)⟩ (by (try dsimp only); rw [getG_set (by omega)]; show ((qs.getD i pz).bl.set k (⟨0 - (i : Nat) - 1, 0, 0, []⟩ : Bi)).length - (k + 1) < _; rw [List.length_set]; omega)
  refine h12 _ _ <| mv <| stp (v := .int .i64 ((i : Nat) + 1)) (o_bin rfl rfl (v_add64 (by omega))) <| mv ?_
  refine h8 (i + 1, qs, NS) _ _ ⟨vi, rfl, hM26, by omega, hN, hql, hs, fun m hm => by
   by_cases e : m = i
   ·subst e; exact ⟨hd, fun j hj => hb j (by omega)⟩
   exact hc m (by omega)⟩ (by (try dsimp only); omega)
 refine h5 _ _ <| seq fun _ h36 => seq fun _ h37 => ?_
 have hcc : ∀ m, m < qs.length → Scr m (qs.getD m pz) := fun m hm => hc m (by omega)
 refine mv <| h37 _ _ <| lp (n := fun _ _ => False) (ι := (Nat) × (List Ent)) (fun ⟨i, NS⟩ f w' => f 7 = .int .i64 (i : Nat) ∧ f 3 = v ∧ Mem w (ids (rs ++ N0)) w' [rs, NS, [⟨b2, 24, [.int .i64 parts, v]⟩]] ∧ (i ≤ qs.length) ∧ (Nest NS qs)) (fun ⟨i, NS⟩ => qs.length - i) (0, NS) ?_ ?_
 ·exact ⟨vi, rfl, hM7, by omega, hN⟩
 rintro ⟨i, NS⟩ f w38 ⟨e38_7, e38_3, hM38, hi, hN⟩ K39 h39
 obtain ⟨frm, rfl⟩ := re2 e38_7 e38_3
 refine seq fun _ h40 => seq fun _ h41 => mv <| mv <| stp (v := .int .i64 (qs.length : Nat)) (o_lenR (hs.rd hM38 (i := 0) rfl) rfl rfl) <| bn rfl rfl <| h41 _ _ <| cndP rfl (fun c42 => ?_) (fun c42 => ?_)
 ·refine h40 _ _ <| seq fun _ h43 => seq fun _ h44 => mv <| mv <| m_idxS pz (j := i) (hs.rd hM38 (i := 0) rfl) rfl rfl (by omega) fun b45 o45 hp45 => fa rfl <| fa rfl <| ld (v := (qs.getD i pz).dv) rfl (hp45.get 4 rfl) <| mv <| h44 _ _ <| seq fun _ h46 => mv <| mv ?_
  refine m_idxS pz (j := i) (hs.rd hM38 (i := 0) rfl) rfl rfl (by omega) fun b47 o47 hp47 => fa rfl <| ld (v := (qs.getD i pz).bv) rfl (hp47.get 1 rfl) <| mv <| h46 _ _ <| seq fun _ h48 => ?_
  obtain ⟨a0, b0, hp, ⟨rd, rb, rfl, hP⟩, hup⟩ := Nst.open pz (i := i) hN (by omega)
  have hM49 : Mem w (ids (rs ++ N0)) w38 [rs, b0, [⟨b2, 24, [.int .i64 parts, v]⟩], rd, rb] := hM38.openP2 (i := 1) rfl hp
  have hg := Gr.zero hP.sd
  have hgs := GrS.zero hP.sb
  have hld := hP.ld
  have hlb := hP.lb
  refine mv <| h48 _ _ <| lp (n := fun _ _ => False) (ι := (Nat) × (Value) × (List Ent) × (Value) × (List Ent)) (fun ⟨k, x8, r8, x9, r9⟩ f w' => f 10 = .int .i64 (k : Nat) ∧ f 8 = x8 ∧ f 9 = x9 ∧ f 3 = v ∧ f 7 = .int .i64 (i : Nat) ∧ Mem w (ids (rs ++ N0)) w' [rs, b0, [⟨b2, 24, [.int .i64 parts, v]⟩], r8, r9] ∧ (k ≤ 64) ∧ (Gr byteV 5 (qs.getD i pz).dv x8 (qs.getD i pz).d (List.replicate k 247) r8) ∧ (GrS biC 4 74 (qs.getD i pz).bv x9 (qs.getD i pz).bl (List.replicate k (⟨8, 0, 0, []⟩ : Bi)) r9)) (fun ⟨k, x8, r8, x9, r9⟩ => 64 - k) (0, ((qs.getD i pz).dv), rd, ((qs.getD i pz).bv), rb) ?_ ?_
  ·exact ⟨vi, rfl, rfl, rfl, vi, hM49, by omega, hg, hgs⟩
  rintro ⟨k, x8, r8, x9, r9⟩ f w50 ⟨e50_10, e50_8, e50_9, e50_3, e50_7, hM50, hk, hg, hgs⟩ K51 h51
  obtain ⟨frm, rfl⟩ := re5 e50_10 e50_8 e50_9 e50_3 e50_7
  refine seq fun _ h52 => seq fun _ h53 => mv <| bn rfl rfl <| h53 _ _ <| cndP rfl (fun c54 => ?_) (fun c54 => ?_)
  ·refine h52 _ _ <| seq fun _ h55 => seq fun _ h56 => mv <| m_grow1 (E := byteV) (q := 247) hM50 (i := 3) rfl hg rfl (by simp) (rfl) (by rw [List.length_replicate]; omega) (by omega) fun v57 w57 r57 u57 hs57 (hM57 : Mem w (ids (rs ++ N0)) w57 [rs, b0, [⟨b2, 24, [.int .i64 parts, v]⟩], r57, r9]) => mv <| h56 _ _ <| mv <| stp (v := .agg ([.int .i64 8, .int .i64 0, .int .i64 0, .string (str ([]))] : List Value).toArray) (o_bld rfl rfl) <| m_gr1S (enc := biC) (q := (⟨8, 0, 0, []⟩ : Bi)) hM57 (i := 4) rfl hgs rfl (by simp) (rfl) rfl (by rw [List.length_replicate]; omega) (by omega) fun v58 w58 r58 u58 hs58 (hM58 : Mem w (ids (rs ++ N0)) w58 [rs, b0, [⟨b2, 24, [.int .i64 parts, v]⟩], r57, r58]) => mv <| h55 _ _ <| mv <| stp (v := .int .i64 ((k : Nat) + 1)) (o_bin rfl rfl (v_add64 (by omega))) ?_
   refine mv <| h51 (k + 1, v57, r57, v58, r58) _ _ ⟨vi, rfl, rfl, rfl, vi, hM58, by omega, by rw [List.replicate_succ']; exact hs57, by rw [List.replicate_succ']; exact hs58⟩ (by (try dsimp only); omega)
  refine h43 _ _ ?_
  obtain ⟨ra, hra, hsa⟩ := hg.base
  obtain ⟨rb2, hrb, hsb⟩ := hgs.base
  refine mv <| stp (v := .int .i64 ((i : Nat) + 1)) (o_bin rfl rfl (v_add64 (by omega))) ?_
  have hcc : ∀ m, m < qs.length → Scr m (qs.getD m pz) := fun m hm => hc m (by omega)
  refine mv ?_
  refine h39 (i + 1, ((ra ++ rb2) ++ b0)) _ _ ⟨vi, rfl, Mem.shut3 (hM50.sub5 hra hrb), by omega, by
   have h9 := hup (qs.getD i pz) _ ⟨ra, rb2, rfl, hsa, hsb, hP.kp, hP.kh, hP.ld, hP.lb, hP.kb⟩
   rw [set_get_self pz (by omega)] at h9
   exact h9⟩ (by (try dsimp only); omega)
 refine h36 _ _ <| seq fun _ h59 => seq fun _ h60 => mv <| h60 _ _ <| lp (n := fun _ _ => False) (ι := (Nat)) (fun i f w' => f 11 = .int .i64 (i : Nat) ∧ f 3 = v ∧ Mem w (ids (rs ++ N0)) w' [rs, NS, [⟨b2, 24, [.int .i64 parts, v]⟩]] ∧ (i ≤ qs.length)) (fun i => qs.length - i) (0) ?_ ?_
 ·exact ⟨vi, rfl, hM38, by omega⟩
 rintro i f w61 ⟨e61_11, e61_3, hM61, hi⟩ K62 h62
 obtain ⟨frm, rfl⟩ := re2 e61_11 e61_3
 refine seq fun _ h63 => seq fun _ h64 => mv <| mv <| stp (v := .int .i64 (qs.length : Nat)) (o_lenR (hs.rd hM61 (i := 0) rfl) rfl rfl) <| bn rfl rfl <| h64 _ _ <| cndP rfl (fun c65 => ?_) (fun c65 => ?_)
 ·refine h63 _ _ <| seq fun _ h66 => seq fun _ h67 => seq fun _ h68 => mv <| h68 _ _ <| lp (n := fun _ _ => False) (ι := (Nat)) (fun k f w' => f 12 = .int .i64 (k : Nat) ∧ f 3 = v ∧ f 11 = .int .i64 (i : Nat) ∧ Mem w (ids (rs ++ N0)) w' [rs, NS, [⟨b2, 24, [.int .i64 parts, v]⟩]] ∧ (k ≤ (qs.getD i pz).d.length)) (fun k => (qs.getD i pz).d.length - k) (0) ?_ ?_
  ·exact ⟨vi, rfl, vi, hM61, by omega⟩
  rintro k f w69 ⟨e69_12, e69_3, e69_11, hM69, hk⟩ K70 h70
  obtain ⟨frm, rfl⟩ := re3 e69_12 e69_3 e69_11
  refine seq fun _ h71 => seq fun _ h72 => ?_
  have hli := (hN.rd _ (hM69.res (i := 1) rfl).1) _ (getD_memG pz (l := qs) (i := i) (by omega))
  have hld := hli.ld
  have hlb := hli.lb
  refine mv <| mv <| mv <| m_idxS pz (j := i) (hs.rd hM69 (i := 0) rfl) rfl rfl (by omega) fun b73 o73 hp73 => fa rfl <| fa rfl <| ld (v := (qs.getD i pz).dv) rfl (hp73.get 4 rfl) <| stp (v := .int .i64 (((qs.getD i pz).d).length : Nat)) (o_lenR (((hN.rd _ (hM69.res (i := 1) rfl).1) _ (getD_memG pz (by omega))).rd) rfl rfl) <| bn rfl rfl <| h72 _ _ <| cndP rfl (fun c74 => ?_) (fun c74 => ?_)
  ·refine h71 _ _ <| seq fun _ h75 => seq fun _ h76 => mv <| mv <| m_idxS pz (j := i) (hs.rd hM69 (i := 0) rfl) rfl rfl (by omega) fun b77 o77 hp77 => fa rfl <| fa rfl <| ld (v := (qs.getD i pz).dv) rfl (hp77.get 4 rfl) <| mv <| m_idxE 0 (j := k) (((hN.rd _ (hM69.res (i := 1) rfl).1) _ (getD_memG pz (by omega))).rd) rfl rfl (by omega) fun b78 o78 hp78 => ld (v := byteV (((qs.getD i pz).d).getD k 0)) rfl (hp78) <| mv <| stp (v := .int .i64 ((i : Nat) % 199)) (o_rem rfl rfl (by omega) (v_rem (by omega))) ?_
   refine stp (v := byteV (m8 i)) (o_conv rfl (v_m8 i)) <| bneq rfl rfl <| h76 _ _ <| cndP rfl (fun c79 => absurd c79 (fun h => h (by rw [(hcc i (by omega)).1 k (by omega)]))) (fun c79 => h75 _ _ <| mv <| stp (v := .int .i64 ((k : Nat) + 1)) (o_bin rfl rfl (v_add64 (by omega))) <| mv <| h70 (k + 1) _ _ ⟨vi, rfl, vi, hM69, by omega⟩ (by (try dsimp only); omega))
  refine h67 _ _ <| seq fun _ h80 => mv <| h80 _ _ <| lp (n := fun _ _ => False) (ι := (Nat)) (fun k f w' => f 13 = .int .i64 (k : Nat) ∧ f 3 = v ∧ f 11 = .int .i64 (i : Nat) ∧ Mem w (ids (rs ++ N0)) w' [rs, NS, [⟨b2, 24, [.int .i64 parts, v]⟩]] ∧ (k ≤ (qs.getD i pz).bl.length)) (fun k => (qs.getD i pz).bl.length - k) (0) ?_ ?_
  ·exact ⟨vi, rfl, vi, hM69, by omega⟩
  rintro k f w81 ⟨e81_13, e81_3, e81_11, hM81, hk⟩ K82 h82
  obtain ⟨frm, rfl⟩ := re3 e81_13 e81_3 e81_11
  refine seq fun _ h83 => seq fun _ h84 => ?_
  have hli := (hN.rd _ (hM81.res (i := 1) rfl).1) _ (getD_memG pz (l := qs) (i := i) (by omega))
  have hld := hli.ld
  have hlb := hli.lb
  refine mv <| mv <| mv <| m_idxS pz (j := i) (hs.rd hM81 (i := 0) rfl) rfl rfl (by omega) fun b85 o85 hp85 => fa rfl <| ld (v := (qs.getD i pz).bv) rfl (hp85.get 1 rfl) <| stp (v := .int .i64 (((qs.getD i pz).bl).length : Nat)) (o_lenR (((hN.rd _ (hM81.res (i := 1) rfl).1) _ (getD_memG pz (by omega))).rb) rfl rfl) <| bn rfl rfl <| h84 _ _ <| cndP rfl (fun c86 => ?_) (fun c86 => ?_)
  ·refine h83 _ _ <| seq fun _ h87 => seq fun _ h88 => mv <| mv <| m_idxS pz (j := i) (hs.rd hM81 (i := 0) rfl) rfl rfl (by omega) fun b89 o89 hp89 => fa rfl <| ld (v := (qs.getD i pz).bv) rfl (hp89.get 1 rfl) <| mv <| m_idxS bz (j := k) (((hN.rd _ (hM81.res (i := 1) rfl).1) _ (getD_memG pz (by omega))).rb) rfl rfl (by omega) fun b90 o90 hp90 => fa rfl <| ld (v := .int .i64 ((((qs.getD i pz).bl).getD k bz).st)) rfl (hp90.get 0 rfl) <| mv <| stp (v := .int .i64 (0 - (i : Nat))) (o_neg rfl (v_same (by simp only [inK]; omega))) ?_
   refine stp (v := .int .i64 ((0 - (i : Nat)) - 1)) (o_bin rfl rfl (v_sub64 (by omega))) <| bneq rfl rfl <| h88 _ _ <| cndP rfl (fun c91 => absurd c91 (fun h => h ((hcc i (by omega)).2 k (by omega)))) (fun c91 => h87 _ _ <| mv <| stp (v := .int .i64 ((k : Nat) + 1)) (o_bin rfl rfl (v_add64 (by omega))) <| mv <| h82 (k + 1) _ _ ⟨vi, rfl, vi, hM81, by omega⟩ (by (try dsimp only); omega))
  refine h66 _ _ <| mv <| stp (v := .int .i64 ((i : Nat) + 1)) (o_bin rfl rfl (v_add64 (by omega))) <| mv <| h62 (i + 1) _ _ ⟨vi, rfl, hM81, by omega⟩ (by (try dsimp only); omega)
 refine h59 _ _ <| seq fun _ h92 => seq fun _ h93 => mv <| h93 _ _ <| lp (n := fun _ _ => False) (ι := (Nat) × (List Pr) × (List Ent)) (fun ⟨i, q4, r4⟩ f w' => f 14 = .int .i64 (i : Nat) ∧ f 3 = v ∧ Mem w (ids (rs ++ N0)) w' [r4, NS, [⟨b2, 24, [.int .i64 parts, v]⟩]] ∧ (q4.length = ps.length) ∧ (SlS prC 5 71 v q4 r4)) (fun ⟨i, q4, r4⟩ => q4.length - i) (0, qs, rs) ?_ ?_
 ·exact ⟨vi, rfl, hM61, hql, hs⟩
 rintro ⟨i, q4, r4⟩ f w94 ⟨e94_14, e94_3, hM94, hq4, hs⟩ K95 h95
 obtain ⟨frm, rfl⟩ := re2 e94_14 e94_3
 refine seq fun _ h96 => seq fun _ h97 => mv <| mv <| stp (v := .int .i64 (q4.length : Nat)) (o_lenR (hs.rd hM94 (i := 0) rfl) rfl rfl) <| bn rfl rfl <| h97 _ _ <| cndP rfl (fun c98 => ?_) (fun c98 => ?_)
 ·refine h96 _ _ <| seq fun _ h99 => mv <| mv <| stp (v := .agg ([.int .i64 77, .slice none 0 0, .bool false, .int .i64 0, .slice none 0 0] : List Value).toArray) (o_bld rfl rfl) <| m_setS (enc := prC) pz (q := (⟨77, none, 0, 0, [], false, 0, none, 0, 0, []⟩ : Pr)) (j := i) hM94 (i := 0) rfl hs rfl rfl (by omega) (by simp) (rfl) fun w100 r100 u100 he100 hs100 (hM100 : Mem w (ids (rs ++ N0)) w100 [r100, NS, [⟨b2, 24, [.int .i64 parts, v]⟩]]) => h99 _ _ <| mv <| stp (v := .int .i64 ((i : Nat) + 1)) (o_bin rfl rfl (v_add64 (by omega))) <| mv <| h95 (i + 1, (q4.set i (⟨77, none, 0, 0, [], false, 0, none, 0, 0, []⟩ : Pr)), r100) _ _ ⟨vi, rfl, hM100, by rw [List.length_set]; exact hq4, hs100⟩ (by (try dsimp only); rw [List.length_set]; omega)
 refine h92 _ _ <| seq fun _ h101 => seq fun _ h102 => mv <| h102 _ _ <| lp (n := fun _ _ => False) (ι := (Nat) × (Value) × (List Pr) × (List Ent)) (fun ⟨k, x3, l5, r5⟩ f w' => f 15 = .int .i64 (k : Nat) ∧ f 3 = x3 ∧ Mem w (ids (rs ++ N0)) w' [r5, NS, [⟨b2, 24, [.int .i64 parts, v]⟩]] ∧ (k ≤ 64) ∧ (l5.length = ps.length + k) ∧ (SlS prC 5 71 x3 l5 r5)) (fun ⟨k, x3, l5, r5⟩ => 64 - k) (0, v, q4, r4) ?_ ?_
 ·exact ⟨vi, rfl, hM94, by omega, hq4, hs⟩
 rintro ⟨k, x3, l5, r5⟩ f w103 ⟨e103_15, e103_3, hM103, hk, hq5, hs⟩ K104 h104
 obtain ⟨frm, rfl⟩ := re2 e103_15 e103_3
 refine seq fun _ h105 => seq fun _ h106 => mv <| bn rfl rfl <| h106 _ _ <| cndP rfl (fun c107 => ?_) (fun c107 => ?_)
 ·refine h105 _ _ <| seq fun _ h108 => mv <| stp (v := .agg ([.int .i64 78, .slice none 0 0, .bool false, .int .i64 0, .slice none 0 0] : List Value).toArray) (o_bld rfl rfl) <| m_app1S (enc := prC) (q := (⟨78, none, 0, 0, [], false, 0, none, 0, 0, []⟩ : Pr)) hM103 (i := 0) rfl hs rfl (by simp) (rfl) (rfl) (by first | omega | (simp; omega)) (by omega) fun v109 w109 r109 u109 (hs109 : SlS prC 5 71 v109 (l5 ++ [(⟨78, none, 0, 0, [], false, 0, none, 0, 0, []⟩ : Pr)]) r109) (hM109 : Mem w (ids (rs ++ N0)) w109 [r109, NS, [⟨b2, 24, [.int .i64 parts, v]⟩]]) => mv <| h108 _ _ <| mv <| stp (v := .int .i64 ((k : Nat) + 1)) (o_bin rfl rfl (v_add64 (by omega))) <| mv <| h104 (k + 1, v109, (l5 ++ [(⟨78, none, 0, 0, [], false, 0, none, 0, 0, []⟩ : Pr)]), r109) _ _ ⟨vi, rfl, hM109, by omega, by rw [List.length_append, hq5]; rfl, hs109⟩ (by (try dsimp only); omega)
 refine h101 _ _ <| seq fun _ h110 => mv <| h110 _ _ <| ⟨(.bool true), rfl, ⟨rfl, hM103.keep (by simp)⟩⟩
