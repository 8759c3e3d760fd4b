/- NumsCursor: what was handed out, held by the law. -/
import Derived.Test.YtdjdhplacfemfaaK4
import Derived.Test.YtdjdhplacfemfaaE22
import Derived.Test.YtdjdhplacfemfaaE24
namespace Go.Proofs.Ytdjdhplacfemfaa.E
open Go
/-- a list that was handed out, what it must hold, what has grown behind it -/
structure Tn where
  ba : Option Addr
  bn : Nat
  bc : Nat
  wa : Option Addr
  wn : Nat
  wc : Nat
  ga : Option Addr
  gn : Nat
  gc : Nat
  p : List UInt8
  g : List UInt8
  m : Bool
def bV (t : Tn) : Value := .slice t.ba t.bn t.bc
def wV (t : Tn) : Value := .slice t.wa t.wn t.wc
def gV (t : Tn) : Value := .slice t.ga t.gn t.gc
instance : One bV := ⟨fun _ => rfl⟩
instance : One wV := ⟨fun _ => rfl⟩
instance : One gV := ⟨fun _ => rfl⟩
def tz : Tn := ⟨none, 0, 0, none, 0, 0, none, 0, 0, [], [], false⟩
def m19 (n : Nat) : UInt8 := (n % 199).toUInt8
def m55 (n : Nat) : UInt8 := (200 + n % 55).toUInt8
theorem v_m19 (n : Nat) : Value.int .u8 (IntKind.u8.wrap (((n : Nat) : Int) % 199)) = byteV (m19 n) := by
  rw [wrap_u8]
  show _ = Value.int .u8 ((m19 n).toNat : Int)
  congr 1
theorem v_m55 (n : Nat) : Value.int .u8 (IntKind.u8.wrap (200 + ((n : Nat) : Int) % 55)) = byteV (m55 n) := by
  rw [wrap_u8]
  show _ = Value.int .u8 ((m55 n).toNat : Int)
  congr 1
def TQ (t : Tn) (r : List Ent) : Prop := t.p.length ≤ 140737488355328 ∧ ∃ rw rg, r = rw ++ rg ∧ SlE byteV 5 (wV t) t.p rw ∧ ((t.m = false ∧ gV t = .slice none 0 0 ∧ t.g = [] ∧ SlE byteV 5 (bV t) t.p rg) ∨ (t.m = true ∧ ∃ l, t.g = t.p ++ l ∧ Gr byteV 5 (bV t) (gV t) t.p l rg))
theorem Gr.top {α : Type} {E : α → Value} {t : TypeId} {a x : Value} {p l : List α} {r : List Ent} (h : Gr E t a x p l r) : ∃ ra, ra.Sublist r ∧ SlE E t x (p ++ l) ra := by
  rcases h with ⟨b, cap, tail, h1, h2, h3, h4, h5⟩ | ⟨rx, ra, rfl, h1, h2⟩
  · exact ⟨r, List.Sublist.refl _, by simp, .inr ⟨b, cap, tail, h2, h3, h4, by simpa using h5⟩⟩
  · exact ⟨rx, List.sublist_append_left _ _, h1⟩
theorem TQ.rd {t : Tn} {r : List Ent} {w : World} (h : TQ t r) (ho : ∀ e ∈ r, Own w e) : RdE byteV w (bV t) t.p ∧ RdE byteV w (wV t) t.p ∧ RdE byteV w (gV t) t.g ∧ t.p.length ≤ 140737488355328 := by
  obtain ⟨hl, rw, rg, rfl, hw, h⟩ := h
  have h1 : RdE byteV w (wV t) t.p := Sl.rdOwn hw fun e he => ho e (by simp [he])
  rcases h with ⟨_, e1, e2, h⟩ | ⟨_, l, e2, h⟩
  · exact ⟨Sl.rdOwn h fun e he => ho e (by simp [he]), h1, by rw [e1, e2]; exact Sl.rdOwn (Sl.nil 1 5) (by simp), hl⟩
  · obtain ⟨ra, s1, k1⟩ := h.base
    obtain ⟨rx, s2, k2⟩ := h.top
    exact ⟨Sl.rdOwn k1 fun e he => ho e (by simp [s1.subset he]), h1, by rw [e2]; exact Sl.rdOwn k2 fun e he => ho e (by simp [s2.subset he]), hl⟩
theorem TN.rd {ts : List Tn} {NS : List Ent} {w : World} {i : Nat} (h : Nst TQ ts NS) (ho : ∀ e ∈ NS, Own w e) (hi : i < ts.length) : RdE byteV w (bV (ts.getD i tz)) (ts.getD i tz).p ∧ RdE byteV w (wV (ts.getD i tz)) (ts.getD i tz).p ∧ RdE byteV w (gV (ts.getD i tz)) (ts.getD i tz).g ∧ (ts.getD i tz).p.length ≤ 140737488355328 := by
  obtain ⟨a, h1, h2⟩ := h.get _ (getD_memG tz hi)
  exact h2.rd fun e he => ho e (h1 e he)
theorem map_setG {α : Type} {E : α → Value} (z : α) : ∀ {l : List α} {i : Nat} {q : α}, E q = E (l.getD i z) → (l.set i q).map E = l.map E
  | [], _, _, _ => rfl
  | x :: l, 0, q, h => by
    have h' : E q = E x := h
    rw [List.set_cons_zero, List.map_cons, List.map_cons, h']
  | x :: l, i + 1, q, h => by
    rw [List.set_cons_succ, List.map_cons, List.map_cons, map_setG z (by simpa using h)]
theorem slE_same {α : Type} {E : α → Value} (z : α) {t : TypeId} {v : Value} {l : List α} {i : Nat} {q : α} {r : List Ent} (h : SlE E t v l r) (e : E q = E (l.getD i z)) : SlE E t v (l.set i q) r := by
  show Sl 1 t v (l.set i q).length ((l.set i q).map E) r
  rw [List.length_set, map_setG z e]; exact h
theorem getG_set {α : Type} {z : α} {qs : List α} {i : Nat} {q : α} (h : i < qs.length) : (qs.set i q).getD i z = q := by
  rw [List.getD_eq_getElem?_getD, List.getElem?_set_self h]; rfl
theorem getG_ne {α : Type} {z : α} {qs : List α} {i m : Nat} {q : α} (h : ¬ m = i) : (qs.set i q).getD m z = qs.getD m z := by
  rw [List.getD_eq_getElem?_getD, List.getElem?_set_ne (fun e => h e.symm), ← List.getD_eq_getElem?_getD]
theorem Mem.shut5 {w0 w : World} {S : List Nat} {x a1 a2 a3 b a a4 : List Ent} (h : Mem w0 S w [x, a1, a2, a3, b, a, a4]) : Mem w0 S w [x, a1, a2, a3, (a ++ a4) ++ b] := Mem.shutP2 (R := [x, a1, a2, a3, b]) (i := 4) h rfl
def tkR (bt : Nat) (vL vW vG : Value) (rL rW rG NS : List Ent) : List Ent := ⟨bt, 56, [vL, vW, vG]⟩ :: (rL ++ (rW ++ (rG ++ NS)))

/-- (*winnowlaw2.Taken).mark -/
theorem mark_ok (bt : Nat) (vL vW vG : Value) (ts : List Tn) (rL rW rG NS : List Ent) (w : World) (hL : SlE bV 22 vL ts rL) (hW : SlE wV 22 vW ts rW) (hG : SlE gV 22 vG ts rG) (hN : Nst TQ ts NS) (hr : Res w (tkR bt vL vW vG rL rW rG NS)) (htl : ts.length ≤ 4294967296) (n : Nat) (hn : n < ts.length) (hu : (ts.getD n tz).m = false) : Calls Try.prog 51 [.pointer (some ⟨bt, 0, none⟩), .int .i64 (n : Nat)].toArray w (Rt fun _ w' => ∃ t' rG' NS', t'.m = true ∧ t'.g = t'.p ++ List.replicate 64 (m55 n) ∧ SlE bV 22 vL (ts.set n t') rL ∧ SlE wV 22 vW (ts.set n t') rW ∧ SlE gV 22 vG (ts.set n t') rG' ∧ Nst TQ (ts.set n t') NS' ∧ Mem w (ids (tkR bt vL vW vG rL rW rG NS)) w' [tkR bt vL vW vG rL rW rG' NS']) := by
  have hM0 : Mem w (ids (tkR bt vL vW vG rL rW rG NS)) w [[⟨bt, 56, [vL, vW, vG]⟩], rL, rW, rG, NS] := (Mem.start hr).keep (by simp [tkR])
  have hrd := TN.rd hN (hM0.res (i := 4) rfl).1 hn
  have hpl0 := hrd.2.2.2
  refine calls_vc mixed Try.func51 rfl C51 (by simp [Try.ntmps51]) ?_
  refine seq fun K1 h1 => ?_
  refine stp (v := .pointer (some ⟨bt, 0, none⟩)) (o_mv rfl) ?_
  refine stp (v := .pointer (some ⟨bt, 0, none⟩)) (o_nilchk rfl rfl) ?_
  refine stp (v := .pointer (some ⟨bt, 0, none⟩)) (o_fa rfl rfl) ?_
  refine m_ld (v := vL) hM0 (i := 0) (j := 0) rfl rfl rfl rfl ?_
  refine stp (v := .int .i64 (n : Nat)) (o_mv rfl) ?_
  refine m_idxE tz (j := n) (hL.rd hM0 (i := 1) rfl) rfl rfl (by omega) fun b2 o2 hp2 => ?_
  refine ld (v := (bV (ts.getD n tz))) rfl (hp2) ?_
  refine stp (v := (bV (ts.getD n tz))) (o_mv rfl) ?_
  refine h1 _ _ ?_
  clear h1
  refine seq fun K3 h3 => ?_
  refine seq fun K4 h4 => ?_
  obtain ⟨a0, b0, hp, ⟨hpl, rw, rg, rfl, hw, hcase⟩, hup⟩ := Nst.open tz (i := n) hN hn
  have hq : SlE byteV 5 (bV (ts.getD n tz)) (ts.getD n tz).p rg := by
    rcases hcase with ⟨_, _, _, h⟩ | ⟨h, _⟩
    · exact h
    · rw [hu] at h; cases h
  have hM5 : Mem w (ids (tkR bt vL vW vG rL rW rG NS)) w [[⟨bt, 56, [vL, vW, vG]⟩], rL, rW, rG, b0, rw, rg] := hM0.openP2 (i := 4) rfl hp
  refine stp (v := .int .i64 0) (o_mv rfl) ?_
  refine h4 _ _ ?_
  clear h4
  refine lp (n := fun _ _ => False) (ι := (Nat) × (List UInt8) × (List Ent) × (List Ent)) (fun ⟨i, q, rw, rg⟩ f w' => f 5 = .int .i64 (i : Nat) ∧ f 4 = (bV (ts.getD n tz)) ∧ f 0 = .pointer (some ⟨bt, 0, none⟩) ∧ f 1 = .int .i64 (n : Nat) ∧ Mem w (ids (tkR bt vL vW vG rL rW rG NS)) w' [[⟨bt, 56, [vL, vW, vG]⟩], rL, rW, rG, b0, rw, rg] ∧ (i ≤ q.length) ∧ (SlE byteV 5 (bV (ts.getD n tz)) q rg) ∧ (SlE byteV 5 (wV (ts.getD n tz)) q rw) ∧ (q.length = (ts.getD n tz).p.length)) (fun ⟨i, q, rw, rg⟩ => q.length - i) (0, (ts.getD n tz).p, rw, rg) ?_ ?_
  · exact ⟨by first | rfl | exact v_int (by omega) | exact v_int (by simp) | exact v_int (by simp; omega), rfl, rfl, by first | rfl | exact v_int (by omega) | exact v_int (by simp) | exact v_int (by simp; omega), hM5, by omega, hq, hw, rfl⟩
  · rintro ⟨i, q, rw, rg⟩ f w6 ⟨e6_5, e6_4, e6_0, e6_1, hM6, hi, hq, hw, hql⟩ K7 h7
    obtain ⟨frm, rfl⟩ : ∃ frm, f = (upd (upd (upd (upd frm 5 (.int .i64 (i : Nat))) 4 ((bV (ts.getD n tz)))) 0 (.pointer (some ⟨bt, 0, none⟩))) 1 (.int .i64 (n : Nat))) := ⟨f, by rw [upd_self e6_5, upd_self e6_4, upd_self e6_0, upd_self e6_1]⟩
    clear e6_5 e6_4 e6_0 e6_1
    refine seq fun K8 h8 => ?_
    refine seq fun K9 h9 => ?_
    refine stp (v := .int .i64 (i : Nat)) (o_mv rfl) ?_
    refine stp (v := (bV (ts.getD n tz))) (o_mv rfl) ?_
    refine stp (v := .int .i64 (q.length : Nat)) (o_lenR (hq.rd hM6 (i := 6) rfl) rfl rfl) ?_
    refine stp (v := .bool (decide (((i : Nat) : Int) < (q.length : Nat)))) (o_bin rfl rfl rfl) ?_
    refine h9 _ _ ?_
    clear h9
    refine cndP rfl (fun c10 => ?_) (fun c10 => ?_)
    ·
      refine h8 _ _ ?_
      clear h8
      refine seq fun K11 h11 => ?_
      refine seq fun K12 h12 => ?_
      refine stp (v := (bV (ts.getD n tz))) (o_mv rfl) ?_
      refine stp (v := .int .i64 (i : Nat)) (o_mv rfl) ?_
      refine stp (v := .int .i64 (n : Nat)) (o_mv rfl) ?_
      refine stp (v := .int .i64 ((n : Nat) % 199)) (o_rem rfl rfl (by omega) (v_rem (by omega))) ?_
      refine stp (v := byteV (m19 n)) (o_conv rfl (v_m19 n)) ?_
      refine m_set (E := byteV) (q := (m19 n)) (j := i) hM6 (i := 6) rfl hq rfl rfl (by omega) (by simp) (rfl) fun w13 r13 u13 he13 hs13 (hM13 : Mem w (ids (tkR bt vL vW vG rL rW rG NS)) w13 [[⟨bt, 56, [vL, vW, vG]⟩], rL, rW, rG, b0, rw, r13]) => ?_
      refine h12 _ _ ?_
      clear h12
      refine stp (v := .pointer (some ⟨bt, 0, none⟩)) (o_mv rfl) ?_
      refine stp (v := .pointer (some ⟨bt, 0, none⟩)) (o_nilchk rfl rfl) ?_
      refine stp (v := .pointer (some ⟨bt, 1, none⟩)) (o_fa rfl rfl) ?_
      refine m_ld (v := vW) hM13 (i := 0) (j := 0) rfl rfl rfl rfl ?_
      refine stp (v := .int .i64 (n : Nat)) (o_mv rfl) ?_
      refine m_idxE tz (j := n) (hW.rd hM13 (i := 2) rfl) rfl rfl (by omega) fun b14 o14 hp14 => ?_
      refine ld (v := (wV (ts.getD n tz))) rfl (hp14) ?_
      refine stp (v := .int .i64 (i : Nat)) (o_mv rfl) ?_
      refine stp (v := .int .i64 (n : Nat)) (o_mv rfl) ?_
      refine stp (v := .int .i64 ((n : Nat) % 199)) (o_rem rfl rfl (by omega) (v_rem (by omega))) ?_
      refine stp (v := byteV (m19 n)) (o_conv rfl (v_m19 n)) ?_
      refine m_set (E := byteV) (q := (m19 n)) (j := i) hM13 (i := 5) rfl hw rfl rfl (by omega) (by simp) (rfl) fun w15 r15 u15 he15 hs15 (hM15 : Mem w (ids (tkR bt vL vW vG rL rW rG NS)) w15 [[⟨bt, 56, [vL, vW, vG]⟩], rL, rW, rG, b0, r15, r13]) => ?_
      refine h11 _ _ ?_
      clear h11
      refine stp (v := .int .i64 (i : Nat)) (o_mv rfl) ?_
      refine stp (v := .int .i64 ((i : Nat) + 1)) (o_bin rfl rfl (v_add64 (by constructor <;> omega))) ?_
      refine stp (v := .int .i64 ((i : Nat) + 1)) (o_mv rfl) ?_
      refine h7 (i + 1, q.set i (m19 n), r15, r13) _ _ ⟨by first | rfl | exact v_int (by omega) | exact v_int (by simp) | exact v_int (by simp; omega), rfl, rfl, by first | rfl | exact v_int (by omega) | exact v_int (by simp) | exact v_int (by simp; omega), hM15, by rw [List.length_set]; omega, hs13, hs15, by rw [List.length_set]; exact hql⟩ (by (try dsimp only); rw [List.length_set]; omega)
    ·
      refine h3 _ _ ?_
      clear h3
      refine seq fun K16 h16 => ?_
      refine seq fun K17 h17 => ?_
      have hg := Gr.zero hq
      refine stp (v := .int .i64 0) (o_mv rfl) ?_
      refine h17 _ _ ?_
      clear h17
      refine lp (n := fun _ _ => False) (ι := (Nat) × (Value) × (List Ent)) (fun ⟨k, x, rg⟩ f w' => f 6 = .int .i64 (k : Nat) ∧ f 4 = x ∧ f 0 = .pointer (some ⟨bt, 0, none⟩) ∧ f 1 = .int .i64 (n : Nat) ∧ Mem w (ids (tkR bt vL vW vG rL rW rG NS)) w' [[⟨bt, 56, [vL, vW, vG]⟩], rL, rW, rG, b0, rw, rg] ∧ (k ≤ 64) ∧ (Gr byteV 5 (bV (ts.getD n tz)) x q (List.replicate k (m55 n)) rg)) (fun ⟨k, x, rg⟩ => 64 - k) (0, ((bV (ts.getD n tz))), rg) ?_ ?_
      · exact ⟨by first | rfl | exact v_int (by omega) | exact v_int (by simp) | exact v_int (by simp; omega), rfl, rfl, by first | rfl | exact v_int (by omega) | exact v_int (by simp) | exact v_int (by simp; omega), hM6, by omega, hg⟩
      · rintro ⟨k, x, rg⟩ f w18 ⟨e18_6, e18_4, e18_0, e18_1, hM18, hk, hg⟩ K19 h19
        obtain ⟨frm, rfl⟩ : ∃ frm, f = (upd (upd (upd (upd frm 6 (.int .i64 (k : Nat))) 4 (x)) 0 (.pointer (some ⟨bt, 0, none⟩))) 1 (.int .i64 (n : Nat))) := ⟨f, by rw [upd_self e18_6, upd_self e18_4, upd_self e18_0, upd_self e18_1]⟩
        clear e18_6 e18_4 e18_0 e18_1
        refine seq fun K20 h20 => ?_
        refine seq fun K21 h21 => ?_
        refine stp (v := .int .i64 (k : Nat)) (o_mv rfl) ?_
        refine stp (v := .bool (decide (((k : Nat) : Int) < 64))) (o_bin rfl rfl rfl) ?_
        refine h21 _ _ ?_
        clear h21
        refine cndP rfl (fun c22 => ?_) (fun c22 => ?_)
        ·
          refine h20 _ _ ?_
          clear h20
          refine seq fun K23 h23 => ?_
          refine stp (v := x) (o_mv rfl) ?_
          refine stp (v := .int .i64 (n : Nat)) (o_mv rfl) ?_
          refine stp (v := .int .i64 ((n : Nat) % 55)) (o_rem rfl rfl (by omega) (v_rem (by omega))) ?_
          refine stp (v := .int .i64 (200 + ((n : Nat) % 55))) (o_bin rfl rfl (v_add64 (by constructor <;> omega))) ?_
          refine stp (v := byteV (m55 n)) (o_conv rfl (v_m55 n)) ?_
          refine m_grow1 (E := byteV) (q := (m55 n)) hM18 (i := 6) rfl hg rfl (by simp) (rfl) (by rw [List.length_replicate]; omega) (by omega) fun v24 w24 r24 u24 hs24 (hM24 : Mem w (ids (tkR bt vL vW vG rL rW rG NS)) w24 [[⟨bt, 56, [vL, vW, vG]⟩], rL, rW, rG, b0, rw, r24]) => ?_
          refine stp (v := v24) (o_mv rfl) ?_
          refine h23 _ _ ?_
          clear h23
          refine stp (v := .int .i64 (k : Nat)) (o_mv rfl) ?_
          refine stp (v := .int .i64 ((k : Nat) + 1)) (o_bin rfl rfl (v_add64 (by constructor <;> omega))) ?_
          refine stp (v := .int .i64 ((k : Nat) + 1)) (o_mv rfl) ?_
          refine h19 (k + 1, v24, r24) _ _ ⟨by first | rfl | exact v_int (by omega) | exact v_int (by simp) | exact v_int (by simp; omega), rfl, rfl, by first | rfl | exact v_int (by omega) | exact v_int (by simp) | exact v_int (by simp; omega), hM24, by omega, by rw [List.replicate_succ']; exact hs24⟩ (by (try dsimp only); omega)
        ·
          refine h16 _ _ ?_
          clear h16
          obtain rfl : k = 64 := by omega
          obtain ⟨ga, gc, rfl⟩ := hg.slice
          refine stp (v := .pointer (some ⟨bt, 0, none⟩)) (o_mv rfl) ?_
          refine stp (v := .pointer (some ⟨bt, 0, none⟩)) (o_nilchk rfl rfl) ?_
          refine stp (v := .pointer (some ⟨bt, 2, none⟩)) (o_fa rfl rfl) ?_
          refine m_ld (v := vG) hM18 (i := 0) (j := 0) rfl rfl rfl rfl ?_
          refine stp (v := .int .i64 (n : Nat)) (o_mv rfl) ?_
          refine stp (v := (.slice ga (q ++ List.replicate 64 (m55 n)).length gc)) (o_mv rfl) ?_
          refine m_set (E := gV) (q := (⟨(ts.getD n tz).ba, (ts.getD n tz).bn, (ts.getD n tz).bc, (ts.getD n tz).wa, (ts.getD n tz).wn, (ts.getD n tz).wc, ga, (q ++ List.replicate 64 (m55 n)).length, gc, q, q ++ List.replicate 64 (m55 n), true⟩ : Tn)) (j := n) hM18 (i := 3) rfl hG rfl rfl (by omega) (by simp) (rfl) fun w25 r25 u25 he25 hs25 (hM25 : Mem w (ids (tkR bt vL vW vG rL rW rG NS)) w25 [[⟨bt, 56, [vL, vW, vG]⟩], rL, rW, r25, b0, rw, rg]) => ?_
          refine ⟨(.tuple [].toArray), rfl, ?_⟩
          exact ⟨(⟨(ts.getD n tz).ba, (ts.getD n tz).bn, (ts.getD n tz).bc, (ts.getD n tz).wa, (ts.getD n tz).wn, (ts.getD n tz).wc, ga, (q ++ List.replicate 64 (m55 n)).length, gc, q, q ++ List.replicate 64 (m55 n), true⟩ : Tn), _, _, rfl, rfl, slE_same tz hL rfl, slE_same tz hW rfl, hs25, hup _ _ ⟨by show q.length ≤ _; omega, rw, rg, rfl, hw, .inr ⟨rfl, _, rfl, hg⟩⟩, (Mem.shut5 hM25).keep (by simp [tkR])⟩
