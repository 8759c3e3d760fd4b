/- Lists that were told: written full, grown, looked at again. -/
import Derived.Test.YtnkilhmkegmenaaF6
import Derived.Test.YtnkilhmkegmenaaE22
import Derived.Test.YtnkilhmkegmenaaE24
import Derived.Test.YtnkilhmkegmenaaE25
namespace Go.Proofs.Ytnkilhmkegmenaa.E
open Go
def mkF (m : Int) : Flt := ⟨m, 0, 0, 0, 0, 0, 0, 0⟩
/-- a list that was told, and its mark -/
structure Td where
  a : Option Addr
  n : Nat
  c : Nat
  m : Int
  l : List Flt
abbrev Td.v (t : Td) : Value := .slice t.a t.n t.c
def tdC (t : Td) : List Value := [.slice t.a t.n t.c, .int .i64 t.m]
instance : Enc tdC 2 := ⟨fun _ => rfl, by omega, fun c => by intro v hv; simp only [tdC, List.mem_cons, List.not_mem_nil, or_false] at hv; rcases hv with rfl | rfl <;> rfl⟩
def tdz : Td := ⟨none, 0, 0, 0, []⟩
def TdQ (t : Td) (r : List Ent) : Prop := SlS fltC 8 25 t.v t.l r ∧ t.l.length ≤ 2199023255552 ∧ ∀ k, k < t.l.length → t.l.getD k fz = mkF t.m
theorem TdN.rd {ts : List Td} {NS : List Ent} {w : World} {i : Nat} (h : Nst TdQ ts NS) (ho : ∀ e ∈ NS, Own w e) (hi : i < ts.length) : RdS fltC w (ts.getD i tdz).v (ts.getD i tdz).l ∧ (ts.getD i tdz).l.length ≤ 2199023255552 ∧ ∀ k, k < (ts.getD i tdz).l.length → (ts.getD i tdz).l.getD k fz = mkF (ts.getD i tdz).m := by
  obtain ⟨a, h1, h2⟩ := h.get _ (getD_memG tdz hi)
  exact ⟨Sl.rdOwn h2.1 fun e he => ho e (h1 e he), h2.2⟩
theorem getG_set {α : Type} {z : α} {qs : List α} {i : Nat} {q : α} (h : i < qs.length) : (qs.set i q).getD i z = q := by
  rw [List.getD_eq_getElem?_getD, List.getElem?_set_self h]; rfl
theorem getG_ne {α : Type} {z : α} {qs : List α} {i m : Nat} {q : α} (h : ¬ m = i) : (qs.set i q).getD m z = qs.getD m z := by
  rw [List.getD_eq_getElem?_getD, List.getElem?_set_ne (fun e => h e.symm), ← List.getD_eq_getElem?_getD]
theorem Mem.shut2 {w0 w : World} {S : List Nat} {x b a : List Ent} (h : Mem w0 S w [x, b, a]) : Mem w0 S w [x, a ++ b] := Mem.shutP (R := [x, b]) (i := 1) h rfl

/-- winnowlaw16.spoil -/
theorem spoilK_ok (x : Value) (l : List Flt) (m : Int) (hm : -9223372036854775807 ≤ m ∧ m ≤ 9223372036854775807) (r0 : List Ent) (w : World) (hs0 : SlS fltC 8 25 x l r0) (hr : Res w r0) (hl : l.length ≤ 2199023255552) : Calls Try.prog 25 [x, .int .i64 m].toArray w (Rt fun r w' => ∃ l' r', SlS fltC 8 25 x l' r' ∧ l'.length = l.length ∧ (∀ k, k < l'.length → l'.getD k fz = mkF m) ∧ Mem w (ids r0) w' [r']) := by
  have hM0 : Mem w (ids r0) w [r0] := Mem.start hr
  refine calls_vc mixed Try.func25 rfl C25 (by simp [Try.ntmps25]) ?_
  refine seq fun K1 h1 => ?_
  refine stp (v := .int .i64 0) (o_mv rfl) ?_
  refine h1 _ _ ?_
  clear h1
  refine seq fun K2 h2 => ?_
  refine seq fun K3 h3 => ?_
  refine stp (v := .int .i64 0) (o_mv rfl) ?_
  refine h3 _ _ ?_
  clear h3
  refine lp (n := fun _ _ => False) (ι := (Nat) × (List Flt) × (List Ent)) (fun ⟨i, l2, r0_⟩ f w' => f 5 = .int .i64 (i : Nat) ∧ f 0 = x ∧ f 1 = .int .i64 m ∧ Mem w (ids r0) w' [r0_] ∧ (i ≤ l2.length ∧ l2.length = l.length) ∧ (∀ k, k < i → l2.getD k fz = mkF m) ∧ (SlS fltC 8 25 x (l2) r0_)) (fun ⟨i, l2, r0_⟩ => l2.length - i) (0, l, r0) ?_ ?_
  · exact ⟨by first | rfl | exact v_int (by omega) | exact v_int (by simp) | exact v_int (by simp; omega), rfl, by first | rfl | exact v_int (by omega) | exact v_int (by simp) | exact v_int (by simp; omega), hM0, by omega, fun k hk => by omega, by first | exact hs0 | simpa using hs0⟩
  · rintro ⟨i, l2, r0_⟩ f w4 ⟨e4_5, e4_0, e4_1, hM4, hi, hd, hy0_⟩ K5 h5
    obtain ⟨frm, rfl⟩ : ∃ frm, f = (upd (upd (upd frm 5 (.int .i64 (i : Nat))) 0 (x)) 1 (.int .i64 m)) := ⟨f, by rw [upd_self e4_5, upd_self e4_0, upd_self e4_1]⟩
    clear e4_5 e4_0 e4_1
    refine seq fun K6 h6 => ?_
    refine seq fun K7 h7 => ?_
    refine stp (v := .int .i64 (i : Nat)) (o_mv rfl) ?_
    refine stp (v := x) (o_mv rfl) ?_
    refine stp (v := .int .i64 (l2.length : Nat)) (o_lenR (hy0_.rd hM4 (i := 0) rfl) rfl rfl) ?_
    refine stp (v := .bool (decide (((i : Nat) : Int) < (l2.length : Nat)))) (o_bin rfl rfl rfl) ?_
    refine h7 _ _ ?_
    clear h7
    refine cndP rfl (fun c8 => ?_) (fun c8 => ?_)
    ·
      refine h6 _ _ ?_
      clear h6
      refine seq fun K9 h9 => ?_
      refine stp (v := x) (o_mv rfl) ?_
      refine stp (v := .int .i64 (i : Nat)) (o_mv rfl) ?_
      refine stp (v := .int .i64 m) (o_mv rfl) ?_
      refine stp (v := .agg ([.int .i64 m, .int .i64 0, .int .i64 0, .int .i64 0, .int .i64 0, .int .i64 0, .int .i64 0, .int .u32 0] : List Value).toArray) (o_bld rfl rfl) ?_
      refine m_setS (enc := fltC) fz (q := (mkF m)) (j := i) hM4 (i := 0) rfl hy0_ rfl rfl (by omega) (by simp) (rfl) fun w10 r10 u10 he10 hs10 (hM10 : Mem w (ids r0) w10 [r10]) => ?_
      refine h9 _ _ ?_
      clear h9
      refine stp (v := .int .i64 (i : Nat)) (o_mv rfl) ?_
      refine stp (v := .int .i64 ((i : Nat) + 1)) (o_bin rfl rfl (v_add64 (by constructor <;> omega))) ?_
      refine stp (v := .int .i64 ((i : Nat) + 1)) (o_mv rfl) ?_
      refine h5 (i + 1, l2.set i (mkF m), r10) _ _ ⟨by first | rfl | exact v_int (by omega) | exact v_int (by simp) | exact v_int (by simp; omega), rfl, by first | rfl | exact v_int (by omega) | exact v_int (by simp) | exact v_int (by simp; omega), hM10, by rw [List.length_set]; omega, fun k hk => by
        by_cases e : k = i
        · subst e; rw [getG_set (by omega)]
        · rw [getG_ne e]; exact hd k (by omega), by first | exact hs10 | simpa using hs10⟩ (by (try dsimp only); rw [List.length_set]; omega)
    ·
      refine h2 _ _ ?_
      clear h2
      refine seq fun K11 h11 => ?_
      refine seq fun K12 h12 => ?_
      have hgz := GrS.zero hy0_
      refine stp (v := .int .i64 0) (o_mv rfl) ?_
      refine h12 _ _ ?_
      clear h12
      refine lp (n := fun _ _ => False) (ι := (Nat) × (Value) × (List Ent)) (fun ⟨k, y, rg⟩ f w' => f 6 = .int .i64 (k : Nat) ∧ f 0 = y ∧ f 1 = .int .i64 m ∧ Mem w (ids r0) w' [rg] ∧ (k ≤ 64) ∧ (GrS fltC 8 25 x y l2 (List.replicate k (mkF (0 - m))) rg)) (fun ⟨k, y, rg⟩ => 64 - k) (0, x, r0_) ?_ ?_
      · exact ⟨by first | rfl | exact v_int (by omega) | exact v_int (by simp) | exact v_int (by simp; omega), rfl, by first | rfl | exact v_int (by omega) | exact v_int (by simp) | exact v_int (by simp; omega), hM4, by omega, hgz⟩
      · rintro ⟨k, y, rg⟩ f w13 ⟨e13_6, e13_0, e13_1, hM13, hk, hg⟩ K14 h14
        obtain ⟨frm, rfl⟩ : ∃ frm, f = (upd (upd (upd frm 6 (.int .i64 (k : Nat))) 0 (y)) 1 (.int .i64 m)) := ⟨f, by rw [upd_self e13_6, upd_self e13_0, upd_self e13_1]⟩
        clear e13_6 e13_0 e13_1
        refine seq fun K15 h15 => ?_
        refine seq fun K16 h16 => ?_
        refine stp (v := .int .i64 (k : Nat)) (o_mv rfl) ?_
        refine stp (v := .bool (decide (((k : Nat) : Int) < 64))) (o_bin rfl rfl rfl) ?_
        refine h16 _ _ ?_
        clear h16
        refine cndP rfl (fun c17 => ?_) (fun c17 => ?_)
        ·
          refine h15 _ _ ?_
          clear h15
          refine seq fun K18 h18 => ?_
          refine stp (v := y) (o_mv rfl) ?_
          refine stp (v := .int .i64 m) (o_mv rfl) ?_
          refine stp (v := .int .i64 (0 - m)) (o_neg rfl (v_same (by simp only [inK]; omega))) ?_
          refine stp (v := .agg ([.int .i64 (0 - m), .int .i64 0, .int .i64 0, .int .i64 0, .int .i64 0, .int .i64 0, .int .i64 0, .int .u32 0] : List Value).toArray) (o_bld rfl rfl) ?_
          refine m_gr1S (enc := fltC) (q := (mkF (0 - m))) hM13 (i := 0) rfl hg rfl (by simp) (rfl) rfl (by rw [List.length_replicate]; omega) (by omega) fun v19 w19 r19 u19 hs19 (hM19 : Mem w (ids r0) w19 [r19]) => ?_
          refine stp (v := v19) (o_mv rfl) ?_
          refine h18 _ _ ?_
          clear h18
          refine stp (v := .int .i64 (k : Nat)) (o_mv rfl) ?_
          refine stp (v := .int .i64 ((k : Nat) + 1)) (o_bin rfl rfl (v_add64 (by constructor <;> omega))) ?_
          refine stp (v := .int .i64 ((k : Nat) + 1)) (o_mv rfl) ?_
          refine h14 (k + 1, v19, r19) _ _ ⟨by first | rfl | exact v_int (by omega) | exact v_int (by simp) | exact v_int (by simp; omega), rfl, by first | rfl | exact v_int (by omega) | exact v_int (by simp) | exact v_int (by simp; omega), hM19, by omega, by rw [List.replicate_succ']; exact hs19⟩ (by (try dsimp only); omega)
        ·
          refine h11 _ _ ?_
          clear h11
          refine seq fun K20 h20 => ?_
          obtain ⟨ad, c9, rfl⟩ := hg.slice
          refine stp (v := .slice ad ((l2 ++ List.replicate k (mkF (0 - m))).length) c9) (o_mv rfl) ?_
          refine stp (v := .int .i64 ((l2 ++ List.replicate k (mkF (0 - m))).length : Nat)) (o_len rfl rfl) ?_
          refine stp (v := .int .i64 ((l2 ++ List.replicate k (mkF (0 - m))).length : Nat)) (o_mv rfl) ?_
          refine h20 _ _ ?_
          clear h20
          refine ⟨(.int .i64 ((l2 ++ List.replicate k (mkF (0 - m))).length : Nat)), rfl, ?_⟩
          obtain ⟨ra, h1, h2⟩ := hg.base
          exact ⟨l2, ra, h2, by omega, fun k hk => hd k (by omega), hM13.keep (by simpa using h1)⟩

/-- winnowlaw16.spoil -/
theorem spoilT_ok (a x : Value) (p : List Flt) (m : Int) (hm : -9223372036854775807 ≤ m ∧ m ≤ 9223372036854775807) (r0 : List Ent) (w : World) (hg0 : TlS fltC 8 25 a x p [] r0) (hr : Res w r0) : Calls Try.prog 25 [x, .int .i64 m].toArray w (Rt fun _ w' => ∃ r', SlS fltC 8 25 a p r' ∧ Mem w (ids r0) w' [r']) := by
  obtain ⟨ad0, c0, hx0⟩ := hg0.slice
  have hx1 : x = .slice ad0 0 c0 := hx0
  subst hx1
  have hM0 : Mem w (ids r0) w [r0] := Mem.start hr
  refine calls_vc mixed Try.func25 rfl C25 (by simp [Try.ntmps25]) ?_
  refine seq fun K1 h1 => ?_
  refine stp (v := .int .i64 0) (o_mv rfl) ?_
  refine h1 _ _ ?_
  clear h1
  refine seq fun K2 h2 => ?_
  refine seq fun K3 h3 => ?_
  refine stp (v := .int .i64 0) (o_mv rfl) ?_
  refine h3 _ _ ?_
  clear h3
  refine lp (n := fun _ _ => False) (ι := (Nat)) (fun i f w' => f 5 = .int .i64 (i : Nat) ∧ f 0 = .slice ad0 0 c0 ∧ f 1 = .int .i64 m ∧ Mem w (ids r0) w' [r0] ∧ (i ≤ 0)) (fun i => 0 - i) (0) ?_ ?_
  · exact ⟨by first | rfl | exact v_int (by omega) | exact v_int (by simp) | exact v_int (by simp; omega), rfl, by first | rfl | exact v_int (by omega) | exact v_int (by simp) | exact v_int (by simp; omega), hM0, by omega⟩
  · rintro i f w4 ⟨e4_5, e4_0, e4_1, hM4, hi⟩ K5 h5
    obtain ⟨frm, rfl⟩ : ∃ frm, f = (upd (upd (upd frm 5 (.int .i64 (i : Nat))) 0 (.slice ad0 0 c0)) 1 (.int .i64 m)) := ⟨f, by rw [upd_self e4_5, upd_self e4_0, upd_self e4_1]⟩
    clear e4_5 e4_0 e4_1
    refine seq fun K6 h6 => ?_
    refine seq fun K7 h7 => ?_
    refine stp (v := .int .i64 (i : Nat)) (o_mv rfl) ?_
    refine stp (v := .slice ad0 0 c0) (o_mv rfl) ?_
    refine stp (v := .int .i64 0) (o_len rfl rfl) ?_
    refine stp (v := .bool (decide (((i : Nat) : Int) < 0))) (o_bin rfl rfl rfl) ?_
    refine h7 _ _ ?_
    clear h7
    refine cndP rfl (fun c8 => absurd c8 (by omega)) (fun c8 => ?_)
    refine h2 _ _ ?_
    clear h2
    refine seq fun K9 h9 => ?_
    refine seq fun K10 h10 => ?_
    refine stp (v := .int .i64 0) (o_mv rfl) ?_
    refine h10 _ _ ?_
    clear h10
    refine lp (n := fun _ _ => False) (ι := (Nat) × (Value) × (List Ent)) (fun ⟨k, y, rg⟩ f w' => f 6 = .int .i64 (k : Nat) ∧ f 0 = y ∧ f 1 = .int .i64 m ∧ Mem w (ids r0) w' [rg] ∧ (k ≤ 64) ∧ (TlS fltC 8 25 a y p (List.replicate k (mkF (0 - m))) rg)) (fun ⟨k, y, rg⟩ => 64 - k) (0, (.slice ad0 0 c0), r0) ?_ ?_
    · exact ⟨by first | rfl | exact v_int (by omega) | exact v_int (by simp) | exact v_int (by simp; omega), rfl, by first | rfl | exact v_int (by omega) | exact v_int (by simp) | exact v_int (by simp; omega), hM4, by omega, hg0⟩
    · rintro ⟨k, y, rg⟩ f w11 ⟨e11_6, e11_0, e11_1, hM11, hk, hg⟩ K12 h12
      obtain ⟨frm, rfl⟩ : ∃ frm, f = (upd (upd (upd frm 6 (.int .i64 (k : Nat))) 0 (y)) 1 (.int .i64 m)) := ⟨f, by rw [upd_self e11_6, upd_self e11_0, upd_self e11_1]⟩
      clear e11_6 e11_0 e11_1
      refine seq fun K13 h13 => ?_
      refine seq fun K14 h14 => ?_
      refine stp (v := .int .i64 (k : Nat)) (o_mv rfl) ?_
      refine stp (v := .bool (decide (((k : Nat) : Int) < 64))) (o_bin rfl rfl rfl) ?_
      refine h14 _ _ ?_
      clear h14
      refine cndP rfl (fun c15 => ?_) (fun c15 => ?_)
      ·
        refine h13 _ _ ?_
        clear h13
        refine seq fun K16 h16 => ?_
        refine stp (v := y) (o_mv rfl) ?_
        refine stp (v := .int .i64 m) (o_mv rfl) ?_
        refine stp (v := .int .i64 (0 - m)) (o_neg rfl (v_same (by simp only [inK]; omega))) ?_
        refine stp (v := .agg ([.int .i64 (0 - m), .int .i64 0, .int .i64 0, .int .i64 0, .int .i64 0, .int .i64 0, .int .i64 0, .int .u32 0] : List Value).toArray) (o_bld rfl rfl) ?_
        refine m_tl1S (enc := fltC) (q := (mkF (0 - m))) hM11 (i := 0) rfl hg rfl (by simp) (rfl) rfl (by rw [List.length_replicate]; omega) (by omega) fun v17 w17 r17 u17 hs17 (hM17 : Mem w (ids r0) w17 [r17]) => ?_
        refine stp (v := v17) (o_mv rfl) ?_
        refine h16 _ _ ?_
        clear h16
        refine stp (v := .int .i64 (k : Nat)) (o_mv rfl) ?_
        refine stp (v := .int .i64 ((k : Nat) + 1)) (o_bin rfl rfl (v_add64 (by constructor <;> omega))) ?_
        refine stp (v := .int .i64 ((k : Nat) + 1)) (o_mv rfl) ?_
        refine h12 (k + 1, v17, r17) _ _ ⟨by first | rfl | exact v_int (by omega) | exact v_int (by simp) | exact v_int (by simp; omega), rfl, by first | rfl | exact v_int (by omega) | exact v_int (by simp) | exact v_int (by simp; omega), hM17, by omega, by rw [List.replicate_succ']; exact hs17⟩ (by (try dsimp only); omega)
      ·
        refine h9 _ _ ?_
        clear h9
        refine seq fun K18 h18 => ?_
        obtain ⟨ad, c9, rfl⟩ := hg.slice
        refine stp (v := .slice ad ((List.replicate k (mkF (0 - m))).length) c9) (o_mv rfl) ?_
        refine stp (v := .int .i64 ((List.replicate k (mkF (0 - m))).length : Nat)) (o_len rfl rfl) ?_
        refine stp (v := .int .i64 ((List.replicate k (mkF (0 - m))).length : Nat)) (o_mv rfl) ?_
        refine h18 _ _ ?_
        clear h18
        refine ⟨(.int .i64 ((List.replicate k (mkF (0 - m))).length : Nat)), rfl, ?_⟩
        obtain ⟨ra, h1, h2⟩ := hg.base
        exact ⟨ra, h2, hM11.keep (by simpa using h1)⟩

/-- winnowlaw16.whole -/
theorem whole_ok (v : Value) (ts : List Td) (rs N0 : List Ent) (w : World) (hs : SlS tdC 2 52 v ts rs) (hN0 : Nst TdQ ts N0) (hr : Res w (rs ++ N0)) (htl : ts.length ≤ 4398046511104) : Calls Try.prog 27 [v].toArray w (Rt fun r w' => r = .bool true ∧ Mem w (ids (rs ++ N0)) w' []) := by
  have hM0 : Mem w (ids (rs ++ N0)) w [rs, N0] := (Mem.start hr).keep (by simp)
  have hN := hN0
  refine calls_vc mixed Try.func27 rfl C27 (by simp [Try.ntmps27]) ?_
  refine seq fun K1 h1 => ?_
  refine stp (v := .bool false) (o_mv rfl) ?_
  refine h1 _ _ ?_
  clear h1
  refine seq fun K2 h2 => ?_
  refine seq fun K3 h3 => ?_
  refine stp (v := .int .i64 0) (o_mv rfl) ?_
  refine h3 _ _ ?_
  clear h3
  refine lp (n := fun _ _ => False) (ι := (Nat) × (List Ent)) (fun ⟨i, NS⟩ f w' => f 3 = .int .i64 (i : Nat) ∧ f 0 = v ∧ Mem w (ids (rs ++ N0)) w' [rs, NS] ∧ (i ≤ ts.length) ∧ (Nst TdQ ts NS)) (fun ⟨i, NS⟩ => ts.length - i) (0, N0) ?_ ?_
  · exact ⟨by first | rfl | exact v_int (by omega) | exact v_int (by simp) | exact v_int (by simp; omega), rfl, hM0, by omega, hN⟩
  · rintro ⟨i, NS⟩ f w4 ⟨e4_3, e4_0, hM4, hi, hN⟩ K5 h5
    obtain ⟨frm, rfl⟩ : ∃ frm, f = (upd (upd frm 3 (.int .i64 (i : Nat))) 0 (v)) := ⟨f, by rw [upd_self e4_3, upd_self e4_0]⟩
    clear e4_3 e4_0
    refine seq fun K6 h6 => ?_
    refine seq fun K7 h7 => ?_
    refine stp (v := .int .i64 (i : Nat)) (o_mv rfl) ?_
    refine stp (v := v) (o_mv rfl) ?_
    refine stp (v := .int .i64 (ts.length : Nat)) (o_lenR (hs.rd hM4 (i := 0) rfl) rfl rfl) ?_
    refine stp (v := .bool (decide (((i : Nat) : Int) < (ts.length : Nat)))) (o_bin rfl rfl rfl) ?_
    refine h7 _ _ ?_
    clear h7
    refine cndP rfl (fun c8 => ?_) (fun c8 => ?_)
    ·
      refine h6 _ _ ?_
      clear h6
      refine seq fun K9 h9 => ?_
      intro wd e1 e2 e3 e4
      have hd := Upd.same e1 e2 e3 e4 []
      have hM10 := hM4.pure hd
      clear e1 e2 e3 e4
      refine ⟨(some [(blkV v)]), ?_⟩
      show vd _ _ _ _ _ _ _
      refine dq (v := v) (o_mv rfl) ?_
      refine dq (v := .int .i64 (i : Nat)) (o_mv rfl) ?_
      refine dqp (m_idxS3 tdz (j := i) (hs.rd hM10 (i := 0) rfl) (hs.rd hM10 (i := 0) rfl) rfl rfl (by omega) fun b11 o11 hp11 hbb11 => ?_)
      show vd _ _ _ _ _ _ _
      subst hbb11
      refine dq (v := .pointer (some ⟨(blkV v), o11, none⟩)) (o_fa rfl rfl) ?_
      refine dq (v := v) (o_mv rfl) ?_
      refine dq (v := .int .i64 (i : Nat)) (o_mv rfl) ?_
      refine dqp (m_idxS3 tdz (j := i) (hs.rd hM10 (i := 0) rfl) (hs.rd hM10 (i := 0) rfl) rfl rfl (by omega) fun b12 o12 hp12 hbb12 => ?_)
      show vd _ _ _ _ _ _ _
      subst hbb12
      refine dq (v := .pointer (some ⟨(blkV v), o12, none⟩)) (o_fa rfl rfl) ?_
      refine dqld rfl (by simp [isHeld]) (v := (ts.getD i tdz).v) (hp12.get 0 rfl) ?_
      refine dq (v := .int .i64 (((ts.getD i tdz).l).length : Nat)) (o_lenR ((TdN.rd hN (hM10.res (i := 1) rfl).1 (by omega)).1) rfl rfl) ?_
      refine dl (ld (v := (ts.getD i tdz).v) rfl (hp11.get 0 rfl) ?_)
      refine ⟨(fun b hb => rfl), ?_⟩
      obtain ⟨a0, b0, hp, hP, hup⟩ := Nst.open tdz (i := i) hN (by omega)
      have hM13 : Mem w (ids (rs ++ N0)) wd [rs, b0, a0] := hM10.openP (i := 1) rfl hp
      refine dqp (m_slcTl hP.1 rfl rfl fun x23 hx23 => ?_)
      show vd _ _ _ _ _ _ _
      refine dl (m_call (spoilT_ok ((ts.getD i tdz).v) _ ((ts.getD i tdz).l) 5 (by omega) a0 wd hx23 (hM13.res (i := 2) rfl)) rfl fun v14 w14 ⟨r'14, hs14, hm14⟩ => ?_)
      have hM14 : Mem w (ids (rs ++ N0)) w14 [rs, b0, r'14] := hM13.step 2 rfl hm14
      have hsn := hs14
      have hh14 := held_upd (wr := wd) (bs := [(blkV v)]) hm14.upd (fun b hb => by
        simp only [List.mem_cons, List.not_mem_nil, or_false] at hb
        rw [hb]; exact ⟨Rd.blkV_ltS (hs.rd hM13 (i := 0) rfl) (by omega), hs.blk_apart hM13 (i := 0) (k := 2) rfl rfl (by decide) (by omega)⟩) (fun b hb => rfl)
      refine ⟨hh14, ?_⟩
      refine h9 _ _ ?_
      clear h9
      refine stp (v := .int .i64 (i : Nat)) (o_mv rfl) ?_
      refine stp (v := .int .i64 ((i : Nat) + 1)) (o_bin rfl rfl (v_add64 (by constructor <;> omega))) ?_
      refine stp (v := .int .i64 ((i : Nat) + 1)) (o_mv rfl) ?_
      refine h5 (i + 1, r'14 ++ b0) _ _ ⟨by first | rfl | exact v_int (by omega) | exact v_int (by simp) | exact v_int (by simp; omega), rfl, hM14.shut2, by omega, by
        have h9 := hup (ts.getD i tdz) _ ⟨hsn, hP.2⟩
        rw [set_get_self tdz (by omega)] at h9
        exact h9⟩ (by (try dsimp only); omega)
    ·
      refine h2 _ _ ?_
      clear h2
      refine seq fun K15 h15 => ?_
      refine seq fun K16 h16 => ?_
      refine stp (v := .int .i64 0) (o_mv rfl) ?_
      refine h16 _ _ ?_
      clear h16
      refine lp (n := fun _ _ => False) (ι := (Nat)) (fun i f w' => f 4 = .int .i64 (i : Nat) ∧ f 0 = v ∧ Mem w (ids (rs ++ N0)) w' [rs, NS] ∧ (i ≤ ts.length)) (fun i => ts.length - i) (0) ?_ ?_
      · exact ⟨by first | rfl | exact v_int (by omega) | exact v_int (by simp) | exact v_int (by simp; omega), rfl, hM4, by omega⟩
      · rintro i f w17 ⟨e17_4, e17_0, hM17, hi⟩ K18 h18
        obtain ⟨frm, rfl⟩ : ∃ frm, f = (upd (upd frm 4 (.int .i64 (i : Nat))) 0 (v)) := ⟨f, by rw [upd_self e17_4, upd_self e17_0]⟩
        clear e17_4 e17_0
        refine seq fun K19 h19 => ?_
        refine seq fun K20 h20 => ?_
        refine stp (v := .int .i64 (i : Nat)) (o_mv rfl) ?_
        refine stp (v := v) (o_mv rfl) ?_
        refine stp (v := .int .i64 (ts.length : Nat)) (o_lenR (hs.rd hM17 (i := 0) rfl) rfl rfl) ?_
        refine stp (v := .bool (decide (((i : Nat) : Int) < (ts.length : Nat)))) (o_bin rfl rfl rfl) ?_
        refine h20 _ _ ?_
        clear h20
        refine cndP rfl (fun c21 => ?_) (fun c21 => ?_)
        ·
          refine h19 _ _ ?_
          clear h19
          refine seq fun K22 h22 => ?_
          refine seq fun K23 h23 => ?_
          refine stp (v := .int .i64 0) (o_mv rfl) ?_
          refine h23 _ _ ?_
          clear h23
          refine lp (n := fun _ _ => False) (ι := (Nat)) (fun k f w' => f 5 = .int .i64 (k : Nat) ∧ f 0 = v ∧ f 4 = .int .i64 (i : Nat) ∧ Mem w (ids (rs ++ N0)) w' [rs, NS] ∧ (k ≤ (ts.getD i tdz).l.length)) (fun k => (ts.getD i tdz).l.length - k) (0) ?_ ?_
          · exact ⟨by first | rfl | exact v_int (by omega) | exact v_int (by simp) | exact v_int (by simp; omega), rfl, by first | rfl | exact v_int (by omega) | exact v_int (by simp) | exact v_int (by simp; omega), hM17, by omega⟩
          · rintro k f w24 ⟨e24_5, e24_0, e24_4, hM24, hk⟩ K25 h25
            obtain ⟨frm, rfl⟩ : ∃ frm, f = (upd (upd (upd frm 5 (.int .i64 (k : Nat))) 0 (v)) 4 (.int .i64 (i : Nat))) := ⟨f, by rw [upd_self e24_5, upd_self e24_0, upd_self e24_4]⟩
            clear e24_5 e24_0 e24_4
            refine seq fun K26 h26 => ?_
            refine seq fun K27 h27 => ?_
            have hrd := TdN.rd (i := i) hN (hM24.res (i := 1) rfl).1 (by omega)
            refine stp (v := .int .i64 (k : Nat)) (o_mv rfl) ?_
            refine stp (v := v) (o_mv rfl) ?_
            refine stp (v := .int .i64 (i : Nat)) (o_mv rfl) ?_
            refine m_idxS tdz (j := i) (hs.rd hM24 (i := 0) rfl) rfl rfl (by omega) fun b28 o28 hp28 => ?_
            refine stp (v := .pointer (some ⟨b28, o28, none⟩)) (o_fa rfl rfl) ?_
            refine ld (v := (ts.getD i tdz).v) rfl (hp28.get 0 rfl) ?_
            refine stp (v := .int .i64 (((ts.getD i tdz).l).length : Nat)) (o_lenR ((TdN.rd hN (hM24.res (i := 1) rfl).1 (by omega)).1) rfl rfl) ?_
            refine stp (v := .bool (decide (((k : Nat) : Int) < (((ts.getD i tdz).l).length : Nat)))) (o_bin rfl rfl rfl) ?_
            refine h27 _ _ ?_
            clear h27
            refine cndP rfl (fun c29 => ?_) (fun c29 => ?_)
            ·
              refine h26 _ _ ?_
              clear h26
              refine seq fun K30 h30 => ?_
              refine seq fun K31 h31 => ?_
              intro wd e1 e2 e3 e4
              have hd := Upd.same e1 e2 e3 e4 []
              have hM32 := hM24.pure hd
              clear e1 e2 e3 e4
              refine ⟨none, ?_⟩
              show vd _ _ _ _ _ _ _
              refine dq (v := v) (o_mv rfl) ?_
              refine dq (v := .int .i64 (i : Nat)) (o_mv rfl) ?_
              refine dqp (m_idxS tdz (j := i) (hs.rd hM32 (i := 0) rfl) rfl rfl (by omega) fun b33 o33 hp33 => ?_)
              show vd _ _ _ _ _ _ _
              refine dq (v := .pointer (some ⟨b33, o33, none⟩)) (o_fa rfl rfl) ?_
              refine dq (v := .int .i64 (k : Nat)) (o_mv rfl) ?_
              refine dq (v := v) (o_mv rfl) ?_
              refine dq (v := .int .i64 (i : Nat)) (o_mv rfl) ?_
              refine dqp (m_idxS tdz (j := i) (hs.rd hM32 (i := 0) rfl) rfl rfl (by omega) fun b34 o34 hp34 => ?_)
              show vd _ _ _ _ _ _ _
              refine dq (v := .pointer (some ⟨b34, o34 + 1, none⟩)) (o_fa rfl rfl) ?_
              refine dqld rfl (trivial) (v := .int .i64 ((ts.getD i tdz).m)) (hp34.get 1 rfl) ?_
              refine dq (v := .agg ([.int .i64 ((ts.getD i tdz).m), .int .i64 0, .int .i64 0, .int .i64 0, .int .i64 0, .int .i64 0, .int .i64 0, .int .u32 0] : List Value).toArray) (o_bld rfl rfl) ?_
              refine dl (ld (v := (ts.getD i tdz).v) rfl (hp33.get 0 rfl) ?_)
              refine ⟨rfl, ?_⟩
              refine dqp (m_idxS fz (j := k) ((TdN.rd hN (hM32.res (i := 1) rfl).1 (by omega)).1) rfl rfl (by omega) fun b35 o35 hp35 => ?_)
              show vd _ _ _ _ _ _ _
              refine dl (ldA (cs := [.int .i64 ((((ts.getD i tdz).l).getD k fz).kind), .int .i64 ((((ts.getD i tdz).l).getD k fz).tk), .int .i64 ((((ts.getD i tdz).l).getD k fz).task), .int .i64 ((((ts.getD i tdz).l).getD k fz).att), .int .i64 ((((ts.getD i tdz).l).getD k fz).mom), .int .i64 ((((ts.getD i tdz).l).getD k fz).rd), .int .i64 ((((ts.getD i tdz).l).getD k fz).at_), .int .u32 ((((ts.getD i tdz).l).getD k fz).mask)]) rfl rfl (hp35.row (k := 0) rfl rfl) ?_)
              refine ⟨rfl, ?_⟩
              refine dq (v := .bool false) (o_aeq rfl rfl (by rw [hrd.2.2 k (by omega)]; exact flt_aeq (mkF _) (mkF _)) (by simp)) ?_
              refine h31 _ _ ?_
              clear h31
              refine cndF rfl ?_
              refine h30 _ _ ?_
              clear h30
              refine stp (v := .int .i64 (k : Nat)) (o_mv rfl) ?_
              refine stp (v := .int .i64 ((k : Nat) + 1)) (o_bin rfl rfl (v_add64 (by constructor <;> omega))) ?_
              refine stp (v := .int .i64 ((k : Nat) + 1)) (o_mv rfl) ?_
              refine h25 (k + 1) _ _ ⟨by first | rfl | exact v_int (by omega) | exact v_int (by simp) | exact v_int (by simp; omega), rfl, by first | rfl | exact v_int (by omega) | exact v_int (by simp) | exact v_int (by simp; omega), hM32, by omega⟩ (by (try dsimp only); omega)
            ·
              refine h22 _ _ ?_
              clear h22
              refine stp (v := .int .i64 (i : Nat)) (o_mv rfl) ?_
              refine stp (v := .int .i64 ((i : Nat) + 1)) (o_bin rfl rfl (v_add64 (by constructor <;> omega))) ?_
              refine stp (v := .int .i64 ((i : Nat) + 1)) (o_mv rfl) ?_
              refine h18 (i + 1) _ _ ⟨by first | rfl | exact v_int (by omega) | exact v_int (by simp) | exact v_int (by simp; omega), rfl, hM24, by omega⟩ (by (try dsimp only); omega)
        ·
          refine h15 _ _ ?_
          clear h15
          refine seq fun K36 h36 => ?_
          refine stp (v := .bool true) (o_mv rfl) ?_
          refine h36 _ _ ?_
          clear h36
          refine ⟨(.bool true), rfl, ?_⟩
          exact ⟨rfl, hM17.keep (by simp)⟩
