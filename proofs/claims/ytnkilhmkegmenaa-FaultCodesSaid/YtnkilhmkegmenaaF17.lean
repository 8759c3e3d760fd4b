/- Entries as bytes and back: the law of codes. -/
import Derived.Test.YtnkilhmkegmenaaF16
namespace Go.Proofs.Ytnkilhmkegmenaa.E
open Go

section
variable {α : Type} {enc : α → List Value} {sz : Nat} [Enc enc sz]
theorem fm_setF (z : α) {l : List α} {tail : List Value} {j o : Nat} {q : α} {val : Value} (hj : j < l.length) (ho : o < sz) (hq : enc q = (enc (l.getD j z)).set o val) : (l.flatMap enc ++ tail).set (j * sz + o) val = (l.set j q).flatMap enc ++ tail := by
  have hl : l = l.take j ++ l.getD j z :: l.drop (j + 1) := by
    conv => lhs; rw [← List.take_append_drop j l, dropG z hj]
  have hL : l.flatMap enc ++ tail = (l.take j).flatMap enc ++ (enc (l.getD j z) ++ ((l.drop (j + 1)).flatMap enc ++ tail)) := by
    conv => lhs; rw [hl]
    simp [List.flatMap_append]
  have hR : (l.set j q).flatMap enc ++ tail = (l.take j).flatMap enc ++ (enc q ++ ((l.drop (j + 1)).flatMap enc ++ tail)) := by
    rw [List.set_eq_take_append_cons_drop, if_pos hj]
    simp [List.flatMap_append]
  have hn : ((l.take j).flatMap enc).length = j * sz := by rw [fm_length, List.length_take, Nat.min_eq_left (by omega)]
  rw [hL, hR, List.set_append_right _ _ (by rw [hn]; omega), hn, Nat.add_sub_cancel_left, List.set_append_left _ _ (by rw [Enc.len (enc := enc)]; exact ho), hq]
variable {P : Program} {r : List MI} {f : Fr} {w w0 : World} {S : List Nat} {R : List (List Ent)} {K : Fr → World → Prop} {d : Nat} {t : TypeId} {v : Value}
/-- one cell of an element of the call's own slice is written -/
theorem m_setF (z : α) {x p y : Operand} {l : List α} {q : α} {i j o d2 : Nat} {k : IntKind} {val : Value} {rs : List Ent} (hM : Mem w0 S w R) (hi : R[i]? = some rs) (hs : SlS enc sz t v l rs) (hx : ev f x = v) (hp : ev f p = .int k j) (hj : j < l.length) (ho : o < sz) (hyd : y ≠ .tmp d) (hyd2 : y ≠ .tmp d2) (hy : ev f y = val) (h1 : val.oneCell' = true) (hq : enc q = (enc (l.getD j z)).set o val)
    (h : ∀ w' r' u u2, r' = upS enc (l.set j q) rs → SlS enc sz t v (l.set j q) r' → Mem w0 S w' (R.set i r') → vr P r (upd (upd f d u) d2 u2) w' K) : vr P (.p none d (.idx sz x p) :: .p none d2 (.fa o (.tmp d)) :: .l none none (.st 1 (.tmp d2) y) :: r) f w K := by
  rcases hs.form with ⟨_, h0, _⟩ | ⟨b, cap, tail, rfl, rfl, h2, h3⟩
  · omega
  · refine idx hx hp ⟨by omega, by omega⟩ ?_
    refine fa (b := b) (o := 0 + (j : Int).toNat * sz) (by show upd f d _ d = _; unfold upd; rw [if_pos rfl]) ?_
    have e1 : 0 + (j : Int).toNat * sz + o = j * sz + o := by simp
    rw [e1]
    have hev : ev (upd (upd f d (.pointer (some ⟨b, 0 + (j : Int).toNat * sz, none⟩))) d2 (.pointer (some ⟨b, j * sz + o, none⟩))) y = val := by
      cases y with
      | tmp a => show upd (upd f d _) d2 _ a = _; unfold upd; rw [if_neg (fun e => hyd2 (by rw [e])), if_neg (fun e => hyd (by rw [e]))]; exact hy
      | _ => exact hy
    have hle : j * sz + sz ≤ l.length * sz := by
      have := Nat.mul_le_mul_right sz hj
      rwa [Nat.succ_mul] at this
    refine m_st hM hi (b := b) (o := j * sz + o) (by show upd _ d2 _ d2 = _; unfold upd; rw [if_pos rfl]) hev h1 (by rw [List.length_append, fm_length]; omega) fun w' hM' => ?_
    rw [fm_setF z hj ho hq] at hM'
    refine h _ _ _ _ ?_ ⟨fm_length _, .inr ⟨b, cap, tail, by simp, rfl, by simpa using h2, by simpa using h3⟩⟩ hM'
    unfold upS
    simp only [List.map_cons, List.map_nil]
    have e : (l.flatMap enc).length = ((l.set j q).flatMap enc).length := by rw [fm_length, fm_length, List.length_set]
    rw [List.drop_left' e]
end
/-- two places of a list turned round are exchanged -/
theorem back_elS {α : Type} (z : α) {enc : α → List Value} {sz : Nat} {t : TypeId} {x : Value} {l : List α} {i : Nat} {r r' : List Ent} (_ : SlS enc sz t x (revI z i l) r) (h : 2 * i + 1 < l.length)
    (k : SlS enc sz t x (((revI z i l).set i ((revI z i l).getD (l.length - 1 - i) z)).set (l.length - 1 - i) ((revI z i l).getD i z)) r') : SlS enc sz t x (((revI z i l).set i (l.getD (l.length - 1 - i) z)).set (l.length - 1 - i) (l.getD i z)) r' := by
  rwa [revI_getD z (by omega), revI_getD z (by omega), if_neg (by omega), if_neg (by omega)] at k
theorem back_upS {α : Type} (z : α) {enc : α → List Value} (sz : Nat) (hE : Enc enc sz) {l : List α} {i : Nat} {r0 r r' r'' : List Ent} (h : 2 * i + 1 < l.length) (he : r = upS enc (revI z i l) r0) (k1 : r' = upS enc ((revI z i l).set i ((revI z i l).getD (l.length - 1 - i) z)) r)
    (k2 : r'' = upS enc (((revI z i l).set i ((revI z i l).getD (l.length - 1 - i) z)).set (l.length - 1 - i) ((revI z i l).getD i z)) r') : r'' = upS enc (((revI z i l).set i (l.getD (l.length - 1 - i) z)).set (l.length - 1 - i) (l.getD i z)) r0 := by
  rw [k2, k1, he, upS_upS sz hE (by simp), upS_upS sz hE (by simp)]
  rw [revI_getD z (by omega), revI_getD z (by omega), if_neg (by omega), if_neg (by omega)]

/-- winnowlaw16.back -/
theorem back_ok (x : Value) (l : List Flt) (r0 : List Ent) (w : World) (hs0 : SlS fltC 8 25 x l r0) (hr : Res w r0) (hl : l.length ≤ 1152921504606846976) : Calls Try.prog 36 [x].toArray w (Rt fun r w' => r = x ∧ Mem w (ids r0) w' [upS fltC l.reverse r0]) := by
  have hM0 : Mem w (ids r0) w [r0] := Mem.start hr
  refine calls_vc mixed Try.func36 rfl C36 (by simp [Try.ntmps36]) ?_
  refine seq fun K1 h1 => ?_
  refine stp (v := .slice none 0 0) (o_mv rfl) ?_
  refine h1 _ _ ?_
  clear h1
  refine seq fun K2 h2 => ?_
  refine seq fun K3 h3 => ?_
  refine stp (v := x) (o_mv rfl) ?_
  refine stp (v := .int .i64 (l.length : Nat)) (o_lenR (hs0.rd hM0 (i := 0) rfl) rfl rfl) ?_
  refine stp (v := .int .i64 ((l.length : Nat) - 1)) (o_bin rfl rfl (v_sub64 (by constructor <;> omega))) ?_
  refine stp (v := .int .i64 0) (o_mv rfl) ?_
  refine stp (v := .int .i64 ((l.length : Nat) - 1)) (o_mv rfl) ?_
  refine h3 _ _ ?_
  clear h3
  refine lp (n := fun _ _ => False) (ι := (Nat) × (List Ent)) (fun ⟨i, r⟩ f w' => f 0 = x ∧ f 3 = .int .i64 (i : Nat) ∧ f 4 = .int .i64 ((l.length : Nat) - 1 - (i : Nat)) ∧ Mem w (ids r0) w' [r] ∧ (SlS fltC 8 25 x (revI fz i l) r) ∧ (r = upS fltC (revI fz i l) r0) ∧ (i ≤ l.length) ∧ ((revI fz i l).length = l.length)) (fun ⟨i, r⟩ => l.length - i) (0, r0) ?_ ?_
  · exact ⟨rfl, by first | rfl | exact v_int (by omega) | exact v_int (by simp) | exact v_int (by simp; omega), by first | rfl | exact v_int (by omega) | exact v_int (by simp) | exact v_int (by simp; omega), hM0, by rw [revI_zero]; exact hs0, by rw [revI_zero, upS_self hs0], by omega, by rw [revI_zero]⟩
  · rintro ⟨i, r⟩ f w4 ⟨e4_0, e4_3, e4_4, hM4, hs, he, hi, hq⟩ K5 h5
    obtain ⟨frm, rfl⟩ : ∃ frm, f = (upd (upd (upd frm 0 (x)) 3 (.int .i64 (i : Nat))) 4 (.int .i64 ((l.length : Nat) - 1 - (i : Nat)))) := ⟨f, by rw [upd_self e4_0, upd_self e4_3, upd_self e4_4]⟩
    clear e4_0 e4_3 e4_4
    refine seq fun K6 h6 => ?_
    refine seq fun K7 h7 => ?_
    refine stp (v := .int .i64 (i : Nat)) (o_mv rfl) ?_
    refine stp (v := .int .i64 ((l.length : Nat) - 1 - (i : Nat))) (o_mv rfl) ?_
    refine stp (v := .bool (decide (((i : Nat) : Int) < ((l.length : Nat) - 1 - (i : Nat))))) (o_bin rfl rfl rfl) ?_
    refine h7 _ _ ?_
    clear h7
    refine cndP rfl (fun c8 => ?_) (fun c8 => ?_)
    ·
      refine h6 _ _ ?_
      clear h6
      refine seq fun K9 h9 => ?_
      refine seq fun K10 h10 => ?_
      refine stp (v := x) (o_mv rfl) ?_
      refine stp (v := .int .i64 (i : Nat)) (o_mv rfl) ?_
      refine m_idxS fz (j := i) (hs.rd hM4 (i := 0) rfl) rfl rfl (by omega) fun b11 o11 hp11 => ?_
      refine ldA (cs := [.int .i64 (((revI fz i l).getD i fz).kind), .int .i64 (((revI fz i l).getD i fz).tk), .int .i64 (((revI fz i l).getD i fz).task), .int .i64 (((revI fz i l).getD i fz).att), .int .i64 (((revI fz i l).getD i fz).mom), .int .i64 (((revI fz i l).getD i fz).rd), .int .i64 (((revI fz i l).getD i fz).at_), .int .u32 (((revI fz i l).getD i fz).mask)]) rfl rfl (hp11.row (k := 0) rfl rfl) ?_
      refine m_al hM4 fun b12 w13 (hM13 : Mem w (ids r0) w13 [r, [⟨b12, 25, [.int .i64 0, .int .i64 0, .int .i64 0, .int .i64 0, .int .i64 0, .int .i64 0, .int .i64 0, .int .u32 0]⟩]]) => ?_
      refine m_stA (l := [.int .i64 (((revI fz i l).getD i fz).kind), .int .i64 (((revI fz i l).getD i fz).tk), .int .i64 (((revI fz i l).getD i fz).task), .int .i64 (((revI fz i l).getD i fz).att), .int .i64 (((revI fz i l).getD i fz).mom), .int .i64 (((revI fz i l).getD i fz).rd), .int .i64 (((revI fz i l).getD i fz).at_), .int .u32 (((revI fz i l).getD i fz).mask)]) hM13 (i := 1) rfl rfl rfl rfl (by simp [oneCells, Value.oneCell', byteV]) (by simp) fun w14 (hM14 : Mem w (ids r0) w14 [r, [⟨b12, 25, [.int .i64 (((revI fz i l).getD i fz).kind), .int .i64 (((revI fz i l).getD i fz).tk), .int .i64 (((revI fz i l).getD i fz).task), .int .i64 (((revI fz i l).getD i fz).att), .int .i64 (((revI fz i l).getD i fz).mom), .int .i64 (((revI fz i l).getD i fz).rd), .int .i64 (((revI fz i l).getD i fz).at_), .int .u32 (((revI fz i l).getD i fz).mask)]⟩]]) => ?_
      refine h10 _ _ ?_
      clear h10
      refine seq fun K15 h15 => ?_
      refine stp (v := x) (o_mv rfl) ?_
      refine stp (v := .int .i64 (i : Nat)) (o_mv rfl) ?_
      refine stp (v := x) (o_mv rfl) ?_
      refine stp (v := .int .i64 ((l.length : Nat) - 1 - (i : Nat))) (o_mv rfl) ?_
      refine m_idxS fz (j := (l.length - 1 - i)) (hs.rd hM14 (i := 0) rfl) rfl (v_int (by omega)) (by omega) fun b16 o16 hp16 => ?_
      refine ldA (cs := [.int .i64 (((revI fz i l).getD (l.length - 1 - i) fz).kind), .int .i64 (((revI fz i l).getD (l.length - 1 - i) fz).tk), .int .i64 (((revI fz i l).getD (l.length - 1 - i) fz).task), .int .i64 (((revI fz i l).getD (l.length - 1 - i) fz).att), .int .i64 (((revI fz i l).getD (l.length - 1 - i) fz).mom), .int .i64 (((revI fz i l).getD (l.length - 1 - i) fz).rd), .int .i64 (((revI fz i l).getD (l.length - 1 - i) fz).at_), .int .u32 (((revI fz i l).getD (l.length - 1 - i) fz).mask)]) rfl rfl (hp16.row (k := 0) rfl rfl) ?_
      refine m_setS (enc := fltC) fz (q := ((revI fz i l).getD (l.length - 1 - i) fz)) (j := i) hM14 (i := 0) rfl hs rfl rfl (by omega) (by simp) (rfl) fun w17 r17 u17 he17 hs17 (hM17 : Mem w (ids r0) w17 [r17, [⟨b12, 25, [.int .i64 (((revI fz i l).getD i fz).kind), .int .i64 (((revI fz i l).getD i fz).tk), .int .i64 (((revI fz i l).getD i fz).task), .int .i64 (((revI fz i l).getD i fz).att), .int .i64 (((revI fz i l).getD i fz).mom), .int .i64 (((revI fz i l).getD i fz).rd), .int .i64 (((revI fz i l).getD i fz).at_), .int .u32 (((revI fz i l).getD i fz).mask)]⟩]]) => ?_
      refine h15 _ _ ?_
      clear h15
      refine stp (v := x) (o_mv rfl) ?_
      refine stp (v := .int .i64 ((l.length : Nat) - 1 - (i : Nat))) (o_mv rfl) ?_
      refine m_ldA (l := [.int .i64 (((revI fz i l).getD i fz).kind), .int .i64 (((revI fz i l).getD i fz).tk), .int .i64 (((revI fz i l).getD i fz).task), .int .i64 (((revI fz i l).getD i fz).att), .int .i64 (((revI fz i l).getD i fz).mom), .int .i64 (((revI fz i l).getD i fz).rd), .int .i64 (((revI fz i l).getD i fz).at_), .int .u32 (((revI fz i l).getD i fz).mask)]) hM17 (i := 1) (j := 0) rfl rfl rfl rfl rfl ?_
      refine m_setS (enc := fltC) fz (q := ((revI fz i l).getD i fz)) (j := (l.length - 1 - i)) hM17 (i := 0) rfl hs17 rfl (v_int (by omega)) (by simp only [List.length_set]; omega) (by simp) (rfl) fun w18 r18 u18 he18 hs18 (hM18 : Mem w (ids r0) w18 [r18, [⟨b12, 25, [.int .i64 (((revI fz i l).getD i fz).kind), .int .i64 (((revI fz i l).getD i fz).tk), .int .i64 (((revI fz i l).getD i fz).task), .int .i64 (((revI fz i l).getD i fz).att), .int .i64 (((revI fz i l).getD i fz).mom), .int .i64 (((revI fz i l).getD i fz).rd), .int .i64 (((revI fz i l).getD i fz).at_), .int .u32 (((revI fz i l).getD i fz).mask)]⟩]]) => ?_
      refine h9 _ _ ?_
      clear h9
      refine stp (v := .int .i64 (i : Nat)) (o_mv rfl) ?_
      refine stp (v := .int .i64 ((i : Nat) + 1)) (o_bin rfl rfl (v_add64 (by constructor <;> omega))) ?_
      refine stp (v := .int .i64 ((l.length : Nat) - 1 - (i : Nat))) (o_mv rfl) ?_
      refine stp (v := .int .i64 (((l.length : Nat) - 1 - (i : Nat)) - 1)) (o_bin rfl rfl (v_sub64 (by constructor <;> omega))) ?_
      refine stp (v := .int .i64 ((i : Nat) + 1)) (o_mv rfl) ?_
      refine stp (v := .int .i64 (((l.length : Nat) - 1 - (i : Nat)) - 1)) (o_mv rfl) ?_
      refine h5 (i + 1, r18) _ _ ⟨rfl, by first | rfl | exact v_int (by omega) | exact v_int (by simp) | exact v_int (by simp; omega), by first | rfl | exact v_int (by omega) | exact v_int (by simp) | exact v_int (by simp; omega), hM18.keep (by simp), by rw [← revI_succ fz (by omega)]; exact back_elS fz hs (by omega) hs18, by rw [← revI_succ fz (by omega)]; exact back_upS fz 8 inferInstance (by omega) he (by assumption) (by assumption), by omega, by rw [revI_length]⟩ (by (try dsimp only); omega)
    ·
      refine h2 _ _ ?_
      clear h2
      refine seq fun K19 h19 => ?_
      refine stp (v := x) (o_mv rfl) ?_
      refine stp (v := x) (o_mv rfl) ?_
      refine h19 _ _ ?_
      clear h19
      refine ⟨x, rfl, ?_⟩
      rw [revI_end fz (by omega)] at he
      subst he
      exact ⟨rfl, hM4⟩

theorem rev_ok {l : List Flt} (h : ∀ y ∈ l, y.ok) : ∀ y ∈ l.reverse, y.ok := fun y hy => h y (List.mem_reverse.1 hy)
theorem wrapK (z : Int) : inK .i64 (IntKind.i64.wrap z) := by simp only [inK]; rw [wrap_i64]; split <;> omega
/-- the entry with another attempt -/
def fAtt (f : Flt) (a : Int) : Flt := ⟨f.kind, f.tk, f.task, a, f.mom, f.rd, f.at_, f.mask⟩
theorem fAtt_ok {f : Flt} {a : Int} (h : f.ok) (ha : inK .i64 a) : (fAtt f a).ok := by
  obtain ⟨h1, h2, h3, _, h5, h6, h7, h8⟩ := h
  exact ⟨h1, h2, h3, ha, h5, h6, h7, h8⟩
theorem fAtt_self (f : Flt) : fAtt f f.att = f := rfl
def headAtt (l : List Flt) (a : Int) : List Flt := l.set 0 (fAtt (l.getD 0 fz) a)
theorem head_ok {l : List Flt} {a : Int} (hl : 0 < l.length) (h : ∀ y ∈ l, y.ok) (ha : inK .i64 a) : ∀ y ∈ headAtt l a, y.ok := fun y hy => by
  rcases List.mem_or_eq_of_mem_set hy with h1 | h1
  · exact h y h1
  · rw [h1]; exact fAtt_ok (h _ (getD_memG fz hl)) ha
theorem add_sub_wrap {z : Int} (h : inK .i64 z) : IntKind.i64.wrap (IntKind.i64.wrap (z + 99) - 99) = z := by
  simp only [inK] at h
  rw [wrap_i64, wrap_i64]
  split <;> split <;> omega

theorem cutB (l D : List Flt) {n : Nat} (hn : n = l.length) : (l ++ D).take n = l := List.take_left' hn.symm
theorem cutH {l : List Flt} (D : List Flt) {n : Nat} (q : Flt) (h : 0 < l.length) (hn : n = l.length) : ((l ++ D).set 0 q).take n = l.set 0 q := by
  rw [List.set_append_left _ _ h, List.take_left' (by rw [List.length_set]; exact hn.symm)]
theorem cutA {l : List Flt} (D : List Flt) {n : Nat} (q : Flt) (h : 0 < l.length) (hn : n = l.length) : (((l ++ D).set 0 q).set 0 (l.getD 0 fz)).take n = l := by
  rw [List.set_set, cutH D _ h hn]
  cases l with
  | nil => simp at h
  | cons a l => rfl
theorem head_0 {l : List Flt} (D : List Flt) (h : 0 < l.length) : (l ++ D).getD 0 fz = l.getD 0 fz := by
  cases l with
  | nil => simp at h
  | cons a l => rfl
theorem head_1 {l : List Flt} (D : List Flt) (q : Flt) (h : 0 < l.length) : ((l ++ D).set 0 q).getD 0 fz = q := by
  cases l with
  | nil => simp at h
  | cons a l => rfl

set_option maxRecDepth 100000 in
/-- winnowlaw16.FaultCodes -/
theorem FaultCodes_ok (x : Value) (l : List Flt) (y : Value) (b : List UInt8) (w : World) (hx : RdS fltC w x l) (hok : ∀ f ∈ l, f.ok) (hl : l.length * 64 ≤ 140737488351232) (hy : RdE byteV w y b) (hb : b.length ≤ 140737488351232) : Calls Try.prog 8 [x, y].toArray w (Rt fun r w' => r = .bool true ∧ Upd [] w w') := by
  have hM0 : Mem w [] w [] := Mem.nil w []
  refine calls_vc mixed Try.func8 rfl C8 (by simp [Try.ntmps8]) ?_
  refine seq fun K1 h1 => ?_
  refine stp (v := .bool false) (o_mv rfl) ?_
  refine h1 _ _ ?_
  clear h1
  refine seq fun K2 h2 => ?_
  refine stp (v := x) (o_mv rfl) ?_
  refine m_call (given_ok _ l w (hx.upd hM0.upd) (by first | omega | (simp; done) | (simp; omega))) rfl fun v3 w3 ⟨rs3, hs3, hm3⟩ => ?_
  have hM3 : Mem w [] w3 [rs3] := hM0.add hm3
  refine stp (v := v3) (o_mv rfl) ?_
  refine h2 _ _ ?_
  clear h2
  refine seq fun K4 h4 => ?_
  refine stp (v := v3) (o_mv rfl) ?_
  refine stp (v := x) (o_mv rfl) ?_
  refine stp (v := .int .i64 (l.length : Nat)) (o_lenR (hx.upd hM3.upd) rfl rfl) ?_
  refine m_slcOS l.length (hs3) rfl (by first | omega | (simp; done) | (simp; omega)) (⟨_, rfl⟩) trivial fun u5 hu5 => ?_
  have hu5' := SlS.eqL (m := l) hu5 (by simp)
  refine m_call (Encode_ok _ l w3 (hu5'.rd hM3 (i := 0) rfl) (by first | exact hok | exact rev_ok hok | exact hokh | assumption) (by first | omega | (simp only [List.length_append, List.length_reverse, List.length_take, List.length_replicate, List.length_set]; omega) | (simp; omega))) rfl fun v6 w6 ⟨v6_, rs6, hr6, hs6, hm6⟩ => ?_
  have hM6 : Mem w [] w6 [rs3, rs6] := hM3.add hm6
  subst hr6
  have hel6 := encE_len l
  refine stp (v := .tuple [v6_, .int .i64 ((encE l).2)].toArray) (o_mv rfl) ?_
  refine stp (v := v6_) (o_ext rfl rfl) ?_
  refine stp (v := .int .i64 ((encE l).2)) (o_ext rfl rfl) ?_
  refine stp (v := v6_) (o_mv rfl) ?_
  refine stp (v := .int .i64 ((encE l).2)) (o_mv rfl) ?_
  refine h4 _ _ ?_
  clear h4
  refine seq fun K7 h7 => ?_
  refine stp (v := v3) (o_mv rfl) ?_
  refine stp (v := x) (o_mv rfl) ?_
  refine stp (v := .int .i64 (l.length : Nat)) (o_lenR (hx.upd hM6.upd) rfl rfl) ?_
  refine m_slcOS l.length (hs3) rfl (by first | omega | (simp; done) | (simp; omega)) (⟨_, rfl⟩) trivial fun u8 hu8 => ?_
  have hu8' := SlS.eqL (m := l) hu8 (by simp)
  refine m_call (Encode_ok _ l w6 (hu8'.rd hM6 (i := 0) rfl) (by first | exact hok | exact rev_ok hok | exact hokh | assumption) (by first | omega | (simp only [List.length_append, List.length_reverse, List.length_take, List.length_replicate, List.length_set]; omega) | (simp; omega))) rfl fun v9 w9 ⟨v9_, rs9, hr9, hs9, hm9⟩ => ?_
  have hM9 : Mem w [] w9 [rs3, rs6, rs9] := hM6.add hm9
  subst hr9
  have hel9 := encE_len l
  refine stp (v := .tuple [v9_, .int .i64 ((encE l).2)].toArray) (o_mv rfl) ?_
  refine stp (v := v9_) (o_ext rfl rfl) ?_
  refine stp (v := .int .i64 ((encE l).2)) (o_ext rfl rfl) ?_
  refine stp (v := v9_) (o_mv rfl) ?_
  refine stp (v := .int .i64 ((encE l).2)) (o_mv rfl) ?_
  refine h7 _ _ ?_
  clear h7
  refine seq fun K10 h10 => ?_
  refine stp (v := v6_) (o_mv rfl) ?_
  refine m_call (fill_ok _ ((encE l).1) 7 rs6 w9 hs6 (hM9.res (i := 1) rfl) (by first | omega | (simp; done) | (simp; omega))) rfl fun v11 w11 ⟨hr11, hm11⟩ => ?_
  have hM11 : Mem w [] w11 [rs3, [], rs9] := hM9.step 1 (r' := []) rfl (hm11.keep (by simp))
  subst hr11
  refine stp (v := .int .i64 (((encE l).1).length + 64 : Nat)) (o_mv rfl) ?_
  refine h10 _ _ ?_
  clear h10
  refine seq fun K12 h12 => ?_
  refine stp (v := x) (o_mv rfl) ?_
  refine m_call (refEncode_ok _ l w11 (hx.upd hM11.upd) (by first | exact hok | exact rev_ok hok | exact hokh | assumption) (by first | omega | (simp only [List.length_append, List.length_reverse, List.length_take, List.length_replicate, List.length_set]; omega) | (simp; omega))) rfl fun v13 w13 ⟨v13_, rs13, hr13, hs13, hm13⟩ => ?_
  have hM13 : Mem w [] w13 [rs3, [], rs9, rs13] := hM11.add hm13
  subst hr13
  have hel13 := encE_len l
  refine stp (v := .tuple [v13_, .int .i64 ((encE l).2)].toArray) (o_mv rfl) ?_
  refine stp (v := v13_) (o_ext rfl rfl) ?_
  refine stp (v := .int .i64 ((encE l).2)) (o_ext rfl rfl) ?_
  refine stp (v := v13_) (o_mv rfl) ?_
  refine stp (v := .int .i64 ((encE l).2)) (o_mv rfl) ?_
  refine h12 _ _ ?_
  clear h12
  refine seq fun K14 h14 => ?_
  refine stp (v := y) (o_mv rfl) ?_
  refine m_call (roomy_ok _ b w13 (hy.upd hM13.upd) (by first | omega | (simp; done) | (simp; omega))) rfl fun v15 w15 ⟨rs15, hs15, hm15⟩ => ?_
  have hM15 : Mem w [] w15 [rs3, [], rs9, rs13, rs15] := hM13.add hm15
  refine stp (v := v15) (o_mv rfl) ?_
  refine h14 _ _ ?_
  clear h14
  refine seq fun K16 h16 => ?_
  refine stp (v := v15) (o_mv rfl) ?_
  refine stp (v := y) (o_mv rfl) ?_
  refine stp (v := .int .i64 (b.length : Nat)) (o_lenR (hy.upd hM15.upd) rfl rfl) ?_
  refine m_slcO b.length (hs15) rfl (by first | omega | (simp; done) | (simp; omega)) (⟨_, rfl⟩) trivial fun u17 hu17 => ?_
  have hu17' := SlE.eqL (m := b) hu17 (by simp)
  refine m_call (Decode_ok _ b w15 (hu17'.rd hM15 (i := 4) rfl) (by first | omega | (simp; omega))) rfl fun v18 w18 ⟨v18_, rs18, hr18, hs18, hm18⟩ => ?_
  have hM18 : Mem w [] w18 [rs3, [], rs9, rs13, rs15, rs18] := hM15.add hm18
  subst hr18
  have hdl18 := decV_len b
  refine stp (v := .tuple [v18_, .int .i64 ((decV b).2)].toArray) (o_mv rfl) ?_
  refine stp (v := v18_) (o_ext rfl rfl) ?_
  refine stp (v := .int .i64 ((decV b).2)) (o_ext rfl rfl) ?_
  refine stp (v := v18_) (o_mv rfl) ?_
  refine stp (v := .int .i64 ((decV b).2)) (o_mv rfl) ?_
  refine h16 _ _ ?_
  clear h16
  refine seq fun K19 h19 => ?_
  refine stp (v := v15) (o_mv rfl) ?_
  refine stp (v := y) (o_mv rfl) ?_
  refine stp (v := .int .i64 (b.length : Nat)) (o_lenR (hy.upd hM18.upd) rfl rfl) ?_
  refine m_slcO b.length (hs15) rfl (by first | omega | (simp; done) | (simp; omega)) (⟨_, rfl⟩) trivial fun u20 hu20 => ?_
  have hu20' := SlE.eqL (m := b) hu20 (by simp)
  refine m_call (Decode_ok _ b w18 (hu20'.rd hM18 (i := 4) rfl) (by first | omega | (simp; omega))) rfl fun v21 w21 ⟨v21_, rs21, hr21, hs21, hm21⟩ => ?_
  have hM21 : Mem w [] w21 [rs3, [], rs9, rs13, rs15, rs18, rs21] := hM18.add hm21
  subst hr21
  have hdl21 := decV_len b
  refine stp (v := .tuple [v21_, .int .i64 ((decV b).2)].toArray) (o_mv rfl) ?_
  refine stp (v := v21_) (o_ext rfl rfl) ?_
  refine stp (v := .int .i64 ((decV b).2)) (o_ext rfl rfl) ?_
  refine stp (v := v21_) (o_mv rfl) ?_
  refine stp (v := .int .i64 ((decV b).2)) (o_mv rfl) ?_
  refine h19 _ _ ?_
  clear h19
  refine seq fun K22 h22 => ?_
  refine stp (v := v18_) (o_mv rfl) ?_
  refine m_call (spoil_ok _ ((decV b).1) 78 (by omega) rs18 w21 hs18 (hM21.res (i := 5) rfl) (by first | omega | (simp; done) | (simp; omega))) rfl fun v23 w23 ⟨hr23, hm23⟩ => ?_
  have hM23 : Mem w [] w23 [rs3, [], rs9, rs13, rs15, [], rs21] := hM21.step 5 (r' := []) rfl (hm23.keep (by simp))
  subst hr23
  refine stp (v := .int .i64 (((decV b).1).length + 64 : Nat)) (o_mv rfl) ?_
  refine h22 _ _ ?_
  clear h22
  refine seq fun K24 h24 => ?_
  refine stp (v := y) (o_mv rfl) ?_
  refine m_call (refDecode_ok _ b w23 (hy.upd hM23.upd) (by first | omega | (simp; omega))) rfl fun v25 w25 ⟨v25_, rs25, hr25, hs25, hm25⟩ => ?_
  have hM25 : Mem w [] w25 [rs3, [], rs9, rs13, rs15, [], rs21, rs25] := hM23.add hm25
  subst hr25
  have hdl25 := decV_len b
  refine stp (v := .tuple [v25_, .int .i64 ((decV b).2)].toArray) (o_mv rfl) ?_
  refine stp (v := v25_) (o_ext rfl rfl) ?_
  refine stp (v := .int .i64 ((decV b).2)) (o_ext rfl rfl) ?_
  refine stp (v := v25_) (o_mv rfl) ?_
  refine stp (v := .int .i64 ((decV b).2)) (o_mv rfl) ?_
  refine h24 _ _ ?_
  clear h24
  refine seq fun K26 h26 => ?_
  refine stp (v := v3) (o_mv rfl) ?_
  refine stp (v := x) (o_mv rfl) ?_
  refine stp (v := .int .i64 (l.length : Nat)) (o_lenR (hx.upd hM25.upd) rfl rfl) ?_
  refine m_slcOS l.length (hs3) rfl (by first | omega | (simp; done) | (simp; omega)) (⟨_, rfl⟩) trivial fun u27 hu27 => ?_
  have hu27' := SlS.eqL (m := l) hu27 (by simp)
  refine m_call (Check_ok _ l w25 (hu27'.rd hM25 (i := 0) rfl) (by first | exact hok | exact rev_ok hok | exact hokh | assumption) (by first | omega | (simp only [List.length_append, List.length_reverse, List.length_take, List.length_replicate, List.length_set]; omega) | (simp; omega))) rfl fun v28 w28 ⟨hr28, hu28⟩ => ?_
  have hM28 : Mem w [] w28 [rs3, [], rs9, rs13, rs15, [], rs21, rs25] := hM25.pure hu28
  subst hr28
  refine stp (v := x) (o_mv rfl) ?_
  refine m_call (refCheck_ok _ l w28 (hx.upd hM28.upd) (by first | exact hok | exact rev_ok hok | exact hokh | assumption) (by first | omega | (simp only [List.length_append, List.length_reverse, List.length_take, List.length_replicate, List.length_set]; omega) | (simp; omega))) rfl fun v29 w29 ⟨hr29, hu29⟩ => ?_
  have hM29 : Mem w [] w29 [rs3, [], rs9, rs13, rs15, [], rs21, rs25] := hM28.pure hu29
  subst hr29
  refine stp (v := .bool true) (o_bin rfl rfl v_eqT) ?_
  refine stp (v := .bool true) (o_mv rfl) ?_
  refine splitT rfl ?_
  refine stg rfl (v := .int .i64 ((encE l).2)) (o_mv rfl) ?_
  refine stg rfl (v := .int .i64 ((encE l).2)) (o_mv rfl) ?_
  refine stg rfl (v := .bool true) (o_bin rfl rfl v_eqT) ?_
  refine stp (v := .bool true) (o_pickT rfl rfl) ?_
  refine stp (v := .bool true) (o_mv rfl) ?_
  refine splitT rfl ?_
  refine stg rfl (v := .int .i64 ((encE l).2)) (o_mv rfl) ?_
  refine stg rfl (v := .int .i64 ((encE l).2)) (o_mv rfl) ?_
  refine stg rfl (v := .bool true) (o_bin rfl rfl v_eqT) ?_
  refine stp (v := .bool true) (o_pickT rfl rfl) ?_
  refine stp (v := .bool true) (o_mv rfl) ?_
  refine splitT rfl ?_
  refine stg rfl (v := v9_) (o_mv rfl) ?_
  refine stg rfl (v := v13_) (o_mv rfl) ?_
  refine gyesl rfl ?_
  refine m_call (same_ok _ _ ((encE l).1) ((encE l).1) w29 (hs9.rd hM29 (i := 2) rfl) (hs13.rd hM29 (i := 3) rfl) (by first | omega | (simp; done) | (simp; omega))) rfl fun v30 w30 ⟨hr30, hu30⟩ => ?_
  have hM30 : Mem w [] w30 [rs3, [], rs9, rs13, rs15, [], rs21, rs25] := hM29.pure hu30
  obtain rfl : v30 = .bool true := hr30.trans (by simp)
  clear hr30
  refine stp (v := .bool true) (o_pickT rfl rfl) ?_
  refine stp (v := .bool true) (o_mv rfl) ?_
  refine splitT rfl ?_
  refine stg rfl (v := .int .i64 (((encE l).1).length + 64 : Nat)) (o_mv rfl) ?_
  refine stg rfl (v := v13_) (o_mv rfl) ?_
  refine stg rfl (v := .int .i64 (((encE l).1).length : Nat)) (o_lenR (hs13.rd hM30 (i := 3) rfl) rfl rfl) ?_
  refine stg rfl (v := .int .i64 ((((encE l).1).length : Nat) + 64)) (o_bin rfl rfl (v_add64 (by constructor <;> omega))) ?_
  refine stg rfl (v := .bool (decide (((((encE l).1).length + 64 : Nat) : Int) = ((((encE l).1).length : Nat) + 64)))) (o_bin rfl rfl rfl) ?_
  refine stp (v := .bool (decide (((((encE l).1).length + 64 : Nat) : Int) = ((((encE l).1).length : Nat) + 64)))) (o_pickT rfl rfl) ?_
  refine stp (v := .bool (decide (((((encE l).1).length + 64 : Nat) : Int) = ((((encE l).1).length : Nat) + 64)))) (o_mv rfl) ?_
  refine splitP rfl (fun c31 => ?_) (fun c31 => (c31 (by omega)).elim)
  refine stg rfl (v := v3) (o_mv rfl) ?_
  refine stg rfl (v := x) (o_mv rfl) ?_
  refine gyesl rfl ?_
  refine m_call (given_ok _ l w30 (hx.upd hM30.upd) (by first | omega | (simp; done) | (simp; omega))) rfl fun v32 w32 ⟨rs32, hs32, hm32⟩ => ?_
  have hM32 : Mem w [] w32 [rs3, [], rs9, rs13, rs15, [], rs21, rs25, rs32] := hM30.add hm32
  refine gyesl rfl ?_
  refine m_call (sameFaults_ok _ _ (l ++ List.replicate 64 (⟨7001, 0, 5, 0, 0, 0, 0, 0⟩ : Flt)) (l ++ List.replicate 64 (⟨7001, 0, 5, 0, 0, 0, 0, 0⟩ : Flt)) w32 (hs3.rd hM32 (i := 0) rfl) (hs32.rd hM32 (i := 8) rfl) ((by first | omega | (simp; omega)))) rfl fun v33 w33 ⟨hr33, hu33⟩ => ?_
  have hM33 : Mem w [] w33 [rs3, [], rs9, rs13, rs15, [], rs21, rs25, rs32] := hM32.pure hu33
  obtain rfl : v33 = .bool true := hr33.trans (by simp)
  clear hr33
  refine stp (v := .bool true) (o_pickT rfl rfl) ?_
  refine stp (v := .bool true) (o_mv rfl) ?_
  refine h26 _ _ ?_
  clear h26
  refine seq fun K34 h34 => ?_
  refine seq fun K35 h35 => ?_
  refine stp (v := .bool true) (o_mv rfl) ?_
  refine stp (v := .bool false) (o_not rfl rfl) ?_
  refine stp (v := .bool false) (o_mv rfl) ?_
  refine splitF rfl ?_
  refine stg rfl (v := .int .i64 ((decV b).2)) (o_mv rfl) ?_
  refine stg rfl (v := .int .i64 ((decV b).2)) (o_mv rfl) ?_
  refine stg rfl (v := .bool false) (o_bin rfl rfl v_neF) ?_
  refine stp (v := .bool false) (o_pickF rfl rfl) ?_
  refine stp (v := .bool false) (o_mv rfl) ?_
  refine splitF rfl ?_
  refine stg rfl (v := .int .i64 ((decV b).2)) (o_mv rfl) ?_
  refine stg rfl (v := .int .i64 ((decV b).2)) (o_mv rfl) ?_
  refine stg rfl (v := .bool false) (o_bin rfl rfl v_neF) ?_
  refine stp (v := .bool false) (o_pickF rfl rfl) ?_
  refine stp (v := .bool false) (o_mv rfl) ?_
  refine splitF rfl ?_
  refine stg rfl (v := v21_) (o_mv rfl) ?_
  refine stg rfl (v := v25_) (o_mv rfl) ?_
  refine gyesl rfl ?_
  refine m_call (sameFaults_ok _ _ ((decV b).1) ((decV b).1) w33 (hs21.rd hM33 (i := 6) rfl) (hs25.rd hM33 (i := 7) rfl) ((by first | omega | (simp; omega)))) rfl fun v36 w36 ⟨hr36, hu36⟩ => ?_
  have hM36 : Mem w [] w36 [rs3, [], rs9, rs13, rs15, [], rs21, rs25, rs32] := hM33.pure hu36
  obtain rfl : v36 = .bool true := hr36.trans (by simp)
  clear hr36
  refine stg rfl (v := .bool false) (o_not rfl rfl) ?_
  refine stp (v := .bool false) (o_pickF rfl rfl) ?_
  refine stp (v := .bool false) (o_mv rfl) ?_
  refine splitF rfl ?_
  refine stg rfl (v := .int .i64 (((decV b).1).length + 64 : Nat)) (o_mv rfl) ?_
  refine stg rfl (v := v25_) (o_mv rfl) ?_
  refine stg rfl (v := .int .i64 (((decV b).1).length : Nat)) (o_lenR (hs25.rd hM36 (i := 7) rfl) rfl rfl) ?_
  refine stg rfl (v := .int .i64 ((((decV b).1).length : Nat) + 64)) (o_bin rfl rfl (v_add64 (by constructor <;> omega))) ?_
  refine stg rfl (v := .bool (decide (¬ ((((decV b).1).length + 64 : Nat) : Int) = ((((decV b).1).length : Nat) + 64)))) (o_bin rfl rfl v_neq) ?_
  refine stp (v := .bool (decide (¬ ((((decV b).1).length + 64 : Nat) : Int) = ((((decV b).1).length : Nat) + 64)))) (o_pickF rfl rfl) ?_
  refine stp (v := .bool (decide (¬ ((((decV b).1).length + 64 : Nat) : Int) = ((((decV b).1).length : Nat) + 64)))) (o_mv rfl) ?_
  refine splitP rfl (fun c37 => absurd c37 (by omega)) (fun c37 => ?_)
  refine stg rfl (v := v15) (o_mv rfl) ?_
  refine stg rfl (v := y) (o_mv rfl) ?_
  refine gyesl rfl ?_
  refine m_call (roomy_ok _ b w36 (hy.upd hM36.upd) (by first | omega | (simp; done) | (simp; omega))) rfl fun v38 w38 ⟨rs38, hs38, hm38⟩ => ?_
  have hM38 : Mem w [] w38 [rs3, [], rs9, rs13, rs15, [], rs21, rs25, rs32, rs38] := hM36.add hm38
  refine gyesl rfl ?_
  refine m_call (same_ok _ _ (b ++ List.replicate 64 (165 : UInt8)) (b ++ List.replicate 64 (165 : UInt8)) w38 (hs15.rd hM38 (i := 4) rfl) (hs38.rd hM38 (i := 9) rfl) (by first | omega | (simp; done) | (simp; omega))) rfl fun v39 w39 ⟨hr39, hu39⟩ => ?_
  have hM39 : Mem w [] w39 [rs3, [], rs9, rs13, rs15, [], rs21, rs25, rs32, rs38] := hM38.pure hu39
  obtain rfl : v39 = .bool true := hr39.trans (by simp)
  clear hr39
  refine stg rfl (v := .bool false) (o_not rfl rfl) ?_
  refine stp (v := .bool false) (o_pickF rfl rfl) ?_
  refine h35 _ _ ?_
  clear h35
  refine cndF rfl ?_
  refine h34 _ _ ?_
  clear h34
  refine seq fun K40 h40 => ?_
  refine stp (v := v3) (o_mv rfl) ?_
  refine stp (v := x) (o_mv rfl) ?_
  refine stp (v := .int .i64 (l.length : Nat)) (o_lenR (hx.upd hM39.upd) rfl rfl) ?_
  refine m_slcOS l.length (hs3) rfl (by first | omega | (simp; done) | (simp; omega)) (⟨_, rfl⟩) trivial fun u41 hu41 => ?_
  have hu41' := SlS.eqL (m := l) hu41 (by simp)
  refine m_call (back_ok _ l rs3 w39 hu41' (hM39.res (i := 0) rfl) (by first | omega | (simp; done) | (simp; omega))) rfl fun v42 w42 ⟨hr42, hm42⟩ => ?_
  have hM42 : Mem w [] w42 [upS fltC l.reverse rs3, [], rs9, rs13, rs15, [], rs21, rs25, rs32, rs38] := hM39.step 0 rfl hm42
  subst v42
  refine m_call (Encode_ok _ l.reverse w42 ((SlS.up (m := l.reverse) hu41' (by simp)).rd hM42 (i := 0) rfl) (by first | exact hok | exact rev_ok hok | exact hokh | assumption) (by first | omega | (simp only [List.length_append, List.length_reverse, List.length_take, List.length_replicate, List.length_set]; omega) | (simp; omega))) rfl fun v43 w43 ⟨v43_, rs43, hr43, hs43, hm43⟩ => ?_
  have hM43 : Mem w [] w43 [upS fltC l.reverse rs3, [], rs9, rs13, rs15, [], rs21, rs25, rs32, rs38, rs43] := hM42.add hm43
  subst hr43
  have hel43 := encE_len l.reverse
  refine stp (v := .tuple [v43_, .int .i64 ((encE l.reverse).2)].toArray) (o_mv rfl) ?_
  refine stp (v := v43_) (o_ext rfl rfl) ?_
  refine stp (v := .int .i64 ((encE l.reverse).2)) (o_ext rfl rfl) ?_
  refine stp (v := v43_) (o_mv rfl) ?_
  refine stp (v := .int .i64 ((encE l.reverse).2)) (o_mv rfl) ?_
  refine h40 _ _ ?_
  clear h40
  refine seq fun K44 h44 => ?_
  refine stp (v := x) (o_mv rfl) ?_
  refine m_call (given_ok _ l w43 (hx.upd hM43.upd) (by first | omega | (simp; done) | (simp; omega))) rfl fun v45 w45 ⟨rs45, hs45, hm45⟩ => ?_
  have hM45 : Mem w [] w45 [upS fltC l.reverse rs3, [], rs9, rs13, rs15, [], rs21, rs25, rs32, rs38, rs43, rs45] := hM43.add hm45
  refine stp (v := x) (o_mv rfl) ?_
  refine stp (v := .int .i64 (l.length : Nat)) (o_lenR (hx.upd hM45.upd) rfl rfl) ?_
  refine m_slcOS l.length (hs45) rfl (by first | omega | (simp; done) | (simp; omega)) (⟨_, rfl⟩) trivial fun u46 hu46 => ?_
  have hu46' := SlS.eqL (m := l) hu46 (by simp)
  refine m_call (back_ok _ l rs45 w45 hu46' (hM45.res (i := 11) rfl) (by first | omega | (simp; done) | (simp; omega))) rfl fun v47 w47 ⟨hr47, hm47⟩ => ?_
  have hM47 : Mem w [] w47 [upS fltC l.reverse rs3, [], rs9, rs13, rs15, [], rs21, rs25, rs32, rs38, rs43, upS fltC l.reverse rs45] := hM45.step 11 rfl hm47
  subst v47
  refine m_call (refEncode_ok _ l.reverse w47 ((SlS.up (m := l.reverse) hu46' (by simp)).rd hM47 (i := 11) rfl) (by first | exact hok | exact rev_ok hok | exact hokh | assumption) (by first | omega | (simp only [List.length_append, List.length_reverse, List.length_take, List.length_replicate, List.length_set]; omega) | (simp; omega))) rfl fun v48 w48 ⟨v48_, rs48, hr48, hs48, hm48⟩ => ?_
  have hM48 : Mem w [] w48 [upS fltC l.reverse rs3, [], rs9, rs13, rs15, [], rs21, rs25, rs32, rs38, rs43, upS fltC l.reverse rs45, rs48] := hM47.add hm48
  subst hr48
  have hel48 := encE_len l.reverse
  refine stp (v := .tuple [v48_, .int .i64 ((encE l.reverse).2)].toArray) (o_mv rfl) ?_
  refine stp (v := v48_) (o_ext rfl rfl) ?_
  refine stp (v := .int .i64 ((encE l.reverse).2)) (o_ext rfl rfl) ?_
  refine stp (v := v48_) (o_mv rfl) ?_
  refine stp (v := .int .i64 ((encE l.reverse).2)) (o_mv rfl) ?_
  refine h44 _ _ ?_
  clear h44
  refine seq fun K49 h49 => ?_
  refine stp (v := v15) (o_mv rfl) ?_
  refine stp (v := y) (o_mv rfl) ?_
  refine stp (v := .int .i64 (b.length : Nat)) (o_lenR (hy.upd hM48.upd) rfl rfl) ?_
  refine m_slcO b.length (hs15) rfl (by first | omega | (simp; done) | (simp; omega)) (⟨_, rfl⟩) trivial fun u50 hu50 => ?_
  have hu50' := SlE.eqL (m := b) hu50 (by simp)
  refine stp (v := y) (o_mv rfl) ?_
  refine stp (v := .int .i64 (b.length : Nat)) (o_lenR (hy.upd hM48.upd) rfl rfl) ?_
  refine stp (v := .int .i64 ((b.length : Int) - 1)) (o_bin rfl rfl (v_sub64 (by constructor <;> omega))) ?_
  refine m_call (turned_ok _ b ((b.length : Int) - 1) rs15 w48 hu50' (hM48.res (i := 4) rfl) (by first | omega | (simp; done) | (simp; omega))) rfl fun v51 w51 ⟨hr51, hm51⟩ => ?_
  have hM51 : Mem w [] w51 [upS fltC l.reverse rs3, [], rs9, rs13, upR byteV (turn ((b.length : Int) - 1).toNat b) rs15, [], rs21, rs25, rs32, rs38, rs43, upS fltC l.reverse rs45, rs48] := hM48.step 4 rfl hm51
  subst hr51
  have htl51 := turn_length ((b.length : Int) - 1).toNat b
  refine m_call (Decode_ok _ (turn ((b.length : Int) - 1).toNat b) w51 ((SlE.up (m := turn ((b.length : Int) - 1).toNat b) hu50' (turn_length _ _)).rd hM51 (i := 4) rfl) (by first | omega | (simp; omega))) rfl fun v52 w52 ⟨v52_, rs52, hr52, hs52, hm52⟩ => ?_
  have hM52 : Mem w [] w52 [upS fltC l.reverse rs3, [], rs9, rs13, upR byteV (turn ((b.length : Int) - 1).toNat b) rs15, [], rs21, rs25, rs32, rs38, rs43, upS fltC l.reverse rs45, rs48, rs52] := hM51.add hm52
  subst hr52
  have hdl52 := decV_len (turn ((b.length : Int) - 1).toNat b)
  refine stp (v := .tuple [v52_, .int .i64 ((decV (turn ((b.length : Int) - 1).toNat b)).2)].toArray) (o_mv rfl) ?_
  refine stp (v := v52_) (o_ext rfl rfl) ?_
  refine stp (v := .int .i64 ((decV (turn ((b.length : Int) - 1).toNat b)).2)) (o_ext rfl rfl) ?_
  refine stp (v := v52_) (o_mv rfl) ?_
  refine stp (v := .int .i64 ((decV (turn ((b.length : Int) - 1).toNat b)).2)) (o_mv rfl) ?_
  refine h49 _ _ ?_
  clear h49
  refine seq fun K53 h53 => ?_
  refine stp (v := y) (o_mv rfl) ?_
  refine m_call (roomy_ok _ b w52 (hy.upd hM52.upd) (by first | omega | (simp; done) | (simp; omega))) rfl fun v54 w54 ⟨rs54, hs54, hm54⟩ => ?_
  have hM54 : Mem w [] w54 [upS fltC l.reverse rs3, [], rs9, rs13, upR byteV (turn ((b.length : Int) - 1).toNat b) rs15, [], rs21, rs25, rs32, rs38, rs43, upS fltC l.reverse rs45, rs48, rs52, rs54] := hM52.add hm54
  refine stp (v := y) (o_mv rfl) ?_
  refine stp (v := .int .i64 (b.length : Nat)) (o_lenR (hy.upd hM54.upd) rfl rfl) ?_
  refine m_slcO b.length (hs54) rfl (by first | omega | (simp; done) | (simp; omega)) (⟨_, rfl⟩) trivial fun u55 hu55 => ?_
  have hu55' := SlE.eqL (m := b) hu55 (by simp)
  refine stp (v := y) (o_mv rfl) ?_
  refine stp (v := .int .i64 (b.length : Nat)) (o_lenR (hy.upd hM54.upd) rfl rfl) ?_
  refine stp (v := .int .i64 ((b.length : Int) - 1)) (o_bin rfl rfl (v_sub64 (by constructor <;> omega))) ?_
  refine m_call (turned_ok _ b ((b.length : Int) - 1) rs54 w54 hu55' (hM54.res (i := 14) rfl) (by first | omega | (simp; done) | (simp; omega))) rfl fun v56 w56 ⟨hr56, hm56⟩ => ?_
  have hM56 : Mem w [] w56 [upS fltC l.reverse rs3, [], rs9, rs13, upR byteV (turn ((b.length : Int) - 1).toNat b) rs15, [], rs21, rs25, rs32, rs38, rs43, upS fltC l.reverse rs45, rs48, rs52, upR byteV (turn ((b.length : Int) - 1).toNat b) rs54] := hM54.step 14 rfl hm56
  subst hr56
  have htl56 := turn_length ((b.length : Int) - 1).toNat b
  refine m_call (refDecode_ok _ (turn ((b.length : Int) - 1).toNat b) w56 ((SlE.up (m := turn ((b.length : Int) - 1).toNat b) hu55' (turn_length _ _)).rd hM56 (i := 14) rfl) (by first | omega | (simp; omega))) rfl fun v57 w57 ⟨v57_, rs57, hr57, hs57, hm57⟩ => ?_
  have hM57 : Mem w [] w57 [upS fltC l.reverse rs3, [], rs9, rs13, upR byteV (turn ((b.length : Int) - 1).toNat b) rs15, [], rs21, rs25, rs32, rs38, rs43, upS fltC l.reverse rs45, rs48, rs52, upR byteV (turn ((b.length : Int) - 1).toNat b) rs54, rs57] := hM56.add hm57
  subst hr57
  have hdl57 := decV_len (turn ((b.length : Int) - 1).toNat b)
  refine stp (v := .tuple [v57_, .int .i64 ((decV (turn ((b.length : Int) - 1).toNat b)).2)].toArray) (o_mv rfl) ?_
  refine stp (v := v57_) (o_ext rfl rfl) ?_
  refine stp (v := .int .i64 ((decV (turn ((b.length : Int) - 1).toNat b)).2)) (o_ext rfl rfl) ?_
  refine stp (v := v57_) (o_mv rfl) ?_
  refine stp (v := .int .i64 ((decV (turn ((b.length : Int) - 1).toNat b)).2)) (o_mv rfl) ?_
  refine h53 _ _ ?_
  clear h53
  refine seq fun K58 h58 => ?_
  refine seq fun K59 h59 => ?_
  refine stp (v := x) (o_mv rfl) ?_
  refine stp (v := .int .i64 (l.length : Nat)) (o_lenR (hx.upd hM57.upd) rfl rfl) ?_
  refine stp (v := .bool (decide ((0 : Int) < ((l.length : Nat) : Int)))) (o_bin rfl rfl rfl) ?_
  refine h59 _ _ ?_
  clear h59
  refine cndP rfl (fun c60 => ?_) (fun c60 => ?_)
  ·
    refine seq fun K61 h61 => ?_
    have h0r : 0 < l.reverse.length := by rw [List.length_reverse]; omega
    have hkr := (rev_ok hok _ (getD_memG fz h0r)).2.2.2.1
    have hokh := head_ok h0r (rev_ok hok) (wrapK ((l.reverse.getD 0 fz).att + 99))
    have hhl : (headAtt l.reverse (IntKind.i64.wrap ((l.reverse.getD 0 fz).att + 99))).length = l.length := by unfold headAtt; rw [List.length_set, List.length_reverse]
    refine stp (v := x) (o_mv rfl) ?_
    refine m_call (given_ok _ l w57 (hx.upd hM57.upd) (by first | omega | (simp; done) | (simp; omega))) rfl fun v62 w62 ⟨rs62, hs62, hm62⟩ => ?_
    have hM62 : Mem w [] w62 [upS fltC l.reverse rs3, [], rs9, rs13, upR byteV (turn ((b.length : Int) - 1).toNat b) rs15, [], rs21, rs25, rs32, rs38, rs43, upS fltC l.reverse rs45, rs48, rs52, upR byteV (turn ((b.length : Int) - 1).toNat b) rs54, rs57, rs62] := hM57.add hm62
    refine stp (v := x) (o_mv rfl) ?_
    refine stp (v := .int .i64 (l.length : Nat)) (o_lenR (hx.upd hM62.upd) rfl rfl) ?_
    refine m_slcOS l.length (hs62) rfl (by first | omega | (simp; done) | (simp; omega)) (⟨_, rfl⟩) trivial fun u63 hu63 => ?_
    have hu63' := SlS.eqL (m := l) hu63 (by simp)
    refine m_call (back_ok _ l rs62 w62 hu63' (hM62.res (i := 16) rfl) (by first | omega | (simp; done) | (simp; omega))) rfl fun v64 w64 ⟨hr64, hm64⟩ => ?_
    have hM64 : Mem w [] w64 [upS fltC l.reverse rs3, [], rs9, rs13, upR byteV (turn ((b.length : Int) - 1).toNat b) rs15, [], rs21, rs25, rs32, rs38, rs43, upS fltC l.reverse rs45, rs48, rs52, upR byteV (turn ((b.length : Int) - 1).toNat b) rs54, rs57, upS fltC l.reverse rs62] := hM62.step 16 rfl hm64
    subst v64
    refine stp (v := u63) (o_mv rfl) ?_
    refine h61 _ _ ?_
    clear h61
    refine seq fun K65 h65 => ?_
    refine stp (v := u63) (o_mv rfl) ?_
    refine stp (v := u63) (o_mv rfl) ?_
    refine m_idxS fz (j := 0) ((SlS.up (m := l.reverse) hu63' (by simp)).rd hM64 (i := 16) rfl) rfl rfl (h0r) fun b66 o66 hp66 => ?_
    refine stp (v := .pointer (some ⟨b66, o66 + 3, none⟩)) (o_fa rfl rfl) ?_
    refine ld (v := .int .i64 ((l.reverse.getD 0 fz).att)) rfl (hp66.get 3 rfl) ?_
    refine stp (v := .int .i64 (IntKind.i64.wrap ((l.reverse.getD 0 fz).att + 99))) (o_bin rfl rfl (rfl)) ?_
    refine m_setF (enc := fltC) fz (q := fAtt (l.reverse.getD 0 fz) (IntKind.i64.wrap ((l.reverse.getD 0 fz).att + 99))) (j := 0) (val := .int .i64 (IntKind.i64.wrap ((l.reverse.getD 0 fz).att + 99))) hM64 (i := 16) rfl (SlS.up (m := l.reverse) hu63' (by simp)) rfl rfl (h0r) (by omega) (by simp) (by simp) rfl rfl (rfl) fun w67 r67 u67 x67 he67 hs67 (hM67 : Mem w [] w67 [upS fltC l.reverse rs3, [], rs9, rs13, upR byteV (turn ((b.length : Int) - 1).toNat b) rs15, [], rs21, rs25, rs32, rs38, rs43, upS fltC l.reverse rs45, rs48, rs52, upR byteV (turn ((b.length : Int) - 1).toNat b) rs54, rs57, r67]) => ?_
    refine h65 _ _ ?_
    clear h65
    refine seq fun K68 h68 => ?_
    refine stp (v := v3) (o_mv rfl) ?_
    refine stp (v := v3) (o_mv rfl) ?_
    refine m_idxS fz (j := 0) ((SlS.upFull (m := l.reverse) hs3 (by first | (simp; done) | (simp; omega))).rd hM67 (i := 0) rfl) rfl rfl (by rw [List.length_append]; omega) fun b69 o69 hp69 => ?_
    refine stp (v := .pointer (some ⟨b69, o69 + 3, none⟩)) (o_fa rfl rfl) ?_
    refine ld (v := .int .i64 (((l.reverse ++ (l ++ List.replicate 64 (⟨7001, 0, 5, 0, 0, 0, 0, 0⟩ : Flt)).drop l.reverse.length).getD 0 fz).att)) rfl (hp69.get 3 rfl) ?_
    refine stp (v := .int .i64 (IntKind.i64.wrap ((l.reverse.getD 0 fz).att + 99))) (o_bin rfl rfl (by rw [head_0 _ h0r]; rfl)) ?_
    refine m_setF (enc := fltC) fz (q := fAtt (l.reverse.getD 0 fz) (IntKind.i64.wrap ((l.reverse.getD 0 fz).att + 99))) (j := 0) (val := .int .i64 (IntKind.i64.wrap ((l.reverse.getD 0 fz).att + 99))) hM67 (i := 0) rfl (SlS.upFull (m := l.reverse) hs3 (by first | (simp; done) | (simp; omega))) rfl rfl (by rw [List.length_append]; omega) (by omega) (by simp) (by simp) rfl rfl (by rw [head_0 _ h0r]; rfl) fun w70 r70 u70 x70 he70 hs70 (hM70 : Mem w [] w70 [r70, [], rs9, rs13, upR byteV (turn ((b.length : Int) - 1).toNat b) rs15, [], rs21, rs25, rs32, rs38, rs43, upS fltC l.reverse rs45, rs48, rs52, upR byteV (turn ((b.length : Int) - 1).toNat b) rs54, rs57, r67]) => ?_
    refine h68 _ _ ?_
    clear h68
    refine seq fun K71 h71 => ?_
    refine seq fun K72 h72 => ?_
    refine stp (v := v3) (o_mv rfl) ?_
    refine stp (v := x) (o_mv rfl) ?_
    refine stp (v := .int .i64 (l.length : Nat)) (o_lenR (hx.upd hM70.upd) rfl rfl) ?_
    refine m_slcOS l.length (hs70) rfl (by first | omega | (simp; done) | (simp; omega)) (⟨_, rfl⟩) trivial fun u73 hu73 => ?_
    have hu73' := SlS.eqL (m := headAtt l.reverse (IntKind.i64.wrap ((l.reverse.getD 0 fz).att + 99))) hu73 (cutH _ _ h0r (by simp))
    refine m_call (Check_ok _ (headAtt l.reverse (IntKind.i64.wrap ((l.reverse.getD 0 fz).att + 99))) w70 (hu73'.rd hM70 (i := 0) rfl) (by first | exact hok | exact rev_ok hok | exact hokh | assumption) (by first | omega | (simp only [List.length_append, List.length_reverse, List.length_take, List.length_replicate, List.length_set]; omega) | (simp; omega))) rfl fun v74 w74 ⟨hr74, hu74⟩ => ?_
    have hM74 : Mem w [] w74 [r70, [], rs9, rs13, upR byteV (turn ((b.length : Int) - 1).toNat b) rs15, [], rs21, rs25, rs32, rs38, rs43, upS fltC l.reverse rs45, rs48, rs52, upR byteV (turn ((b.length : Int) - 1).toNat b) rs54, rs57, r67] := hM70.pure hu74
    subst hr74
    refine stp (v := u63) (o_mv rfl) ?_
    refine m_call (refCheck_ok _ (l.reverse.set 0 (fAtt (l.reverse.getD 0 fz) (IntKind.i64.wrap ((l.reverse.getD 0 fz).att + 99)))) w74 (hs67.rd hM74 (i := 16) rfl) (by first | exact hok | exact rev_ok hok | exact hokh | assumption) (by first | omega | (simp only [List.length_append, List.length_reverse, List.length_take, List.length_replicate, List.length_set]; omega) | (simp; omega))) rfl fun v75 w75 ⟨hr75, hu75⟩ => ?_
    have hM75 : Mem w [] w75 [r70, [], rs9, rs13, upR byteV (turn ((b.length : Int) - 1).toNat b) rs15, [], rs21, rs25, rs32, rs38, rs43, upS fltC l.reverse rs45, rs48, rs52, upR byteV (turn ((b.length : Int) - 1).toNat b) rs54, rs57, r67] := hM74.pure hu75
    subst hr75
    refine stp (v := .bool (decide (¬ (check (headAtt l.reverse (IntKind.i64.wrap ((l.reverse.getD 0 fz).att + 99)))) = (check (l.reverse.set 0 (fAtt (l.reverse.getD 0 fz) (IntKind.i64.wrap ((l.reverse.getD 0 fz).att + 99)))))))) (o_bin rfl rfl v_neq) ?_
    refine h72 _ _ ?_
    clear h72
    refine cndP rfl (fun c76 => absurd c76 (fun h => h rfl)) (fun c76 => ?_)
    refine h71 _ _ ?_
    clear h71
    refine stp (v := v3) (o_mv rfl) ?_
    refine stp (v := v3) (o_mv rfl) ?_
    refine m_idxS fz (j := 0) (hs70.rd hM75 (i := 0) rfl) rfl rfl (by rw [List.length_set, List.length_append]; omega) fun b77 o77 hp77 => ?_
    refine stp (v := .pointer (some ⟨b77, o77 + 3, none⟩)) (o_fa rfl rfl) ?_
    refine ld (v := .int .i64 ((((l.reverse ++ (l ++ List.replicate 64 (⟨7001, 0, 5, 0, 0, 0, 0, 0⟩ : Flt)).drop l.reverse.length).set 0 (fAtt (l.reverse.getD 0 fz) (IntKind.i64.wrap ((l.reverse.getD 0 fz).att + 99)))).getD 0 fz).att)) rfl (hp77.get 3 rfl) ?_
    refine stp (v := .int .i64 ((l.reverse.getD 0 fz).att)) (o_bin rfl rfl (by rw [head_1 _ _ h0r]; exact v_int (add_sub_wrap hkr))) ?_
    refine m_setF (enc := fltC) fz (q := (l.reverse.getD 0 fz)) (j := 0) (val := .int .i64 ((l.reverse.getD 0 fz).att)) hM75 (i := 0) rfl hs70 rfl rfl (by rw [List.length_set, List.length_append]; omega) (by omega) (by simp) (by simp) rfl rfl (by rw [head_1 _ _ h0r]; rfl) fun w78 r78 u78 x78 he78 hs78 (hM78 : Mem w [] w78 [r78, [], rs9, rs13, upR byteV (turn ((b.length : Int) - 1).toNat b) rs15, [], rs21, rs25, rs32, rs38, rs43, upS fltC l.reverse rs45, rs48, rs52, upR byteV (turn ((b.length : Int) - 1).toNat b) rs54, rs57, r67]) => ?_
    refine h58 _ _ ?_
    clear h58
    refine seq fun K79 h79 => ?_
    refine stp (v := v3) (o_mv rfl) ?_
    refine stp (v := x) (o_mv rfl) ?_
    refine stp (v := .int .i64 (l.length : Nat)) (o_lenR (hx.upd hM78.upd) rfl rfl) ?_
    refine m_slcOS l.length (hs78) rfl (by first | omega | (simp; done) | (simp; omega)) (⟨_, rfl⟩) trivial fun u80 hu80 => ?_
    have hu80' := SlS.eqL (m := l.reverse) hu80 (by first | exact cutA _ _ h0r (by simp) | exact cutB _ _ (by simp))
    refine m_call (Check_ok _ l.reverse w78 (hu80'.rd hM78 (i := 0) rfl) (by first | exact hok | exact rev_ok hok | exact hokh | assumption) (by first | omega | (simp only [List.length_append, List.length_reverse, List.length_take, List.length_replicate, List.length_set]; omega) | (simp; omega))) rfl fun v81 w81 ⟨hr81, hu81⟩ => ?_
    have hM81 : Mem w [] w81 [r78, [], rs9, rs13, upR byteV (turn ((b.length : Int) - 1).toNat b) rs15, [], rs21, rs25, rs32, rs38, rs43, upS fltC l.reverse rs45, rs48, rs52, upR byteV (turn ((b.length : Int) - 1).toNat b) rs54, rs57, r67] := hM78.pure hu81
    subst hr81
    refine stp (v := x) (o_mv rfl) ?_
    refine m_call (given_ok _ l w81 (hx.upd hM81.upd) (by first | omega | (simp; done) | (simp; omega))) rfl fun v82 w82 ⟨rs82, hs82, hm82⟩ => ?_
    have hM82 : Mem w [] w82 [r78, [], rs9, rs13, upR byteV (turn ((b.length : Int) - 1).toNat b) rs15, [], rs21, rs25, rs32, rs38, rs43, upS fltC l.reverse rs45, rs48, rs52, upR byteV (turn ((b.length : Int) - 1).toNat b) rs54, rs57, r67, rs82] := hM81.add hm82
    refine stp (v := x) (o_mv rfl) ?_
    refine stp (v := .int .i64 (l.length : Nat)) (o_lenR (hx.upd hM82.upd) rfl rfl) ?_
    refine m_slcOS l.length (hs82) rfl (by first | omega | (simp; done) | (simp; omega)) (⟨_, rfl⟩) trivial fun u83 hu83 => ?_
    have hu83' := SlS.eqL (m := l) hu83 (by simp)
    refine m_call (back_ok _ l rs82 w82 hu83' (hM82.res (i := 17) rfl) (by first | omega | (simp; done) | (simp; omega))) rfl fun v84 w84 ⟨hr84, hm84⟩ => ?_
    have hM84 : Mem w [] w84 [r78, [], rs9, rs13, upR byteV (turn ((b.length : Int) - 1).toNat b) rs15, [], rs21, rs25, rs32, rs38, rs43, upS fltC l.reverse rs45, rs48, rs52, upR byteV (turn ((b.length : Int) - 1).toNat b) rs54, rs57, r67, upS fltC l.reverse rs82] := hM82.step 17 rfl hm84
    subst v84
    refine m_call (refCheck_ok _ l.reverse w84 ((SlS.up (m := l.reverse) hu83' (by simp)).rd hM84 (i := 17) rfl) (by first | exact hok | exact rev_ok hok | exact hokh | assumption) (by first | omega | (simp only [List.length_append, List.length_reverse, List.length_take, List.length_replicate, List.length_set]; omega) | (simp; omega))) rfl fun v85 w85 ⟨hr85, hu85⟩ => ?_
    have hM85 : Mem w [] w85 [r78, [], rs9, rs13, upR byteV (turn ((b.length : Int) - 1).toNat b) rs15, [], rs21, rs25, rs32, rs38, rs43, upS fltC l.reverse rs45, rs48, rs52, upR byteV (turn ((b.length : Int) - 1).toNat b) rs54, rs57, r67, upS fltC l.reverse rs82] := hM84.pure hu85
    subst hr85
    refine stp (v := .bool true) (o_bin rfl rfl v_eqT) ?_
    refine stp (v := .bool true) (o_mv rfl) ?_
    refine splitT rfl ?_
    refine stg rfl (v := v43_) (o_mv rfl) ?_
    refine stg rfl (v := v48_) (o_mv rfl) ?_
    refine gyesl rfl ?_
    refine m_call (same_ok _ _ ((encE l.reverse).1) ((encE l.reverse).1) w85 (hs43.rd hM85 (i := 10) rfl) (hs48.rd hM85 (i := 12) rfl) (by first | omega | (simp; done) | (simp; omega))) rfl fun v86 w86 ⟨hr86, hu86⟩ => ?_
    have hM86 : Mem w [] w86 [r78, [], rs9, rs13, upR byteV (turn ((b.length : Int) - 1).toNat b) rs15, [], rs21, rs25, rs32, rs38, rs43, upS fltC l.reverse rs45, rs48, rs52, upR byteV (turn ((b.length : Int) - 1).toNat b) rs54, rs57, r67, upS fltC l.reverse rs82] := hM85.pure hu86
    obtain rfl : v86 = .bool true := hr86.trans (by simp)
    clear hr86
    refine stp (v := .bool true) (o_pickT rfl rfl) ?_
    refine stp (v := .bool true) (o_mv rfl) ?_
    refine splitT rfl ?_
    refine stg rfl (v := .int .i64 ((encE l.reverse).2)) (o_mv rfl) ?_
    refine stg rfl (v := .int .i64 ((encE l.reverse).2)) (o_mv rfl) ?_
    refine stg rfl (v := .bool true) (o_bin rfl rfl v_eqT) ?_
    refine stp (v := .bool true) (o_pickT rfl rfl) ?_
    refine stp (v := .bool true) (o_mv rfl) ?_
    refine splitT rfl ?_
    refine stg rfl (v := v52_) (o_mv rfl) ?_
    refine stg rfl (v := v57_) (o_mv rfl) ?_
    refine gyesl rfl ?_
    refine m_call (sameFaults_ok _ _ ((decV (turn ((b.length : Int) - 1).toNat b)).1) ((decV (turn ((b.length : Int) - 1).toNat b)).1) w86 (hs52.rd hM86 (i := 13) rfl) (hs57.rd hM86 (i := 15) rfl) ((by first | omega | (simp; omega)))) rfl fun v87 w87 ⟨hr87, hu87⟩ => ?_
    have hM87 : Mem w [] w87 [r78, [], rs9, rs13, upR byteV (turn ((b.length : Int) - 1).toNat b) rs15, [], rs21, rs25, rs32, rs38, rs43, upS fltC l.reverse rs45, rs48, rs52, upR byteV (turn ((b.length : Int) - 1).toNat b) rs54, rs57, r67, upS fltC l.reverse rs82] := hM86.pure hu87
    obtain rfl : v87 = .bool true := hr87.trans (by simp)
    clear hr87
    refine stp (v := .bool true) (o_pickT rfl rfl) ?_
    refine stp (v := .bool true) (o_mv rfl) ?_
    refine splitT rfl ?_
    refine stg rfl (v := .int .i64 ((decV (turn ((b.length : Int) - 1).toNat b)).2)) (o_mv rfl) ?_
    refine stg rfl (v := .int .i64 ((decV (turn ((b.length : Int) - 1).toNat b)).2)) (o_mv rfl) ?_
    refine stg rfl (v := .bool true) (o_bin rfl rfl v_eqT) ?_
    refine stp (v := .bool true) (o_pickT rfl rfl) ?_
    refine stp (v := .bool true) (o_mv rfl) ?_
    refine splitT rfl ?_
    refine stg rfl (v := v21_) (o_mv rfl) ?_
    refine stg rfl (v := v25_) (o_mv rfl) ?_
    refine gyesl rfl ?_
    refine m_call (sameFaults_ok _ _ ((decV b).1) ((decV b).1) w87 (hs21.rd hM87 (i := 6) rfl) (hs25.rd hM87 (i := 7) rfl) ((by first | omega | (simp; omega)))) rfl fun v88 w88 ⟨hr88, hu88⟩ => ?_
    have hM88 : Mem w [] w88 [r78, [], rs9, rs13, upR byteV (turn ((b.length : Int) - 1).toNat b) rs15, [], rs21, rs25, rs32, rs38, rs43, upS fltC l.reverse rs45, rs48, rs52, upR byteV (turn ((b.length : Int) - 1).toNat b) rs54, rs57, r67, upS fltC l.reverse rs82] := hM87.pure hu88
    obtain rfl : v88 = .bool true := hr88.trans (by simp)
    clear hr88
    refine stp (v := .bool true) (o_pickT rfl rfl) ?_
    refine stp (v := .bool true) (o_mv rfl) ?_
    refine h79 _ _ ?_
    clear h79
    refine ⟨(.bool true), rfl, ?_⟩
    exact ⟨rfl, hM88.upd⟩
  ·
    refine h58 _ _ ?_
    clear h58
    refine seq fun K89 h89 => ?_
    refine stp (v := v3) (o_mv rfl) ?_
    refine stp (v := x) (o_mv rfl) ?_
    refine stp (v := .int .i64 (l.length : Nat)) (o_lenR (hx.upd hM57.upd) rfl rfl) ?_
    refine m_slcOS l.length ((SlS.upFull (m := l.reverse) hs3 (by first | (simp; done) | (simp; omega)))) rfl (by first | omega | (simp; done) | (simp; omega)) (⟨_, rfl⟩) trivial fun u90 hu90 => ?_
    have hu90' := SlS.eqL (m := l.reverse) hu90 (by first | exact cutA _ _ h0r (by simp) | exact cutB _ _ (by simp))
    refine m_call (Check_ok _ l.reverse w57 (hu90'.rd hM57 (i := 0) rfl) (by first | exact hok | exact rev_ok hok | exact hokh | assumption) (by first | omega | (simp only [List.length_append, List.length_reverse, List.length_take, List.length_replicate, List.length_set]; omega) | (simp; omega))) rfl fun v91 w91 ⟨hr91, hu91⟩ => ?_
    have hM91 : Mem w [] w91 [upS fltC l.reverse rs3, [], rs9, rs13, upR byteV (turn ((b.length : Int) - 1).toNat b) rs15, [], rs21, rs25, rs32, rs38, rs43, upS fltC l.reverse rs45, rs48, rs52, upR byteV (turn ((b.length : Int) - 1).toNat b) rs54, rs57] := hM57.pure hu91
    subst hr91
    refine stp (v := x) (o_mv rfl) ?_
    refine m_call (given_ok _ l w91 (hx.upd hM91.upd) (by first | omega | (simp; done) | (simp; omega))) rfl fun v92 w92 ⟨rs92, hs92, hm92⟩ => ?_
    have hM92 : Mem w [] w92 [upS fltC l.reverse rs3, [], rs9, rs13, upR byteV (turn ((b.length : Int) - 1).toNat b) rs15, [], rs21, rs25, rs32, rs38, rs43, upS fltC l.reverse rs45, rs48, rs52, upR byteV (turn ((b.length : Int) - 1).toNat b) rs54, rs57, rs92] := hM91.add hm92
    refine stp (v := x) (o_mv rfl) ?_
    refine stp (v := .int .i64 (l.length : Nat)) (o_lenR (hx.upd hM92.upd) rfl rfl) ?_
    refine m_slcOS l.length (hs92) rfl (by first | omega | (simp; done) | (simp; omega)) (⟨_, rfl⟩) trivial fun u93 hu93 => ?_
    have hu93' := SlS.eqL (m := l) hu93 (by simp)
    refine m_call (back_ok _ l rs92 w92 hu93' (hM92.res (i := 16) rfl) (by first | omega | (simp; done) | (simp; omega))) rfl fun v94 w94 ⟨hr94, hm94⟩ => ?_
    have hM94 : Mem w [] w94 [upS fltC l.reverse rs3, [], rs9, rs13, upR byteV (turn ((b.length : Int) - 1).toNat b) rs15, [], rs21, rs25, rs32, rs38, rs43, upS fltC l.reverse rs45, rs48, rs52, upR byteV (turn ((b.length : Int) - 1).toNat b) rs54, rs57, upS fltC l.reverse rs92] := hM92.step 16 rfl hm94
    subst v94
    refine m_call (refCheck_ok _ l.reverse w94 ((SlS.up (m := l.reverse) hu93' (by simp)).rd hM94 (i := 16) rfl) (by first | exact hok | exact rev_ok hok | exact hokh | assumption) (by first | omega | (simp only [List.length_append, List.length_reverse, List.length_take, List.length_replicate, List.length_set]; omega) | (simp; omega))) rfl fun v95 w95 ⟨hr95, hu95⟩ => ?_
    have hM95 : Mem w [] w95 [upS fltC l.reverse rs3, [], rs9, rs13, upR byteV (turn ((b.length : Int) - 1).toNat b) rs15, [], rs21, rs25, rs32, rs38, rs43, upS fltC l.reverse rs45, rs48, rs52, upR byteV (turn ((b.length : Int) - 1).toNat b) rs54, rs57, upS fltC l.reverse rs92] := hM94.pure hu95
    subst hr95
    refine stp (v := .bool true) (o_bin rfl rfl v_eqT) ?_
    refine stp (v := .bool true) (o_mv rfl) ?_
    refine splitT rfl ?_
    refine stg rfl (v := v43_) (o_mv rfl) ?_
    refine stg rfl (v := v48_) (o_mv rfl) ?_
    refine gyesl rfl ?_
    refine m_call (same_ok _ _ ((encE l.reverse).1) ((encE l.reverse).1) w95 (hs43.rd hM95 (i := 10) rfl) (hs48.rd hM95 (i := 12) rfl) (by first | omega | (simp; done) | (simp; omega))) rfl fun v96 w96 ⟨hr96, hu96⟩ => ?_
    have hM96 : Mem w [] w96 [upS fltC l.reverse rs3, [], rs9, rs13, upR byteV (turn ((b.length : Int) - 1).toNat b) rs15, [], rs21, rs25, rs32, rs38, rs43, upS fltC l.reverse rs45, rs48, rs52, upR byteV (turn ((b.length : Int) - 1).toNat b) rs54, rs57, upS fltC l.reverse rs92] := hM95.pure hu96
    obtain rfl : v96 = .bool true := hr96.trans (by simp)
    clear hr96
    refine stp (v := .bool true) (o_pickT rfl rfl) ?_
    refine stp (v := .bool true) (o_mv rfl) ?_
    refine splitT rfl ?_
    refine stg rfl (v := .int .i64 ((encE l.reverse).2)) (o_mv rfl) ?_
    refine stg rfl (v := .int .i64 ((encE l.reverse).2)) (o_mv rfl) ?_
    refine stg rfl (v := .bool true) (o_bin rfl rfl v_eqT) ?_
    refine stp (v := .bool true) (o_pickT rfl rfl) ?_
    refine stp (v := .bool true) (o_mv rfl) ?_
    refine splitT rfl ?_
    refine stg rfl (v := v52_) (o_mv rfl) ?_
    refine stg rfl (v := v57_) (o_mv rfl) ?_
    refine gyesl rfl ?_
    refine m_call (sameFaults_ok _ _ ((decV (turn ((b.length : Int) - 1).toNat b)).1) ((decV (turn ((b.length : Int) - 1).toNat b)).1) w96 (hs52.rd hM96 (i := 13) rfl) (hs57.rd hM96 (i := 15) rfl) ((by first | omega | (simp; omega)))) rfl fun v97 w97 ⟨hr97, hu97⟩ => ?_
    have hM97 : Mem w [] w97 [upS fltC l.reverse rs3, [], rs9, rs13, upR byteV (turn ((b.length : Int) - 1).toNat b) rs15, [], rs21, rs25, rs32, rs38, rs43, upS fltC l.reverse rs45, rs48, rs52, upR byteV (turn ((b.length : Int) - 1).toNat b) rs54, rs57, upS fltC l.reverse rs92] := hM96.pure hu97
    obtain rfl : v97 = .bool true := hr97.trans (by simp)
    clear hr97
    refine stp (v := .bool true) (o_pickT rfl rfl) ?_
    refine stp (v := .bool true) (o_mv rfl) ?_
    refine splitT rfl ?_
    refine stg rfl (v := .int .i64 ((decV (turn ((b.length : Int) - 1).toNat b)).2)) (o_mv rfl) ?_
    refine stg rfl (v := .int .i64 ((decV (turn ((b.length : Int) - 1).toNat b)).2)) (o_mv rfl) ?_
    refine stg rfl (v := .bool true) (o_bin rfl rfl v_eqT) ?_
    refine stp (v := .bool true) (o_pickT rfl rfl) ?_
    refine stp (v := .bool true) (o_mv rfl) ?_
    refine splitT rfl ?_
    refine stg rfl (v := v21_) (o_mv rfl) ?_
    refine stg rfl (v := v25_) (o_mv rfl) ?_
    refine gyesl rfl ?_
    refine m_call (sameFaults_ok _ _ ((decV b).1) ((decV b).1) w97 (hs21.rd hM97 (i := 6) rfl) (hs25.rd hM97 (i := 7) rfl) ((by first | omega | (simp; omega)))) rfl fun v98 w98 ⟨hr98, hu98⟩ => ?_
    have hM98 : Mem w [] w98 [upS fltC l.reverse rs3, [], rs9, rs13, upR byteV (turn ((b.length : Int) - 1).toNat b) rs15, [], rs21, rs25, rs32, rs38, rs43, upS fltC l.reverse rs45, rs48, rs52, upR byteV (turn ((b.length : Int) - 1).toNat b) rs54, rs57, upS fltC l.reverse rs92] := hM97.pure hu98
    obtain rfl : v98 = .bool true := hr98.trans (by simp)
    clear hr98
    refine stp (v := .bool true) (o_pickT rfl rfl) ?_
    refine stp (v := .bool true) (o_mv rfl) ?_
    refine h89 _ _ ?_
    clear h89
    refine ⟨(.bool true), rfl, ?_⟩
    exact ⟨rfl, hM98.upd⟩
