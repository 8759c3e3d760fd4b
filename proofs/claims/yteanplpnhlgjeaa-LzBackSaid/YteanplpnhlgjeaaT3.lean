/- Tokens: the laws' helpers. -/
import Derived.Test.YteanplpnhlgjeaaT2
namespace Go.Proofs.Yteanplpnhlgjeaa.E
open Go
abbrev MK4 : List UInt8 := [165, 90, 167, 91]
/-- a token's bytes lie in memory of their own, marks behind them -/
def RmB (t : Tk) (a : List Ent) : Prop := ∃ b, t.ad = some ⟨b, 0, none⟩ ∧ t.ln = t.bs.length ∧ (t.bs ++ MK4).length ≤ t.cp ∧ SlE byteV 5 (.slice (some ⟨b, 0, none⟩) (t.bs ++ MK4).length t.cp) (t.bs ++ MK4) a
theorem RmB.own {t : Tk} {a : List Ent} (h : RmB t a) : OwnP byteV 5 Tk.lit Tk.bs t a := by
  obtain ⟨b, h1, h2, _, h3⟩ := h
  obtain ⟨ad, ln, cp, bs, d, n⟩ := t
  simp only at h1 h2
  subst h1 h2
  exact h3.cutTo
theorem Nst.rm {us : List Tk} {r : List Ent} {w0 w : World} {S : List Nat} {R : List (List Ent)} {i : Nat} (h : Nst RmB us r) (hM : Mem w0 S w R) (hi : R[i]? = some r) {t : Tk} (ht : t ∈ us) : ∃ b, t.ad = some ⟨b, 0, none⟩ ∧ t.ln = t.bs.length ∧ (t.bs ++ MK4).length ≤ t.cp ∧ RdE byteV w (.slice (some ⟨b, 0, none⟩) (t.bs ++ MK4).length t.cp) (t.bs ++ MK4) := by
  obtain ⟨a, ha, b, h1, h2, h3, h4⟩ := h.get t ht
  exact ⟨b, h1, h2, h3, Sl.rdOwn h4 fun e he => hM.owned hi e (ha e he)⟩
theorem len_us {us ts : List Tk} (h : us.map Tk.p = ts.map Tk.p) : us.length = ts.length := by
  have := congrArg List.length h; simpa using this
theorem ok_us {us ts : List Tk} {w w' : World} (h : us.map Tk.p = ts.map Tk.p) (hts : ∀ t ∈ ts, t.ok w) (hr : ∀ t ∈ us, RdE byteV w' t.lit t.bs) : ∀ t ∈ us, t.ok w' := by
  intro t ht
  have hm : t.p ∈ ts.map Tk.p := by rw [← h]; exact List.mem_map.2 ⟨t, ht, rfl⟩
  obtain ⟨x, hx, he⟩ := List.mem_map.1 hm
  have hk := hts x hx
  have e1 : x.bs = t.bs := congrArg (·.1) he
  have e2 : x.d = t.d := congrArg (·.2.1) he
  have e3 : x.n = t.n := congrArg (·.2.2) he
  refine ⟨hr t ht, ?_⟩
  have := hk.2
  rw [e1, e2, e3] at this; exact this
theorem p_us {us ts : List Tk} (h : us.map Tk.p = ts.map Tk.p) (i : Nat) : (us.getD i tz).bs = (ts.getD i tz).bs ∧ (us.getD i tz).d = (ts.getD i tz).d ∧ (us.getD i tz).n = (ts.getD i tz).n := by
  have e := mapG us i
  rw [h, mapG] at e
  exact ⟨(congrArg (·.1) e).symm, (congrArg (·.2.1) e).symm, (congrArg (·.2.2) e).symm⟩
theorem expF_len (ps : List Pk) : (expF ps).1.length ≤ 65536 := expF_le ps
theorem toksB_len : ∀ (ts : List Pk), (∀ t ∈ ts, 0 ≤ t.2.2 ∧ t.2.2 ≤ 259 ∧ 0 ≤ t.2.1 ∧ t.2.1 ≤ 32768 ∧ (t.2.2 = 0 ↔ noneT t)) → (ts.map fun t => t.1.length).sum ≤ 65536 → (toksB ts).length ≤ (ts.map fun t => t.1.length).sum + 27 * ts.length
  | [], _, _ => by simp [toksB]
  | t :: ts, h, hs => by
    simp only [List.map_cons, List.sum_cons, List.length_cons] at hs ⊢
    have ih := toksB_len ts (fun x hx => h x (List.mem_cons_of_mem _ hx)) (by omega)
    have hb := h t (by simp)
    have hk : (tokB t).length ≤ t.1.length + 27 := by
      have := tokB_len (t := ⟨none, 0, 0, t.1, t.2.1, t.2.2⟩) (by simp only; omega) (by simp only [inK]; omega) (by simp only [inK]; omega)
      exact this
    have e : toksB (t :: ts) = tokB t ++ toksB ts := by simp [toksB]
    rw [e, List.length_append]; omega
theorem wrF_len (ps : List Pk) : (wrF ps).1.length ≤ 1835008 := by
  by_cases c : (expF ps).2 = 0
  · rw [wrF_ok c]
    obtain ⟨h1, h2, h3⟩ := expG_bd ps [] c
    have hle := expF_le ps
    unfold expF at hle
    simp only [List.length_nil] at h2 h3
    have := toksB_len ps h1 (by omega)
    simp only; omega
  · rw [wrF_no c]; simp

section
variable {P : Program} {r : List MI} {f : Fr} {w w0 : World} {S : List Nat} {R : List (List Ent)} {K : Fr → World → Prop} {d : Nat}
theorem m_alU {t : TypeId} {cs : List Value} (hM : Mem w0 S w R) (h : ∀ b w', Upd [] w w' → Mem w0 S w' (R ++ [[⟨b, t, cs⟩]]) → vr P r (upd f d (.pointer (some ⟨b, 0, none⟩))) w' K) : vr P (.l none (some d) (.al t cs) :: r) f w K :=
  m_al (Mem.nil w []) fun b w' hM' => h b w' hM'.upd (hM.add hM')
end
theorem m_idxE3 {α : Type} {E : α → Value} (z : α) {P : Program} {r : List MI} {f : Fr} {w wr : World} {K : Fr → World → Prop} {d : Nat} {x i : Operand} {u : Value} {l : List α} {j : Nat} {k : IntKind} (h : RdE E w u l) (h0 : RdE E wr u l) (hx : ev f x = u) (hi : ev f i = .int k j) (hj : j < l.length)
    (hk : ∀ b o, wr.cell? ⟨b, o, none⟩ = some (E (l.getD j z)) → b = blkV u → vr P r (upd f d (.pointer (some ⟨b, o, none⟩))) w K) : vr P (.p none d (.idx 1 x i) :: r) f w K := by
  show pe (.idx 1 x i) f (fun v => vr P r (upd f d v) w K)
  obtain ⟨a, c, rfl, h2, h3, h4⟩ := h.form
  obtain ⟨a0, c0, e, h20, h30, h40⟩ := h0.form
  cases e
  show kslice (ev f x) _; rw [hx]; show anyint (ev f i) _; rw [hi]; refine ⟨⟨by omega, by omega⟩, ?_⟩
  cases a with
  | none => have := h4 rfl; omega
  | some a =>
    obtain ⟨b, o, m⟩ := a
    cases m with
    | some m => simp only [Row] at h3; have := congrArg List.length h3; simp at this; subst this; simp at hj
    | none =>
      refine hk _ _ ?_ rfl
      have h5 := h30 j (by simpa using hj)
      rw [Int.toNat_natCast, Nat.mul_one, h5, List.getElem?_map, List.getElem?_eq_getElem hj, List.getD_eq_getElem?_getD, List.getElem?_eq_getElem hj]; rfl
theorem SlE.blk_apart {α : Type} {E : α → Value} {t : TypeId} {v : Value} {l : List α} {r rk : List Ent} {w0 w : World} {S : List Nat} {R : List (List Ent)} {i k : Nat} (h : SlE E t v l r) (hM : Mem w0 S w R) (hi : R[i]? = some r) (hk : R[k]? = some rk) (hn : i ≠ k) (hl : 0 < l.length) : blkV v ∉ ids rk := by
  rcases h.form with ⟨_, h, _⟩ | ⟨b, c, tl, h, h2, _, _⟩
  · rw [h] at hl; simp at hl
  · subst h h2
    exact hM.apart (i := i) (j := 0) (k := k) hi rfl hk hn

section
variable {α : Type} {enc : α → List Value} {sz : Nat} [Enc enc sz]
theorem fm_setF (z : α) {l : List α} {tail : List Value} {j o : Nat} {q : α} {val : Value} (hj : j < l.length) (ho : o < sz) (hq : enc q = (enc (l.getD j z)).set o val) : (l.flatMap enc ++ tail).set (j * sz + o) val = (l.set j q).flatMap enc ++ tail := by
  have hl : l = l.take j ++ l.getD j z :: l.drop (j + 1) := by
    conv => lhs; rw [← List.take_append_drop j l, dropG z hj]
  have hL : l.flatMap enc ++ tail = (l.take j).flatMap enc ++ (enc (l.getD j z) ++ ((l.drop (j + 1)).flatMap enc ++ tail)) := by
    conv => lhs; rw [hl]
    simp [List.flatMap_append]
  have hR : (l.set j q).flatMap enc ++ tail = (l.take j).flatMap enc ++ (enc q ++ ((l.drop (j + 1)).flatMap enc ++ tail)) := by
    rw [List.set_eq_take_append_cons_drop, if_pos hj]
    simp [List.flatMap_append]
  have hn : ((l.take j).flatMap enc).length = j * sz := by rw [fm_length, List.length_take, Nat.min_eq_left (by omega)]
  rw [hL, hR, List.set_append_right _ _ (by rw [hn]; omega), hn, Nat.add_sub_cancel_left, List.set_append_left _ _ (by rw [Enc.len (enc := enc)]; exact ho), hq]
variable {P : Program} {r : List MI} {f : Fr} {w w0 : World} {S : List Nat} {R : List (List Ent)} {K : Fr → World → Prop} {d : Nat} {t : TypeId} {v : Value}
/-- one cell of an element of the call's own slice is written -/
theorem m_setF (z : α) {x p y : Operand} {l : List α} {q : α} {i j o d2 : Nat} {k : IntKind} {val : Value} {rs : List Ent} (hM : Mem w0 S w R) (hi : R[i]? = some rs) (hs : SlS enc sz t v l rs) (hx : ev f x = v) (hp : ev f p = .int k j) (hj : j < l.length) (ho : o < sz) (hyd : y ≠ .tmp d) (hyd2 : y ≠ .tmp d2) (hy : ev f y = val) (h1 : val.oneCell' = true) (hq : enc q = (enc (l.getD j z)).set o val)
    (h : ∀ w' r' u u2, r' = upS enc (l.set j q) rs → SlS enc sz t v (l.set j q) r' → Mem w0 S w' (R.set i r') → vr P r (upd (upd f d u) d2 u2) w' K) : vr P (.p none d (.idx sz x p) :: .p none d2 (.fa o (.tmp d)) :: .l none none (.st 1 (.tmp d2) y) :: r) f w K := by
  rcases hs.form with ⟨_, h0, _⟩ | ⟨b, cap, tail, rfl, rfl, h2, h3⟩
  · omega
  · refine idx hx hp ⟨by omega, by omega⟩ ?_
    refine fa (b := b) (o := 0 + (j : Int).toNat * sz) (by show upd f d _ d = _; unfold upd; rw [if_pos rfl]) ?_
    have e1 : 0 + (j : Int).toNat * sz + o = j * sz + o := by simp
    rw [e1]
    have hev : ev (upd (upd f d (.pointer (some ⟨b, 0 + (j : Int).toNat * sz, none⟩))) d2 (.pointer (some ⟨b, j * sz + o, none⟩))) y = val := by
      cases y with
      | tmp a => show upd (upd f d _) d2 _ a = _; unfold upd; rw [if_neg (fun e => hyd2 (by rw [e])), if_neg (fun e => hyd (by rw [e]))]; exact hy
      | _ => exact hy
    have hle : j * sz + sz ≤ l.length * sz := by
      have := Nat.mul_le_mul_right sz hj
      rwa [Nat.succ_mul] at this
    refine m_st hM hi (b := b) (o := j * sz + o) (by show upd _ d2 _ d2 = _; unfold upd; rw [if_pos rfl]) hev h1 (by rw [List.length_append, fm_length]; omega) fun w' hM' => ?_
    rw [fm_setF z hj ho hq] at hM'
    refine h _ _ _ _ ?_ ⟨fm_length _, .inr ⟨b, cap, tail, by simp, rfl, by simpa using h2, by simpa using h3⟩⟩ hM'
    unfold upS
    simp only [List.map_cons, List.map_nil]
    have e : (l.flatMap enc).length = ((l.set j q).flatMap enc).length := by rw [fm_length, fm_length, List.length_set]
    rw [List.drop_left' e]
end
/-- two places of a list turned round are exchanged -/
theorem back_elS {α : Type} (z : α) {enc : α → List Value} {sz : Nat} {t : TypeId} {x : Value} {l : List α} {i : Nat} {r r' : List Ent} (_ : SlS enc sz t x (revI z i l) r) (h : 2 * i + 1 < l.length)
    (k : SlS enc sz t x (((revI z i l).set i ((revI z i l).getD (l.length - 1 - i) z)).set (l.length - 1 - i) ((revI z i l).getD i z)) r') : SlS enc sz t x (((revI z i l).set i (l.getD (l.length - 1 - i) z)).set (l.length - 1 - i) (l.getD i z)) r' := by
  rwa [revI_getD z (by omega), revI_getD z (by omega), if_neg (by omega), if_neg (by omega)] at k
theorem back_upS {α : Type} (z : α) {enc : α → List Value} (sz : Nat) (hE : Enc enc sz) {l : List α} {i : Nat} {r0 r r' r'' : List Ent} (h : 2 * i + 1 < l.length) (he : r = upS enc (revI z i l) r0) (k1 : r' = upS enc ((revI z i l).set i ((revI z i l).getD (l.length - 1 - i) z)) r)
    (k2 : r'' = upS enc (((revI z i l).set i ((revI z i l).getD (l.length - 1 - i) z)).set (l.length - 1 - i) ((revI z i l).getD i z)) r') : r'' = upS enc (((revI z i l).set i (l.getD (l.length - 1 - i) z)).set (l.length - 1 - i) (l.getD i z)) r0 := by
  rw [k2, k1, he, upS_upS sz hE (by simp), upS_upS sz hE (by simp)]
  rw [revI_getD z (by omega), revI_getD z (by omega), if_neg (by omega), if_neg (by omega)]

/-- winnowlaw3.sameBytes -/
theorem sameBytes_ok (x y : Value) (a b : List UInt8) (w : World) (hx : RdE byteV w x a) (hy : RdE byteV w y b) (hla : a.length ≤ 9223372036854775807) : Calls Try.prog 18 [x, y].toArray w (Rt fun r w' => r = .bool (decide (a = b)) ∧ Upd [] w w') := by
  have hM0 : Mem w [] w [] := Mem.nil w []
  refine calls_vc mixed Try.func18 rfl C18 (by simp [Try.ntmps18]) ?_
  refine seq fun K1 h1 => ?_
  refine stp (v := .bool false) (o_mv rfl) ?_
  refine h1 _ _ ?_
  clear h1
  refine seq fun K2 h2 => ?_
  refine seq fun K3 h3 => ?_
  refine stp (v := x) (o_mv rfl) ?_
  refine stp (v := .int .i64 (a.length : Nat)) (o_lenR (hx.upd hM0.upd) rfl rfl) ?_
  refine stp (v := y) (o_mv rfl) ?_
  refine stp (v := .int .i64 (b.length : Nat)) (o_lenR (hy.upd hM0.upd) rfl rfl) ?_
  refine stp (v := .bool (decide (¬ ((a.length : Nat) : Int) = (b.length : Nat)))) (o_bin rfl rfl v_neq) ?_
  refine h3 _ _ ?_
  clear h3
  refine cndP rfl (fun c4 => ?_) (fun c4 => ?_)
  ·
    refine seq fun K5 h5 => ?_
    refine stp (v := .bool false) (o_mv rfl) ?_
    refine h5 _ _ ?_
    clear h5
    refine ⟨(.bool false), rfl, ?_⟩
    exact ⟨by rw [decide_eq_false (fun e => c4 (by rw [e]))], hM0.upd⟩
  ·
    refine h2 _ _ ?_
    clear h2
    refine seq fun K6 h6 => ?_
    refine seq fun K7 h7 => ?_
    refine stp (v := .int .i64 0) (o_mv rfl) ?_
    refine h7 _ _ ?_
    clear h7
    refine lp (n := fun _ _ => False) (ι := (Nat)) (fun i f w' => f 0 = x ∧ f 1 = y ∧ f 5 = .int .i64 (i : Nat) ∧ Mem w [] w' [] ∧ (i ≤ a.length) ∧ (a.take i = b.take i)) (fun i => a.length - i) (0) ?_ ?_
    · exact ⟨rfl, rfl, by first | rfl | exact v_int (by omega) | exact v_int (by simp) | exact v_int (by simp; omega), hM0, by omega, by simp⟩
    · rintro i f w8 ⟨e8_0, e8_1, e8_5, hM8, hi, hp⟩ K9 h9
      obtain ⟨frm, rfl⟩ : ∃ frm, f = (upd (upd (upd frm 0 (x)) 1 (y)) 5 (.int .i64 (i : Nat))) := ⟨f, by rw [upd_self e8_0, upd_self e8_1, upd_self e8_5]⟩
      clear e8_0 e8_1 e8_5
      refine seq fun K10 h10 => ?_
      refine seq fun K11 h11 => ?_
      refine stp (v := .int .i64 (i : Nat)) (o_mv rfl) ?_
      refine stp (v := x) (o_mv rfl) ?_
      refine stp (v := .int .i64 (a.length : Nat)) (o_lenR (hx.upd hM8.upd) rfl rfl) ?_
      refine stp (v := .bool (decide (((i : Nat) : Int) < (a.length : Nat)))) (o_bin rfl rfl rfl) ?_
      refine h11 _ _ ?_
      clear h11
      refine cndP rfl (fun c12 => ?_) (fun c12 => ?_)
      ·
        refine h10 _ _ ?_
        clear h10
        refine seq fun K13 h13 => ?_
        refine seq fun K14 h14 => ?_
        intro wd e1 e2 e3 e4
        have hd := Upd.same e1 e2 e3 e4 []
        have hM15 := hM8.pure hd
        clear e1 e2 e3 e4
        refine ⟨none, ?_⟩
        show vd _ _ _ _ _ _ _
        refine dq (v := x) (o_mv rfl) ?_
        refine dq (v := .int .i64 (i : Nat)) (o_mv rfl) ?_
        refine dqp (m_idxE 0 (j := i) (hx.upd hM15.upd) rfl rfl (by omega) fun b16 o16 hp16 => ?_)
        show vd _ _ _ _ _ _ _
        refine dq (v := y) (o_mv rfl) ?_
        refine dq (v := .int .i64 (i : Nat)) (o_mv rfl) ?_
        refine dqp (m_idxE 0 (j := i) (hy.upd hM15.upd) rfl rfl (by omega) fun b17 o17 hp17 => ?_)
        show vd _ _ _ _ _ _ _
        refine dqld rfl (trivial) (v := byteV (b.getD i 0)) (hp17) ?_
        refine dl (ld (v := byteV (a.getD i 0)) rfl (hp16) ?_)
        refine ⟨rfl, ?_⟩
        refine dq (v := .bool (decide (¬ ((a.getD i 0).toNat : Int) = ((b.getD i 0).toNat : Int)))) (o_bin rfl rfl v_neq) ?_
        refine h14 _ _ ?_
        clear h14
        refine cndP rfl (fun c18 => ?_) (fun c18 => ?_)
        ·
          refine seq fun K19 h19 => ?_
          refine stp (v := .bool false) (o_mv rfl) ?_
          refine h19 _ _ ?_
          clear h19
          refine ⟨(.bool false), rfl, ?_⟩
          exact ⟨by rw [decide_eq_false (ne_atG 0 i (nat_neG (by assumption)))], hM15.upd⟩
        ·
          refine h13 _ _ ?_
          clear h13
          refine stp (v := .int .i64 (i : Nat)) (o_mv rfl) ?_
          refine stp (v := .int .i64 ((i : Nat) + 1)) (o_bin rfl rfl (v_add64 (by constructor <;> omega))) ?_
          refine stp (v := .int .i64 ((i : Nat) + 1)) (o_mv rfl) ?_
          refine h9 (i + 1) _ _ ⟨rfl, rfl, by first | rfl | exact v_int (by omega) | exact v_int (by simp) | exact v_int (by simp; omega), hM15, by omega, take_eqG 0 hp (by omega) (by omega) (u8_eq (by omega))⟩ (by (try dsimp only); omega)
      ·
        refine h6 _ _ ?_
        clear h6
        refine seq fun K20 h20 => ?_
        refine stp (v := .bool true) (o_mv rfl) ?_
        refine h20 _ _ ?_
        clear h20
        refine ⟨(.bool true), rfl, ?_⟩
        exact ⟨by rw [decide_eq_true]; rw [← List.take_of_length_le (l := a) (i := i) (by omega), ← List.take_of_length_le (l := b) (i := i) (by omega), hp], hM8.upd⟩

/-- winnowlaw3.full -/
theorem full_ok (x : Value) (l : List UInt8) (r0 : List Ent) (w : World) (hs0 : SlE byteV 5 x l r0) (hr : Res w r0) (hl : l.length ≤ 140737489403904) : Calls Try.prog 19 [x].toArray w (Rt fun r w' => r = .int .i64 ((l.length + 64 : Nat) : Int) ∧ Mem w (ids r0) w' []) := by
  have hM0 : Mem w (ids r0) w [r0] := Mem.start hr
  refine calls_vc mixed Try.func19 rfl C19 (by simp [Try.ntmps19]) ?_
  refine seq fun K1 h1 => ?_
  refine stp (v := .int .i64 0) (o_mv rfl) ?_
  refine h1 _ _ ?_
  clear h1
  refine seq fun K2 h2 => ?_
  refine seq fun K3 h3 => ?_
  refine stp (v := .int .i64 0) (o_mv rfl) ?_
  refine h3 _ _ ?_
  clear h3
  refine lp (n := fun _ _ => False) (ι := (Nat) × (List UInt8) × (Value) × (List Ent)) (fun ⟨i, la, y0_, r0_⟩ f w' => f 0 = y0_ ∧ f 3 = .int .i64 (i : Nat) ∧ Mem w (ids r0) w' [r0_] ∧ (la.length = l.length) ∧ (i ≤ la.length) ∧ (SlE byteV 5 y0_ (la) r0_)) (fun ⟨i, la, y0_, r0_⟩ => l.length - i) (0, l, x, r0) ?_ ?_
  · exact ⟨rfl, by first | rfl | exact v_int (by omega) | exact v_int (by simp) | exact v_int (by simp; omega), hM0, rfl, by omega, by first | exact hs0 | simpa using hs0⟩
  · rintro ⟨i, la, y0_, r0_⟩ f w4 ⟨e4_0, e4_3, hM4, hla, hi, hy0_⟩ K5 h5
    obtain ⟨frm, rfl⟩ : ∃ frm, f = (upd (upd frm 0 (y0_)) 3 (.int .i64 (i : Nat))) := ⟨f, by rw [upd_self e4_0, upd_self e4_3]⟩
    clear e4_0 e4_3
    refine seq fun K6 h6 => ?_
    refine seq fun K7 h7 => ?_
    refine stp (v := .int .i64 (i : Nat)) (o_mv rfl) ?_
    refine stp (v := y0_) (o_mv rfl) ?_
    refine stp (v := .int .i64 (la.length : Nat)) (o_lenR (hy0_.rd hM4 (i := 0) rfl) rfl rfl) ?_
    refine stp (v := .bool (decide (((i : Nat) : Int) < (la.length : Nat)))) (o_bin rfl rfl rfl) ?_
    refine h7 _ _ ?_
    clear h7
    refine cndP rfl (fun c8 => ?_) (fun c8 => ?_)
    ·
      refine h6 _ _ ?_
      clear h6
      refine seq fun K9 h9 => ?_
      refine stp (v := y0_) (o_mv rfl) ?_
      refine stp (v := .int .i64 (i : Nat)) (o_mv rfl) ?_
      refine m_set (E := byteV) (q := 202) (j := i) hM4 (i := 0) rfl hy0_ rfl rfl (by omega) (by simp) (rfl) fun w10 r10 u10 he10 hs10 (hM10 : Mem w (ids r0) w10 [r10]) => ?_
      refine h9 _ _ ?_
      clear h9
      refine stp (v := .int .i64 (i : Nat)) (o_mv rfl) ?_
      refine stp (v := .int .i64 ((i : Nat) + 1)) (o_bin rfl rfl (v_add64 (by constructor <;> omega))) ?_
      refine stp (v := .int .i64 ((i : Nat) + 1)) (o_mv rfl) ?_
      refine h5 (i + 1, la.set i 202, y0_, r10) _ _ ⟨rfl, by first | rfl | exact v_int (by omega) | exact v_int (by simp) | exact v_int (by simp; omega), hM10, by simp; omega, by simp; omega, by first | exact hs10 | simpa using hs10⟩ (by (try dsimp only); omega)
    ·
      refine h2 _ _ ?_
      clear h2
      refine seq fun K11 h11 => ?_
      refine seq fun K12 h12 => ?_
      refine stp (v := .int .i64 0) (o_mv rfl) ?_
      refine h12 _ _ ?_
      clear h12
      refine lp (n := fun _ _ => False) (ι := (Nat) × (List UInt8) × (Value) × (List Ent)) (fun ⟨i, lb, y0_, r0_⟩ f w' => f 0 = y0_ ∧ f 4 = .int .i64 (i : Nat) ∧ Mem w (ids r0) w' [r0_] ∧ (lb.length = l.length + i) ∧ (i ≤ 64) ∧ (SlE byteV 5 y0_ (lb) r0_)) (fun ⟨i, lb, y0_, r0_⟩ => 64 - i) (0, la, y0_, r0_) ?_ ?_
      · exact ⟨rfl, by first | rfl | exact v_int (by omega) | exact v_int (by simp) | exact v_int (by simp; omega), hM4, by omega, by omega, by first | exact hy0_ | simpa using hy0_⟩
      · rintro ⟨i, lb, y0_, r0_⟩ f w13 ⟨e13_0, e13_4, hM13, hlb, hi, hy0_⟩ K14 h14
        obtain ⟨frm, rfl⟩ : ∃ frm, f = (upd (upd frm 0 (y0_)) 4 (.int .i64 (i : Nat))) := ⟨f, by rw [upd_self e13_0, upd_self e13_4]⟩
        clear e13_0 e13_4
        refine seq fun K15 h15 => ?_
        refine seq fun K16 h16 => ?_
        refine stp (v := .int .i64 (i : Nat)) (o_mv rfl) ?_
        refine stp (v := .bool (decide (((i : Nat) : Int) < 64))) (o_bin rfl rfl rfl) ?_
        refine h16 _ _ ?_
        clear h16
        refine cndP rfl (fun c17 => ?_) (fun c17 => ?_)
        ·
          refine h15 _ _ ?_
          clear h15
          refine seq fun K18 h18 => ?_
          refine stp (v := y0_) (o_mv rfl) ?_
          refine m_app1 (E := byteV) (q := 203) hM13 (i := 0) rfl hy0_ rfl (by simp) (rfl) (by omega) (by omega) fun v19 w19 r19 u19 (hs19 : SlE byteV 5 v19 (lb ++ [203]) r19) (hM19 : Mem w (ids r0) w19 [r19]) => ?_
          refine stp (v := v19) (o_mv rfl) ?_
          refine h18 _ _ ?_
          clear h18
          refine stp (v := .int .i64 (i : Nat)) (o_mv rfl) ?_
          refine stp (v := .int .i64 ((i : Nat) + 1)) (o_bin rfl rfl (v_add64 (by constructor <;> omega))) ?_
          refine stp (v := .int .i64 ((i : Nat) + 1)) (o_mv rfl) ?_
          refine h14 (i + 1, lb ++ [203], v19, r19) _ _ ⟨rfl, by first | rfl | exact v_int (by omega) | exact v_int (by simp) | exact v_int (by simp; omega), hM19, by simp; omega, by omega, by first | exact hs19 | simpa using hs19⟩ (by (try dsimp only); omega)
        ·
          refine h11 _ _ ?_
          clear h11
          refine seq fun K20 h20 => ?_
          refine stp (v := y0_) (o_mv rfl) ?_
          refine stp (v := .int .i64 (lb.length : Nat)) (o_lenR (hy0_.rd hM13 (i := 0) rfl) rfl rfl) ?_
          refine stp (v := .int .i64 (lb.length : Nat)) (o_mv rfl) ?_
          refine h20 _ _ ?_
          clear h20
          refine ⟨(.int .i64 (lb.length : Nat)), rfl, ?_⟩
          exact ⟨v_int (by omega), hM13.keep (by simp)⟩

/-- winnowlaw3.roomy -/
theorem roomy_ok (x : Value) (b : List UInt8) (w : World) (hx : RdE byteV w x b) (hl : b.length ≤ 140737488355328) : Calls Try.prog 23 [x].toArray w (Rt fun r w' => ∃ bg cp rs, r = .slice (some ⟨bg, 0, none⟩) b.length cp ∧ SlE byteV 5 (.slice (some ⟨bg, 0, none⟩) (b ++ MK4).length cp) (b ++ MK4) rs ∧ (b ++ MK4).length ≤ cp ∧ Mem w [] w' [rs]) := by
  have hM0 : Mem w [] w [] := Mem.nil w []
  refine calls_vc mixed Try.func23 rfl C23 (by simp [Try.ntmps23]) ?_
  refine seq fun K1 h1 => ?_
  refine stp (v := .slice none 0 0) (o_mv rfl) ?_
  refine h1 _ _ ?_
  clear h1
  refine seq fun K2 h2 => ?_
  refine m_bs hM0 rfl fun b3 w4 (hM4 : Mem w [] w4 [[⟨b3, 5, []⟩]]) => ?_
  refine stp (v := x) (o_mv rfl) ?_
  have hs5 : SlE byteV 5 (.slice (some ⟨b3, 0, none⟩) 0 0) [] [⟨b3, 5, []⟩] := SlE.lit (l := []) rfl
  refine m_appE hM4 (i := 0) rfl hs5 rfl rfl (hx.upd hM4.upd) (by first | omega | (simp; omega)) (by omega) fun v6 w6 r6 (hs6 : SlE byteV 5 v6 (b) r6) (hM6 : Mem w [] w6 [r6]) => ?_
  refine stp (v := v6) (o_mv rfl) ?_
  refine h2 _ _ ?_
  clear h2
  refine seq fun K7 h7 => ?_
  refine stp (v := v6) (o_mv rfl) ?_
  refine m_bs hM6 rfl fun b8 w9 (hM9 : Mem w [] w9 [r6, [⟨b8, 5, [.int .u8 165, .int .u8 90, .int .u8 167, .int .u8 91]⟩]]) => ?_
  refine m_appE hM9 (i := 0) rfl hs6 rfl rfl (own_rdE (E := byteV) (l := [165, 90, 167, 91]) (hM9.at (i := 1) (j := 0) rfl rfl) rfl) (by first | omega | (simp; omega)) (by omega) fun v10 w10 r10 (hs10 : SlE byteV 5 v10 (b ++ ([165, 90, 167, 91])) r10) (hM10 : Mem w [] w10 [r10, [⟨b8, 5, [.int .u8 165, .int .u8 90, .int .u8 167, .int .u8 91]⟩]]) => ?_
  refine stp (v := v10) (o_mv rfl) ?_
  refine h7 _ _ ?_
  clear h7
  refine seq fun K11 h11 => ?_
  obtain ⟨bg, cpg, hbe, hcp⟩ := (hs10).isSome (by simp)
  refine stp (v := v10) (o_mv rfl) ?_
  refine stp (v := x) (o_mv rfl) ?_
  refine stp (v := .int .i64 (b.length : Nat)) (o_lenR (hx.upd hM10.upd) rfl rfl) ?_
  refine stp (v := .slice (some ⟨bg, 0, none⟩) b.length cpg) (o_slcU hbe rfl (by first | omega | (simp at *; omega)) rfl) ?_
  refine stp (v := .slice (some ⟨bg, 0, none⟩) b.length cpg) (o_mv rfl) ?_
  refine h11 _ _ ?_
  clear h11
  refine ⟨(.slice (some ⟨bg, 0, none⟩) b.length cpg), rfl, ?_⟩
  exact ⟨bg, cpg, _, rfl, hbe ▸ hs10, hcp, hM10.keep (by simp)⟩

/-- winnowlaw3.same -/
theorem same_ok (x y : Value) (a b : List Tk) (w : World) (hx : RdS tokC w x a) (hy : RdS tokC w y b) (ha : ∀ t ∈ a, RdE byteV w t.lit t.bs) (hb : ∀ t ∈ b, RdE byteV w t.lit t.bs) (he : a.map Tk.p = b.map Tk.p) (hl : a.length ≤ 1152921504606846976) (hlb : ∀ t ∈ b, t.bs.length ≤ 9223372036854775807) : Calls Try.prog 20 [x, y].toArray w (Rt fun r w' => r = .bool true ∧ Upd [] w w') := by
  have hM0 : Mem w [] w [] := Mem.nil w []
  have hlu := len_us he
  refine calls_vc mixed Try.func20 rfl C20 (by simp [Try.ntmps20]) ?_
  refine seq fun K1 h1 => ?_
  refine stp (v := .bool false) (o_mv rfl) ?_
  refine h1 _ _ ?_
  clear h1
  refine seq fun K2 h2 => ?_
  refine seq fun K3 h3 => ?_
  refine stp (v := x) (o_mv rfl) ?_
  refine stp (v := .int .i64 (a.length : Nat)) (o_lenR (hx.upd hM0.upd) rfl rfl) ?_
  refine stp (v := y) (o_mv rfl) ?_
  refine stp (v := .int .i64 (b.length : Nat)) (o_lenR (hy.upd hM0.upd) rfl rfl) ?_
  refine stp (v := .bool (decide (¬ ((a.length : Nat) : Int) = (b.length : Nat)))) (o_bin rfl rfl v_neq) ?_
  refine h3 _ _ ?_
  clear h3
  refine cndP rfl (fun c4 => absurd c4 (by omega)) (fun c4 => ?_)
  refine h2 _ _ ?_
  clear h2
  refine seq fun K5 h5 => ?_
  refine seq fun K6 h6 => ?_
  refine stp (v := .int .i64 0) (o_mv rfl) ?_
  refine h6 _ _ ?_
  clear h6
  refine lp (n := fun _ _ => False) (ι := (Nat)) (fun i f w' => f 5 = .int .i64 (i : Nat) ∧ f 0 = x ∧ f 1 = y ∧ Mem w [] w' [] ∧ (i ≤ a.length)) (fun i => a.length - i) (0) ?_ ?_
  · exact ⟨by first | rfl | exact v_int (by omega) | exact v_int (by simp) | exact v_int (by simp; omega), rfl, rfl, hM0, by omega⟩
  · rintro i f w7 ⟨e7_5, e7_0, e7_1, hM7, hi⟩ K8 h8
    obtain ⟨frm, rfl⟩ : ∃ frm, f = (upd (upd (upd frm 5 (.int .i64 (i : Nat))) 0 (x)) 1 (y)) := ⟨f, by rw [upd_self e7_5, upd_self e7_0, upd_self e7_1]⟩
    clear e7_5 e7_0 e7_1
    refine seq fun K9 h9 => ?_
    refine seq fun K10 h10 => ?_
    refine stp (v := .int .i64 (i : Nat)) (o_mv rfl) ?_
    refine stp (v := x) (o_mv rfl) ?_
    refine stp (v := .int .i64 (a.length : Nat)) (o_lenR (hx.upd hM7.upd) rfl rfl) ?_
    refine stp (v := .bool (decide (((i : Nat) : Int) < (a.length : Nat)))) (o_bin rfl rfl rfl) ?_
    refine h10 _ _ ?_
    clear h10
    refine cndP rfl (fun c11 => ?_) (fun c11 => ?_)
    ·
      refine h9 _ _ ?_
      clear h9
      refine seq fun K12 h12 => ?_
      refine seq fun K13 h13 => ?_
      intro wd e1 e2 e3 e4
      have hd := Upd.same e1 e2 e3 e4 []
      have hM14 := hM7.pure hd
      clear e1 e2 e3 e4
      refine ⟨(some [(blkV y)]), ?_⟩
      show vd _ _ _ _ _ _ _
      obtain ⟨hbs, hds, hns⟩ := p_us he i
      have hbl := hlb _ (getD_memG tz (i := i) (l := b) (by omega))
      have hbl2 : (a.getD i tz).bs.length ≤ 9223372036854775807 := by rw [hbs]; exact hbl
      refine dq (v := x) (o_mv rfl) ?_
      refine dq (v := .int .i64 (i : Nat)) (o_mv rfl) ?_
      refine dqp (m_idxS tz (j := i) (hx.upd hM14.upd) rfl rfl (by omega) fun b15 o15 hp15 => ?_)
      show vd _ _ _ _ _ _ _
      refine dq (v := .pointer (some ⟨b15, o15, none⟩)) (o_fa rfl rfl) ?_
      refine dq (v := y) (o_mv rfl) ?_
      refine dq (v := .int .i64 (i : Nat)) (o_mv rfl) ?_
      refine dqp (m_idxS3 tz (j := i) (hy.upd hM14.upd) (hy.upd hM14.upd) rfl rfl (by omega) fun b16 o16 hp16 hbb16 => ?_)
      show vd _ _ _ _ _ _ _
      subst hbb16
      refine dq (v := .pointer (some ⟨(blkV y), o16, none⟩)) (o_fa rfl rfl) ?_
      refine dqld rfl (by simp [isHeld]) (v := (b.getD i tz).lit) (hp16.get 0 rfl) ?_
      refine dl (ld (v := (a.getD i tz).lit) rfl (hp15.get 0 rfl) ?_)
      refine ⟨(fun b hb => rfl), ?_⟩
      refine dl (m_call (sameBytes_ok _ _ ((a.getD i tz).bs) ((b.getD i tz).bs) wd ((ha _ (getD_memG tz (by omega))).upd hM14.upd) ((hb _ (getD_memG tz (by omega))).upd hM14.upd) (by first | omega | (simp; done) | (simp; omega))) rfl fun v17 w17 ⟨hr17, hu17⟩ => ?_)
      have hM17 : Mem w [] w17 [] := hM14.pure hu17
      obtain rfl : v17 = .bool true := hr17.trans (by first | rw [decide_eq_true hbs] | rw [decide_eq_true rfl])
      clear hr17
      have hh17 := held_upd (wr := wd) (bs := [(blkV y)]) hu17 (fun b hb => by
        simp only [List.mem_cons, List.not_mem_nil, or_false] at hb
        rw [hb]; exact ⟨Rd.blkV_ltS (hy.upd hM14.upd) (by omega), by simp⟩) (fun b hb => rfl)
      refine ⟨hh17, ?_⟩
      refine dq (v := .bool true) (o_mv rfl) ?_
      refine h13 _ _ ?_
      clear h13
      refine seq fun K18 h18 => ?_
      intro wd e1 e2 e3 e4
      have hd := Upd.same e1 e2 e3 e4 []
      have hM19 := hM17.pure hd
      clear e1 e2 e3 e4
      refine ⟨none, ?_⟩
      show vd _ _ _ _ _ _ _
      refine dq (v := .bool true) (o_mv rfl) ?_
      refine dq (v := .bool false) (o_not rfl rfl) ?_
      refine dq (v := .bool false) (o_mv rfl) ?_
      refine dsplitF rfl ?_
      refine dqg rfl (v := x) (o_mv rfl) ?_
      refine dqg rfl (v := .int .i64 (i : Nat)) (o_mv rfl) ?_
      refine dgyes rfl rfl (dqp (m_idxS tz (j := i) (hx.upd hM19.upd) rfl rfl (by omega) fun b20 o20 hp20 => ?_))
      show vd _ _ _ _ _ _ _
      refine dqg rfl (v := .pointer (some ⟨b20, o20 + 1, none⟩)) (o_fa rfl rfl) ?_
      refine dqg rfl (v := y) (o_mv rfl) ?_
      refine dqg rfl (v := .int .i64 (i : Nat)) (o_mv rfl) ?_
      refine dgyes rfl rfl (dqp (m_idxS tz (j := i) (hy.upd hM19.upd) rfl rfl (by omega) fun b21 o21 hp21 => ?_))
      show vd _ _ _ _ _ _ _
      refine dqg rfl (v := .pointer (some ⟨b21, o21 + 1, none⟩)) (o_fa rfl rfl) ?_
      refine dqgyes rfl rfl ?_
      refine dqld rfl (trivial) (v := .int .i64 (((b.getD i tz)).d)) (hp21.get 1 rfl) ?_
      refine dgyesl rfl ?_
      refine dl (ld (v := .int .i64 (((a.getD i tz)).d)) rfl (hp20.get 1 rfl) ?_)
      refine ⟨rfl, ?_⟩
      refine dqg rfl (v := .bool (decide (¬ (((a.getD i tz)).d) = (((b.getD i tz)).d)))) (o_bin rfl rfl v_neq) ?_
      refine dq (v := .bool (decide (¬ (((a.getD i tz)).d) = (((b.getD i tz)).d)))) (o_pickF rfl rfl) ?_
      refine dq (v := .bool (decide (¬ (((a.getD i tz)).d) = (((b.getD i tz)).d)))) (o_mv rfl) ?_
      refine dsplitP rfl (fun c22 => absurd c22 (fun h => h hds)) (fun c22 => ?_)
      refine dqg rfl (v := x) (o_mv rfl) ?_
      refine dqg rfl (v := .int .i64 (i : Nat)) (o_mv rfl) ?_
      refine dgyes rfl rfl (dqp (m_idxS tz (j := i) (hx.upd hM19.upd) rfl rfl (by omega) fun b23 o23 hp23 => ?_))
      show vd _ _ _ _ _ _ _
      refine dqg rfl (v := .pointer (some ⟨b23, o23 + 2, none⟩)) (o_fa rfl rfl) ?_
      refine dqg rfl (v := y) (o_mv rfl) ?_
      refine dqg rfl (v := .int .i64 (i : Nat)) (o_mv rfl) ?_
      refine dgyes rfl rfl (dqp (m_idxS tz (j := i) (hy.upd hM19.upd) rfl rfl (by omega) fun b24 o24 hp24 => ?_))
      show vd _ _ _ _ _ _ _
      refine dqg rfl (v := .pointer (some ⟨b24, o24 + 2, none⟩)) (o_fa rfl rfl) ?_
      refine dqgyes rfl rfl ?_
      refine dqld rfl (trivial) (v := .int .i64 (((b.getD i tz)).n)) (hp24.get 2 rfl) ?_
      refine dgyesl rfl ?_
      refine dl (ld (v := .int .i64 (((a.getD i tz)).n)) rfl (hp23.get 2 rfl) ?_)
      refine ⟨rfl, ?_⟩
      refine dqg rfl (v := .bool (decide (¬ (((a.getD i tz)).n) = (((b.getD i tz)).n)))) (o_bin rfl rfl v_neq) ?_
      refine dq (v := .bool (decide (¬ (((a.getD i tz)).n) = (((b.getD i tz)).n)))) (o_pickF rfl rfl) ?_
      refine h18 _ _ ?_
      clear h18
      refine cndP rfl (fun c25 => absurd c25 (fun h => h hns)) (fun c25 => ?_)
      refine h12 _ _ ?_
      clear h12
      refine stp (v := .int .i64 (i : Nat)) (o_mv rfl) ?_
      refine stp (v := .int .i64 ((i : Nat) + 1)) (o_bin rfl rfl (v_add64 (by constructor <;> omega))) ?_
      refine stp (v := .int .i64 ((i : Nat) + 1)) (o_mv rfl) ?_
      refine h8 (i + 1) _ _ ⟨by first | rfl | exact v_int (by omega) | exact v_int (by simp) | exact v_int (by simp; omega), rfl, rfl, hM19, by omega⟩ (by (try dsimp only); omega)
    ·
      refine h5 _ _ ?_
      clear h5
      refine seq fun K26 h26 => ?_
      refine stp (v := .bool true) (o_mv rfl) ?_
      refine h26 _ _ ?_
      clear h26
      refine ⟨(.bool true), rfl, ?_⟩
      exact ⟨rfl, hM7.upd⟩

theorem mk_0 (l : List UInt8) : (l ++ MK4).getD l.length 0 = 165 := by rw [appG2 0 (Nat.le_refl _), Nat.sub_self]; rfl
theorem mk_1 (l : List UInt8) : (l ++ MK4).getD (l.length + 1) 0 = 90 := by rw [appG2 0 (by omega), Nat.add_sub_cancel_left]; rfl
theorem mk_2 (l : List UInt8) : (l ++ MK4).getD (l.length + 2) 0 = 167 := by rw [appG2 0 (by omega), Nat.add_sub_cancel_left]; rfl
theorem mk_3 (l : List UInt8) : (l ++ MK4).getD (l.length + 3) 0 = 91 := by rw [appG2 0 (by omega), Nat.add_sub_cancel_left]; rfl

/-- winnowlaw3.kept -/
theorem kept_in (b cp : Nat) (l m : List UInt8) (y : Value) (w : World) (h1 : RdE byteV w (.slice (some ⟨b, 0, none⟩) (l ++ MK4).length cp) (l ++ MK4)) (h2 : RdE byteV w (.slice (some ⟨b, 0, none⟩) l.length cp) l) (hcp : (l ++ MK4).length ≤ cp) (hy : RdE byteV w y m) (he : l = m) (hl : l.length ≤ 140737488355328) : Calls Try.prog 21 [.slice (some ⟨b, 0, none⟩) l.length cp, y].toArray w (Rt fun r w' => r = .bool true ∧ Upd [] w w') := by
  subst he
  have hla : (l ++ MK4).length = l.length + 4 := by simp
  have hbs := mk_0 l
  have hM0 : Mem w [] w [] := Mem.nil w []
  refine calls_vc mixed Try.func21 rfl C21 (by simp [Try.ntmps21]) ?_
  refine seq fun K1 h1 => ?_
  refine stp (v := .bool false) (o_mv rfl) ?_
  refine h1 _ _ ?_
  clear h1
  refine seq fun K2 h2 => ?_
  refine stp (v := (.slice (some ⟨b, 0, none⟩) l.length cp)) (o_mv rfl) ?_
  refine stp (v := y) (o_mv rfl) ?_
  refine stp (v := .int .i64 (l.length : Nat)) (o_lenR (hy.upd hM0.upd) rfl rfl) ?_
  refine stp (v := .int .i64 ((l.length : Nat) + 4)) (o_bin rfl rfl (v_add64 (by constructor <;> omega))) ?_
  refine stp (v := (.slice (some ⟨b, 0, none⟩) (l ++ MK4).length cp)) (o_slcU rfl rfl (by omega) (by rw [show ((l.length : Nat) + 4 : Int).toNat = (l ++ MK4).length by omega])) ?_
  refine stp (v := (.slice (some ⟨b, 0, none⟩) (l ++ MK4).length cp)) (o_mv rfl) ?_
  refine h2 _ _ ?_
  clear h2
  refine seq fun K3 h3 => ?_
  refine stp (v := (.slice (some ⟨b, 0, none⟩) l.length cp)) (o_mv rfl) ?_
  refine stp (v := y) (o_mv rfl) ?_
  refine m_call (sameBytes_ok _ _ l l w (h2.upd hM0.upd) (hy.upd hM0.upd) (by first | omega | (simp; done) | (simp; omega))) rfl fun v4 w4 ⟨hr4, hu4⟩ => ?_
  have hM4 : Mem w [] w4 [] := hM0.pure hu4
  obtain rfl : v4 = .bool true := hr4.trans (by first | rw [decide_eq_true hbs] | rw [decide_eq_true rfl])
  clear hr4
  refine stp (v := .bool true) (o_mv rfl) ?_
  refine splitT rfl ?_
  refine stg rfl (v := (.slice (some ⟨b, 0, none⟩) (l ++ MK4).length cp)) (o_mv rfl) ?_
  refine stg rfl (v := y) (o_mv rfl) ?_
  refine stg rfl (v := .int .i64 (l.length : Nat)) (o_lenR (hy.upd hM4.upd) rfl rfl) ?_
  refine gyes rfl rfl (m_idxE 0 (j := l.length) (h1.upd hM4.upd) rfl (v_int (by omega)) (by rw [List.length_append]; simp only [List.length_cons, List.length_nil]; omega) fun b5 o5 hp5 => ?_)
  refine gyesl rfl ?_
  refine ld (v := byteV ((l ++ MK4).getD l.length 0)) rfl (hp5) ?_
  refine stg rfl (v := .bool (decide ((((l ++ MK4).getD l.length 0).toNat : Int) = 165))) (o_bin rfl rfl rfl) ?_
  refine stp (v := .bool (decide ((((l ++ MK4).getD l.length 0).toNat : Int) = 165))) (o_pickT rfl rfl) ?_
  refine stp (v := .bool (decide ((((l ++ MK4).getD l.length 0).toNat : Int) = 165))) (o_mv rfl) ?_
  refine splitP rfl (fun c6 => ?_) (fun c6 => (c6 (by rw [mk_0]; rfl)).elim)
  refine stg rfl (v := (.slice (some ⟨b, 0, none⟩) (l ++ MK4).length cp)) (o_mv rfl) ?_
  refine stg rfl (v := y) (o_mv rfl) ?_
  refine stg rfl (v := .int .i64 (l.length : Nat)) (o_lenR (hy.upd hM4.upd) rfl rfl) ?_
  refine stg rfl (v := .int .i64 ((l.length : Nat) + 1)) (o_bin rfl rfl (v_add64 (by constructor <;> omega))) ?_
  refine gyes rfl rfl (m_idxE 0 (j := (l.length + 1)) (h1.upd hM4.upd) rfl (v_int (by omega)) (by rw [List.length_append]; simp only [List.length_cons, List.length_nil]; omega) fun b7 o7 hp7 => ?_)
  refine gyesl rfl ?_
  refine ld (v := byteV ((l ++ MK4).getD (l.length + 1) 0)) rfl (hp7) ?_
  refine stg rfl (v := .bool (decide ((((l ++ MK4).getD (l.length + 1) 0).toNat : Int) = 90))) (o_bin rfl rfl rfl) ?_
  refine stp (v := .bool (decide ((((l ++ MK4).getD (l.length + 1) 0).toNat : Int) = 90))) (o_pickT rfl rfl) ?_
  refine stp (v := .bool (decide ((((l ++ MK4).getD (l.length + 1) 0).toNat : Int) = 90))) (o_mv rfl) ?_
  refine splitP rfl (fun c8 => ?_) (fun c8 => (c8 (by rw [mk_1]; rfl)).elim)
  refine stg rfl (v := (.slice (some ⟨b, 0, none⟩) (l ++ MK4).length cp)) (o_mv rfl) ?_
  refine stg rfl (v := y) (o_mv rfl) ?_
  refine stg rfl (v := .int .i64 (l.length : Nat)) (o_lenR (hy.upd hM4.upd) rfl rfl) ?_
  refine stg rfl (v := .int .i64 ((l.length : Nat) + 2)) (o_bin rfl rfl (v_add64 (by constructor <;> omega))) ?_
  refine gyes rfl rfl (m_idxE 0 (j := (l.length + 2)) (h1.upd hM4.upd) rfl (v_int (by omega)) (by rw [List.length_append]; simp only [List.length_cons, List.length_nil]; omega) fun b9 o9 hp9 => ?_)
  refine gyesl rfl ?_
  refine ld (v := byteV ((l ++ MK4).getD (l.length + 2) 0)) rfl (hp9) ?_
  refine stg rfl (v := .bool (decide ((((l ++ MK4).getD (l.length + 2) 0).toNat : Int) = 167))) (o_bin rfl rfl rfl) ?_
  refine stp (v := .bool (decide ((((l ++ MK4).getD (l.length + 2) 0).toNat : Int) = 167))) (o_pickT rfl rfl) ?_
  refine stp (v := .bool (decide ((((l ++ MK4).getD (l.length + 2) 0).toNat : Int) = 167))) (o_mv rfl) ?_
  refine splitP rfl (fun c10 => ?_) (fun c10 => (c10 (by rw [mk_2]; rfl)).elim)
  refine stg rfl (v := (.slice (some ⟨b, 0, none⟩) (l ++ MK4).length cp)) (o_mv rfl) ?_
  refine stg rfl (v := y) (o_mv rfl) ?_
  refine stg rfl (v := .int .i64 (l.length : Nat)) (o_lenR (hy.upd hM4.upd) rfl rfl) ?_
  refine stg rfl (v := .int .i64 ((l.length : Nat) + 3)) (o_bin rfl rfl (v_add64 (by constructor <;> omega))) ?_
  refine gyes rfl rfl (m_idxE 0 (j := (l.length + 3)) (h1.upd hM4.upd) rfl (v_int (by omega)) (by rw [List.length_append]; simp only [List.length_cons, List.length_nil]; omega) fun b11 o11 hp11 => ?_)
  refine gyesl rfl ?_
  refine ld (v := byteV ((l ++ MK4).getD (l.length + 3) 0)) rfl (hp11) ?_
  refine stg rfl (v := .bool (decide ((((l ++ MK4).getD (l.length + 3) 0).toNat : Int) = 91))) (o_bin rfl rfl rfl) ?_
  refine stp (v := .bool (decide ((((l ++ MK4).getD (l.length + 3) 0).toNat : Int) = 91))) (o_pickT rfl rfl) ?_
  refine stp (v := .bool (decide ((((l ++ MK4).getD (l.length + 3) 0).toNat : Int) = 91))) (o_mv rfl) ?_
  refine h3 _ _ ?_
  clear h3
  refine ⟨(.bool (decide ((((l ++ MK4).getD (l.length + 3) 0).toNat : Int) = 91))), rfl, ?_⟩
  exact ⟨by rw [mk_3]; rfl, hM4.upd⟩

theorem perm3 {a b c : List Ent} : [a ++ c, b].flatten.Perm [a, b, c].flatten := by
  simp only [List.flatten_cons, List.flatten_nil, List.append_nil, List.append_assoc]
  exact List.Perm.append_left _ List.perm_append_comm
theorem perm2 {a b : List Ent} : [b, a].flatten.Perm [a, b].flatten := by
  simp only [List.flatten_cons, List.flatten_nil, List.append_nil]
  exact List.perm_append_comm

/-- winnowlaw3.copied -/
theorem copied_ok (x : Value) (ts : List Tk) (w : World) (hx : RdS tokC w x ts) (hts : ∀ t ∈ ts, t.ok w) (hl : ts.length ≤ 3518437208883) : Calls Try.prog 15 [x].toArray w (Rt fun r w' => ∃ us rA rB, SlS tokC 3 31 r us rA ∧ Nst RmB us rB ∧ us.map Tk.p = ts.map Tk.p ∧ Mem w [] w' [rA, rB]) := by
  have hM0 : Mem w [] w [[]] := (Mem.nil w []).addNil
  refine calls_vc mixed Try.func15 rfl C15 (by simp [Try.ntmps15]) ?_
  refine seq fun K1 h1 => ?_
  refine stp (v := .slice none 0 0) (o_mv rfl) ?_
  refine h1 _ _ ?_
  clear h1
  refine seq fun K2 h2 => ?_
  refine stp (v := .slice none 0 0) (o_mv rfl) ?_
  refine h2 _ _ ?_
  clear h2
  refine seq fun K3 h3 => ?_
  refine seq fun K4 h4 => ?_
  refine stp (v := .int .i64 0) (o_mv rfl) ?_
  refine h4 _ _ ?_
  clear h4
  have hM5 : Mem w [] w [[], []] := hM0.addNil
  have hs5 : SlS tokC 3 31 (.slice none 0 0) [] [] := Sl.nil 3 31
  refine lp (n := fun _ _ => False) (ι := (Nat) × (List Tk) × (List Ent) × (Value) × (List Ent)) (fun ⟨i, us, rB, y3_, r3_⟩ f w' => f 3 = y3_ ∧ f 4 = .int .i64 (i : Nat) ∧ f 0 = x ∧ Mem w [] w' [rB, r3_] ∧ (i ≤ ts.length) ∧ (Nst RmB us rB) ∧ (us.map Tk.p = (ts.take i).map Tk.p) ∧ (us.length = i) ∧ (SlS tokC 3 31 y3_ (us) r3_)) (fun ⟨i, us, rB, y3_, r3_⟩ => ts.length - i) (0, [], [], ((.slice none 0 0)), ([])) ?_ ?_
  · exact ⟨rfl, by first | rfl | exact v_int (by omega) | exact v_int (by simp) | exact v_int (by simp; omega), rfl, hM5, by omega, Nst.nil, by simp, rfl, by first | exact hs5 | simpa using hs5⟩
  · rintro ⟨i, us, rB, y3_, r3_⟩ f w6 ⟨e6_3, e6_4, e6_0, hM6, hi, hn, hp, hul, hy3_⟩ K7 h7
    obtain ⟨frm, rfl⟩ : ∃ frm, f = (upd (upd (upd frm 3 (y3_)) 4 (.int .i64 (i : Nat))) 0 (x)) := ⟨f, by rw [upd_self e6_3, upd_self e6_4, upd_self e6_0]⟩
    clear e6_3 e6_4 e6_0
    refine seq fun K8 h8 => ?_
    refine seq fun K9 h9 => ?_
    refine stp (v := .int .i64 (i : Nat)) (o_mv rfl) ?_
    refine stp (v := x) (o_mv rfl) ?_
    refine stp (v := .int .i64 (ts.length : Nat)) (o_lenR (hx.upd hM6.upd) rfl rfl) ?_
    refine stp (v := .bool (decide (((i : Nat) : Int) < (ts.length : Nat)))) (o_bin rfl rfl rfl) ?_
    refine h9 _ _ ?_
    clear h9
    refine cndP rfl (fun c10 => ?_) (fun c10 => ?_)
    ·
      refine h8 _ _ ?_
      clear h8
      refine seq fun K11 h11 => ?_
      intro wd e1 e2 e3 e4
      have hd := Upd.same e1 e2 e3 e4 []
      have hM12 := hM6.pure hd
      clear e1 e2 e3 e4
      refine ⟨(some [(blkV x)]), ?_⟩
      show vd _ _ _ _ _ _ _
      have hti := hts _ (getD_memG tz (l := ts) (i := i) (by omega))
      have hti4 := hti.2.2.2
      refine dq (v := y3_) (o_mv rfl) ?_
      refine dq (v := x) (o_mv rfl) ?_
      refine dq (v := .int .i64 (i : Nat)) (o_mv rfl) ?_
      refine dqp (m_idxS3 tz (j := i) (hx.upd hM12.upd) (hx.upd hM12.upd) rfl rfl (by omega) fun b13 o13 hp13 hbb13 => ?_)
      show vd _ _ _ _ _ _ _
      subst hbb13
      refine dq (v := .pointer (some ⟨(blkV x), o13, none⟩)) (o_fa rfl rfl) ?_
      refine dq (v := x) (o_mv rfl) ?_
      refine dq (v := .int .i64 (i : Nat)) (o_mv rfl) ?_
      refine dqp (m_idxS3 tz (j := i) (hx.upd hM12.upd) (hx.upd hM12.upd) rfl rfl (by omega) fun b14 o14 hp14 hbb14 => ?_)
      show vd _ _ _ _ _ _ _
      subst hbb14
      refine dq (v := .pointer (some ⟨(blkV x), o14 + 1, none⟩)) (o_fa rfl rfl) ?_
      refine dq (v := x) (o_mv rfl) ?_
      refine dq (v := .int .i64 (i : Nat)) (o_mv rfl) ?_
      refine dqp (m_idxS3 tz (j := i) (hx.upd hM12.upd) (hx.upd hM12.upd) rfl rfl (by omega) fun b15 o15 hp15 hbb15 => ?_)
      show vd _ _ _ _ _ _ _
      subst hbb15
      refine dq (v := .pointer (some ⟨(blkV x), o15 + 2, none⟩)) (o_fa rfl rfl) ?_
      refine dqld rfl (by simp [isHeld]) (v := .int .i64 (((ts.getD i tz)).n)) (hp15.get 2 rfl) ?_
      refine dqld rfl (by simp [isHeld]) (v := .int .i64 (((ts.getD i tz)).d)) (hp14.get 1 rfl) ?_
      refine dl (ld (v := (ts.getD i tz).lit) rfl (hp13.get 0 rfl) ?_)
      refine ⟨(fun b hb => rfl), ?_⟩
      refine dl (m_call (roomy_ok _ ((ts.getD i tz).bs) wd ((hts _ (getD_memG tz (by omega))).1.upd hM12.upd) (by first | omega | (simp; done) | (simp; omega))) rfl fun v16 w16 ⟨bgr, cpr, rs16, hr16, hsr, hcpr, hm16⟩ => ?_)
      have hM16 : Mem w [] w16 [rB, r3_, rs16] := hM12.add hm16
      subst hr16
      have hh16 := held_upd (wr := wd) (bs := [(blkV x)]) hm16.upd (fun b hb => by
        simp only [List.mem_cons, List.not_mem_nil, or_false] at hb
        rw [hb]; exact ⟨Rd.blkV_ltS (hx.upd hM12.upd) (by omega), by simp⟩) (fun b hb => rfl)
      refine ⟨hh16, ?_⟩
      refine dq (v := .agg ([.slice (some ⟨bgr, 0, none⟩) (((ts.getD i tz).bs).length) cpr, .int .i64 (((ts.getD i tz)).d), .int .i64 (((ts.getD i tz)).n)] : List Value).toArray) (o_bld rfl rfl) ?_
      refine dl (m_bsU hM16 rfl fun b17 w18 hup18 (hM18 : Mem w [] w18 [rB, r3_, rs16, [⟨b17, 31, [.slice (some ⟨bgr, 0, none⟩) (((ts.getD i tz).bs).length) cpr, .int .i64 (((ts.getD i tz)).d), .int .i64 (((ts.getD i tz)).n)]⟩]]) => ?_)
      have hh18 := held_upd (wr := wd) (bs := [(blkV x)]) hup18 (fun b hb => by
        simp only [List.mem_cons, List.not_mem_nil, or_false] at hb
        rw [hb]; exact ⟨Rd.blkV_ltS (hx.upd hM16.upd) (by omega), by simp⟩) hh16
      refine ⟨hh18, ?_⟩
      refine dl (m_appSU (enc := tokC) hM18 (i := 1) rfl hy3_ rfl rfl (own_rdS (enc := tokC) (l := [(⟨some ⟨bgr, 0, none⟩, ((ts.getD i tz).bs).length, cpr, (ts.getD i tz).bs, ((ts.getD i tz)).d, ((ts.getD i tz)).n⟩ : Tk)]) (hM18.at (i := 3) (j := 0) rfl rfl) rfl) rfl (by first | omega | (simp; omega)) (by omega) fun v19 w19 r19 (hs19 : SlS tokC 3 31 v19 (us ++ ([(⟨some ⟨bgr, 0, none⟩, ((ts.getD i tz).bs).length, cpr, (ts.getD i tz).bs, ((ts.getD i tz)).d, ((ts.getD i tz)).n⟩ : Tk)])) r19) hup19 (hM19 : Mem w [] w19 [rB, r19, rs16, [⟨b17, 31, [.slice (some ⟨bgr, 0, none⟩) (((ts.getD i tz).bs).length) cpr, .int .i64 (((ts.getD i tz)).d), .int .i64 (((ts.getD i tz)).n)]⟩]]) => ?_)
      have hh19 := held_upd (wr := wd) (bs := [(blkV x)]) hup19 (fun b hb => by
        simp only [List.mem_cons, List.not_mem_nil, or_false] at hb
        rw [hb]; exact ⟨Rd.blkV_ltS (hx.upd hM18.upd) (by omega), hM18.old (i := 1) rfl (Rd.blkV_ltS hx (by omega))⟩) hh18
      refine ⟨hh19, ?_⟩
      refine dq (v := v19) (o_mv rfl) ?_
      refine h11 _ _ ?_
      clear h11
      refine stp (v := .int .i64 (i : Nat)) (o_mv rfl) ?_
      refine stp (v := .int .i64 ((i : Nat) + 1)) (o_bin rfl rfl (v_add64 (by constructor <;> omega))) ?_
      refine stp (v := .int .i64 ((i : Nat) + 1)) (o_mv rfl) ?_
      refine h7 (i + 1, (us ++ ([(⟨some ⟨bgr, 0, none⟩, ((ts.getD i tz).bs).length, cpr, (ts.getD i tz).bs, ((ts.getD i tz)).d, ((ts.getD i tz)).n⟩ : Tk)])), rB ++ rs16, v19, r19) _ _ ⟨rfl, by first | rfl | exact v_int (by omega) | exact v_int (by simp) | exact v_int (by simp; omega), rfl, (hM19.keep (R' := [rB, r19, rs16]) (by simp)).perm perm3, by omega, hn.app ⟨bgr, rfl, rfl, hcpr, hsr⟩, by rw [List.map_append, hp, takeG tz (by omega), List.map_append]; rfl, by rw [List.length_append, hul]; rfl, by first | exact hs19 | simpa using hs19⟩ (by (try dsimp only); omega)
    ·
      refine h3 _ _ ?_
      clear h3
      refine seq fun K20 h20 => ?_
      refine stp (v := y3_) (o_mv rfl) ?_
      refine stp (v := y3_) (o_mv rfl) ?_
      refine h20 _ _ ?_
      clear h20
      refine ⟨y3_, rfl, ?_⟩
      obtain rfl : i = ts.length := by omega
      rw [List.take_length] at hp
      exact ⟨_, _, _, hy3_, hn, hp, hM6.perm perm2⟩
