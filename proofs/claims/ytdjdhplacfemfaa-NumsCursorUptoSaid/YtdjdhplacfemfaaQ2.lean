/- NumsCursor: what was handed out is kept, looked at, ended. -/
import Derived.Test.YtdjdhplacfemfaaQ1
namespace Go.Proofs.Ytdjdhplacfemfaa.E
open Go
/-- which are marked, and what stands behind those that are -/
def Tg (f : Nat → Bool) (ts : List Tn) : Prop := ∀ n, n < ts.length → (ts.getD n tz).m = f n ∧ ((ts.getD n tz).m = true → (ts.getD n tz).g = (ts.getD n tz).p ++ List.replicate 64 (m55 n)) ∧ ((ts.getD n tz).m = false → (ts.getD n tz).g = [])
def odd (n : Nat) : Bool := decide (n % 2 = 1)
theorem getD_snocG {α : Type} (l : List α) (x z : α) (j : Nat) : (l ++ [x]).getD j z = if j < l.length then l.getD j z else if j = l.length then x else z := by
  rw [List.getD_eq_getElem?_getD, List.getD_eq_getElem?_getD]
  split
  · rename_i h; rw [List.getElem?_append_left h]
  · rename_i h
    rw [List.getElem?_append_right (by omega)]
    split
    · rename_i h2; rw [h2]; simp
    · rename_i h2
      rw [List.getElem?_eq_none (by simp; omega)]; rfl
theorem Tg.snoc {f : Nat → Bool} {ts : List Tn} {x : Tn} (h : Tg f ts) (h1 : x.m = f ts.length) (h2 : x.m = true → x.g = x.p ++ List.replicate 64 (m55 ts.length)) (h3 : x.m = false → x.g = []) : Tg f (ts ++ [x]) := by
  intro n hn
  rw [List.length_append, List.length_singleton] at hn
  rw [getD_snocG]
  by_cases c : n < ts.length
  · rw [if_pos c]; exact h n c
  · rw [if_neg c, if_pos (by omega)]
    obtain rfl : n = ts.length := by omega
    exact ⟨h1, h2, h3⟩
theorem set_last {α : Type} (l : List α) (x y : α) : (l ++ [x]).set l.length y = l ++ [y] := by
  rw [List.set_append_right _ _ (Nat.le_refl _)]; simp
theorem Tg.set {f g : Nat → Bool} {ts : List Tn} {x : Tn} {i : Nat} (h : Tg f ts) (h1 : x.m = true) (h2 : x.g = x.p ++ List.replicate 64 (m55 i)) (hi : i < ts.length) (hg : ∀ n, n < ts.length → g n = if n = i then true else f n) : Tg g (ts.set i x) := by
  intro n hn
  rw [List.length_set] at hn
  rw [hg n hn]
  by_cases c : n = i
  · subst c
    rw [getG_set hn, if_pos rfl]
    exact ⟨h1, fun _ => h2, fun k => by rw [h1] at k; cases k⟩
  · rw [getG_ne c, if_neg c]; exact h n hn
theorem gd_mark {p : List UInt8} {c : UInt8} {n k : Nat} (h : p.length ≤ k) (h2 : k < (p ++ List.replicate n c).length) : (p ++ List.replicate n c).getD k 0 = c := by
  rw [List.length_append, List.length_replicate] at h2
  rw [List.getD_eq_getElem?_getD, List.getElem?_append_right h, List.getElem?_replicate, if_pos (by omega)]; rfl
theorem Tg.mk {f : Nat → Bool} {ts : List Tn} (h : Tg f ts) {i k : Nat} (hi : i < ts.length) (h1 : (ts.getD i tz).p.length ≤ k) (h2 : k < (ts.getD i tz).g.length) : (ts.getD i tz).g.getD k 0 = m55 i := by
  obtain ⟨_, a, b⟩ := h i hi
  cases c : (ts.getD i tz).m with
  | true => rw [a c] at h2 ⊢; exact gd_mark h1 h2
  | false => rw [b c] at h2; simp at h2
theorem Tg.len {f : Nat → Bool} {ts : List Tn} (h : Tg f ts) {i : Nat} (hi : i < ts.length) : (ts.getD i tz).g.length ≤ (ts.getD i tz).p.length + 64 := by
  obtain ⟨_, a, b⟩ := h i hi
  cases c : (ts.getD i tz).m with
  | true => rw [a c]; simp
  | false => rw [b c]; simp
def TkS (bt : Nat) (ts : List Tn) (r : List Ent) : Prop := ∃ vL vW vG rL rW rG NS, r = tkR bt vL vW vG rL rW rG NS ∧ SlE bV 22 vL ts rL ∧ SlE wV 22 vW ts rW ∧ SlE gV 22 vG ts rG ∧ Nst TQ ts NS
theorem Mem.keepA {w0 w : World} {S : List Nat} {x a1 a2 a3 b u h : List Ent} (m : Mem w0 S w [x, a1, a2, a3, b, u, h]) : Mem w0 S w [x, a1, a2, a3, b ++ (h ++ u)] := by
  refine m.perm ?_
  simp only [List.flatten_cons, List.flatten_nil, List.append_nil]
  refine List.Perm.append_left _ (List.Perm.append_left _ (List.Perm.append_left _ (List.Perm.append_left _ (List.Perm.append_left _ ?_))))
  exact List.perm_append_comm

section
variable {P : Program} {r : List MI} {f : Fr} {w w0 : World} {S : List Nat} {R : List (List Ent)} {K : Fr → World → Prop} {d : Nat}
theorem m_alU {t : TypeId} {cs : List Value} (hM : Mem w0 S w R) (h : ∀ b w', Upd [] w w' → Mem w0 S w' (R ++ [[⟨b, t, cs⟩]]) → vr P r (upd f d (.pointer (some ⟨b, 0, none⟩))) w' K) : vr P (.l none (some d) (.al t cs) :: r) f w K :=
  m_al (Mem.nil w []) fun b w' hM' => h b w' hM'.upd (hM.add hM')
end
theorem m_idxE3 {α : Type} {E : α → Value} (z : α) {P : Program} {r : List MI} {f : Fr} {w wr : World} {K : Fr → World → Prop} {d : Nat} {x i : Operand} {u : Value} {l : List α} {j : Nat} {k : IntKind} (h : RdE E w u l) (h0 : RdE E wr u l) (hx : ev f x = u) (hi : ev f i = .int k j) (hj : j < l.length)
    (hk : ∀ b o, wr.cell? ⟨b, o, none⟩ = some (E (l.getD j z)) → b = blkV u → vr P r (upd f d (.pointer (some ⟨b, o, none⟩))) w K) : vr P (.p none d (.idx 1 x i) :: r) f w K := by
  show pe (.idx 1 x i) f (fun v => vr P r (upd f d v) w K)
  obtain ⟨a, c, rfl, h2, h3, h4⟩ := h.form
  obtain ⟨a0, c0, e, h20, h30, h40⟩ := h0.form
  cases e
  show kslice (ev f x) _; rw [hx]; show anyint (ev f i) _; rw [hi]; refine ⟨⟨by omega, by omega⟩, ?_⟩
  cases a with
  | none => have := h4 rfl; omega
  | some a =>
    obtain ⟨b, o, m⟩ := a
    cases m with
    | some m => simp only [Row] at h3; have := congrArg List.length h3; simp at this; subst this; simp at hj
    | none =>
      refine hk _ _ ?_ rfl
      have h5 := h30 j (by simpa using hj)
      rw [Int.toNat_natCast, Nat.mul_one, h5, List.getElem?_map, List.getElem?_eq_getElem hj, List.getD_eq_getElem?_getD, List.getElem?_eq_getElem hj]; rfl
theorem SlE.blk_apart {α : Type} {E : α → Value} {t : TypeId} {v : Value} {l : List α} {r rk : List Ent} {w0 w : World} {S : List Nat} {R : List (List Ent)} {i k : Nat} (h : SlE E t v l r) (hM : Mem w0 S w R) (hi : R[i]? = some r) (hk : R[k]? = some rk) (hn : i ≠ k) (hl : 0 < l.length) : blkV v ∉ ids rk := by
  rcases h.form with ⟨_, h, _⟩ | ⟨b, c, tl, h, h2, _, _⟩
  · rw [h] at hl; simp at hl
  · subst h h2
    exact hM.apart (i := i) (j := 0) (k := k) hi rfl hk hn

/-- winnowlaw2.same -/
theorem same_ok (x y : Value) (a b : List UInt8) (w : World) (hx : RdE byteV w x a) (hy : RdE byteV w y b) (hla : a.length ≤ 9223372036854775807) : Calls Try.prog 13 [x, y].toArray w (Rt fun r w' => r = .bool (decide (a = b)) ∧ Upd [] w w') := by
  have hM0 : Mem w [] w [] := Mem.nil w []
  refine calls_vc mixed Try.func13 rfl C13 (by simp [Try.ntmps13]) ?_
  refine seq fun K1 h1 => ?_
  refine stp (v := .bool false) (o_mv rfl) ?_
  refine h1 _ _ ?_
  clear h1
  refine seq fun K2 h2 => ?_
  refine seq fun K3 h3 => ?_
  refine stp (v := x) (o_mv rfl) ?_
  refine stp (v := .int .i64 (a.length : Nat)) (o_lenR (hx.upd hM0.upd) rfl rfl) ?_
  refine stp (v := y) (o_mv rfl) ?_
  refine stp (v := .int .i64 (b.length : Nat)) (o_lenR (hy.upd hM0.upd) rfl rfl) ?_
  refine stp (v := .bool (decide (¬ ((a.length : Nat) : Int) = (b.length : Nat)))) (o_bin rfl rfl v_neq) ?_
  refine h3 _ _ ?_
  clear h3
  refine cndP rfl (fun c4 => ?_) (fun c4 => ?_)
  ·
    refine seq fun K5 h5 => ?_
    refine stp (v := .bool false) (o_mv rfl) ?_
    refine h5 _ _ ?_
    clear h5
    refine ⟨(.bool false), rfl, ?_⟩
    exact ⟨by rw [decide_eq_false (fun e => c4 (by rw [e]))], hM0.upd⟩
  ·
    refine h2 _ _ ?_
    clear h2
    refine seq fun K6 h6 => ?_
    refine seq fun K7 h7 => ?_
    refine stp (v := .int .i64 0) (o_mv rfl) ?_
    refine h7 _ _ ?_
    clear h7
    refine lp (n := fun _ _ => False) (ι := (Nat)) (fun i f w' => f 0 = x ∧ f 1 = y ∧ f 5 = .int .i64 (i : Nat) ∧ Mem w [] w' [] ∧ (i ≤ a.length) ∧ (a.take i = b.take i)) (fun i => a.length - i) (0) ?_ ?_
    · exact ⟨rfl, rfl, by first | rfl | exact v_int (by omega) | exact v_int (by simp) | exact v_int (by simp; omega), hM0, by omega, by simp⟩
    · rintro i f w8 ⟨e8_0, e8_1, e8_5, hM8, hi, hp⟩ K9 h9
      obtain ⟨frm, rfl⟩ : ∃ frm, f = (upd (upd (upd frm 0 (x)) 1 (y)) 5 (.int .i64 (i : Nat))) := ⟨f, by rw [upd_self e8_0, upd_self e8_1, upd_self e8_5]⟩
      clear e8_0 e8_1 e8_5
      refine seq fun K10 h10 => ?_
      refine seq fun K11 h11 => ?_
      refine stp (v := .int .i64 (i : Nat)) (o_mv rfl) ?_
      refine stp (v := x) (o_mv rfl) ?_
      refine stp (v := .int .i64 (a.length : Nat)) (o_lenR (hx.upd hM8.upd) rfl rfl) ?_
      refine stp (v := .bool (decide (((i : Nat) : Int) < (a.length : Nat)))) (o_bin rfl rfl rfl) ?_
      refine h11 _ _ ?_
      clear h11
      refine cndP rfl (fun c12 => ?_) (fun c12 => ?_)
      ·
        refine h10 _ _ ?_
        clear h10
        refine seq fun K13 h13 => ?_
        refine seq fun K14 h14 => ?_
        intro wd e1 e2 e3 e4
        have hd := Upd.same e1 e2 e3 e4 []
        have hM15 := hM8.pure hd
        clear e1 e2 e3 e4
        refine ⟨none, ?_⟩
        show vd _ _ _ _ _ _ _
        refine dq (v := x) (o_mv rfl) ?_
        refine dq (v := .int .i64 (i : Nat)) (o_mv rfl) ?_
        refine dqp (m_idxE 0 (j := i) (hx.upd hM15.upd) rfl rfl (by omega) fun b16 o16 hp16 => ?_)
        show vd _ _ _ _ _ _ _
        refine dq (v := y) (o_mv rfl) ?_
        refine dq (v := .int .i64 (i : Nat)) (o_mv rfl) ?_
        refine dqp (m_idxE 0 (j := i) (hy.upd hM15.upd) rfl rfl (by omega) fun b17 o17 hp17 => ?_)
        show vd _ _ _ _ _ _ _
        refine dqld rfl (trivial) (v := byteV (b.getD i 0)) (hp17) ?_
        refine dl (ld (v := byteV (a.getD i 0)) rfl (hp16) ?_)
        refine ⟨rfl, ?_⟩
        refine dq (v := .bool (decide (¬ ((a.getD i 0).toNat : Int) = ((b.getD i 0).toNat : Int)))) (o_bin rfl rfl v_neq) ?_
        refine h14 _ _ ?_
        clear h14
        refine cndP rfl (fun c18 => ?_) (fun c18 => ?_)
        ·
          refine seq fun K19 h19 => ?_
          refine stp (v := .bool false) (o_mv rfl) ?_
          refine h19 _ _ ?_
          clear h19
          refine ⟨(.bool false), rfl, ?_⟩
          exact ⟨by rw [decide_eq_false (ne_atG 0 i (nat_neG (by assumption)))], hM15.upd⟩
        ·
          refine h13 _ _ ?_
          clear h13
          refine stp (v := .int .i64 (i : Nat)) (o_mv rfl) ?_
          refine stp (v := .int .i64 ((i : Nat) + 1)) (o_bin rfl rfl (v_add64 (by constructor <;> omega))) ?_
          refine stp (v := .int .i64 ((i : Nat) + 1)) (o_mv rfl) ?_
          refine h9 (i + 1) _ _ ⟨rfl, rfl, by first | rfl | exact v_int (by omega) | exact v_int (by simp) | exact v_int (by simp; omega), hM15, by omega, take_eqG 0 hp (by omega) (by omega) (u8_eq (by omega))⟩ (by (try dsimp only); omega)
      ·
        refine h6 _ _ ?_
        clear h6
        refine seq fun K20 h20 => ?_
        refine stp (v := .bool true) (o_mv rfl) ?_
        refine h20 _ _ ?_
        clear h20
        refine ⟨(.bool true), rfl, ?_⟩
        exact ⟨by rw [decide_eq_true]; rw [← List.take_of_length_le (l := a) (i := i) (by omega), ← List.take_of_length_le (l := b) (i := i) (by omega), hp], hM8.upd⟩

/-- (*winnowlaw2.Taken).stands -/
theorem stands_ok (bt : Nat) (vL vW vG : Value) (ts : List Tn) (rL rW rG NS : List Ent) (w : World) (hL : SlE bV 22 vL ts rL) (hW : SlE wV 22 vW ts rW) (hG : SlE gV 22 vG ts rG) (hN : Nst TQ ts NS) (hr : Res w (tkR bt vL vW vG rL rW rG NS)) (htl : ts.length ≤ 4294967295) (f : Nat → Bool) (hg : Tg f ts) : Calls Try.prog 35 [.pointer (some ⟨bt, 0, none⟩)].toArray w (Rt fun r w' => r = .bool true ∧ Mem w (ids (tkR bt vL vW vG rL rW rG NS)) w' [tkR bt vL vW vG rL rW rG NS]) := by
  have hM0 : Mem w (ids (tkR bt vL vW vG rL rW rG NS)) w [[⟨bt, 56, [vL, vW, vG]⟩], rL, rW, rG, NS] := (Mem.start hr).keep (by simp [tkR])
  refine calls_vc mixed Try.func35 rfl C35 (by simp [Try.ntmps35]) ?_
  refine seq fun K1 h1 => ?_
  refine stp (v := .bool false) (o_mv rfl) ?_
  refine h1 _ _ ?_
  clear h1
  refine seq fun K2 h2 => ?_
  refine seq fun K3 h3 => ?_
  refine stp (v := .int .i64 0) (o_mv rfl) ?_
  refine h3 _ _ ?_
  clear h3
  refine lp (n := fun _ _ => False) (ι := (Nat)) (fun i f w' => f 3 = .int .i64 (i : Nat) ∧ f 0 = .pointer (some ⟨bt, 0, none⟩) ∧ Mem w (ids (tkR bt vL vW vG rL rW rG NS)) w' [[⟨bt, 56, [vL, vW, vG]⟩], rL, rW, rG, NS] ∧ (i ≤ ts.length)) (fun i => ts.length - i) (0) ?_ ?_
  · exact ⟨by first | rfl | exact v_int (by omega) | exact v_int (by simp) | exact v_int (by simp; omega), rfl, hM0, by omega⟩
  · rintro i f w4 ⟨e4_3, e4_0, hM4, hi⟩ K5 h5
    obtain ⟨frm, rfl⟩ : ∃ frm, f = (upd (upd frm 3 (.int .i64 (i : Nat))) 0 (.pointer (some ⟨bt, 0, none⟩))) := ⟨f, by rw [upd_self e4_3, upd_self e4_0]⟩
    clear e4_3 e4_0
    refine seq fun K6 h6 => ?_
    refine seq fun K7 h7 => ?_
    refine stp (v := .int .i64 (i : Nat)) (o_mv rfl) ?_
    refine stp (v := .pointer (some ⟨bt, 0, none⟩)) (o_mv rfl) ?_
    refine stp (v := .pointer (some ⟨bt, 0, none⟩)) (o_nilchk rfl rfl) ?_
    refine stp (v := .pointer (some ⟨bt, 0, none⟩)) (o_fa rfl rfl) ?_
    refine m_ld (v := vL) hM4 (i := 0) (j := 0) rfl rfl rfl rfl ?_
    refine stp (v := .int .i64 (ts.length : Nat)) (o_lenR (hL.rd hM4 (i := 1) rfl) rfl rfl) ?_
    refine stp (v := .bool (decide (((i : Nat) : Int) < (ts.length : Nat)))) (o_bin rfl rfl rfl) ?_
    refine h7 _ _ ?_
    clear h7
    refine cndP rfl (fun c8 => ?_) (fun c8 => ?_)
    ·
      refine h6 _ _ ?_
      clear h6
      refine seq fun K9 h9 => ?_
      refine seq fun K10 h10 => ?_
      refine seq fun K11 h11 => ?_
      intro wd e1 e2 e3 e4
      have hd := Upd.same e1 e2 e3 e4 []
      have hM12 := hM4.pure hd
      clear e1 e2 e3 e4
      refine ⟨(some [bt, (blkV vW)]), ?_⟩
      show vd _ _ _ _ _ _ _
      have hpl := (TN.rd (i := i) hN (hM12.res (i := 4) rfl).1 (by omega)).2.2.2
      have hgl := hg.len (i := i) (by omega)
      refine dq (v := .pointer (some ⟨bt, 0, none⟩)) (o_mv rfl) ?_
      refine dq (v := .pointer (some ⟨bt, 0, none⟩)) (o_nilchk rfl rfl) ?_
      refine dq (v := .pointer (some ⟨bt, 0, none⟩)) (o_fa rfl rfl) ?_
      refine dq (v := .int .i64 (i : Nat)) (o_mv rfl) ?_
      refine dq (v := .pointer (some ⟨bt, 0, none⟩)) (o_mv rfl) ?_
      refine dq (v := .pointer (some ⟨bt, 0, none⟩)) (o_nilchk rfl rfl) ?_
      refine dq (v := .pointer (some ⟨bt, 1, none⟩)) (o_fa rfl rfl) ?_
      refine dq (v := .int .i64 (i : Nat)) (o_mv rfl) ?_
      refine dqld rfl (by simp [isHeld]) (v := vW) ((hM12.at (i := 0) (j := 0) rfl rfl).cell 1) ?_
      refine dqp (m_idxE3 tz (j := i) (hW.rd hM12 (i := 2) rfl) (hW.rd hM12 (i := 2) rfl) rfl rfl (by omega) fun b13 o13 hp13 hbb13 => ?_)
      show vd _ _ _ _ _ _ _
      subst hbb13
      refine dqld rfl (by simp [isHeld]) (v := vL) ((hM12.at (i := 0) (j := 0) rfl rfl).cell 0) ?_
      refine dqp (m_idxE tz (j := i) (hL.rd hM12 (i := 1) rfl) rfl rfl (by omega) fun b14 o14 hp14 => ?_)
      show vd _ _ _ _ _ _ _
      refine dqld rfl (by simp [isHeld]) (v := (wV (ts.getD i tz))) (hp13) ?_
      refine dl (ld (v := (bV (ts.getD i tz))) rfl (hp14) ?_)
      refine ⟨(fun b hb => rfl), ?_⟩
      refine dl (m_call (same_ok _ _ ((ts.getD i tz).p) ((ts.getD i tz).p) wd ((TN.rd hN (hM12.res (i := 4) rfl).1 (by omega)).1) ((TN.rd hN (hM12.res (i := 4) rfl).1 (by omega)).2.1) (by omega)) rfl fun v15 w15 ⟨hr15, hu15⟩ => ?_)
      have hM15 : Mem w (ids (tkR bt vL vW vG rL rW rG NS)) w15 [[⟨bt, 56, [vL, vW, vG]⟩], rL, rW, rG, NS] := hM12.pure hu15
      obtain rfl : v15 = .bool true := hr15.trans (by simp)
      clear hr15
      have hh15 := held_upd (wr := wd) (bs := [bt, (blkV vW)]) hu15 (fun b hb => by
        simp only [List.mem_cons, List.not_mem_nil, or_false] at hb
        rcases hb with h | h
        · rw [h]; exact ⟨(hM12.at (i := 0) (j := 0) rfl rfl).lt, by simp⟩
        · rw [h]; exact ⟨Rd.blkV_lt (hW.rd hM12 (i := 2) rfl) (by omega), by simp⟩) (fun b hb => rfl)
      refine ⟨hh15, ?_⟩
      refine dq (v := .bool false) (o_not rfl rfl) ?_
      refine h11 _ _ ?_
      clear h11
      refine cndF rfl ?_
      refine h10 _ _ ?_
      clear h10
      refine seq fun K16 h16 => ?_
      refine stp (v := .pointer (some ⟨bt, 0, none⟩)) (o_mv rfl) ?_
      refine stp (v := .pointer (some ⟨bt, 0, none⟩)) (o_nilchk rfl rfl) ?_
      refine stp (v := .pointer (some ⟨bt, 0, none⟩)) (o_fa rfl rfl) ?_
      refine m_ld (v := vL) hM15 (i := 0) (j := 0) rfl rfl rfl rfl ?_
      refine stp (v := .int .i64 (i : Nat)) (o_mv rfl) ?_
      refine m_idxE tz (j := i) (hL.rd hM15 (i := 1) rfl) rfl rfl (by omega) fun b17 o17 hp17 => ?_
      refine ld (v := (bV (ts.getD i tz))) rfl (hp17) ?_
      refine stp (v := .int .i64 (((ts.getD i tz).p).length : Nat)) (o_lenR ((TN.rd hN (hM15.res (i := 4) rfl).1 (by omega)).1) rfl rfl) ?_
      refine stp (v := .int .i64 (((ts.getD i tz).p).length : Nat)) (o_mv rfl) ?_
      refine h16 _ _ ?_
      clear h16
      refine lp (n := fun _ _ => False) (ι := (Nat)) (fun k f w' => f 4 = .int .i64 (k : Nat) ∧ f 0 = .pointer (some ⟨bt, 0, none⟩) ∧ f 3 = .int .i64 (i : Nat) ∧ Mem w (ids (tkR bt vL vW vG rL rW rG NS)) w' [[⟨bt, 56, [vL, vW, vG]⟩], rL, rW, rG, NS] ∧ ((ts.getD i tz).p.length ≤ k) ∧ (k ≤ max (ts.getD i tz).p.length (ts.getD i tz).g.length)) (fun k => (ts.getD i tz).g.length - k) ((ts.getD i tz).p.length) ?_ ?_
      · exact ⟨by first | rfl | exact v_int (by omega) | exact v_int (by simp) | exact v_int (by simp; omega), rfl, by first | rfl | exact v_int (by omega) | exact v_int (by simp) | exact v_int (by simp; omega), hM15, by omega, by omega⟩
      · rintro k f w18 ⟨e18_4, e18_0, e18_3, hM18, hk, hk2⟩ K19 h19
        obtain ⟨frm, rfl⟩ : ∃ frm, f = (upd (upd (upd frm 4 (.int .i64 (k : Nat))) 0 (.pointer (some ⟨bt, 0, none⟩))) 3 (.int .i64 (i : Nat))) := ⟨f, by rw [upd_self e18_4, upd_self e18_0, upd_self e18_3]⟩
        clear e18_4 e18_0 e18_3
        refine seq fun K20 h20 => ?_
        refine seq fun K21 h21 => ?_
        refine stp (v := .int .i64 (k : Nat)) (o_mv rfl) ?_
        refine stp (v := .pointer (some ⟨bt, 0, none⟩)) (o_mv rfl) ?_
        refine stp (v := .pointer (some ⟨bt, 0, none⟩)) (o_nilchk rfl rfl) ?_
        refine stp (v := .pointer (some ⟨bt, 2, none⟩)) (o_fa rfl rfl) ?_
        refine m_ld (v := vG) hM18 (i := 0) (j := 0) rfl rfl rfl rfl ?_
        refine stp (v := .int .i64 (i : Nat)) (o_mv rfl) ?_
        refine m_idxE tz (j := i) (hG.rd hM18 (i := 3) rfl) rfl rfl (by omega) fun b22 o22 hp22 => ?_
        refine ld (v := (gV (ts.getD i tz))) rfl (hp22) ?_
        refine stp (v := .int .i64 (((ts.getD i tz).g).length : Nat)) (o_lenR ((TN.rd hN (hM18.res (i := 4) rfl).1 (by omega)).2.2.1) rfl rfl) ?_
        refine stp (v := .bool (decide (((k : Nat) : Int) < (((ts.getD i tz).g).length : Nat)))) (o_bin rfl rfl rfl) ?_
        refine h21 _ _ ?_
        clear h21
        refine cndP rfl (fun c23 => ?_) (fun c23 => ?_)
        ·
          refine h20 _ _ ?_
          clear h20
          refine seq fun K24 h24 => ?_
          refine seq fun K25 h25 => ?_
          refine stp (v := .pointer (some ⟨bt, 0, none⟩)) (o_mv rfl) ?_
          refine stp (v := .pointer (some ⟨bt, 0, none⟩)) (o_nilchk rfl rfl) ?_
          refine stp (v := .pointer (some ⟨bt, 2, none⟩)) (o_fa rfl rfl) ?_
          refine m_ld (v := vG) hM18 (i := 0) (j := 0) rfl rfl rfl rfl ?_
          refine stp (v := .int .i64 (i : Nat)) (o_mv rfl) ?_
          refine m_idxE tz (j := i) (hG.rd hM18 (i := 3) rfl) rfl rfl (by omega) fun b26 o26 hp26 => ?_
          refine ld (v := (gV (ts.getD i tz))) rfl (hp26) ?_
          refine stp (v := .int .i64 (k : Nat)) (o_mv rfl) ?_
          refine m_idxE 0 (j := k) ((TN.rd hN (hM18.res (i := 4) rfl).1 (by omega)).2.2.1) rfl rfl (by omega) fun b27 o27 hp27 => ?_
          refine ld (v := byteV (((ts.getD i tz).g).getD k 0)) rfl (hp27) ?_
          refine stp (v := .int .i64 (i : Nat)) (o_mv rfl) ?_
          refine stp (v := .int .i64 ((i : Nat) % 55)) (o_rem rfl rfl (by omega) (v_rem (by omega))) ?_
          refine stp (v := .int .i64 (200 + ((i : Nat) % 55))) (o_bin rfl rfl (v_add64 (by constructor <;> omega))) ?_
          refine stp (v := byteV (m55 i)) (o_conv rfl (v_m55 i)) ?_
          refine stp (v := .bool (decide (¬ ((((ts.getD i tz).g).getD k 0).toNat : Int) = ((m55 i).toNat : Int)))) (o_bin rfl rfl v_neq) ?_
          refine h25 _ _ ?_
          clear h25
          refine cndP rfl (fun c28 => absurd c28 (fun h => h (by rw [hg.mk (by omega) hk (by omega)]))) (fun c28 => ?_)
          refine h24 _ _ ?_
          clear h24
          refine stp (v := .int .i64 (k : Nat)) (o_mv rfl) ?_
          refine stp (v := .int .i64 ((k : Nat) + 1)) (o_bin rfl rfl (v_add64 (by constructor <;> omega))) ?_
          refine stp (v := .int .i64 ((k : Nat) + 1)) (o_mv rfl) ?_
          refine h19 (k + 1) _ _ ⟨by first | rfl | exact v_int (by omega) | exact v_int (by simp) | exact v_int (by simp; omega), rfl, by first | rfl | exact v_int (by omega) | exact v_int (by simp) | exact v_int (by simp; omega), hM18, by omega, by omega⟩ (by (try dsimp only); omega)
        ·
          refine h9 _ _ ?_
          clear h9
          refine stp (v := .int .i64 (i : Nat)) (o_mv rfl) ?_
          refine stp (v := .int .i64 ((i : Nat) + 1)) (o_bin rfl rfl (v_add64 (by constructor <;> omega))) ?_
          refine stp (v := .int .i64 ((i : Nat) + 1)) (o_mv rfl) ?_
          refine h5 (i + 1) _ _ ⟨by first | rfl | exact v_int (by omega) | exact v_int (by simp) | exact v_int (by simp; omega), rfl, hM18, by omega⟩ (by (try dsimp only); omega)
    ·
      refine h2 _ _ ?_
      clear h2
      refine seq fun K29 h29 => ?_
      refine stp (v := .bool true) (o_mv rfl) ?_
      refine h29 _ _ ?_
      clear h29
      refine ⟨(.bool true), rfl, ?_⟩
      exact ⟨rfl, hM4.keep (by simp [tkR])⟩

/-- (*winnowlaw2.Taken).ends -/
theorem ends_ok (bt : Nat) (vL vW vG : Value) (ts : List Tn) (rL rW rG NS : List Ent) (w : World) (hL : SlE bV 22 vL ts rL) (hW : SlE wV 22 vW ts rW) (hG : SlE gV 22 vG ts rG) (hN : Nst TQ ts NS) (hr : Res w (tkR bt vL vW vG rL rW rG NS)) (htl : ts.length ≤ 4294967295) (hg0 : Tg odd ts) : Calls Try.prog 36 [.pointer (some ⟨bt, 0, none⟩)].toArray w (Rt fun r w' => r = .bool true ∧ Mem w (ids (tkR bt vL vW vG rL rW rG NS)) w' []) := by
  have hM0 : Mem w (ids (tkR bt vL vW vG rL rW rG NS)) w [[⟨bt, 56, [vL, vW, vG]⟩], rL, rW, rG, NS] := (Mem.start hr).keep (by simp [tkR])
  refine calls_vc mixed Try.func36 rfl C36 (by simp [Try.ntmps36]) ?_
  refine seq fun K1 h1 => ?_
  refine stp (v := .bool false) (o_mv rfl) ?_
  refine h1 _ _ ?_
  clear h1
  refine seq fun K2 h2 => ?_
  refine seq fun K3 h3 => ?_
  refine stp (v := .int .i64 0) (o_mv rfl) ?_
  refine h3 _ _ ?_
  clear h3
  refine lp (n := fun _ _ => False) (ι := (Nat) × (List Tn) × (List Ent) × (List Ent)) (fun ⟨c, ts2, rG2, NS2⟩ f w' => f 3 = .int .i64 (c : Nat) ∧ f 0 = .pointer (some ⟨bt, 0, none⟩) ∧ Mem w (ids (tkR bt vL vW vG rL rW rG NS)) w' [[⟨bt, 56, [vL, vW, vG]⟩], rL, rW, rG2, NS2] ∧ (SlE bV 22 vL ts2 rL) ∧ (SlE wV 22 vW ts2 rW) ∧ (SlE gV 22 vG ts2 rG2) ∧ (Nst TQ ts2 NS2) ∧ (c % 2 = 0) ∧ (ts2.length ≤ 4294967295 ∧ c ≤ ts2.length + 1) ∧ (Tg (fun n => decide (n % 2 = 1 ∨ n < c)) ts2)) (fun ⟨c, ts2, rG2, NS2⟩ => ts2.length + 1 - c) (0, ts, rG, NS) ?_ ?_
  · exact ⟨by first | rfl | exact v_int (by omega) | exact v_int (by simp) | exact v_int (by simp; omega), rfl, hM0, hL, hW, hG, hN, rfl, by omega, fun n hn => by have h9 := hg0 n hn; refine ⟨h9.1.trans ?_, h9.2⟩; unfold odd; rw [decide_eq_decide]; omega⟩
  · rintro ⟨c, ts2, rG2, NS2⟩ f w4 ⟨e4_3, e4_0, hM4, hL, hW, hG, hN, hev, hl2, hg⟩ K5 h5
    obtain ⟨frm, rfl⟩ : ∃ frm, f = (upd (upd frm 3 (.int .i64 (c : Nat))) 0 (.pointer (some ⟨bt, 0, none⟩))) := ⟨f, by rw [upd_self e4_3, upd_self e4_0]⟩
    clear e4_3 e4_0
    refine seq fun K6 h6 => ?_
    refine seq fun K7 h7 => ?_
    refine stp (v := .int .i64 (c : Nat)) (o_mv rfl) ?_
    refine stp (v := .pointer (some ⟨bt, 0, none⟩)) (o_mv rfl) ?_
    refine stp (v := .pointer (some ⟨bt, 0, none⟩)) (o_nilchk rfl rfl) ?_
    refine stp (v := .pointer (some ⟨bt, 0, none⟩)) (o_fa rfl rfl) ?_
    refine m_ld (v := vL) hM4 (i := 0) (j := 0) rfl rfl rfl rfl ?_
    refine stp (v := .int .i64 (ts2.length : Nat)) (o_lenR (hL.rd hM4 (i := 1) rfl) rfl rfl) ?_
    refine stp (v := .bool (decide (((c : Nat) : Int) < (ts2.length : Nat)))) (o_bin rfl rfl rfl) ?_
    refine h7 _ _ ?_
    clear h7
    refine cndP rfl (fun c8 => ?_) (fun c8 => ?_)
    ·
      refine h6 _ _ ?_
      clear h6
      refine seq fun K9 h9 => ?_
      refine stp (v := .pointer (some ⟨bt, 0, none⟩)) (o_mv rfl) ?_
      refine stp (v := .int .i64 (c : Nat)) (o_mv rfl) ?_
      refine m_call (mark_ok bt vL vW vG ts2 rL rW rG2 NS2 w4 hL hW hG hN ((hM4.keep (by simp [tkR]) : Mem w (ids (tkR bt vL vW vG rL rW rG NS)) w4 [tkR bt vL vW vG rL rW rG2 NS2]).res (i := 0) rfl) (by first | omega | (simp; omega)) c (by first | omega | (simp; done) | (simp; omega)) ((hg c (by omega)).1.trans (decide_eq_false (by omega)))) rfl fun v10 w10 ⟨t10, rG10, NS10, hm10_, hg10_, hL10, hW10, hG10, hN10, hm10⟩ => ?_
      have hM10 : Mem w (ids (tkR bt vL vW vG rL rW rG NS)) w10 [[⟨bt, 56, [vL, vW, vG]⟩], rL, rW, rG10, NS10] := ((hM4.keep (by simp [tkR]) : Mem w (ids (tkR bt vL vW vG rL rW rG NS)) w4 [tkR bt vL vW vG rL rW rG2 NS2]).step 0 rfl hm10).keep (by simp [tkR])
      refine h9 _ _ ?_
      clear h9
      refine stp (v := .int .i64 (c : Nat)) (o_mv rfl) ?_
      refine stp (v := .int .i64 ((c : Nat) + 2)) (o_bin rfl rfl (v_add64 (by constructor <;> omega))) ?_
      refine stp (v := .int .i64 ((c : Nat) + 2)) (o_mv rfl) ?_
      refine h5 (c + 2, ts2.set c t10, rG10, NS10) _ _ ⟨by first | rfl | exact v_int (by omega) | exact v_int (by simp) | exact v_int (by simp; omega), rfl, hM10, hL10, hW10, hG10, hN10, by omega, by rw [List.length_set]; omega, hg.set hm10_ hg10_ (by omega) (fun n hn => by
        by_cases e : n = c
        · rw [if_pos e]; exact decide_eq_true (by omega)
        · rw [if_neg e, decide_eq_decide]; omega)⟩ (by (try dsimp only); rw [List.length_set]; omega)
    ·
      refine h2 _ _ ?_
      clear h2
      refine seq fun K11 h11 => ?_
      refine stp (v := .pointer (some ⟨bt, 0, none⟩)) (o_mv rfl) ?_
      refine m_call (stands_ok bt vL vW vG ts2 rL rW rG2 NS2 w4 hL hW hG hN ((hM4.keep (by simp [tkR]) : Mem w (ids (tkR bt vL vW vG rL rW rG NS)) w4 [tkR bt vL vW vG rL rW rG2 NS2]).res (i := 0) rfl) (by omega) _ hg) rfl fun v12 w12 ⟨hr12, hm12⟩ => ?_
      have hM12 : Mem w (ids (tkR bt vL vW vG rL rW rG NS)) w12 [[⟨bt, 56, [vL, vW, vG]⟩], rL, rW, rG2, NS2] := ((hM4.keep (by simp [tkR]) : Mem w (ids (tkR bt vL vW vG rL rW rG NS)) w4 [tkR bt vL vW vG rL rW rG2 NS2]).step 0 rfl hm12).keep (by simp [tkR])
      subst hr12
      refine stp (v := .bool true) (o_mv rfl) ?_
      refine h11 _ _ ?_
      clear h11
      refine ⟨(.bool true), rfl, ?_⟩
      exact ⟨rfl, hM12.keep (by simp)⟩
