/- Tokens and Decode, the program's. -/
import Derived.Test.YteanplpnhlgjeaaT7
namespace Go.Proofs.Yteanplpnhlgjeaa.E
open Go
/-- what Decode's own function holds: the text so far -/
def TxS (bc : Nat) (toks : List Pk) (rv : List Ent) : Prop := ∃ v rb, rv = ⟨bc, 25, [v]⟩ :: rb ∧ SlE byteV 5 v (textP toks) rb
/-- what Tokens' own function holds: the tokens so far -/
def TkS (bc : Nat) (toks : List Pk) (rv : List Ent) : Prop := ∃ v us rA rB, rv = ⟨bc, 24, [v]⟩ :: (rA ++ rB) ∧ SlS tokC 3 31 v us rA ∧ Nst (OwnP byteV 5 Tk.lit Tk.bs) us rB ∧ us.map Tk.p = toks ∧ toks.length ≤ lenP toks

/-- lz.Decode$1 -/
theorem dec1_ok (bc : Nat) (w : World) (t : Tk) (toks : List Pk) (rv rl : List Ent) (hT : TxS bc toks rv) (hl : SlE byteV 5 t.lit t.bs rl) (hr : Res w (rv ++ rl)) {made : Nat} (hm : made = lenP toks) (hc : 0 ≤ t.n ∧ t.n ≤ 259 ∧ 0 ≤ t.d ∧ t.d ≤ 32768 ∧ (0 < t.n → 1 ≤ t.d ∧ t.d ≤ (made : Int) + (t.bs.length : Nat)) ∧ (made : Int) + (t.bs.length : Nat) + t.n ≤ 65536 ∧ 1 ≤ ((t.bs.length : Nat) : Int) + t.n) : Calls Try.prog 43 [.agg (tokC t).toArray, .pointer (some ⟨bc, 0, none⟩)].toArray w (Rt fun _ w' => ∃ rv', TxS bc (toks ++ [t.p]) rv' ∧ Mem w (ids (rv ++ rl)) w' [rv']) := by
  obtain ⟨v, rb, rfl, hs⟩ := hT
  have htl := textP_len toks
  have hM0 : Mem w (ids (⟨bc, 25, [v]⟩ :: rb ++ rl)) w [[⟨bc, 25, [v]⟩], rb, rl] := (Mem.start hr).keep (by simp)
  refine calls_vc mixed Try.func43 rfl C43 (by simp [Try.ntmps43]) ?_
  refine seq fun K1 h1 => ?_
  refine m_bx (v := .agg ([t.lit, .int .i64 t.d, .int .i64 t.n] : List Value).toArray) hM0 rfl rfl fun b2 w3 (hM3 : Mem w (ids (⟨bc, 25, [v]⟩ :: rb ++ rl)) w3 [[⟨bc, 25, [v]⟩], rb, rl, [⟨b2, 31, [t.lit, .int .i64 t.d, .int .i64 t.n]⟩]]) => ?_
  refine h1 _ _ ?_
  clear h1
  intro wd e1 e2 e3 e4
  have hd := Upd.same e1 e2 e3 e4 []
  have hM4 := hM3.pure hd
  clear e1 e2 e3 e4
  refine ⟨(some [b2]), ?_⟩
  show vd _ _ _ _ _ _ _
  refine dq (v := .pointer (some ⟨b2, 0, none⟩)) (o_fa rfl rfl) ?_
  refine dq (v := .pointer (some ⟨b2, 1, none⟩)) (o_fa rfl rfl) ?_
  refine dq (v := .pointer (some ⟨b2, 2, none⟩)) (o_fa rfl rfl) ?_
  refine dqld rfl (by simp [isHeld]) (v := .int .i64 t.n) ((hM4.at (i := 3) (j := 0) rfl rfl).cell 2) ?_
  refine dqld rfl (by simp [isHeld]) (v := .int .i64 t.d) ((hM4.at (i := 3) (j := 0) rfl rfl).cell 1) ?_
  refine dqld rfl (by simp [isHeld]) (v := t.lit) ((hM4.at (i := 3) (j := 0) rfl rfl).cell 0) ?_
  refine dl (m_ld (v := v) hM4 (i := 0) (j := 0) rfl rfl rfl rfl ?_)
  refine ⟨(fun b hb => rfl), ?_⟩
  refine dl (m_appEU hM4 (i := 1) rfl hs rfl rfl (hl.rd hM4 (i := 2) rfl) (by first | omega | (simp; omega)) (by omega) fun v5 w5 r5 (hs5 : SlE byteV 5 v5 ((textP toks) ++ t.bs) r5) hup5 (hM5 : Mem w (ids (⟨bc, 25, [v]⟩ :: rb ++ rl)) w5 [[⟨bc, 25, [v]⟩], r5, rl, [⟨b2, 31, [t.lit, .int .i64 t.d, .int .i64 t.n]⟩]]) => ?_)
  have hh5 := held_upd (wr := wd) (bs := [b2]) hup5 (fun b hb => by
    simp only [List.mem_cons, List.not_mem_nil, or_false] at hb
    rw [hb]; exact ⟨(hM4.at (i := 3) (j := 0) rfl rfl).lt, hM4.apart (i := 3) (j := 0) (k := 1) rfl rfl rfl (by decide)⟩) (fun b hb => rfl)
  refine ⟨hh5, ?_⟩
  refine dl (m_call (again_ok _ ((textP toks) ++ t.bs) t.d t.n r5 w5 hs5 (hM5.res (i := 1) rfl) (by first | omega | (simp only [List.length_append]; omega)) (by omega) (by intro _; rw [List.length_append]; omega)) rfl fun v6 w6 ⟨r'6, hs6, hm6⟩ => ?_)
  have hM6 : Mem w (ids (⟨bc, 25, [v]⟩ :: rb ++ rl)) w6 [[⟨bc, 25, [v]⟩], r'6, rl, [⟨b2, 31, [t.lit, .int .i64 t.d, .int .i64 t.n]⟩]] := hM5.step 1 rfl hm6
  have hh6 := held_upd (wr := wd) (bs := [b2]) hm6.upd (fun b hb => by
    simp only [List.mem_cons, List.not_mem_nil, or_false] at hb
    rw [hb]; exact ⟨(hM5.at (i := 3) (j := 0) rfl rfl).lt, hM5.apart (i := 3) (j := 0) (k := 1) rfl rfl rfl (by decide)⟩) hh5
  refine ⟨hh6, ?_⟩
  refine dl (m_stU (v := v6) hM6 (i := 0) rfl rfl rfl (Sl.one hs6) (by simp) fun w7 hup7 (hM7 : Mem w (ids (⟨bc, 25, [v]⟩ :: rb ++ rl)) w7 [[⟨bc, 25, [v6]⟩], r'6, rl, [⟨b2, 31, [t.lit, .int .i64 t.d, .int .i64 t.n]⟩]]) => ?_)
  have hh7 := held_upd (wr := wd) (bs := [b2]) hup7 (fun b hb => by
    simp only [List.mem_cons, List.not_mem_nil, or_false] at hb
    rw [hb]; exact ⟨(hM6.at (i := 3) (j := 0) rfl rfl).lt, hM6.apart (i := 3) (j := 0) (k := 0) rfl rfl rfl (by decide)⟩) hh6
  refine ⟨hh7, ?_⟩
  refine ⟨(.tuple [].toArray), rfl, ?_⟩
  exact ⟨_, ⟨_, _, rfl, by rw [textP_app]; exact hs6⟩, hM7.keep (by simp)⟩

/-- lz.Tokens$1 -/
theorem tok1_ok (bc : Nat) (w : World) (t : Tk) (toks : List Pk) (rv rl : List Ent) (hT : TkS bc toks rv) (hl : SlE byteV 5 t.lit t.bs rl) (hr : Res w (rv ++ rl)) {made : Nat} (hm : made = lenP toks) (hc : 0 ≤ t.n ∧ t.n ≤ 259 ∧ 0 ≤ t.d ∧ t.d ≤ 32768 ∧ (0 < t.n → 1 ≤ t.d ∧ t.d ≤ (made : Int) + (t.bs.length : Nat)) ∧ (made : Int) + (t.bs.length : Nat) + t.n ≤ 65536 ∧ 1 ≤ ((t.bs.length : Nat) : Int) + t.n) : Calls Try.prog 44 [.agg (tokC t).toArray, .pointer (some ⟨bc, 0, none⟩)].toArray w (Rt fun _ w' => ∃ rv', TkS bc (toks ++ [t.p]) rv' ∧ Mem w (ids (rv ++ rl)) w' [rv']) := by
  obtain ⟨v, us, rA, rB, rfl, hs, hn, hp, hk⟩ := hT
  have hul : us.length = toks.length := by rw [← hp]; simp
  have hM0 : Mem w (ids (⟨bc, 24, [v]⟩ :: (rA ++ rB) ++ rl)) w [[⟨bc, 24, [v]⟩], rA, rB, rl] := (Mem.start hr).keep (by simp)
  refine calls_vc mixed Try.func44 rfl C44 (by simp [Try.ntmps44]) ?_
  refine seq fun K1 h1 => ?_
  refine m_bx (v := .agg ([t.lit, .int .i64 t.d, .int .i64 t.n] : List Value).toArray) hM0 rfl rfl fun b2 w3 (hM3 : Mem w (ids (⟨bc, 24, [v]⟩ :: (rA ++ rB) ++ rl)) w3 [[⟨bc, 24, [v]⟩], rA, rB, rl, [⟨b2, 31, [t.lit, .int .i64 t.d, .int .i64 t.n]⟩]]) => ?_
  refine h1 _ _ ?_
  clear h1
  refine m_ld (v := v) hM3 (i := 0) (j := 0) rfl rfl rfl rfl ?_
  refine m_ldA (l := [t.lit, .int .i64 t.d, .int .i64 t.n]) hM3 (i := 4) (j := 0) rfl rfl rfl rfl rfl ?_
  refine m_app1S (enc := tokC) (q := t) hM3 (i := 1) rfl hs rfl (by simp) (rfl) rfl (by first | omega | (simp; omega)) (by omega) fun v4 w4 r4 u4 (hs4 : SlS tokC 3 31 v4 (us ++ [t]) r4) (hM4 : Mem w (ids (⟨bc, 24, [v]⟩ :: (rA ++ rB) ++ rl)) w4 [[⟨bc, 24, [v]⟩], r4, rB, rl, [⟨b2, 31, [t.lit, .int .i64 t.d, .int .i64 t.n]⟩]]) => ?_
  refine m_st (v := v4) hM4 (i := 0) rfl rfl rfl (Sl.one hs4) (by simp) fun w5 (hM5 : Mem w (ids (⟨bc, 24, [v]⟩ :: (rA ++ rB) ++ rl)) w5 [[⟨bc, 24, [v4]⟩], r4, rB, rl, [⟨b2, 31, [t.lit, .int .i64 t.d, .int .i64 t.n]⟩]]) => ?_
  refine ⟨(.tuple [].toArray), rfl, ?_⟩
  exact ⟨_, ⟨_, _, r4, rB ++ rl, rfl, hs4, hn.app hl, by rw [List.map_append, hp]; rfl, by rw [lenP_app]; simp only [List.length_append, List.length_singleton]; omega⟩, hM5.keep (by simp)⟩

theorem read_okI (x : Value) (b : List UInt8) (n : Int) (g : FuncId) (caps : List Value) (T : List Pk → List Ent → Prop) (rv0 : List Ent) (w : World) (hx : RdE byteV w x b) (hl : b.length ≤ 140737488355328) (h0 : 0 ≤ n) (hn : n ≤ 65536) (hr : Res w rv0) (hT0 : T [] rv0) (ho : okFn Try.prog g = true) (hq : ∀ (wc : World) (t : Tk) (toks : List Pk) (rv rl : List Ent), T toks rv → SlE byteV 5 t.lit t.bs rl → Res wc (rv ++ rl) → ∀ {made : Nat}, made = lenP toks → (0 ≤ t.n ∧ t.n ≤ 259 ∧ 0 ≤ t.d ∧ t.d ≤ 32768 ∧ (0 < t.n → 1 ≤ t.d ∧ t.d ≤ (made : Int) + (t.bs.length : Nat)) ∧ (made : Int) + (t.bs.length : Nat) + t.n ≤ 65536 ∧ 1 ≤ ((t.bs.length : Nat) : Int) + t.n) → Calls Try.prog g (Value.agg (tokC t).toArray :: caps).toArray wc (Rt fun _ w' => ∃ rv', T (toks ++ [t.p]) rv' ∧ Mem wc (ids (rv ++ rl)) w' [rv'])) : Calls Try.prog 42 [x, .int .i64 n, .func (.func g) #[] caps.toArray].toArray w (Rt fun r w' => ∃ ok toks rv', r = .bool ok ∧ T toks rv' ∧ (if ok then some toks else none) = rdF b n.toNat ∧ Mem w (ids rv0) w' [rv']) := by
  have h := read_ok x b n.toNat g caps T rv0 w hx hl (by omega) hr hT0 ho hq
  rw [Int.toNat_of_nonneg h0] at h
  exact h
theorem TxS.nil (bc : Nat) : TxS bc [] [⟨bc, 25, [.slice none 0 0]⟩] := ⟨_, [], rfl, Sl.nil 1 5⟩
theorem TkS.nil (bc : Nat) : TkS bc [] [⟨bc, 24, [.slice none 0 0]⟩] := ⟨_, [], [], [], rfl, Sl.nil 3 31, Nst.nil, rfl, by simp⟩

theorem decF_arg {b : List UInt8} {n : Int} (h : n < 0 ∨ 65536 < n) : decF b n = ([], 3) := by rw [decF_no (by rw [tksF_arg h]; simp), tksF_arg h]
theorem decF_none {b : List UInt8} {n : Int} (h : ¬ (n < 0 ∨ 65536 < n)) (h1 : rdF b n.toNat = none) : decF b n = ([], 30) := by rw [decF_no (by rw [tksF_none h h1]; simp), tksF_none h h1]
theorem decF_some {b : List UInt8} {n : Int} {ps : List Pk} (h : ¬ (n < 0 ∨ 65536 < n)) (h1 : rdF b n.toNat = some ps) : decF b n = (textP ps, 0) := by rw [decF_yes (by rw [tksF_some h h1]), tksF_some h h1]

/-- lz.Decode -/
theorem Decode_ok (x : Value) (b : List UInt8) (n : Int) (w : World) (hx : RdE byteV w x b) (hl : b.length ≤ 140737488355328) (hn : inK .i64 n) : Calls Try.prog 28 [x, .int .i64 n].toArray w (Rt fun r w' => ∃ v rs, r = .tuple [v, .int .i64 (decF b n).2].toArray ∧ SlE byteV 5 v (decF b n).1 rs ∧ Mem w [] w' [rs]) := by
  have hM0 : Mem w [] w [] := Mem.nil w []
  simp only [inK] at hn
  refine calls_vc mixed Try.func28 rfl C28 (by simp [Try.ntmps28]) ?_
  refine seq fun K1 h1 => ?_
  refine stp (v := .slice none 0 0) (o_mv rfl) ?_
  refine stp (v := .int .i64 0) (o_mv rfl) ?_
  refine h1 _ _ ?_
  clear h1
  refine seq fun K2 h2 => ?_
  refine seq fun K3 h3 => ?_
  refine stp (v := .int .i64 n) (o_mv rfl) ?_
  refine stp (v := .bool (decide (n < 0))) (o_bin rfl rfl rfl) ?_
  refine stp (v := .bool (decide (n < 0))) (o_mv rfl) ?_
  refine splitP rfl (fun c4 => ?_) (fun c4 => ?_)
  ·
    refine gno rfl (by simp) ?_
    refine gno rfl (by simp) ?_
    refine stp (v := .bool true) (o_pickT rfl rfl) ?_
    refine h3 _ _ ?_
    clear h3
    refine cndT rfl ?_
    refine seq fun K5 h5 => ?_
    refine stp (v := .slice none 0 0) (o_mv rfl) ?_
    refine stp (v := .int .i64 3) (o_mv rfl) ?_
    refine h5 _ _ ?_
    clear h5
    refine ⟨(.tuple [.slice none 0 0, .int .i64 3].toArray), rfl, ?_⟩
    have he := decF_arg (b := b) (n := n) (by omega)
    exact ⟨.slice none 0 0, [], by rw [he], by rw [he]; exact Sl.nil 1 5, hM0.keep (by simp)⟩
  ·
    refine stg rfl (v := .int .i64 n) (o_mv rfl) ?_
    refine stg rfl (v := .bool (decide ((65536 : Int) < n))) (o_bin rfl rfl rfl) ?_
    refine stp (v := .bool (decide ((65536 : Int) < n))) (o_pickF rfl rfl) ?_
    refine h3 _ _ ?_
    clear h3
    refine cndP rfl (fun c6 => ?_) (fun c6 => ?_)
    ·
      refine seq fun K7 h7 => ?_
      refine stp (v := .slice none 0 0) (o_mv rfl) ?_
      refine stp (v := .int .i64 3) (o_mv rfl) ?_
      refine h7 _ _ ?_
      clear h7
      refine ⟨(.tuple [.slice none 0 0, .int .i64 3].toArray), rfl, ?_⟩
      have he := decF_arg (b := b) (n := n) (by omega)
      exact ⟨.slice none 0 0, [], by rw [he], by rw [he]; exact Sl.nil 1 5, hM0.keep (by simp)⟩
    ·
      refine h2 _ _ ?_
      clear h2
      refine seq fun K8 h8 => ?_
      refine m_al hM0 fun b9 w10 (hM10 : Mem w [] w10 [[⟨b9, 25, [.slice none 0 0]⟩]]) => ?_
      refine h8 _ _ ?_
      clear h8
      refine seq fun K11 h11 => ?_
      refine seq fun K12 h12 => ?_
      refine stp (v := x) (o_mv rfl) ?_
      refine stp (v := .int .i64 n) (o_mv rfl) ?_
      refine stp (v := .func (.func 43) [].toArray [.pointer (some ⟨b9, 0, none⟩)].toArray) (o_mkf rfl) ?_
      refine m_call (read_okI _ b n 43 [.pointer (some ⟨b9, 0, none⟩)] (TxS b9) _ w10 (hx.upd hM10.upd) (by omega) (by omega) (by omega) (hM10.res (i := 0) rfl) (TxS.nil _) (by kernel_rfl) (fun wc t toks rv rl hT hl hr _ hm hc => dec1_ok _ wc t toks rv rl hT hl hr hm hc)) rfl fun v13 w13 ⟨okq, tq, rv13, hr13, hT13, hq, hm13⟩ => ?_
      obtain ⟨v, rb, rfl, hs⟩ := hT13
      have hM13 : Mem w [] w13 [[⟨b9, 25, [v]⟩], rb] := (hM10.step 0 rfl hm13).perm (by simp)
      subst hr13
      refine stp (v := .bool (!okq)) (o_not rfl rfl) ?_
      refine h12 _ _ ?_
      clear h12
      refine cnd rfl (fun hwT => ?_) (fun hwF => ?_)
      ·
        refine seq fun K15 h15 => ?_
        refine stp (v := .slice none 0 0) (o_mv rfl) ?_
        refine stp (v := .int .i64 30) (o_mv rfl) ?_
        refine h15 _ _ ?_
        clear h15
        refine ⟨(.tuple [.slice none 0 0, .int .i64 30].toArray), rfl, ?_⟩
        have hok : okq = false := by simpa using hwT
        rw [hok] at hq
        have he := decF_none (b := b) (n := n) (by omega) hq.symm
        exact ⟨.slice none 0 0, [], by rw [he], by rw [he]; exact Sl.nil 1 5, hM13.keep (by simp)⟩
      ·
        refine h11 _ _ ?_
        clear h11
        refine seq fun K16 h16 => ?_
        refine m_ld (v := v) hM13 (i := 0) (j := 0) rfl rfl rfl rfl ?_
        refine stp (v := v) (o_mv rfl) ?_
        refine stp (v := .int .i64 0) (o_mv rfl) ?_
        refine h16 _ _ ?_
        clear h16
        refine ⟨(.tuple [v, .int .i64 0].toArray), rfl, ?_⟩
        have hok : okq = true := by simpa using hwF
        rw [hok, if_pos rfl] at hq
        have he := decF_some (b := b) (n := n) (by omega) hq.symm
        exact ⟨_, _, by rw [he], by rw [he]; exact hs, hM13.keep (by simp)⟩

/-- lz.Tokens -/
theorem Tokens_ok (x : Value) (b : List UInt8) (n : Int) (w : World) (hx : RdE byteV w x b) (hl : b.length ≤ 140737488355328) (hn : inK .i64 n) : Calls Try.prog 29 [x, .int .i64 n].toArray w (Rt fun r w' => ∃ v us rA rB, r = .tuple [v, .int .i64 (tksF b n).2].toArray ∧ SlS tokC 3 31 v us rA ∧ Nst (OwnP byteV 5 Tk.lit Tk.bs) us rB ∧ us.map Tk.p = (tksF b n).1 ∧ Mem w [] w' [rA, rB]) := by
  have hM0 : Mem w [] w [] := Mem.nil w []
  simp only [inK] at hn
  refine calls_vc mixed Try.func29 rfl C29 (by simp [Try.ntmps29]) ?_
  refine seq fun K1 h1 => ?_
  refine stp (v := .slice none 0 0) (o_mv rfl) ?_
  refine stp (v := .int .i64 0) (o_mv rfl) ?_
  refine h1 _ _ ?_
  clear h1
  refine seq fun K2 h2 => ?_
  refine seq fun K3 h3 => ?_
  refine stp (v := .int .i64 n) (o_mv rfl) ?_
  refine stp (v := .bool (decide (n < 0))) (o_bin rfl rfl rfl) ?_
  refine stp (v := .bool (decide (n < 0))) (o_mv rfl) ?_
  refine splitP rfl (fun c4 => ?_) (fun c4 => ?_)
  ·
    refine gno rfl (by simp) ?_
    refine gno rfl (by simp) ?_
    refine stp (v := .bool true) (o_pickT rfl rfl) ?_
    refine h3 _ _ ?_
    clear h3
    refine cndT rfl ?_
    refine seq fun K5 h5 => ?_
    refine stp (v := .slice none 0 0) (o_mv rfl) ?_
    refine stp (v := .int .i64 3) (o_mv rfl) ?_
    refine h5 _ _ ?_
    clear h5
    refine ⟨(.tuple [.slice none 0 0, .int .i64 3].toArray), rfl, ?_⟩
    have he := tksF_arg (b := b) (n := n) (by omega)
    exact ⟨.slice none 0 0, [], [], [], by rw [he], Sl.nil 3 31, Nst.nil, by rw [he]; rfl, hM0.keep (by simp)⟩
  ·
    refine stg rfl (v := .int .i64 n) (o_mv rfl) ?_
    refine stg rfl (v := .bool (decide ((65536 : Int) < n))) (o_bin rfl rfl rfl) ?_
    refine stp (v := .bool (decide ((65536 : Int) < n))) (o_pickF rfl rfl) ?_
    refine h3 _ _ ?_
    clear h3
    refine cndP rfl (fun c6 => ?_) (fun c6 => ?_)
    ·
      refine seq fun K7 h7 => ?_
      refine stp (v := .slice none 0 0) (o_mv rfl) ?_
      refine stp (v := .int .i64 3) (o_mv rfl) ?_
      refine h7 _ _ ?_
      clear h7
      refine ⟨(.tuple [.slice none 0 0, .int .i64 3].toArray), rfl, ?_⟩
      have he := tksF_arg (b := b) (n := n) (by omega)
      exact ⟨.slice none 0 0, [], [], [], by rw [he], Sl.nil 3 31, Nst.nil, by rw [he]; rfl, hM0.keep (by simp)⟩
    ·
      refine h2 _ _ ?_
      clear h2
      refine seq fun K8 h8 => ?_
      refine m_al hM0 fun b9 w10 (hM10 : Mem w [] w10 [[⟨b9, 24, [.slice none 0 0]⟩]]) => ?_
      refine h8 _ _ ?_
      clear h8
      refine seq fun K11 h11 => ?_
      refine seq fun K12 h12 => ?_
      refine stp (v := x) (o_mv rfl) ?_
      refine stp (v := .int .i64 n) (o_mv rfl) ?_
      refine stp (v := .func (.func 44) [].toArray [.pointer (some ⟨b9, 0, none⟩)].toArray) (o_mkf rfl) ?_
      refine m_call (read_okI _ b n 44 [.pointer (some ⟨b9, 0, none⟩)] (TkS b9) _ w10 (hx.upd hM10.upd) (by omega) (by omega) (by omega) (hM10.res (i := 0) rfl) (TkS.nil _) (by kernel_rfl) (fun wc t toks rv rl hT hl hr _ hm hc => tok1_ok _ wc t toks rv rl hT hl hr hm hc)) rfl fun v13 w13 ⟨okq, tq, rv13, hr13, hT13, hq, hm13⟩ => ?_
      obtain ⟨v, us, rA, rB, rfl, hs, hns, hp, hk⟩ := hT13
      have hM13 : Mem w [] w13 [[⟨b9, 24, [v]⟩], rA, rB] := (hM10.step 0 rfl hm13).perm (by simp)
      subst hr13
      refine stp (v := .bool (!okq)) (o_not rfl rfl) ?_
      refine h12 _ _ ?_
      clear h12
      refine cnd rfl (fun hwT => ?_) (fun hwF => ?_)
      ·
        refine seq fun K15 h15 => ?_
        refine stp (v := .slice none 0 0) (o_mv rfl) ?_
        refine stp (v := .int .i64 30) (o_mv rfl) ?_
        refine h15 _ _ ?_
        clear h15
        refine ⟨(.tuple [.slice none 0 0, .int .i64 30].toArray), rfl, ?_⟩
        have hok : okq = false := by simpa using hwT
        rw [hok] at hq
        have he := tksF_none (b := b) (n := n) (by omega) hq.symm
        exact ⟨.slice none 0 0, [], [], [], by rw [he], Sl.nil 3 31, Nst.nil, by rw [he]; rfl, hM13.keep (by simp)⟩
      ·
        refine h11 _ _ ?_
        clear h11
        refine seq fun K16 h16 => ?_
        refine m_ld (v := v) hM13 (i := 0) (j := 0) rfl rfl rfl rfl ?_
        refine stp (v := v) (o_mv rfl) ?_
        refine stp (v := .int .i64 0) (o_mv rfl) ?_
        refine h16 _ _ ?_
        clear h16
        refine ⟨(.tuple [v, .int .i64 0].toArray), rfl, ?_⟩
        have hok : okq = true := by simpa using hwF
        rw [hok, if_pos rfl] at hq
        have he := tksF_some (b := b) (n := n) (by omega) hq.symm
        exact ⟨_, _, _, _, by rw [he], hs, hns, by rw [he]; exact hp, hM13.keep (by simp)⟩
