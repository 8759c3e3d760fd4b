/- A twin with another number in it. -/
import Derived.Test.YthhmhmnhbababaaD36
namespace Go.Proofs.Ythhmhmnhbababaa.E
open Go
theorem xorI64_in (a b : Int) : inK .i64 (xorI .i64 a b) := by
  unfold xorI
  rw [IntKind.wrap_i64]
  simp only [inK]
  omega
section
variable {α : Type} {enc : α → List Value} {sz : Nat} [Enc enc sz] {P : Program} {r : List MI} {f : Fr} {w w0 : World} {S : List Nat} {R : List (List Ent)} {K : Fr → World → Prop} {d : Nat} {t : TypeId}
omit [Enc enc sz] in
/-- the first element's address in an own slice -/
theorem m_idxO {x i : Operand} {u : Value} {l : List α} {rs : List Ent} {k : IntKind} (h : SlS enc sz t u l rs) (hx : ev f x = u) (hi : ev f i = .int k 0) (hl : 0 < l.length)
    (hk : ∀ b c tl, rs = [⟨b, t, l.flatMap enc ++ tl⟩] → u = .slice (some ⟨b, 0, none⟩) l.length c → vr P r (upd f d (.pointer (some ⟨b, 0, none⟩))) w K) : vr P (.p none d (.idx sz x i) :: r) f w K := by
  rcases h.form with ⟨_, h0, _⟩ | ⟨b, cap, tail, hu, hr, h2, h3⟩
  · omega
  · refine idx (hx.trans hu) hi ⟨by omega, by omega⟩ ?_
    simp only [Int.toNat_zero, Nat.zero_mul, Nat.add_zero]
    exact hk b cap tail hr hu
/-- one field of the first element is written -/
theorem m_stO (z : α) {p y : Operand} {u : Value} {l : List α} {q : α} {i o b c : Nat} {tl : List Value} {val : Value} {rs : List Ent} (hM : Mem w0 S w R) (hi : R[i]? = some rs) (hs : SlS enc sz t u l rs) (hr : rs = [⟨b, t, l.flatMap enc ++ tl⟩]) (hu : u = .slice (some ⟨b, 0, none⟩) l.length c) (hp : ev f p = .pointer (some ⟨b, o, none⟩)) (hj : 0 < l.length) (ho : o < sz) (hy : ev f y = val) (h1 : val.oneCell' = true) (hq : enc q = (enc (l.getD 0 z)).set o val)
    (h : ∀ w' r', r' = upS enc (l.set 0 q) rs → SlS enc sz t u (l.set 0 q) r' → Upd (ids rs) w w' → Mem w0 S w' (R.set i r') → vr P r f w' K) : vr P (.l none none (.st 1 p y) :: r) f w K := by
  subst hr
  have hle : sz ≤ l.length * sz := by
    have := Nat.mul_le_mul_right sz hj
    simpa using this
  refine m_stU hM hi hp hy h1 (by rw [List.length_append, fm_length]; omega) fun w' hU hM' => ?_
  have e0 := fm_setF (enc := enc) z (l := l) (tail := tl) (j := 0) (o := o) hj ho hq
  rw [Nat.zero_mul, Nat.zero_add] at e0
  have hs' := hs.up (m := l.set 0 q) (List.length_set ..)
  have e1 : upS enc (l.set 0 q) [⟨b, t, l.flatMap enc ++ tl⟩] = [⟨b, t, (l.set 0 q).flatMap enc ++ tl⟩] := by
    unfold upS
    have e : (l.flatMap enc).length = ((l.set 0 q).flatMap enc).length := by rw [fm_length, fm_length, List.length_set]
    simp only [List.map_cons, List.map_nil]
    rw [List.drop_left' e]
  rw [e0] at hM'
  exact h w' _ rfl hs' hU (by rw [e1]; exact hM')
end

theorem tlsB_len : ∀ (bl : List Bi) (a : Int), (tlsB a bl).length = bl.length
  | [], _ => rfl
  | _ :: bl, a => by rw [tlsB, List.length_cons, tlsB_len bl, List.length_cons]
theorem tlsP_len {parts : Int} : ∀ (ps : List Pp) (a last : Int) (n : Nat), infOk parts last n ps → n + (tlsP a ps).length ≤ 262144 ∨ ps = []
  | [], _, _, _, _ => .inr rfl
  | p :: ps, a, last, n, h => by
    rw [tlsP, List.length_append, tlsB_len]
    rcases tlsP_len ps (a + spB p.bl) _ _ h.2 with h2 | h2
    · exact .inl (by omega)
    · subst h2; exact .inl (by have := h.1.2; show n + (p.bl.length + 0) ≤ _; omega)
theorem tlsG_len : ∀ (k : Nat) (a left : Int), (tlsG k a left).length ≤ k
  | 0, _, _ => Nat.le_refl _
  | k + 1, a, left => by
    rw [tlsG]
    split
    · simp
    · have := tlsG_len k (a + min left 4100) (left - min left 4100)
      rw [List.length_cons]; omega
theorem tiles_len (parts : Int) (ps : List Pr) (_ : ps.length ≤ 1954687338211) (_ : ps.length ≤ 1954687338211) : (tilesF parts (ps.map Pr.p)).length ≤ 17180000 := by
  unfold tilesF
  split
  · rename_i h
    obtain ⟨h1, h2, _⟩ := enc_0 h
    have h3 := tlsP_len (ps.map Pr.p) 0 _ _ h1.2
    unfold mayT at h2
    have h4 := tlsG_len (pagesF (bodyF parts (ps.map Pr.p))).length (spaceF (ps.map Pr.p)) (pagesF (bodyF parts (ps.map Pr.p))).length
    unfold tailT
    rw [List.length_append, List.length_append]
    simp only [List.length_cons, List.length_nil]
    rcases h3 with h3 | h3
    · omega
    · rw [h3]; rw [h3] at h4 h2; show 0 + _ ≤ _; omega
  · simp

/-- winnowlaw8.encodedAnew -/
theorem encodedAnew_ok (parts : Int) (a : Option Addr) (c n : Nat) (q0 : List Pr) (rs N0 : List Ent) (w : World) (hs0 : SlS prC 5 71 (.slice a (n + 1) c) (q0 ++ [pm]) rs) (hT0 : Tw q0 N0) (hn : q0.length = n) (hr : Res w (rs ++ N0)) (hl : n ≤ 1954687338211) (hp : inK .i64 parts) : Calls Try.prog 29 [.agg [.int .i64 parts, .slice a n c].toArray].toArray w (Rt fun r w' => r = .bool true ∧ ∃ NS, Mem w (ids (rs ++ N0)) w' [rs, NS]) := by
  have hM0 : Mem w (ids (rs ++ N0)) w [rs, N0] := (Mem.start hr).keep (by simp)
  simp only [inK] at hp
  have hz0 := sl_less hs0 hn
  refine calls_vc mixed Try.func29 rfl C29 (by simp [Try.ntmps29]) ?_
  refine seq fun K1 h1 => ?_
  refine m_bx (v := .agg ([.int .i64 parts, (.slice a n c)] : List Value).toArray) hM0 rfl rfl fun b2 w3 (hM3 : Mem w (ids (rs ++ N0)) w3 [rs, N0, [⟨b2, 24, [.int .i64 parts, (.slice a n c)]⟩]]) => ?_
  refine stp (v := .bool false) (o_mv rfl) ?_
  refine h1 _ _ ?_
  clear h1
  refine seq fun K4 h4 => ?_
  refine seq fun K5 h5 => ?_
  refine stp (v := .pointer (some ⟨b2, 1, none⟩)) (o_fa rfl rfl) ?_
  refine m_ld (v := (.slice a n c)) hM3 (i := 2) (j := 0) rfl rfl rfl rfl ?_
  refine stp (v := .int .i64 (q0.length : Nat)) (o_lenR (hz0.rd hM3 (i := 0) rfl) rfl rfl) ?_
  refine stp (v := .bool (decide (((q0.length : Nat) : Int) = 0))) (o_bin rfl rfl rfl) ?_
  refine stp (v := .bool (decide (((q0.length : Nat) : Int) = 0))) (o_mv rfl) ?_
  refine splitP rfl (fun c6 => ?_) (fun c6 => ?_)
  ·
    refine gno rfl (by simp) ?_
    refine gnol rfl (by simp) ?_
    refine gno rfl (by simp) ?_
    refine gno rfl (by simp) ?_
    refine gnol rfl (by simp) ?_
    refine gno rfl (by simp) ?_
    refine gno rfl (by simp) ?_
    refine stp (v := .bool true) (o_pickT rfl rfl) ?_
    refine h5 _ _ ?_
    clear h5
    refine cndT rfl ?_
    refine seq fun K7 h7 => ?_
    refine stp (v := .bool true) (o_mv rfl) ?_
    refine h7 _ _ ?_
    clear h7
    refine ⟨(.bool true), rfl, ?_⟩
    exact ⟨rfl, N0, (hM3.drop 2).keep (by simp)⟩
  ·
    refine stg rfl (v := .pointer (some ⟨b2, 1, none⟩)) (o_fa rfl rfl) ?_
    refine gyesl rfl ?_
    refine m_ld (v := (.slice a n c)) hM3 (i := 2) (j := 0) rfl rfl rfl rfl ?_
    refine gyes rfl rfl (m_idxS pz (j := 0) (hz0.rd hM3 (i := 0) rfl) rfl rfl (by omega) fun b8 o8 hp8 => ?_)
    refine stg rfl (v := .pointer (some ⟨b8, o8 + 1, none⟩)) (o_fa rfl rfl) ?_
    refine gyesl rfl ?_
    refine ld (v := (q0.getD 0 pz).bv) rfl (hp8.get 1 rfl) ?_
    refine stg rfl (v := .int .i64 (((q0.getD 0 pz).bl).length : Nat)) (o_lenR (((fun p hp => (hT0.tk (hM3.res (i := 1) rfl).1 p hp).ok) _ (getD_memG pz (by omega))).rb) rfl rfl) ?_
    refine stg rfl (v := .bool (decide (((((q0.getD 0 pz).bl).length : Nat) : Int) = 0))) (o_bin rfl rfl rfl) ?_
    refine stp (v := .bool (decide (((((q0.getD 0 pz).bl).length : Nat) : Int) = 0))) (o_pickF rfl rfl) ?_
    refine h5 _ _ ?_
    clear h5
    refine cndP rfl (fun c9 => ?_) (fun c9 => ?_)
    ·
      refine seq fun K10 h10 => ?_
      refine stp (v := .bool true) (o_mv rfl) ?_
      refine h10 _ _ ?_
      clear h10
      refine ⟨(.bool true), rfl, ?_⟩
      exact ⟨rfl, N0, (hM3.drop 2).keep (by simp)⟩
    ·
      refine h4 _ _ ?_
      clear h4
      refine seq fun K11 h11 => ?_
      intro wd e1 e2 e3 e4
      have hd := Upd.same e1 e2 e3 e4 []
      have hM12 := hM3.pure hd
      clear e1 e2 e3 e4
      refine ⟨(some [b2, (blkV (.slice a n c))]), ?_⟩
      show vd _ _ _ _ _ _ _
      have hTok := hT0.tk (hM12.res (i := 1) rfl).1
      have hbk := (hTok _ (getD_memG pz (l := q0) (i := 0) (by omega))).ok.kb _ (getD_memG bz (l := (q0.getD 0 pz).bl) (i := 0) (by omega))
      refine dq (v := .pointer (some ⟨b2, 1, none⟩)) (o_fa rfl rfl) ?_
      refine dq (v := .pointer (some ⟨b2, 1, none⟩)) (o_fa rfl rfl) ?_
      refine dqld rfl (by simp [isHeld]) (v := (.slice a n c)) ((hM12.at (i := 2) (j := 0) rfl rfl).cell 1) ?_
      refine dqp (m_idxS3 pz (j := 0) (hz0.rd hM12 (i := 0) rfl) (hz0.rd hM12 (i := 0) rfl) rfl rfl (by omega) fun b13 o13 hp13 hbb13 => ?_)
      show vd _ _ _ _ _ _ _
      subst hbb13
      refine dq (v := .pointer (some ⟨(blkV (.slice a n c)), o13 + 1, none⟩)) (o_fa rfl rfl) ?_
      refine dqld rfl (by simp [isHeld]) (v := (q0.getD 0 pz).bv) (hp13.get 1 rfl) ?_
      refine dqp (m_idxS bz (j := 0) (((fun p hp => (hT0.tk (hM12.res (i := 1) rfl).1 p hp).ok) _ (getD_memG pz (by omega))).rb) rfl rfl (by omega) fun b14 o14 hp14 => ?_)
      show vd _ _ _ _ _ _ _
      refine dq (v := .pointer (some ⟨b14, o14 + 2, none⟩)) (o_fa rfl rfl) ?_
      refine dqld rfl (by simp [isHeld]) (v := (.slice a n c)) ((hM12.at (i := 2) (j := 0) rfl rfl).cell 1) ?_
      refine dqp (m_idxS3 pz (j := 0) (hz0.rd hM12 (i := 0) rfl) (hz0.rd hM12 (i := 0) rfl) rfl rfl (by omega) fun b15 o15 hp15 hbb15 => ?_)
      show vd _ _ _ _ _ _ _
      subst hbb15
      refine dq (v := .pointer (some ⟨(blkV (.slice a n c)), o15 + 1, none⟩)) (o_fa rfl rfl) ?_
      refine dqld rfl (by simp [isHeld]) (v := (q0.getD 0 pz).bv) (hp15.get 1 rfl) ?_
      refine dl (ld (v := .int .i64 ((((q0.getD 0 pz).bl).getD 0 bz).ct)) rfl (hp14.get 2 rfl) ?_)
      refine ⟨(fun b hb => rfl), ?_⟩
      refine dq (v := .int .i64 (xorI .i64 ((((q0.getD 0 pz).bl).getD 0 bz).ct) 1)) (o_bin rfl rfl rfl) ?_
      obtain ⟨A, B, rd, rb, hNS, hTp, hup⟩ := hT0.at (i := 0) (by omega)
      have hM16 : Mem w (ids (rs ++ N0)) wd [rs, (A ++ B), [⟨b2, 24, [.int .i64 parts, (.slice a n c)]⟩], rb] := hM12.part (i := 1) (congrArg some hNS)
      have hsb := SlS.cut hTp.sb (q0.getD 0 pz).bl.length (by simp)
      rw [List.take_left' rfl, ← hTp.nb] at hsb
      refine dqp (m_idxO hsb rfl rfl (by omega) fun b37 c37 tl37 hr37 hu37 => ?_)
      show vd _ _ _ _ _ _ _
      refine dq (v := .pointer (some ⟨b37, 2, none⟩)) (o_fa rfl rfl) ?_
      refine dl (m_stO bz (q := (⟨((q0.getD 0 pz).bl.getD 0 bz).st, ((q0.getD 0 pz).bl.getD 0 bz).ra, xorI .i64 (((q0.getD 0 pz).bl.getD 0 bz).ct) 1, ((q0.getD 0 pz).bl.getD 0 bz).cut⟩ : Bi)) hM16 (i := 3) rfl hsb hr37 hu37 rfl (by omega) (by omega) rfl rfl rfl fun wS rS heS hsS hupS (hMS : Mem w (ids (rs ++ N0)) wS [rs, (A ++ B), [⟨b2, 24, [.int .i64 parts, (.slice a n c)]⟩], rS]) => ?_)
      refine ⟨(held_upd (wr := wd) (bs := [b2, (blkV (.slice a n c))]) hupS (fun b hb => by
        simp only [List.mem_cons, List.not_mem_nil, or_false] at hb
        rcases hb with h | h
        · rw [h]; exact ⟨(hM16.at (i := 2) (j := 0) rfl rfl).lt, hM16.apart (i := 2) (j := 0) (k := 3) rfl rfl rfl (by decide)⟩
        · rw [h]; exact ⟨Rd.blkV_ltS (hz0.rd hM16 (i := 0) rfl) (by omega), hz0.blk_apart hM16 (i := 0) (k := 3) rfl rfl (by decide) (by omega)⟩) (fun b hb => rfl)), ?_⟩
      refine h11 _ _ ?_
      clear h11
      refine seq fun K17 h17 => ?_
      have hM18 : Mem w (ids (rs ++ N0)) wS [rs, (A ++ (rS ++ B)), [⟨b2, 24, [.int .i64 parts, (.slice a n c)]⟩]] := hMS.join4
      have hT1 := hup _ _ (hTp.setB (b := (⟨((q0.getD 0 pz).bl.getD 0 bz).st, ((q0.getD 0 pz).bl.getD 0 bz).ra, xorI .i64 (((q0.getD 0 pz).bl.getD 0 bz).ct) 1, ((q0.getD 0 pz).bl.getD 0 bz).cut⟩ : Bi)) ⟨hbk.1, hbk.2.1, xorI64_in _ _, hbk.2.2.2⟩ heS)
      have hz1 := sl_same hz0 (by simp) (fm_same (q := (setB (q0.getD 0 pz) ((q0.getD 0 pz).bl.set 0 (⟨((q0.getD 0 pz).bl.getD 0 bz).st, ((q0.getD 0 pz).bl.getD 0 bz).ra, xorI .i64 (((q0.getD 0 pz).bl.getD 0 bz).ct) 1, ((q0.getD 0 pz).bl.getD 0 bz).cut⟩ : Bi)))) (i := 0) rfl)
      have hq1l : (q0.set 0 (setB (q0.getD 0 pz) ((q0.getD 0 pz).bl.set 0 (⟨((q0.getD 0 pz).bl.getD 0 bz).st, ((q0.getD 0 pz).bl.getD 0 bz).ra, xorI .i64 (((q0.getD 0 pz).bl.getD 0 bz).ct) 1, ((q0.getD 0 pz).bl.getD 0 bz).cut⟩ : Bi)))).length = n := by rw [List.length_set]; exact hn
      revert hT1 hz1 hq1l
      generalize q0.set 0 (setB (q0.getD 0 pz) ((q0.getD 0 pz).bl.set 0 (⟨((q0.getD 0 pz).bl.getD 0 bz).st, ((q0.getD 0 pz).bl.getD 0 bz).ra, xorI .i64 (((q0.getD 0 pz).bl.getD 0 bz).ct) 1, ((q0.getD 0 pz).bl.getD 0 bz).cut⟩ : Bi))) = q1
      intro hT1 hz1 hq1l
      refine m_ldA (l := [.int .i64 parts, (.slice a n c)]) hM18 (i := 2) (j := 0) rfl rfl rfl rfl rfl ?_
      refine m_call (twin_ok parts _ q1 wS (hz1.rd hM18 (i := 0) rfl) (fun p hp => (hT1.tk (hM18.res (i := 1) rfl).1 p hp).ok) (by omega) (by simp only [inK]; omega)) rfl fun v19 w19 ⟨a19, c19, qs19, rs19, NS19, hr19, hs19, hT19, hq19, hm19⟩ => ?_
      have hM19 : Mem w (ids (rs ++ N0)) w19 [rs, (A ++ (rS ++ B)), [⟨b2, 24, [.int .i64 parts, (.slice a n c)]⟩], rs19, NS19] := hM18.add2 hm19
      subst hr19
      have hll19 : qs19.length = q1.length := by simpa using congrArg List.length hq19
      have hz19 := sl_less hs19 hll19
      refine m_al hM19 fun b20 w21 (hM21 : Mem w (ids (rs ++ N0)) w21 [rs, (A ++ (rS ++ B)), [⟨b2, 24, [.int .i64 parts, (.slice a n c)]⟩], rs19, NS19, [⟨b20, 24, [.int .i64 0, .slice none 0 0]⟩]]) => ?_
      refine m_stA (l := [.int .i64 parts, (.slice a19 q1.length c19)]) hM21 (i := 5) rfl rfl rfl rfl (by simp [oneCells, Value.oneCell', byteV]) (by simp) fun w22 (hM22 : Mem w (ids (rs ++ N0)) w22 [rs, (A ++ (rS ++ B)), [⟨b2, 24, [.int .i64 parts, (.slice a n c)]⟩], rs19, NS19, [⟨b20, 24, [.int .i64 parts, (.slice a19 q1.length c19)]⟩]]) => ?_
      refine h17 _ _ ?_
      clear h17
      refine seq fun K23 h23 => ?_
      refine m_ldA (l := [.int .i64 parts, (.slice a n c)]) hM22 (i := 2) (j := 0) rfl rfl rfl rfl rfl ?_
      refine m_call (Encode_ok parts _ q1 w22 (hz1.rd hM22 (i := 0) rfl) (fun p hp => (hT1.tk (hM22.res (i := 1) rfl).1 p hp).ok) (by omega) (by simp only [inK]; omega)) rfl fun v24 w24 ⟨y24, rs24, hr24, hs24, hm24⟩ => ?_
      have hM24 : Mem w (ids (rs ++ N0)) w24 [rs, (A ++ (rS ++ B)), [⟨b2, 24, [.int .i64 parts, (.slice a n c)]⟩], rs19, NS19, [⟨b20, 24, [.int .i64 parts, (.slice a19 q1.length c19)]⟩], rs24] := hM22.add hm24
      subst hr24
      have hel24 := encT_len parts (List.map Pr.p q1)
      refine stp (v := .tuple [y24, .int .i64 ((encT parts (List.map Pr.p q1)).2)].toArray) (o_mv rfl) ?_
      refine stp (v := y24) (o_ext rfl rfl) ?_
      refine stp (v := .int .i64 ((encT parts (List.map Pr.p q1)).2)) (o_ext rfl rfl) ?_
      refine stp (v := y24) (o_mv rfl) ?_
      refine stp (v := .int .i64 ((encT parts (List.map Pr.p q1)).2)) (o_mv rfl) ?_
      refine h23 _ _ ?_
      clear h23
      refine seq fun K25 h25 => ?_
      refine m_ldA (l := [.int .i64 parts, (.slice a19 q1.length c19)]) hM24 (i := 5) (j := 0) rfl rfl rfl rfl rfl ?_
      refine m_call (refEnc_ok parts _ qs19 w24 (hz19.rd hM24 (i := 3) rfl) (fun p hp => (hT19.tk (hM24.res (i := 4) rfl).1 p hp).ok) (by omega) (by simp only [inK]; omega)) rfl fun v26 w26 ⟨y26, rs26, hr26, hs26, hm26⟩ => ?_
      have hM26 : Mem w (ids (rs ++ N0)) w26 [rs, (A ++ (rS ++ B)), [⟨b2, 24, [.int .i64 parts, (.slice a n c)]⟩], rs19, NS19, [⟨b20, 24, [.int .i64 parts, (.slice a19 q1.length c19)]⟩], rs24, rs26] := hM24.add hm26
      rw [hq19] at hr26 hs26
      subst hr26
      have hel26 := encT_len parts (List.map Pr.p q1)
      refine stp (v := .tuple [y26, .int .i64 ((encT parts (List.map Pr.p q1)).2)].toArray) (o_mv rfl) ?_
      refine stp (v := y26) (o_ext rfl rfl) ?_
      refine stp (v := .int .i64 ((encT parts (List.map Pr.p q1)).2)) (o_ext rfl rfl) ?_
      refine stp (v := y26) (o_mv rfl) ?_
      refine stp (v := .int .i64 ((encT parts (List.map Pr.p q1)).2)) (o_mv rfl) ?_
      refine h25 _ _ ?_
      clear h25
      refine seq fun K27 h27 => ?_
      refine m_ldA (l := [.int .i64 parts, (.slice a n c)]) hM26 (i := 2) (j := 0) rfl rfl rfl rfl rfl ?_
      refine m_call (Check_ok parts _ q1 w26 (hz1.rd hM26 (i := 0) rfl) (fun p hp => (hT1.tk (hM26.res (i := 1) rfl).1 p hp).ok) (by omega) (by simp only [inK]; omega)) rfl fun v28 w28 ⟨hr28, hu28⟩ => ?_
      have hM28 : Mem w (ids (rs ++ N0)) w28 [rs, (A ++ (rS ++ B)), [⟨b2, 24, [.int .i64 parts, (.slice a n c)]⟩], rs19, NS19, [⟨b20, 24, [.int .i64 parts, (.slice a19 q1.length c19)]⟩], rs24, rs26] := hM26.pure hu28
      subst hr28
      refine stp (v := .int .i64 (chkF parts (List.map Pr.p q1))) (o_mv rfl) ?_
      refine h27 _ _ ?_
      clear h27
      refine seq fun K29 h29 => ?_
      refine m_ldA (l := [.int .i64 parts, (.slice a n c)]) hM28 (i := 2) (j := 0) rfl rfl rfl rfl rfl ?_
      refine m_call (Tiles_ok parts _ q1 w28 (hz1.rd hM28 (i := 0) rfl) (fun p hp => (hT1.tk (hM28.res (i := 1) rfl).1 p hp).ok) (by omega) (by simp only [inK]; omega)) rfl fun v30 w30 ⟨y30, rs30, hr30, hs30, hm30⟩ => ?_
      have hM30 : Mem w (ids (rs ++ N0)) w30 [rs, (A ++ (rS ++ B)), [⟨b2, 24, [.int .i64 parts, (.slice a n c)]⟩], rs19, NS19, [⟨b20, 24, [.int .i64 parts, (.slice a19 q1.length c19)]⟩], rs24, rs26, rs30] := hM28.add hm30
      subst hr30
      have htl30 := tiles_len parts q1 (by omega) (by omega)
      refine stp (v := v30) (o_mv rfl) ?_
      refine h29 _ _ ?_
      clear h29
      refine seq fun K31 h31 => ?_
      refine stp (v := .int .i64 ((encT parts (List.map Pr.p q1)).2)) (o_mv rfl) ?_
      refine stp (v := .int .i64 ((encT parts (List.map Pr.p q1)).2)) (o_mv rfl) ?_
      refine stp (v := .bool true) (o_bin rfl rfl v_eqT) ?_
      refine stp (v := .bool true) (o_mv rfl) ?_
      refine splitT rfl ?_
      refine stg rfl (v := y24) (o_mv rfl) ?_
      refine stg rfl (v := y26) (o_mv rfl) ?_
      refine gyesl rfl ?_
      refine m_call (sameL_ok _ _ ((encT parts (List.map Pr.p q1)).1) ((encT parts (List.map Pr.p q1)).1) w30 (hs24.rd hM30 (i := 6) rfl) (hs26.rd hM30 (i := 7) rfl) (by first | omega | (simp; done) | (simp; omega))) rfl fun v32 w32 ⟨hr32, hu32⟩ => ?_
      have hM32 : Mem w (ids (rs ++ N0)) w32 [rs, (A ++ (rS ++ B)), [⟨b2, 24, [.int .i64 parts, (.slice a n c)]⟩], rs19, NS19, [⟨b20, 24, [.int .i64 parts, (.slice a19 q1.length c19)]⟩], rs24, rs26, rs30] := hM30.pure hu32
      obtain rfl : v32 = .bool true := hr32.trans (by simp)
      clear hr32
      refine stp (v := .bool true) (o_pickT rfl rfl) ?_
      refine stp (v := .bool true) (o_mv rfl) ?_
      refine splitT rfl ?_
      refine stg rfl (v := .int .i64 (chkF parts (List.map Pr.p q1))) (o_mv rfl) ?_
      refine gyesl rfl ?_
      refine m_ldA (l := [.int .i64 parts, (.slice a19 q1.length c19)]) hM32 (i := 5) (j := 0) rfl rfl rfl rfl rfl ?_
      refine gyesl rfl ?_
      refine m_call (refChk_ok parts _ qs19 w32 (hz19.rd hM32 (i := 3) rfl) (fun p hp => (hT19.tk (hM32.res (i := 4) rfl).1 p hp).ok) (by omega) (by simp only [inK]; omega)) rfl fun v33 w33 ⟨hr33, hu33⟩ => ?_
      have hM33 : Mem w (ids (rs ++ N0)) w33 [rs, (A ++ (rS ++ B)), [⟨b2, 24, [.int .i64 parts, (.slice a n c)]⟩], rs19, NS19, [⟨b20, 24, [.int .i64 parts, (.slice a19 q1.length c19)]⟩], rs24, rs26, rs30] := hM32.pure hu33
      rw [hq19] at hr33
      subst hr33
      refine stg rfl (v := .bool true) (o_bin rfl rfl v_eqT) ?_
      refine stp (v := .bool true) (o_pickT rfl rfl) ?_
      refine stp (v := .bool true) (o_mv rfl) ?_
      refine splitT rfl ?_
      refine stg rfl (v := v30) (o_mv rfl) ?_
      refine gyesl rfl ?_
      refine m_ldA (l := [.int .i64 parts, (.slice a19 q1.length c19)]) hM33 (i := 5) (j := 0) rfl rfl rfl rfl rfl ?_
      refine gyesl rfl ?_
      refine m_call (refTiles_ok parts _ qs19 w33 (hz19.rd hM33 (i := 3) rfl) (fun p hp => (hT19.tk (hM33.res (i := 4) rfl).1 p hp).ok) (by omega) (by simp only [inK]; omega)) rfl fun v34 w34 ⟨y34, rs34, hr34, hs34, hm34⟩ => ?_
      have hM34 : Mem w (ids (rs ++ N0)) w34 [rs, (A ++ (rS ++ B)), [⟨b2, 24, [.int .i64 parts, (.slice a n c)]⟩], rs19, NS19, [⟨b20, 24, [.int .i64 parts, (.slice a19 q1.length c19)]⟩], rs24, rs26, rs30, rs34] := hM33.add hm34
      rw [hq19] at hs34
      subst hr34
      have htl34 := tiles_len parts q1 (by omega) (by omega)
      refine gyesl rfl ?_
      refine m_call (sameTiles_eq _ (tilesF parts (List.map Pr.p q1)) _ _ w34 (hs30.rd hM34 (i := 8) rfl) (hs34.rd hM34 (i := 9) rfl) (by omega) rfl) rfl fun v35 w35 ⟨hr35, hu35⟩ => ?_
      have hM35 : Mem w (ids (rs ++ N0)) w35 [rs, (A ++ (rS ++ B)), [⟨b2, 24, [.int .i64 parts, (.slice a n c)]⟩], rs19, NS19, [⟨b20, 24, [.int .i64 parts, (.slice a19 q1.length c19)]⟩], rs24, rs26, rs30, rs34] := hM34.pure hu35
      subst hr35
      refine stp (v := .bool true) (o_pickT rfl rfl) ?_
      refine stp (v := .bool true) (o_mv rfl) ?_
      refine splitT rfl ?_
      refine gyesl rfl ?_
      refine m_ldA (l := [.int .i64 parts, (.slice a n c)]) hM35 (i := 2) (j := 0) rfl rfl rfl rfl rfl ?_
      refine gyesl rfl ?_
      refine m_ldA (l := [.int .i64 parts, (.slice a19 q1.length c19)]) hM35 (i := 5) (j := 0) rfl rfl rfl rfl rfl ?_
      refine gyesl rfl ?_
      refine m_call (sameFoot_eq parts _ _ q1 qs19 w35 (hz1.rd hM35 (i := 0) rfl) (fun p hp => (hT1.tk (hM35.res (i := 1) rfl).1 p hp).ok) (hz19.rd hM35 (i := 3) rfl) (fun p hp => (hT19.tk (hM35.res (i := 4) rfl).1 p hp).ok) (by omega) hq19.symm) rfl fun v36 w36 ⟨hr36, hu36⟩ => ?_
      have hM36 : Mem w (ids (rs ++ N0)) w36 [rs, (A ++ (rS ++ B)), [⟨b2, 24, [.int .i64 parts, (.slice a n c)]⟩], rs19, NS19, [⟨b20, 24, [.int .i64 parts, (.slice a19 q1.length c19)]⟩], rs24, rs26, rs30, rs34] := hM35.pure hu36
      subst hr36
      refine stp (v := .bool true) (o_pickT rfl rfl) ?_
      refine stp (v := .bool true) (o_mv rfl) ?_
      refine h31 _ _ ?_
      clear h31
      refine ⟨(.bool true), rfl, ?_⟩
      exact ⟨rfl, A ++ (rS ++ B), ((((((((hM36.drop 2).drop 3).drop 4).drop 5).drop 6).drop 7).drop 8).drop 9).keep (by simp)⟩
