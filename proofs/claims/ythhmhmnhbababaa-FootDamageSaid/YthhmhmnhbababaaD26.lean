/- Footers: damage is told: the walk. -/
import Derived.Test.YthhmhmnhbababaaD25
import Derived.Test.YthhmhmnhbababaaD16
import Derived.Test.YthhmhmnhbababaaE21
namespace Go.Proofs.Ythhmhmnhbababaa.E
open Go
/-- a burst -/
structure Bu where
  tl : Int
  at_ : Int
  m : Nat
def buC (b : Bu) : List Value := [.int .i64 b.tl, .int .i64 b.at_, .int .u32 (b.m : Nat)]
instance : Enc buC 3 := ⟨fun _ => rfl, by omega, fun c => by intro v hv; simp only [buC, List.mem_cons, List.not_mem_nil, or_false] at hv; rcases hv with rfl | rfl | rfl <;> rfl⟩
def bu0 : Bu := ⟨0, 0, 0⟩
def Bu.ok (b : Bu) : Prop := inK .i64 b.tl ∧ inK .i64 b.at_ ∧ b.m < 4294967296
theorem open_bu {W : World} {cs : List Value} (h : Arg Try.prog W 80 cs) : ∃ b : Bu, cs = buC b ∧ b.ok := by
  obtain ⟨hl, hf⟩ := h.struct Try.underlying80
  have c3 : Try.prog.cellsOf 3 = 1 := by kernel_rfl
  have c2 : Try.prog.cellsOf 2 = 1 := by kernel_rfl
  have cu : Try.prog.cellsOf 78 = 1 := by kernel_rfl
  replace hl : cs.length = 3 := hl.trans (by kernel_rfl)
  obtain ⟨a0, a1, a2, rfl⟩ := len3 hl
  obtain ⟨n0, e0, k0⟩ := (hf 0 _ rfl).int Try.underlying3
  obtain rfl : a0 = .int .i64 n0 := by simpa [c3] using e0
  obtain ⟨n1, e1, k1⟩ := (hf 1 _ rfl).int Try.underlying2
  obtain rfl : a1 = .int .i64 n1 := by simpa [c2] using e1
  obtain ⟨n2, e2, k2⟩ := (hf 2 _ rfl).int Try.underlying78
  obtain rfl : a2 = .int .u32 n2 := by simpa [cu] using e2
  simp only [inK] at k2
  refine ⟨⟨n0, n1, n2.toNat⟩, ?_, k0, k1, ?_⟩
  · show _ = [_, _, _]
    rw [Int.toNat_of_nonneg (by omega)]
  · dsimp only; omega
theorem open_bus {W : World} {cs : List Value} (h : Arg Try.prog W 76 cs) : ∃ (v : Value) (l : List Bu), cs = [v] ∧ RdS buC W v l ∧ (∀ x ∈ l, x.ok) ∧ l.length * 24 ≤ 140737488351232 := by
  have := h.slices Try.underlying76 (fun c hc _ => open_bu hc)
  rwa [show Try.prog.bytesOf 80 = 24 by kernel_rfl] at this

set_option maxRecDepth 100000 in
/-- winnowlaw8.FootDamage -/
theorem FootDamage_no (f : Ft) (y : Value) (bus : List Bu) (w : World) (hf : f.ok w) (hy : RdS buC w y bus) (hbu : ∀ b ∈ bus, b.ok) (hbl : bus.length * 24 ≤ 140737488351232) (he : ¬ (encT f.parts (f.ps.map Pr.p)).2 = 0) : Calls Try.prog 12 [.agg (ftC f).toArray, y].toArray w (Rt fun r w' => r = .bool true ∧ Upd [] w w') := by
  obtain ⟨parts, x, ps⟩ := f
  obtain ⟨hx, hok, hl, hp⟩ := hf
  dsimp only at hx hok hl hp he
  simp only [inK] at hp
  have hM0 : Mem w [] w [] := Mem.nil w []
  refine calls_vc mixed Try.func12 rfl C12 (by simp [Try.ntmps12]) ?_
  refine seq fun K1 h1 => ?_
  refine m_bx (v := .agg ([.int .i64 parts, x] : List Value).toArray) hM0 rfl rfl fun b2 w3 (hM3 : Mem w [] w3 [[⟨b2, 24, [.int .i64 parts, x]⟩]]) => ?_
  refine stp (v := .bool false) (o_mv rfl) ?_
  refine h1 _ _ ?_
  clear h1
  refine seq fun K4 h4 => ?_
  refine m_ldA (l := [.int .i64 parts, x]) hM3 (i := 0) (j := 0) rfl rfl rfl rfl rfl ?_
  refine m_call (Encode_ok parts _ ps w3 (hx.upd hM3.upd) (fun p hp => (hok p hp).upd hM3.upd) (by omega) (by simp only [inK]; omega)) rfl fun v5 w5 ⟨y5, rs5, hr5, hs5, hm5⟩ => ?_
  have hM5 : Mem w [] w5 [[⟨b2, 24, [.int .i64 parts, x]⟩], rs5] := hM3.add hm5
  subst hr5
  refine stp (v := .tuple [y5, .int .i64 ((encT parts (List.map Pr.p ps)).2)].toArray) (o_mv rfl) ?_
  refine stp (v := y5) (o_ext rfl rfl) ?_
  refine stp (v := .int .i64 ((encT parts (List.map Pr.p ps)).2)) (o_ext rfl rfl) ?_
  refine stp (v := y5) (o_mv rfl) ?_
  refine stp (v := .int .i64 ((encT parts (List.map Pr.p ps)).2)) (o_mv rfl) ?_
  refine h4 _ _ ?_
  clear h4
  refine seq fun K6 h6 => ?_
  refine seq fun K7 h7 => ?_
  refine stp (v := .int .i64 ((encT parts (List.map Pr.p ps)).2)) (o_mv rfl) ?_
  refine stp (v := .bool (decide (¬ ((encT parts (List.map Pr.p ps)).2) = 0))) (o_bin rfl rfl v_neq) ?_
  refine h7 _ _ ?_
  clear h7
  refine cndP rfl (fun c8 => ?_) (fun c8 => (c8 (he)).elim)
  refine seq fun K9 h9 => ?_
  refine m_call (head_ok w5) rfl fun v10 w10 ⟨hr10, hu10⟩ => ?_
  have hM10 : Mem w [] w10 [[⟨b2, 24, [.int .i64 parts, x]⟩], rs5] := hM5.pure hu10
  subst hr10
  refine stp (v := .bool true) (o_mv rfl) ?_
  refine h9 _ _ ?_
  clear h9
  refine ⟨(.bool true), rfl, ?_⟩
  first | exact ⟨rfl, hM10.upd⟩ | (exfalso; omega)

theorem tlsB_kd : ∀ (a : Int) (bl : List Bi), ∀ x ∈ tlsB a bl, x.kd = 0
  | _, [], _, h => by cases h
  | a, b :: bs, x, h => by
    rcases List.mem_cons.1 h with h | h
    · rw [h]
    · exact tlsB_kd _ bs x h
theorem tlsP_kd : ∀ (a : Int) (ps : List Pp), ∀ x ∈ tlsP a ps, x.kd = 0
  | _, [], _, h => by cases h
  | a, p :: ps, x, h => by
    rcases List.mem_append.1 h with h | h
    · exact tlsB_kd _ _ x h
    · exact tlsP_kd _ ps x h
theorem tlsB_len : ∀ (a : Int) (bl : List Bi), (tlsB a bl).length = bl.length
  | _, [] => rfl
  | a, b :: bs => by rw [tlsB, List.length_cons, tlsB_len, List.length_cons]
theorem tlsP_len (parts : Int) : ∀ (last a : Int) (n : Nat) (ps : List Pp), infOk parts last n ps → n ≤ 262144 → n + (tlsP a ps).length ≤ 262144
  | _, _, _, [], _, hn => by simpa [tlsP] using hn
  | last, a, n, p :: ps, h, hn => by
    have := tlsP_len parts p.part (a + spB p.bl) (n + p.bl.length) ps h.2 h.1.2
    rw [tlsP, List.length_append, tlsB_len]; omega
theorem tail_bd {sp : Int} {n k : Nat} (hk : k < (tailT sp n).length) : sp ≤ ((tailT sp n).getD k ti0).fr ∧ ((tailT sp n).getD k ti0).fr < ((tailT sp n).getD k ti0).to ∧ ((tailT sp n).getD k ti0).to ≤ sp + (n + 24 : Nat) ∧ ¬ ((tailT sp n).getD k ti0).kd = 0 := by
  rcases tail_get hk with ⟨d, h1, h2, h3⟩ | ⟨h1, h2⟩ <;> rw [h1] <;> dsimp only <;> omega
theorem tail_ends {sp : Int} {n : Nat} (hn : 0 < n) : ((tailT sp n).getD 0 ti0).fr = sp ∧ ((tailT sp n).getD ((tailT sp n).length - 1) ti0).to = sp + (n + 24 : Nat) := by
  have hl := tlsG_length n sp n (by omega) (by omega)
  have ht : (tailT sp n).length = (tlsG n sp n).length + 1 := by unfold tailT; rw [List.length_append, List.length_singleton]
  constructor
  · rcases tail_get (sp := sp) (n := n) (k := 0) (by omega) with ⟨d, h1, h2, h3⟩ | ⟨h1, h2⟩
    · rw [h1]; dsimp only; omega
    · omega
  · rcases tail_get (sp := sp) (n := n) (k := (tailT sp n).length - 1) (by omega) with ⟨d, h1, h2, h3⟩ | ⟨h1, h2⟩
    · omega
    · rw [h1]; dsimp only; omega
theorem DmS.turn {sp : Int} {n : Nat} {b b' : List UInt8} {h : List Bool} {s : Bool} {k q m c : Nat} (hS : DmS (tailT sp n) sp b b' h s) (hk : k < (tailT sp n).length) (hh : h.length = (tailT sp n).length) (hb : b.length = n + 24) (h0 : h.getD k false = false) (hc : c ≤ 32 ∧ (q : Int) + c ≤ 8 * (((tailT sp n).getD k ti0).to - sp - (((tailT sp n).getD k ti0).fr - sp))) :
    DmS (tailT sp n) sp b (trn b' (8 * (((tailT sp n).getD k ti0).fr - sp).toNat + q) m c) (h.set k (decide (¬ m % 2 ^ c = 0))) (s || decide (¬ m % 2 ^ c = 0)) := by
  refine hS.step (by omega) h0 (fun j hj hne => tail_dis hk (by omega) hne) (by rw [hb]; exact tail_in hk) hc.1 ?_
  show q + c ≤ 8 * (((tailT sp n).getD k ti0).to - ((tailT sp n).getD k ti0).fr).toNat
  have := tail_bd hk
  omega

set_option maxRecDepth 100000 in
/-- winnowlaw8.FootDamage -/
theorem FootDamage_yes (f : Ft) (y : Value) (bus : List Bu) (w : World) (hf : f.ok w) (hy : RdS buC w y bus) (hbu : ∀ b ∈ bus, b.ok) (hbl : bus.length * 24 ≤ 140737488351232) (he : (encT f.parts (f.ps.map Pr.p)).2 = 0) : Calls Try.prog 12 [.agg (ftC f).toArray, y].toArray w (Rt fun r w' => r = .bool true ∧ Upd [] w w') := by
  obtain ⟨parts, x, ps⟩ := f
  obtain ⟨hx, hok, hl, hp⟩ := hf
  dsimp only at hx hok hl hp he
  simp only [inK] at hp
  obtain ⟨TT, hTT⟩ : ∃ T, T = tilesF parts (ps.map Pr.p) := ⟨_, rfl⟩
  obtain ⟨hft, hm, henc⟩ := enc_0 he
  have hm2 := hm
  unfold mayT at hm2
  have hTe : TT = tlsP 0 (ps.map Pr.p) ++ (tailT (spaceF (List.map Pr.p ps)) (pagesF (bodyF parts (List.map Pr.p ps))).length) := by rw [hTT]; unfold tilesF; rw [if_pos he]
  obtain ⟨BT, hBT⟩ : ∃ B, B = tlsP 0 (ps.map Pr.p) := ⟨_, rfl⟩
  rw [← hBT] at hTe
  have hBn : 0 + BT.length ≤ 262144 := by rw [hBT]; exact tlsP_len parts (-1) 0 0 _ hft.2 (by omega)
  have hkd : ∀ x ∈ BT, x.kd = 0 := by rw [hBT]; exact tlsP_kd _ _
  have htl2 := tailT_len (sp := (spaceF (List.map Pr.p ps))) (n := (pagesF (bodyF parts (List.map Pr.p ps))).length) (by omega)
  have htl3 := tailT_le (sp := (spaceF (List.map Pr.p ps))) (n := (pagesF (bodyF parts (List.map Pr.p ps))).length)
  have hTl : TT.length = BT.length + (tailT (spaceF (List.map Pr.p ps)) (pagesF (bodyF parts (List.map Pr.p ps))).length).length := by rw [hTe, List.length_append]
  have hk0 : ∀ j, j < BT.length → (TT.getD j ti0).kd = 0 := fun j hj => by
    rw [hTe, List.getD_eq_getElem?_getD, List.getElem?_append_left hj, ← List.getD_eq_getElem?_getD]; exact hkd _ (getD_memG ti0 hj)
  have hk1 : ¬ (TT.getD BT.length ti0).kd = 0 := by
    rw [hTe, List.getD_eq_getElem?_getD, List.getElem?_append_right (Nat.le_refl _), Nat.sub_self, ← List.getD_eq_getElem?_getD]; exact (tail_bd (by omega)).2.2.2
  have htr := trF_len (spaceF (List.map Pr.p ps)) (pagesF (bodyF parts (List.map Pr.p ps))).length
  have hel : ((pagesF (bodyF parts (List.map Pr.p ps))) ++ (trF (spaceF (List.map Pr.p ps)) (pagesF (bodyF parts (List.map Pr.p ps))).length)).length = (pagesF (bodyF parts (List.map Pr.p ps))).length + 24 := by rw [List.length_append, trF_len]
  have hte := tail_ends (sp := (spaceF (List.map Pr.p ps))) (n := (pagesF (bodyF parts (List.map Pr.p ps))).length) (by omega)
  have hM0 : Mem w [] w [] := Mem.nil w []
  refine calls_vc mixed Try.func12 rfl C12 (by simp [Try.ntmps12]) ?_
  refine seq fun K1 h1 => ?_
  refine m_bx (v := .agg ([.int .i64 parts, x] : List Value).toArray) hM0 rfl rfl fun b2 w3 (hM3 : Mem w [] w3 [[⟨b2, 24, [.int .i64 parts, x]⟩]]) => ?_
  refine stp (v := .bool false) (o_mv rfl) ?_
  refine h1 _ _ ?_
  clear h1
  refine seq fun K4 h4 => ?_
  refine m_ldA (l := [.int .i64 parts, x]) hM3 (i := 0) (j := 0) rfl rfl rfl rfl rfl ?_
  refine m_call (Encode_ok parts _ ps w3 (hx.upd hM3.upd) (fun p hp => (hok p hp).upd hM3.upd) (by omega) (by simp only [inK]; omega)) rfl fun v5 w5 ⟨y5, rs5, hr5, hs5, hm5⟩ => ?_
  have hM5 : Mem w [] w5 [[⟨b2, 24, [.int .i64 parts, x]⟩], rs5] := hM3.add hm5
  rw [henc] at hr5 hs5
  dsimp only at hr5 hs5
  subst hr5
  refine stp (v := .tuple [y5, .int .i64 0].toArray) (o_mv rfl) ?_
  refine stp (v := y5) (o_ext rfl rfl) ?_
  refine stp (v := .int .i64 0) (o_ext rfl rfl) ?_
  refine stp (v := y5) (o_mv rfl) ?_
  refine stp (v := .int .i64 0) (o_mv rfl) ?_
  refine h4 _ _ ?_
  clear h4
  refine seq fun K6 h6 => ?_
  refine seq fun K7 h7 => ?_
  refine stp (v := .int .i64 0) (o_mv rfl) ?_
  refine stp (v := .bool false) (o_bin rfl rfl v_neF) ?_
  refine h7 _ _ ?_
  clear h7
  refine cndF rfl ?_
  refine h6 _ _ ?_
  clear h6
  refine seq fun K8 h8 => ?_
  refine m_ldA (l := [.int .i64 parts, x]) hM5 (i := 0) (j := 0) rfl rfl rfl rfl rfl ?_
  refine m_call (spaceL_ok parts _ ps w5 (hx.upd hM5.upd) (fun p hp => (hok p hp).upd hM5.upd) (by omega) (by simp only [inK]; omega) hft) rfl fun v9 w9 ⟨hr9, hu9⟩ => ?_
  have hM9 : Mem w [] w9 [[⟨b2, 24, [.int .i64 parts, x]⟩], rs5] := hM5.pure hu9
  subst hr9
  refine stp (v := .int .i64 (spaceF (List.map Pr.p ps))) (o_mv rfl) ?_
  refine h8 _ _ ?_
  clear h8
  refine seq fun K10 h10 => ?_
  refine m_ldA (l := [.int .i64 parts, x]) hM9 (i := 0) (j := 0) rfl rfl rfl rfl rfl ?_
  refine m_call (Tiles_ok parts _ ps w9 (hx.upd hM9.upd) (fun p hp => (hok p hp).upd hM9.upd) (by omega) (by simp only [inK]; omega)) rfl fun v11 w11 ⟨y11, rs11, hr11, hs11, hm11⟩ => ?_
  have hM11 : Mem w [] w11 [[⟨b2, 24, [.int .i64 parts, x]⟩], rs5, rs11] := hM9.add hm11
  subst hr11
  rw [← hTT] at hs11
  refine stp (v := v11) (o_mv rfl) ?_
  refine h10 _ _ ?_
  clear h10
  refine seq fun K12 h12 => ?_
  refine stp (v := .int .i64 0) (o_mv rfl) ?_
  refine h12 _ _ ?_
  clear h12
  refine seq fun K13 h13 => ?_
  refine lp (n := fun _ _ => False) (ι := (Nat)) (fun j f w' => f 9 = .int .i64 (j : Nat) ∧ f 1 = y ∧ f 2 = .pointer (some ⟨b2, 0, none⟩) ∧ f 5 = y5 ∧ f 7 = .int .i64 (spaceF (List.map Pr.p ps)) ∧ f 8 = v11 ∧ Mem w [] w' [[⟨b2, 24, [.int .i64 parts, x]⟩], rs5, rs11] ∧ (j ≤ BT.length)) (fun j => BT.length - j) (0) ?_ ?_
  · exact ⟨by first | rfl | exact v_int (by omega) | exact v_int (by simp) | exact v_int (by simp; omega), rfl, rfl, rfl, by first | rfl | exact v_int (by omega) | exact v_int (by simp) | exact v_int (by simp; omega), rfl, hM11, by omega⟩
  · rintro j f w14 ⟨e14_9, e14_1, e14_2, e14_5, e14_7, e14_8, hM14, hj⟩ K15 h15
    obtain ⟨frm, rfl⟩ : ∃ frm, f = (upd (upd (upd (upd (upd (upd frm 9 (.int .i64 (j : Nat))) 1 (y)) 2 (.pointer (some ⟨b2, 0, none⟩))) 5 (y5)) 7 (.int .i64 (spaceF (List.map Pr.p ps)))) 8 (v11)) := ⟨f, by rw [upd_self e14_9, upd_self e14_1, upd_self e14_2, upd_self e14_5, upd_self e14_7, upd_self e14_8]⟩
    clear e14_9 e14_1 e14_2 e14_5 e14_7 e14_8
    refine seq fun K16 h16 => ?_
    refine seq fun K17 h17 => ?_
    refine stp (v := .int .i64 (j : Nat)) (o_mv rfl) ?_
    refine stp (v := v11) (o_mv rfl) ?_
    refine stp (v := .int .i64 (TT.length : Nat)) (o_lenR (hs11.rd hM14 (i := 2) rfl) rfl rfl) ?_
    refine stp (v := .bool (decide (((j : Nat) : Int) < (TT.length : Nat)))) (o_bin rfl rfl rfl) ?_
    refine stp (v := .bool (decide (((j : Nat) : Int) < (TT.length : Nat)))) (o_mv rfl) ?_
    refine splitP rfl (fun c18 => ?_) (fun c18 => (c18 (by omega)).elim)
    refine stg rfl (v := v11) (o_mv rfl) ?_
    refine stg rfl (v := .int .i64 (j : Nat)) (o_mv rfl) ?_
    refine gyes rfl rfl (m_idxS ti0 (j := j) (hs11.rd hM14 (i := 2) rfl) rfl rfl (by omega) fun b19 o19 hp19 => ?_)
    refine stg rfl (v := .pointer (some ⟨b19, o19, none⟩)) (o_fa rfl rfl) ?_
    refine gyesl rfl ?_
    refine ld (v := .int .i64 ((TT.getD j ti0).kd)) rfl (hp19.get 0 rfl) ?_
    refine stg rfl (v := .bool (decide (((TT.getD j ti0).kd) = 0))) (o_bin rfl rfl rfl) ?_
    refine stp (v := .bool (decide (((TT.getD j ti0).kd) = 0))) (o_pickT rfl rfl) ?_
    refine h17 _ _ ?_
    clear h17
    refine cndP rfl (fun c20 => ?_) (fun c20 => ?_)
    ·
      refine h16 _ _ ?_
      clear h16
      refine stp (v := .int .i64 (j : Nat)) (o_mv rfl) ?_
      refine stp (v := .int .i64 ((j : Nat) + 1)) (o_bin rfl rfl (v_add64 (by constructor <;> omega))) ?_
      refine stp (v := .int .i64 ((j : Nat) + 1)) (o_mv rfl) ?_
      refine h15 (j + 1) _ _ ⟨by first | rfl | exact v_int (by omega) | exact v_int (by simp) | exact v_int (by simp; omega), rfl, rfl, rfl, by first | rfl | exact v_int (by omega) | exact v_int (by simp) | exact v_int (by simp; omega), rfl, hM14, by
        rcases Nat.lt_or_ge j BT.length with k | k
        · omega
        · exact absurd (show (TT.getD BT.length ti0).kd = 0 by rw [show BT.length = j by omega]; assumption) hk1⟩ (by
        (try dsimp only)
        rcases Nat.lt_or_ge j BT.length with k | k
        · omega
        · exact absurd (show (TT.getD BT.length ti0).kd = 0 by rw [show BT.length = j by omega]; assumption) hk1)
    ·
      refine h13 _ _ ?_
      clear h13
      refine seq fun K21 h21 => ?_
      have hjn : j = BT.length := by
        rcases Nat.lt_or_ge j BT.length with k | k
        · exact absurd (hk0 j k) (by assumption)
        · omega
      refine stp (v := v11) (o_mv rfl) ?_
      refine stp (v := .int .i64 (j : Nat)) (o_mv rfl) ?_
      refine m_slcSub (enc := tiC) j hs11 rfl (by omega) rfl fun u48 hu48 => ?_
      refine stp (v := u48) (o_mv rfl) ?_
      refine h21 _ _ ?_
      clear h21
      refine seq fun K22 h22 => ?_
      refine seq fun K23 h23 => ?_
      have hv48 : SubS tiC u48 (tailT (spaceF (List.map Pr.p ps)) (pagesF (bodyF parts (List.map Pr.p ps))).length) _ := hu48.eqL (by rw [hjn, hTe, List.drop_left])
      refine stp (v := u48) (o_mv rfl) ?_
      refine stp (v := .int .i64 ((tailT (spaceF (List.map Pr.p ps)) (pagesF (bodyF parts (List.map Pr.p ps))).length).length : Nat)) (o_lenR (hv48.rd _ (hM14.owned (i := 2) rfl)) rfl rfl) ?_
      refine stp (v := .bool (decide ((((tailT (spaceF (List.map Pr.p ps)) (pagesF (bodyF parts (List.map Pr.p ps))).length).length : Nat) : Int) < 2))) (o_bin rfl rfl rfl) ?_
      refine stp (v := .bool (decide ((((tailT (spaceF (List.map Pr.p ps)) (pagesF (bodyF parts (List.map Pr.p ps))).length).length : Nat) : Int) < 2))) (o_mv rfl) ?_
      refine splitP rfl (fun c24 => absurd c24 (by omega)) (fun c24 => ?_)
      refine stg rfl (v := u48) (o_mv rfl) ?_
      refine gyes rfl rfl (m_idxS ti0 (j := 0) (hv48.rd _ (hM14.owned (i := 2) rfl)) rfl rfl (by omega) fun b25 o25 hp25 => ?_)
      refine stg rfl (v := .pointer (some ⟨b25, o25 + 1, none⟩)) (o_fa rfl rfl) ?_
      refine gyesl rfl ?_
      refine ld (v := .int .i64 (((tailT (spaceF (List.map Pr.p ps)) (pagesF (bodyF parts (List.map Pr.p ps))).length).getD 0 ti0).fr)) rfl (hp25.get 1 rfl) ?_
      refine stg rfl (v := .int .i64 (spaceF (List.map Pr.p ps))) (o_mv rfl) ?_
      refine stg rfl (v := .bool (decide (¬ (((tailT (spaceF (List.map Pr.p ps)) (pagesF (bodyF parts (List.map Pr.p ps))).length).getD 0 ti0).fr) = (spaceF (List.map Pr.p ps))))) (o_bin rfl rfl v_neq) ?_
      refine stp (v := .bool (decide (¬ (((tailT (spaceF (List.map Pr.p ps)) (pagesF (bodyF parts (List.map Pr.p ps))).length).getD 0 ti0).fr) = (spaceF (List.map Pr.p ps))))) (o_pickF rfl rfl) ?_
      refine stp (v := .bool (decide (¬ (((tailT (spaceF (List.map Pr.p ps)) (pagesF (bodyF parts (List.map Pr.p ps))).length).getD 0 ti0).fr) = (spaceF (List.map Pr.p ps))))) (o_mv rfl) ?_
      refine splitP rfl (fun c26 => absurd c26 (fun k => k hte.1)) (fun c26 => ?_)
      refine stg rfl (v := u48) (o_mv rfl) ?_
      refine stg rfl (v := u48) (o_mv rfl) ?_
      refine stg rfl (v := .int .i64 ((tailT (spaceF (List.map Pr.p ps)) (pagesF (bodyF parts (List.map Pr.p ps))).length).length : Nat)) (o_lenR (hv48.rd _ (hM14.owned (i := 2) rfl)) rfl rfl) ?_
      refine stg rfl (v := .int .i64 (((tailT (spaceF (List.map Pr.p ps)) (pagesF (bodyF parts (List.map Pr.p ps))).length).length : Nat) - 1)) (o_bin rfl rfl (v_sub64 (by constructor <;> omega))) ?_
      refine gyes rfl rfl (m_idxS ti0 (j := ((tailT (spaceF (List.map Pr.p ps)) (pagesF (bodyF parts (List.map Pr.p ps))).length).length - 1)) (hv48.rd _ (hM14.owned (i := 2) rfl)) rfl (v_int (by omega)) (by omega) fun b27 o27 hp27 => ?_)
      refine stg rfl (v := .pointer (some ⟨b27, o27 + 2, none⟩)) (o_fa rfl rfl) ?_
      refine gyesl rfl ?_
      refine ld (v := .int .i64 (((tailT (spaceF (List.map Pr.p ps)) (pagesF (bodyF parts (List.map Pr.p ps))).length).getD ((tailT (spaceF (List.map Pr.p ps)) (pagesF (bodyF parts (List.map Pr.p ps))).length).length - 1) ti0).to)) rfl (hp27.get 2 rfl) ?_
      refine stg rfl (v := .int .i64 (spaceF (List.map Pr.p ps))) (o_mv rfl) ?_
      refine stg rfl (v := y5) (o_mv rfl) ?_
      refine stg rfl (v := .int .i64 (((pagesF (bodyF parts (List.map Pr.p ps))) ++ (trF (spaceF (List.map Pr.p ps)) (pagesF (bodyF parts (List.map Pr.p ps))).length)).length : Nat)) (o_lenR (hs5.rd hM14 (i := 1) rfl) rfl rfl) ?_
      refine stg rfl (v := .int .i64 ((spaceF (List.map Pr.p ps)) + (((pagesF (bodyF parts (List.map Pr.p ps))) ++ (trF (spaceF (List.map Pr.p ps)) (pagesF (bodyF parts (List.map Pr.p ps))).length)).length : Nat))) (o_bin rfl rfl (v_add64 (by constructor <;> omega))) ?_
      refine stg rfl (v := .bool (decide (¬ (((tailT (spaceF (List.map Pr.p ps)) (pagesF (bodyF parts (List.map Pr.p ps))).length).getD ((tailT (spaceF (List.map Pr.p ps)) (pagesF (bodyF parts (List.map Pr.p ps))).length).length - 1) ti0).to) = ((spaceF (List.map Pr.p ps)) + (((pagesF (bodyF parts (List.map Pr.p ps))) ++ (trF (spaceF (List.map Pr.p ps)) (pagesF (bodyF parts (List.map Pr.p ps))).length)).length : Nat))))) (o_bin rfl rfl v_neq) ?_
      refine stp (v := .bool (decide (¬ (((tailT (spaceF (List.map Pr.p ps)) (pagesF (bodyF parts (List.map Pr.p ps))).length).getD ((tailT (spaceF (List.map Pr.p ps)) (pagesF (bodyF parts (List.map Pr.p ps))).length).length - 1) ti0).to) = ((spaceF (List.map Pr.p ps)) + (((pagesF (bodyF parts (List.map Pr.p ps))) ++ (trF (spaceF (List.map Pr.p ps)) (pagesF (bodyF parts (List.map Pr.p ps))).length)).length : Nat))))) (o_pickF rfl rfl) ?_
      refine h23 _ _ ?_
      clear h23
      refine cndP rfl (fun c28 => absurd c28 (fun k => k (by rw [hte.2]; omega))) (fun c28 => ?_)
      refine h22 _ _ ?_
      clear h22
      refine seq fun K29 h29 => ?_
      refine stp (v := u48) (o_mv rfl) ?_
      refine stp (v := .int .i64 ((tailT (spaceF (List.map Pr.p ps)) (pagesF (bodyF parts (List.map Pr.p ps))).length).length : Nat)) (o_lenR (hv48.rd _ (hM14.owned (i := 2) rfl)) rfl rfl) ?_
      refine m_mksE (E := boolV) (z := false) (n := (tailT (spaceF (List.map Pr.p ps)) (pagesF (bodyF parts (List.map Pr.p ps))).length).length) (c := (tailT (spaceF (List.map Pr.p ps)) (pagesF (bodyF parts (List.map Pr.p ps))).length).length) rfl hM14 rfl rfl (by omega) (by omega) (by omega) fun v30 w30 r30 hs30 (hM30 : Mem w [] w30 [[⟨b2, 24, [.int .i64 parts, x]⟩], rs5, rs11, r30]) => ?_
      refine stp (v := v30) (o_mv rfl) ?_
      refine h29 _ _ ?_
      clear h29
      refine seq fun K31 h31 => ?_
      refine stp (v := .bool false) (o_mv rfl) ?_
      refine h31 _ _ ?_
      clear h31
      refine seq fun K32 h32 => ?_
      refine seq fun K33 h33 => ?_
      refine stp (v := .int .i64 0) (o_mv rfl) ?_
      refine h33 _ _ ?_
      clear h33
      refine lp (n := fun _ _ => False) (ι := (Nat) × (Bool) × (List UInt8) × (List Bool) × (Value) × (List Ent) × (Value) × (List Ent)) (fun ⟨i, s, bb, hh, y5_, r5_, y11_, r11_⟩ f w' => f 13 = .int .i64 (i : Nat) ∧ f 12 = .bool s ∧ f 5 = y5_ ∧ f 11 = y11_ ∧ f 1 = y ∧ f 2 = .pointer (some ⟨b2, 0, none⟩) ∧ f 7 = .int .i64 (spaceF (List.map Pr.p ps)) ∧ f 10 = u48 ∧ Mem w [] w' [[⟨b2, 24, [.int .i64 parts, x]⟩], r5_, rs11, r11_] ∧ (i ≤ bus.length) ∧ (bb.length = (pagesF (bodyF parts (List.map Pr.p ps))).length + 24) ∧ (hh.length = (tailT (spaceF (List.map Pr.p ps)) (pagesF (bodyF parts (List.map Pr.p ps))).length).length) ∧ (DmS (tailT (spaceF (List.map Pr.p ps)) (pagesF (bodyF parts (List.map Pr.p ps))).length) (spaceF (List.map Pr.p ps)) ((pagesF (bodyF parts (List.map Pr.p ps))) ++ (trF (spaceF (List.map Pr.p ps)) (pagesF (bodyF parts (List.map Pr.p ps))).length)) bb hh s) ∧ (SlE byteV 5 y5_ (bb) r5_) ∧ (SlE boolV 4 y11_ (hh) r11_)) (fun ⟨i, s, bb, hh, y5_, r5_, y11_, r11_⟩ => bus.length - i) (0, false, ((pagesF (bodyF parts (List.map Pr.p ps))) ++ (trF (spaceF (List.map Pr.p ps)) (pagesF (bodyF parts (List.map Pr.p ps))).length)), List.replicate (tailT (spaceF (List.map Pr.p ps)) (pagesF (bodyF parts (List.map Pr.p ps))).length).length false, y5, rs5, v30, r30) ?_ ?_
      · exact ⟨by first | rfl | exact v_int (by omega) | exact v_int (by simp) | exact v_int (by simp; omega), rfl, rfl, rfl, rfl, rfl, by first | rfl | exact v_int (by omega) | exact v_int (by simp) | exact v_int (by simp; omega), rfl, hM30, by omega, hel, by rw [List.length_replicate], DmS.init _ _ _ _, by first | exact hs5 | simpa using hs5, by first | exact hs30 | simpa using hs30⟩
      · rintro ⟨i, s, bb, hh, y5_, r5_, y11_, r11_⟩ f w34 ⟨e34_13, e34_12, e34_5, e34_11, e34_1, e34_2, e34_7, e34_10, hM34, hi, hbl2, hhl, hD, hy5_, hy11_⟩ K35 h35
        obtain ⟨frm, rfl⟩ : ∃ frm, f = (upd (upd (upd (upd (upd (upd (upd (upd frm 13 (.int .i64 (i : Nat))) 12 (.bool s)) 5 (y5_)) 11 (y11_)) 1 (y)) 2 (.pointer (some ⟨b2, 0, none⟩))) 7 (.int .i64 (spaceF (List.map Pr.p ps)))) 10 (u48)) := ⟨f, by rw [upd_self e34_13, upd_self e34_12, upd_self e34_5, upd_self e34_11, upd_self e34_1, upd_self e34_2, upd_self e34_7, upd_self e34_10]⟩
        clear e34_13 e34_12 e34_5 e34_11 e34_1 e34_2 e34_7 e34_10
        refine seq fun K36 h36 => ?_
        refine seq fun K37 h37 => ?_
        refine stp (v := .int .i64 (i : Nat)) (o_mv rfl) ?_
        refine stp (v := y) (o_mv rfl) ?_
        refine stp (v := .int .i64 (bus.length : Nat)) (o_lenR (hy.upd hM34.upd) rfl rfl) ?_
        refine stp (v := .bool (decide (((i : Nat) : Int) < (bus.length : Nat)))) (o_bin rfl rfl rfl) ?_
        refine h37 _ _ ?_
        clear h37
        refine cndP rfl (fun c38 => ?_) (fun c38 => ?_)
        ·
          refine h36 _ _ ?_
          clear h36
          refine seq fun K39 h39 => ?_
          refine seq fun K40 h40 => ?_
          refine stp (v := y) (o_mv rfl) ?_
          refine stp (v := .int .i64 (i : Nat)) (o_mv rfl) ?_
          refine m_idxS bu0 (j := i) (hy.upd hM34.upd) rfl rfl (by omega) fun b41 o41 hp41 => ?_
          refine stp (v := .pointer (some ⟨b41, o41, none⟩)) (o_fa rfl rfl) ?_
          obtain ⟨hb1, hb2, hb3⟩ := hbu _ (getD_memG bu0 (l := bus) (i := i) (by omega))
          simp only [inK] at hb1 hb2
          refine ld (v := .int .i64 ((bus.getD i bu0).tl)) rfl (hp41.get 0 rfl) ?_
          refine stp (v := u48) (o_mv rfl) ?_
          refine stp (v := .int .i64 ((tailT (spaceF (List.map Pr.p ps)) (pagesF (bodyF parts (List.map Pr.p ps))).length).length : Nat)) (o_lenR (hv48.rd _ (hM34.owned (i := 2) rfl)) rfl rfl) ?_
          obtain ⟨kq, hkq⟩ : ∃ t, t = (bus.getD i bu0).tl.tmod ((tailT (spaceF (List.map Pr.p ps)) (pagesF (bodyF parts (List.map Pr.p ps))).length).length : Nat) := ⟨_, rfl⟩
          have hkq1 : kq < (tailT (spaceF (List.map Pr.p ps)) (pagesF (bodyF parts (List.map Pr.p ps))).length).length := by rw [hkq]; exact Int.tmod_lt_of_pos _ (by omega)
          have hkq2 : -((tailT (spaceF (List.map Pr.p ps)) (pagesF (bodyF parts (List.map Pr.p ps))).length).length : Int) < kq := by rw [hkq]; exact Int.lt_tmod_of_pos _ (by omega)
          refine stp (v := .int .i64 kq) (o_rem rfl rfl (by omega) (v_int hkq.symm)) ?_
          refine stp (v := .int .i64 kq) (o_mv rfl) ?_
          refine h40 _ _ ?_
          clear h40
          refine seqc (fun f w' => ∃ (k : Nat), f 14 = .int .i64 (k : Nat) ∧ f 1 = y ∧ f 2 = .pointer (some ⟨b2, 0, none⟩) ∧ f 5 = y5_ ∧ f 7 = .int .i64 (spaceF (List.map Pr.p ps)) ∧ f 10 = u48 ∧ f 11 = y11_ ∧ f 12 = .bool s ∧ f 13 = .int .i64 (i : Nat) ∧ Mem w [] w' [[⟨b2, 24, [.int .i64 parts, x]⟩], r5_, rs11, r11_] ∧ (k < (tailT (spaceF (List.map Pr.p ps)) (pagesF (bodyF parts (List.map Pr.p ps))).length).length)) ?_ ?_
          · intro K42 h42
            refine seq fun K44 h44 => ?_
            refine stp (v := .int .i64 kq) (o_mv rfl) ?_
            refine stp (v := .bool (decide (kq < 0))) (o_bin rfl rfl rfl) ?_
            refine h44 _ _ ?_
            clear h44
            refine cndP rfl (fun c45 => ?_) (fun c45 => ?_)
            ·
              refine stp (v := .int .i64 kq) (o_mv rfl) ?_
              refine stp (v := u48) (o_mv rfl) ?_
              refine stp (v := .int .i64 ((tailT (spaceF (List.map Pr.p ps)) (pagesF (bodyF parts (List.map Pr.p ps))).length).length : Nat)) (o_lenR (hv48.rd _ (hM34.owned (i := 2) rfl)) rfl rfl) ?_
              refine stp (v := .int .i64 (kq + ((tailT (spaceF (List.map Pr.p ps)) (pagesF (bodyF parts (List.map Pr.p ps))).length).length : Nat))) (o_bin rfl rfl (v_add64 (by constructor <;> omega))) ?_
              refine stp (v := .int .i64 (kq + ((tailT (spaceF (List.map Pr.p ps)) (pagesF (bodyF parts (List.map Pr.p ps))).length).length : Nat))) (o_mv rfl) ?_
              refine h42 _ _ ⟨((kq + ((tailT (spaceF (List.map Pr.p ps)) (pagesF (bodyF parts (List.map Pr.p ps))).length).length : Nat)).toNat), by first | rfl | exact v_int (by omega) | exact v_int (by simp) | exact v_int (by simp; omega), rfl, rfl, rfl, by first | rfl | exact v_int (by omega) | exact v_int (by simp) | exact v_int (by simp; omega), rfl, rfl, rfl, by first | rfl | exact v_int (by omega) | exact v_int (by simp) | exact v_int (by simp; omega), hM34, by omega⟩
            ·
              refine h42 _ _ ⟨((kq).toNat), by first | rfl | exact v_int (by omega) | exact v_int (by simp) | exact v_int (by simp; omega), rfl, rfl, rfl, by first | rfl | exact v_int (by omega) | exact v_int (by simp) | exact v_int (by simp; omega), rfl, rfl, rfl, by first | rfl | exact v_int (by omega) | exact v_int (by simp) | exact v_int (by simp; omega), hM34, by omega⟩
          · rintro f w43 ⟨k, e43_14, e43_1, e43_2, e43_5, e43_7, e43_10, e43_11, e43_12, e43_13, hM43, hk⟩
            obtain ⟨frm, rfl⟩ : ∃ frm, f = (upd (upd (upd (upd (upd (upd (upd (upd (upd frm 14 (.int .i64 (k : Nat))) 1 (y)) 2 (.pointer (some ⟨b2, 0, none⟩))) 5 (y5_)) 7 (.int .i64 (spaceF (List.map Pr.p ps)))) 10 (u48)) 11 (y11_)) 12 (.bool s)) 13 (.int .i64 (i : Nat))) := ⟨f, by rw [upd_self e43_14, upd_self e43_1, upd_self e43_2, upd_self e43_5, upd_self e43_7, upd_self e43_10, upd_self e43_11, upd_self e43_12, upd_self e43_13]⟩
            clear e43_14 e43_1 e43_2 e43_5 e43_7 e43_10 e43_11 e43_12 e43_13
            refine seq fun K46 h46 => ?_
            refine seq fun K47 h47 => ?_
            intro wd e1 e2 e3 e4
            have hd := Upd.same e1 e2 e3 e4 []
            have hM48 := hM43.pure hd
            clear e1 e2 e3 e4
            refine ⟨none, ?_⟩
            show vd _ _ _ _ _ _ _
            have hbd := tail_bd (sp := (spaceF (List.map Pr.p ps))) (n := (pagesF (bodyF parts (List.map Pr.p ps))).length) hk
            refine dq (v := y11_) (o_mv rfl) ?_
            refine dq (v := .int .i64 (k : Nat)) (o_mv rfl) ?_
            refine dqp (m_idxE false (j := k) (hy11_.rd hM48 (i := 3) rfl) rfl rfl (by omega) fun b49 o49 hp49 => ?_)
            show vd _ _ _ _ _ _ _
            refine dl (ld (v := .bool (hh.getD k false)) rfl (hp49) ?_)
            refine ⟨rfl, ?_⟩
            refine dq (v := .bool (hh.getD k false)) (o_mv rfl) ?_
            refine dsplit rfl (fun c50 => ?_) (fun c50 => ?_)
            ·
              refine dgno rfl (by simp) ?_
              refine dgno rfl (by simp) ?_
              refine dgno rfl (by simp) ?_
              refine dgno rfl (by simp) ?_
              refine dgno rfl (by simp) ?_
              refine dgnol rfl (by simp) ?_
              refine dgno rfl (by simp) ?_
              refine dq (v := .bool true) (o_pickT rfl rfl) ?_
              refine dq (v := .bool true) (o_mv rfl) ?_
              refine dsplitT rfl ?_
              refine dgno rfl (by simp) ?_
              refine dgno rfl (by simp) ?_
              refine dgno rfl (by simp) ?_
              refine dgno rfl (by simp) ?_
              refine dgno rfl (by simp) ?_
              refine dgno rfl (by simp) ?_
              refine dgno rfl (by simp) ?_
              refine dgno rfl (by simp) ?_
              refine dqgno rfl (by simp) ?_
              refine dgnol rfl (by simp) ?_
              refine dgno rfl (by simp) ?_
              refine dq (v := .bool true) (o_pickT rfl rfl) ?_
              refine dq (v := .bool true) (o_mv rfl) ?_
              refine dsplitT rfl ?_
              refine dgno rfl (by simp) ?_
              refine dgno rfl (by simp) ?_
              refine dgno rfl (by simp) ?_
              refine dgno rfl (by simp) ?_
              refine dgno rfl (by simp) ?_
              refine dgno rfl (by simp) ?_
              refine dgno rfl (by simp) ?_
              refine dgno rfl (by simp) ?_
              refine dgnol rfl (by simp) ?_
              refine dgno rfl (by simp) ?_
              refine dq (v := .bool true) (o_pickT rfl rfl) ?_
              refine h47 _ _ ?_
              clear h47
              refine cndT rfl ?_
              refine h39 _ _ ?_
              clear h39
              refine stp (v := .int .i64 (i : Nat)) (o_mv rfl) ?_
              refine stp (v := .int .i64 ((i : Nat) + 1)) (o_bin rfl rfl (v_add64 (by constructor <;> omega))) ?_
              refine stp (v := .int .i64 ((i : Nat) + 1)) (o_mv rfl) ?_
              refine h35 (i + 1, s, bb, hh, y5_, r5_, y11_, r11_) _ _ ⟨by first | rfl | exact v_int (by omega) | exact v_int (by simp) | exact v_int (by simp; omega), rfl, rfl, rfl, rfl, rfl, by first | rfl | exact v_int (by omega) | exact v_int (by simp) | exact v_int (by simp; omega), rfl, hM48, by omega, by first | omega | (rw [trn_len]; omega), by first | omega | (rw [List.length_set]; omega), by
                first
                | exact hD
                | (have h9 := hD.turn (m := (bus.getD i bu0).m) (c := ct) (q := qt) hk hhl hel (by assumption) hqt
                   first
                   | (rw [Bool.eq_true_of_not_eq_false (by assumption), Bool.true_or] at h9; exact h9)
                   | (rw [show s = true by assumption, Bool.true_or] at h9; exact h9)
                   | (rw [show s = false by assumption, Bool.false_or] at h9; rw [getD_setB (by omega), if_pos rfl]; exact h9)), by first | exact hy5_ | simpa using hy5_, by first | exact hy11_ | simpa using hy11_⟩ (by (try dsimp only); omega)
            ·
              refine dqg rfl (v := u48) (o_mv rfl) ?_
              refine dqg rfl (v := .int .i64 (k : Nat)) (o_mv rfl) ?_
              refine dgyes rfl rfl (dqp (m_idxS ti0 (j := k) (hv48.rd _ (hM48.owned (i := 2) rfl)) rfl rfl (by omega) fun b51 o51 hp51 => ?_))
              show vd _ _ _ _ _ _ _
              refine dqg rfl (v := .pointer (some ⟨b51, o51 + 1, none⟩)) (o_fa rfl rfl) ?_
              refine dqg rfl (v := .int .i64 (spaceF (List.map Pr.p ps))) (o_mv rfl) ?_
              refine dgyesl rfl ?_
              refine dl (ld (v := .int .i64 (((tailT (spaceF (List.map Pr.p ps)) (pagesF (bodyF parts (List.map Pr.p ps))).length).getD k ti0).fr)) rfl (hp51.get 1 rfl) ?_)
              refine ⟨rfl, ?_⟩
              refine dqg rfl (v := .bool (decide ((((tailT (spaceF (List.map Pr.p ps)) (pagesF (bodyF parts (List.map Pr.p ps))).length).getD k ti0).fr) < (spaceF (List.map Pr.p ps))))) (o_bin rfl rfl rfl) ?_
              refine dq (v := .bool (decide ((((tailT (spaceF (List.map Pr.p ps)) (pagesF (bodyF parts (List.map Pr.p ps))).length).getD k ti0).fr) < (spaceF (List.map Pr.p ps))))) (o_pickF rfl rfl) ?_
              refine dq (v := .bool (decide ((((tailT (spaceF (List.map Pr.p ps)) (pagesF (bodyF parts (List.map Pr.p ps))).length).getD k ti0).fr) < (spaceF (List.map Pr.p ps))))) (o_mv rfl) ?_
              refine dsplitP rfl (fun c52 => absurd c52 (by omega)) (fun c52 => ?_)
              refine dqg rfl (v := u48) (o_mv rfl) ?_
              refine dqg rfl (v := .int .i64 (k : Nat)) (o_mv rfl) ?_
              refine dgyes rfl rfl (dqp (m_idxS ti0 (j := k) (hv48.rd _ (hM48.owned (i := 2) rfl)) rfl rfl (by omega) fun b53 o53 hp53 => ?_))
              show vd _ _ _ _ _ _ _
              refine dqg rfl (v := .pointer (some ⟨b53, o53 + 2, none⟩)) (o_fa rfl rfl) ?_
              refine dqg rfl (v := u48) (o_mv rfl) ?_
              refine dqg rfl (v := .int .i64 (k : Nat)) (o_mv rfl) ?_
              refine dgyes rfl rfl (dqp (m_idxS ti0 (j := k) (hv48.rd _ (hM48.owned (i := 2) rfl)) rfl rfl (by omega) fun b54 o54 hp54 => ?_))
              show vd _ _ _ _ _ _ _
              refine dqg rfl (v := .pointer (some ⟨b54, o54 + 1, none⟩)) (o_fa rfl rfl) ?_
              refine dqgyes rfl rfl ?_
              refine dqld rfl (trivial) (v := .int .i64 (((tailT (spaceF (List.map Pr.p ps)) (pagesF (bodyF parts (List.map Pr.p ps))).length).getD k ti0).fr)) (hp54.get 1 rfl) ?_
              refine dgyesl rfl ?_
              refine dl (ld (v := .int .i64 (((tailT (spaceF (List.map Pr.p ps)) (pagesF (bodyF parts (List.map Pr.p ps))).length).getD k ti0).to)) rfl (hp53.get 2 rfl) ?_)
              refine ⟨rfl, ?_⟩
              refine dqg rfl (v := .bool (decide ((((tailT (spaceF (List.map Pr.p ps)) (pagesF (bodyF parts (List.map Pr.p ps))).length).getD k ti0).to) ≤ (((tailT (spaceF (List.map Pr.p ps)) (pagesF (bodyF parts (List.map Pr.p ps))).length).getD k ti0).fr)))) (o_bin rfl rfl rfl) ?_
              refine dq (v := .bool (decide ((((tailT (spaceF (List.map Pr.p ps)) (pagesF (bodyF parts (List.map Pr.p ps))).length).getD k ti0).to) ≤ (((tailT (spaceF (List.map Pr.p ps)) (pagesF (bodyF parts (List.map Pr.p ps))).length).getD k ti0).fr)))) (o_pickF rfl rfl) ?_
              refine dq (v := .bool (decide ((((tailT (spaceF (List.map Pr.p ps)) (pagesF (bodyF parts (List.map Pr.p ps))).length).getD k ti0).to) ≤ (((tailT (spaceF (List.map Pr.p ps)) (pagesF (bodyF parts (List.map Pr.p ps))).length).getD k ti0).fr)))) (o_mv rfl) ?_
              refine dsplitP rfl (fun c55 => absurd c55 (by omega)) (fun c55 => ?_)
              refine dqg rfl (v := u48) (o_mv rfl) ?_
              refine dqg rfl (v := .int .i64 (k : Nat)) (o_mv rfl) ?_
              refine dgyes rfl rfl (dqp (m_idxS ti0 (j := k) (hv48.rd _ (hM48.owned (i := 2) rfl)) rfl rfl (by omega) fun b56 o56 hp56 => ?_))
              show vd _ _ _ _ _ _ _
              refine dqg rfl (v := .pointer (some ⟨b56, o56 + 2, none⟩)) (o_fa rfl rfl) ?_
              refine dqg rfl (v := .int .i64 (spaceF (List.map Pr.p ps))) (o_mv rfl) ?_
              refine dqg rfl (v := y5_) (o_mv rfl) ?_
              refine dqg rfl (v := .int .i64 (bb.length : Nat)) (o_lenR (hy5_.rd hM48 (i := 1) rfl) rfl rfl) ?_
              refine dqg rfl (v := .int .i64 ((spaceF (List.map Pr.p ps)) + (bb.length : Nat))) (o_bin rfl rfl (v_add64 (by constructor <;> omega))) ?_
              refine dgyesl rfl ?_
              refine dl (ld (v := .int .i64 (((tailT (spaceF (List.map Pr.p ps)) (pagesF (bodyF parts (List.map Pr.p ps))).length).getD k ti0).to)) rfl (hp56.get 2 rfl) ?_)
              refine ⟨rfl, ?_⟩
              refine dqg rfl (v := .bool (decide (((spaceF (List.map Pr.p ps)) + (bb.length : Nat) : Int) < (((tailT (spaceF (List.map Pr.p ps)) (pagesF (bodyF parts (List.map Pr.p ps))).length).getD k ti0).to)))) (o_bin rfl rfl rfl) ?_
              refine dq (v := .bool (decide (((spaceF (List.map Pr.p ps)) + (bb.length : Nat) : Int) < (((tailT (spaceF (List.map Pr.p ps)) (pagesF (bodyF parts (List.map Pr.p ps))).length).getD k ti0).to)))) (o_pickF rfl rfl) ?_
              refine h47 _ _ ?_
              clear h47
              refine cndP rfl (fun c57 => absurd c57 (by omega)) (fun c57 => ?_)
              refine h46 _ _ ?_
              clear h46
              refine seq fun K58 h58 => ?_
              intro wd e1 e2 e3 e4
              have hd := Upd.same e1 e2 e3 e4 []
              have hM59 := hM48.pure hd
              clear e1 e2 e3 e4
              refine ⟨(some [(blkV u48)]), ?_⟩
              show vd _ _ _ _ _ _ _
              refine dq (v := y11_) (o_mv rfl) ?_
              refine dq (v := .int .i64 (k : Nat)) (o_mv rfl) ?_
              refine dq (v := y5_) (o_mv rfl) ?_
              refine dq (v := u48) (o_mv rfl) ?_
              refine dq (v := .int .i64 (k : Nat)) (o_mv rfl) ?_
              refine dqp (m_idxS3 ti0 (j := k) (hv48.rd _ (hM59.owned (i := 2) rfl)) (hv48.rd _ (hM59.owned (i := 2) rfl)) rfl rfl (by omega) fun b60 o60 hp60 hbb60 => ?_)
              show vd _ _ _ _ _ _ _
              subst hbb60
              refine dq (v := .pointer (some ⟨(blkV u48), o60 + 1, none⟩)) (o_fa rfl rfl) ?_
              refine dq (v := .int .i64 (spaceF (List.map Pr.p ps))) (o_mv rfl) ?_
              refine dq (v := u48) (o_mv rfl) ?_
              refine dq (v := .int .i64 (k : Nat)) (o_mv rfl) ?_
              refine dqp (m_idxS3 ti0 (j := k) (hv48.rd _ (hM59.owned (i := 2) rfl)) (hv48.rd _ (hM59.owned (i := 2) rfl)) rfl rfl (by omega) fun b61 o61 hp61 hbb61 => ?_)
              show vd _ _ _ _ _ _ _
              subst hbb61
              refine dq (v := .pointer (some ⟨(blkV u48), o61 + 2, none⟩)) (o_fa rfl rfl) ?_
              refine dq (v := .int .i64 (spaceF (List.map Pr.p ps))) (o_mv rfl) ?_
              refine dq (v := y) (o_mv rfl) ?_
              refine dq (v := .int .i64 (i : Nat)) (o_mv rfl) ?_
              refine dqp (m_idxS bu0 (j := i) (hy.upd hM59.upd) rfl rfl (by omega) fun b62 o62 hp62 => ?_)
              show vd _ _ _ _ _ _ _
              refine dqld rfl (by simp [isHeld]) (v := .int .i64 (((tailT (spaceF (List.map Pr.p ps)) (pagesF (bodyF parts (List.map Pr.p ps))).length).getD k ti0).to)) (hp61.get 2 rfl) ?_
              refine dq (v := .int .i64 ((((tailT (spaceF (List.map Pr.p ps)) (pagesF (bodyF parts (List.map Pr.p ps))).length).getD k ti0).to) - (spaceF (List.map Pr.p ps)))) (o_bin rfl rfl (v_sub64 (by constructor <;> omega))) ?_
              refine dqld rfl (by simp [isHeld]) (v := .int .i64 (((tailT (spaceF (List.map Pr.p ps)) (pagesF (bodyF parts (List.map Pr.p ps))).length).getD k ti0).fr)) (hp60.get 1 rfl) ?_
              refine dq (v := .int .i64 ((((tailT (spaceF (List.map Pr.p ps)) (pagesF (bodyF parts (List.map Pr.p ps))).length).getD k ti0).fr) - (spaceF (List.map Pr.p ps)))) (o_bin rfl rfl (v_sub64 (by constructor <;> omega))) ?_
              refine dl (ldA (cs := [.int .i64 ((bus.getD i bu0).tl), .int .i64 ((bus.getD i bu0).at_), .int .u32 ((bus.getD i bu0).m : Nat)]) rfl rfl (hp62.row (k := 0) rfl rfl) ?_)
              refine ⟨(fun b hb => rfl), ?_⟩
              refine dl (m_call (turn_ok _ bb r5_ ((((tailT (spaceF (List.map Pr.p ps)) (pagesF (bodyF parts (List.map Pr.p ps))).length).getD k ti0).fr) - (spaceF (List.map Pr.p ps))) ((((tailT (spaceF (List.map Pr.p ps)) (pagesF (bodyF parts (List.map Pr.p ps))).length).getD k ti0).to) - (spaceF (List.map Pr.p ps))) ((bus.getD i bu0).tl) ((bus.getD i bu0).at_) ((bus.getD i bu0).m) wd hy5_ (hM59.res (i := 1) rfl) (by omega) (by omega) (by simp only [inK]; omega) (by omega)) rfl fun v63 w63 ⟨qt, ct, r'63, hr63, hqt, hs63, hm63⟩ => ?_)
              have hM63 : Mem w [] w63 [[⟨b2, 24, [.int .i64 parts, x]⟩], r'63, rs11, r11_] := hM59.step 1 rfl hm63
              subst hr63
              have hh63 := held_upd (wr := wd) (bs := [(blkV u48)]) hm63.upd (fun b hb => by
                simp only [List.mem_cons, List.not_mem_nil, or_false] at hb
                rw [hb]; exact ⟨Rd.blkV_ltS (hv48.rd _ (hM59.owned (i := 2) rfl)) (by omega), hv48.apart hM59 (i := 2) (k := 1) rfl rfl (by decide) (by omega)⟩) (fun b hb => rfl)
              refine ⟨hh63, ?_⟩
              refine dset (m_setU (E := boolV) (q := decide (¬ ((bus.getD i bu0).m) % 2 ^ ct = 0)) (j := k) hM63 (i := 3) rfl hy11_ rfl rfl (by omega) (by simp) (rfl) fun w64 r64 u64 he64 hs64 (hM64 : Mem w [] w64 [[⟨b2, 24, [.int .i64 parts, x]⟩], r'63, rs11, r64]) hup64 => ?_)
              have hh64 := held_upd (wr := wd) (bs := [(blkV u48)]) hup64 (fun b hb => by
                simp only [List.mem_cons, List.not_mem_nil, or_false] at hb
                rw [hb]; exact ⟨Rd.blkV_ltS (hv48.rd _ (hM63.owned (i := 2) rfl)) (by omega), hv48.apart hM63 (i := 2) (k := 3) rfl rfl (by decide) (by omega)⟩) hh63
              refine ⟨hh64, ?_⟩
              show vd _ _ _ _ _ _ _
              refine h58 _ _ ?_
              clear h58
              refine stp (v := .bool s) (o_mv rfl) ?_
              refine stp (v := .bool s) (o_mv rfl) ?_
              refine split rfl (fun c65 => ?_) (fun c65 => ?_)
              ·
                refine gno rfl (by simp) ?_
                refine gno rfl (by simp) ?_
                refine gno rfl (by simp) ?_
                refine gnol rfl (by simp) ?_
                refine stp (v := .bool true) (o_pickT rfl rfl) ?_
                refine stp (v := .bool true) (o_mv rfl) ?_
                refine h39 _ _ ?_
                clear h39
                refine stp (v := .int .i64 (i : Nat)) (o_mv rfl) ?_
                refine stp (v := .int .i64 ((i : Nat) + 1)) (o_bin rfl rfl (v_add64 (by constructor <;> omega))) ?_
                refine stp (v := .int .i64 ((i : Nat) + 1)) (o_mv rfl) ?_
                refine h35 (i + 1, true, trn bb (8 * ((((tailT (spaceF (List.map Pr.p ps)) (pagesF (bodyF parts (List.map Pr.p ps))).length).getD k ti0).fr) - (spaceF (List.map Pr.p ps))).toNat + qt) ((bus.getD i bu0).m) ct, hh.set k (decide (¬ ((bus.getD i bu0).m) % 2 ^ ct = 0)), y5_, r'63, y11_, r64) _ _ ⟨by first | rfl | exact v_int (by omega) | exact v_int (by simp) | exact v_int (by simp; omega), rfl, rfl, rfl, rfl, rfl, by first | rfl | exact v_int (by omega) | exact v_int (by simp) | exact v_int (by simp; omega), rfl, hM64, by omega, by first | omega | (rw [trn_len]; omega), by first | omega | (rw [List.length_set]; omega), by
                  first
                  | exact hD
                  | (have h9 := hD.turn (m := (bus.getD i bu0).m) (c := ct) (q := qt) hk hhl hel (by assumption) hqt
                     first
                     | (rw [Bool.eq_true_of_not_eq_false (by assumption), Bool.true_or] at h9; exact h9)
                     | (rw [show s = true by assumption, Bool.true_or] at h9; exact h9)
                     | (rw [show s = false by assumption, Bool.false_or] at h9; rw [getD_setB (by omega), if_pos rfl]; exact h9)), by first | exact hs63 | simpa using hs63, by first | exact hs64 | simpa using hs64⟩ (by (try dsimp only); omega)
              ·
                refine stg rfl (v := y11_) (o_mv rfl) ?_
                refine stg rfl (v := .int .i64 (k : Nat)) (o_mv rfl) ?_
                refine gyes rfl rfl (m_idxE false (j := k) (hs64.rd hM64 (i := 3) rfl) rfl rfl (by rw [List.length_set]; omega) fun b66 o66 hp66 => ?_)
                refine gyesl rfl ?_
                refine ld (v := .bool ((hh.set k (decide (¬ ((bus.getD i bu0).m) % 2 ^ ct = 0))).getD k false)) rfl (hp66) ?_
                refine stp (v := .bool ((hh.set k (decide (¬ ((bus.getD i bu0).m) % 2 ^ ct = 0))).getD k false)) (o_pickF rfl rfl) ?_
                refine stp (v := .bool ((hh.set k (decide (¬ ((bus.getD i bu0).m) % 2 ^ ct = 0))).getD k false)) (o_mv rfl) ?_
                refine h39 _ _ ?_
                clear h39
                refine stp (v := .int .i64 (i : Nat)) (o_mv rfl) ?_
                refine stp (v := .int .i64 ((i : Nat) + 1)) (o_bin rfl rfl (v_add64 (by constructor <;> omega))) ?_
                refine stp (v := .int .i64 ((i : Nat) + 1)) (o_mv rfl) ?_
                refine h35 (i + 1, (hh.set k (decide (¬ ((bus.getD i bu0).m) % 2 ^ ct = 0))).getD k false, trn bb (8 * ((((tailT (spaceF (List.map Pr.p ps)) (pagesF (bodyF parts (List.map Pr.p ps))).length).getD k ti0).fr) - (spaceF (List.map Pr.p ps))).toNat + qt) ((bus.getD i bu0).m) ct, hh.set k (decide (¬ ((bus.getD i bu0).m) % 2 ^ ct = 0)), y5_, r'63, y11_, r64) _ _ ⟨by first | rfl | exact v_int (by omega) | exact v_int (by simp) | exact v_int (by simp; omega), rfl, rfl, rfl, rfl, rfl, by first | rfl | exact v_int (by omega) | exact v_int (by simp) | exact v_int (by simp; omega), rfl, hM64, by omega, by first | omega | (rw [trn_len]; omega), by first | omega | (rw [List.length_set]; omega), by
                  first
                  | exact hD
                  | (have h9 := hD.turn (m := (bus.getD i bu0).m) (c := ct) (q := qt) hk hhl hel (by assumption) hqt
                     first
                     | (rw [Bool.eq_true_of_not_eq_false (by assumption), Bool.true_or] at h9; exact h9)
                     | (rw [show s = true by assumption, Bool.true_or] at h9; exact h9)
                     | (rw [show s = false by assumption, Bool.false_or] at h9; rw [getD_setB (by omega), if_pos rfl]; exact h9)), by first | exact hs63 | simpa using hs63, by first | exact hs64 | simpa using hs64⟩ (by (try dsimp only); omega)
        ·
          refine h32 _ _ ?_
          clear h32
          refine seq fun K67 h67 => ?_
          refine stp (v := y5_) (o_mv rfl) ?_
          refine stp (v := .int .i64 (bb.length : Nat)) (o_lenR (hy5_.rd hM34 (i := 1) rfl) rfl rfl) ?_
          refine stp (v := .int .i64 ((pagesF (bodyF parts (List.map Pr.p ps))).length : Nat)) (o_bin rfl rfl ((v_sub64 (by omega)).trans (v_int (by omega)))) ?_
          refine stp (v := .int .i64 ((pagesF (bodyF parts (List.map Pr.p ps))).length : Nat)) (o_mv rfl) ?_
          refine h67 _ _ ?_
          clear h67
          refine seq fun K68 h68 => ?_
          refine stp (v := y5_) (o_mv rfl) ?_
          refine stp (v := .int .i64 ((pagesF (bodyF parts (List.map Pr.p ps))).length : Nat)) (o_mv rfl) ?_
          refine m_slcE ((pagesF (bodyF parts (List.map Pr.p ps))).length) bb.length (hy5_.rd hM34 (i := 1) rfl) rfl (by omega) (by omega) rfl ⟨_, v_int (by omega)⟩ fun u69 hu69 => ?_
          have hu69' : RdE byteV w34 u69 (bb.drop (pagesF (bodyF parts (List.map Pr.p ps))).length) := by
            have e : (bb.take bb.length).drop ((pagesF (bodyF parts (List.map Pr.p ps))).length) = (bb.drop (pagesF (bodyF parts (List.map Pr.p ps))).length) := by rw [List.take_length]
            rw [e] at hu69; exact hu69
          refine stp (v := .int .i64 (spaceF (List.map Pr.p ps))) (o_mv rfl) ?_
          refine stp (v := y5_) (o_mv rfl) ?_
          refine stp (v := .int .i64 (bb.length : Nat)) (o_lenR (hy5_.rd hM34 (i := 1) rfl) rfl rfl) ?_
          refine stp (v := .int .i64 ((spaceF (List.map Pr.p ps)) + (bb.length : Nat))) (o_bin rfl rfl (v_add64 (by constructor <;> omega))) ?_
          rcases hD.trail (P := (pagesF (bodyF parts (List.map Pr.p ps)))) rfl (by omega) with ⟨ht1, ht2⟩ | ht1
          ·
            refine m_call (Trailer_ok _ (bb.drop (pagesF (bodyF parts (List.map Pr.p ps))).length) ((spaceF (List.map Pr.p ps)) + (bb.length : Nat)) (by simp only [inK]; omega) w34 (hu69') (by rw [List.length_drop]; omega)) rfl fun v70 w70 ⟨hr70, hu70⟩ => ?_
            have hM70 : Mem w [] w70 [[⟨b2, 24, [.int .i64 parts, x]⟩], r5_, rs11, r11_] := hM34.pure hu70
            rw [tr_open (by rw [List.length_drop]; omega) ht1] at hr70
            subst hr70
            refine stp (v := .tuple [.agg ([.int .i64 0, .int .i64 0] : List Value).toArray, .int .i64 81].toArray) (o_mv rfl) ?_
            refine stp (v := .agg ([.int .i64 0, .int .i64 0] : List Value).toArray) (o_ext rfl rfl) ?_
            refine stp (v := .int .i64 81) (o_ext rfl rfl) ?_
            refine m_al hM70 fun b71 w72 (hM72 : Mem w [] w72 [[⟨b2, 24, [.int .i64 parts, x]⟩], r5_, rs11, r11_, [⟨b71, 36, [.int .i64 0, .int .i64 0]⟩]]) => ?_
            refine m_stA (l := [.int .i64 0, .int .i64 0]) hM72 (i := 4) rfl rfl rfl rfl (by simp [oneCells, Value.oneCell', byteV]) (by simp) fun w73 (hM73 : Mem w [] w73 [[⟨b2, 24, [.int .i64 parts, x]⟩], r5_, rs11, r11_, [⟨b71, 36, [.int .i64 0, .int .i64 0]⟩]]) => ?_
            refine stp (v := .int .i64 81) (o_mv rfl) ?_
            refine h68 _ _ ?_
            clear h68
            refine seq fun K74 h74 => ?_
            refine seq fun K75 h75 => ?_
            refine stp (v := .int .i64 81) (o_mv rfl) ?_
            refine stp (v := .bool (decide (¬ (81 : Int) = 0))) (o_bin rfl rfl v_neq) ?_
            refine h75 _ _ ?_
            clear h75
            refine cndP rfl (fun c76 => ?_) (fun c76 => (c76 (by omega)).elim)
            refine seq fun K77 h77 => ?_
            refine stp (v := .bool s) (o_mv rfl) ?_
            refine stp (v := .bool s) (o_mv rfl) ?_
            refine split rfl (fun c78 => ?_) (fun c78 => absurd ((show s = true from (ht2)).symm.trans c78) (by decide))
            refine stg rfl (v := .int .i64 81) (o_mv rfl) ?_
            refine stg rfl (v := .bool true) (o_bin rfl rfl v_eqT) ?_
            refine stp (v := .bool true) (o_pickT rfl rfl) ?_
            refine stp (v := .bool true) (o_mv rfl) ?_
            refine splitT rfl ?_
            refine gyesl rfl ?_
            refine m_call (head_ok w73) rfl fun v79 w79 ⟨hr79, hu79⟩ => ?_
            have hM79 : Mem w [] w79 [[⟨b2, 24, [.int .i64 parts, x]⟩], r5_, rs11, r11_, [⟨b71, 36, [.int .i64 0, .int .i64 0]⟩]] := hM73.pure hu79
            subst hr79
            refine stp (v := .bool true) (o_pickT rfl rfl) ?_
            refine stp (v := .bool true) (o_mv rfl) ?_
            refine h77 _ _ ?_
            clear h77
            refine ⟨(.bool true), rfl, ?_⟩
            first | exact ⟨rfl, hM79.upd⟩ | (exfalso; omega)
          ·
            refine m_call (Trailer_ok _ (bb.drop (pagesF (bodyF parts (List.map Pr.p ps))).length) ((spaceF (List.map Pr.p ps)) + (bb.length : Nat)) (by simp only [inK]; omega) w34 (hu69') (by rw [List.length_drop]; omega)) rfl fun v80 w80 ⟨hr80, hu80⟩ => ?_
            have hM80 : Mem w [] w80 [[⟨b2, 24, [.int .i64 parts, x]⟩], r5_, rs11, r11_] := hM34.pure hu80
            rw [ht1, trail_tr hm, if_pos (by omega)] at hr80
            subst hr80
            refine stp (v := .tuple [.agg ([.int .i64 (spaceF (List.map Pr.p ps)), .int .i64 ((pagesF (bodyF parts (List.map Pr.p ps))).length : Nat)] : List Value).toArray, .int .i64 0].toArray) (o_mv rfl) ?_
            refine stp (v := .agg ([.int .i64 (spaceF (List.map Pr.p ps)), .int .i64 ((pagesF (bodyF parts (List.map Pr.p ps))).length : Nat)] : List Value).toArray) (o_ext rfl rfl) ?_
            refine stp (v := .int .i64 0) (o_ext rfl rfl) ?_
            refine m_al hM80 fun b81 w82 (hM82 : Mem w [] w82 [[⟨b2, 24, [.int .i64 parts, x]⟩], r5_, rs11, r11_, [⟨b81, 36, [.int .i64 0, .int .i64 0]⟩]]) => ?_
            refine m_stA (l := [.int .i64 (spaceF (List.map Pr.p ps)), .int .i64 ((pagesF (bodyF parts (List.map Pr.p ps))).length : Nat)]) hM82 (i := 4) rfl rfl rfl rfl (by simp [oneCells, Value.oneCell', byteV]) (by simp) fun w83 (hM83 : Mem w [] w83 [[⟨b2, 24, [.int .i64 parts, x]⟩], r5_, rs11, r11_, [⟨b81, 36, [.int .i64 (spaceF (List.map Pr.p ps)), .int .i64 ((pagesF (bodyF parts (List.map Pr.p ps))).length : Nat)]⟩]]) => ?_
            refine stp (v := .int .i64 0) (o_mv rfl) ?_
            refine h68 _ _ ?_
            clear h68
            refine seq fun K84 h84 => ?_
            refine seq fun K85 h85 => ?_
            refine stp (v := .int .i64 0) (o_mv rfl) ?_
            refine stp (v := .bool false) (o_bin rfl rfl v_neF) ?_
            refine h85 _ _ ?_
            clear h85
            refine cndF rfl ?_
            refine h84 _ _ ?_
            clear h84
            refine seq fun K86 h86 => ?_
            intro wd e1 e2 e3 e4
            have hd := Upd.same e1 e2 e3 e4 []
            have hM87 := hM83.pure hd
            clear e1 e2 e3 e4
            refine ⟨(some [b81]), ?_⟩
            show vd _ _ _ _ _ _ _
            refine dq (v := y5_) (o_mv rfl) ?_
            refine dq (v := .int .i64 ((pagesF (bodyF parts (List.map Pr.p ps))).length : Nat)) (o_mv rfl) ?_
            rcases Bool.eq_false_or_eq_true s with rfl | rfl
            ·
              refine dqp (m_slcO ((pagesF (bodyF parts (List.map Pr.p ps))).length) (hy5_) rfl (by omega) (⟨_, rfl⟩) trivial fun u88 hu88 => ?_)
              show vd _ _ _ _ _ _ _
              have hu88' := SlE.eqL (m := bb.take (pagesF (bodyF parts (List.map Pr.p ps))).length) hu88 (by first | rfl | simp)
              refine dqldA (cs := [.int .i64 (spaceF (List.map Pr.p ps)), .int .i64 ((pagesF (bodyF parts (List.map Pr.p ps))).length : Nat)]) rfl (by simp [isHeld]) rfl ((hM87.at (i := 4) (j := 0) rfl rfl).agg rfl rfl) ?_
              show _ ∧ _
              refine ⟨?_, ?_⟩
              ·
                show vd _ _ _ _ _ _ _
                refine dl (m_call (Decode_ok (spaceF (List.map Pr.p ps)) ((pagesF (bodyF parts (List.map Pr.p ps))).length : Nat) _ (bb.take (pagesF (bodyF parts (List.map Pr.p ps))).length) wd (by simp only [inK]; omega) (by simp only [inK]; omega) (hu88'.rd hM87 (i := 1) rfl) (by rw [List.length_take]; omega)) rfl fun v89 w89 ⟨P89, v89_, ps89, rs89, NS89, e89, hr89, hs89, hN89, hP89, hpl89, hsp89, hm89⟩ => ?_)
                have hM89 : Mem w [] w89 [[⟨b2, 24, [.int .i64 parts, x]⟩], r5_, rs11, r11_, [⟨b81, 36, [.int .i64 (spaceF (List.map Pr.p ps)), .int .i64 ((pagesF (bodyF parts (List.map Pr.p ps))).length : Nat)]⟩], rs89, NS89] := hM87.add2 hm89
                have he9 := dc_none hsp89 hm (hD.pages rfl (by omega) ht1)
                rw [he9] at hr89
                subst hr89
                obtain ⟨av89, lv89, cv89, rfl⟩ := hs89.isSlice
                have hh89 := held_upd (wr := wd) (bs := [b81]) hm89.upd (fun b hb => by
                  simp only [List.mem_cons, List.not_mem_nil, or_false] at hb
                  rw [hb]; exact ⟨(hM87.at (i := 4) (j := 0) rfl rfl).lt, by simp⟩) (fun b hb => rfl)
                refine ⟨hh89, ?_⟩
                refine dq (v := .tuple [.agg ([.int .i64 P89, (.slice av89 lv89 cv89)] : List Value).toArray, .int .i64 80].toArray) (o_mv rfl) ?_
                refine dq (v := .agg ([.int .i64 P89, (.slice av89 lv89 cv89)] : List Value).toArray) (o_ext rfl rfl) ?_
                refine dq (v := .int .i64 80) (o_ext rfl rfl) ?_
                refine dl (m_alU hM89 fun b90 w91 hup91 (hM91 : Mem w [] w91 [[⟨b2, 24, [.int .i64 parts, x]⟩], r5_, rs11, r11_, [⟨b81, 36, [.int .i64 (spaceF (List.map Pr.p ps)), .int .i64 ((pagesF (bodyF parts (List.map Pr.p ps))).length : Nat)]⟩], rs89, NS89, [⟨b90, 24, [.int .i64 0, .slice none 0 0]⟩]]) => ?_)
                have hh91 := held_upd (wr := wd) (bs := [b81]) hup91 (fun b hb => by
                  simp only [List.mem_cons, List.not_mem_nil, or_false] at hb
                  rw [hb]; exact ⟨(hM89.at (i := 4) (j := 0) rfl rfl).lt, by simp⟩) hh89
                refine ⟨hh91, ?_⟩
                refine dl (m_stAU (l := [.int .i64 P89, (.slice av89 lv89 cv89)]) hM91 (i := 7) rfl rfl rfl rfl (by simp [oneCells, Value.oneCell', byteV]) (by simp) fun w92 hup92 (hM92 : Mem w [] w92 [[⟨b2, 24, [.int .i64 parts, x]⟩], r5_, rs11, r11_, [⟨b81, 36, [.int .i64 (spaceF (List.map Pr.p ps)), .int .i64 ((pagesF (bodyF parts (List.map Pr.p ps))).length : Nat)]⟩], rs89, NS89, [⟨b90, 24, [.int .i64 P89, (.slice av89 lv89 cv89)]⟩]]) => ?_)
                have hh92 := held_upd (wr := wd) (bs := [b81]) hup92 (fun b hb => by
                  simp only [List.mem_cons, List.not_mem_nil, or_false] at hb
                  rw [hb]; exact ⟨(hM91.at (i := 4) (j := 0) rfl rfl).lt, hM91.apart (i := 4) (j := 0) (k := 7) rfl rfl rfl (by decide)⟩) hh91
                refine ⟨hh92, ?_⟩
                refine dq (v := .int .i64 80) (o_mv rfl) ?_
                refine h86 _ _ ?_
                clear h86
                refine seq fun K93 h93 => ?_
                refine seq fun K94 h94 => ?_
                refine stp (v := .bool true) (o_mv rfl) ?_
                refine stp (v := .bool false) (o_not rfl rfl) ?_
                refine h94 _ _ ?_
                clear h94
                refine cndF rfl ?_
                refine h93 _ _ ?_
                clear h93
                refine seq fun K95 h95 => ?_
                refine stp (v := .int .i64 80) (o_mv rfl) ?_
                refine stp (v := .bool true) (o_bin rfl rfl v_eqT) ?_
                refine stp (v := .bool true) (o_mv rfl) ?_
                refine splitT rfl ?_
                refine gyesl rfl ?_
                refine m_call (head_ok w92) rfl fun v96 w96 ⟨hr96, hu96⟩ => ?_
                have hM96 : Mem w [] w96 [[⟨b2, 24, [.int .i64 parts, x]⟩], r5_, rs11, r11_, [⟨b81, 36, [.int .i64 (spaceF (List.map Pr.p ps)), .int .i64 ((pagesF (bodyF parts (List.map Pr.p ps))).length : Nat)]⟩], rs89, NS89, [⟨b90, 24, [.int .i64 P89, (.slice av89 lv89 cv89)]⟩]] := hM92.pure hu96
                subst hr96
                refine stp (v := .bool true) (o_pickT rfl rfl) ?_
                refine stp (v := .bool true) (o_mv rfl) ?_
                refine h95 _ _ ?_
                clear h95
                refine ⟨(.bool true), rfl, ?_⟩
                first | exact ⟨rfl, hM96.upd⟩ | (exfalso; omega)
              ·
                show vd _ _ _ _ _ _ _
                refine dl (m_alU hM87 fun b97 w98 hup98 (hM98 : Mem w [] w98 [[⟨b2, 24, [.int .i64 parts, x]⟩], r5_, rs11, r11_, [⟨b81, 36, [.int .i64 (spaceF (List.map Pr.p ps)), .int .i64 ((pagesF (bodyF parts (List.map Pr.p ps))).length : Nat)]⟩], [⟨b97, 24, [.int .i64 0, .slice none 0 0]⟩]]) => ?_)
                have hh98 := held_upd (wr := wd) (bs := [b81]) hup98 (fun b hb => by
                  simp only [List.mem_cons, List.not_mem_nil, or_false] at hb
                  rw [hb]; exact ⟨(hM87.at (i := 4) (j := 0) rfl rfl).lt, by simp⟩) (fun b hb => rfl)
                refine ⟨hh98, ?_⟩
                refine dl (m_call (Decode_ok (spaceF (List.map Pr.p ps)) ((pagesF (bodyF parts (List.map Pr.p ps))).length : Nat) _ (bb.take (pagesF (bodyF parts (List.map Pr.p ps))).length) w98 (by simp only [inK]; omega) (by simp only [inK]; omega) (hu88'.rd hM98 (i := 1) rfl) (by rw [List.length_take]; omega)) rfl fun v99 w99 ⟨P99, v99_, ps99, rs99, NS99, e99, hr99, hs99, hN99, hP99, hpl99, hsp99, hm99⟩ => ?_)
                have hM99 : Mem w [] w99 [[⟨b2, 24, [.int .i64 parts, x]⟩], r5_, rs11, r11_, [⟨b81, 36, [.int .i64 (spaceF (List.map Pr.p ps)), .int .i64 ((pagesF (bodyF parts (List.map Pr.p ps))).length : Nat)]⟩], [⟨b97, 24, [.int .i64 0, .slice none 0 0]⟩], rs99, NS99] := hM98.add2 hm99
                have he9 := dc_none hsp99 hm (hD.pages rfl (by omega) ht1)
                rw [he9] at hr99
                subst hr99
                obtain ⟨av99, lv99, cv99, rfl⟩ := hs99.isSlice
                have hh99 := held_upd (wr := wd) (bs := [b81]) hm99.upd (fun b hb => by
                  simp only [List.mem_cons, List.not_mem_nil, or_false] at hb
                  rw [hb]; exact ⟨(hM98.at (i := 4) (j := 0) rfl rfl).lt, by simp⟩) hh98
                refine ⟨hh99, ?_⟩
                refine dq (v := .tuple [.agg ([.int .i64 P99, (.slice av99 lv99 cv99)] : List Value).toArray, .int .i64 80].toArray) (o_mv rfl) ?_
                refine dq (v := .agg ([.int .i64 P99, (.slice av99 lv99 cv99)] : List Value).toArray) (o_ext rfl rfl) ?_
                refine dq (v := .int .i64 80) (o_ext rfl rfl) ?_
                refine dl (m_stAU (l := [.int .i64 P99, (.slice av99 lv99 cv99)]) hM99 (i := 5) rfl rfl rfl rfl (by simp [oneCells, Value.oneCell', byteV]) (by simp) fun w100 hup100 (hM100 : Mem w [] w100 [[⟨b2, 24, [.int .i64 parts, x]⟩], r5_, rs11, r11_, [⟨b81, 36, [.int .i64 (spaceF (List.map Pr.p ps)), .int .i64 ((pagesF (bodyF parts (List.map Pr.p ps))).length : Nat)]⟩], [⟨b97, 24, [.int .i64 P99, (.slice av99 lv99 cv99)]⟩], rs99, NS99]) => ?_)
                have hh100 := held_upd (wr := wd) (bs := [b81]) hup100 (fun b hb => by
                  simp only [List.mem_cons, List.not_mem_nil, or_false] at hb
                  rw [hb]; exact ⟨(hM99.at (i := 4) (j := 0) rfl rfl).lt, hM99.apart (i := 4) (j := 0) (k := 5) rfl rfl rfl (by decide)⟩) hh99
                refine ⟨hh100, ?_⟩
                refine dq (v := .int .i64 80) (o_mv rfl) ?_
                refine h86 _ _ ?_
                clear h86
                refine seq fun K101 h101 => ?_
                refine seq fun K102 h102 => ?_
                refine stp (v := .bool true) (o_mv rfl) ?_
                refine stp (v := .bool false) (o_not rfl rfl) ?_
                refine h102 _ _ ?_
                clear h102
                refine cndF rfl ?_
                refine h101 _ _ ?_
                clear h101
                refine seq fun K103 h103 => ?_
                refine stp (v := .int .i64 80) (o_mv rfl) ?_
                refine stp (v := .bool true) (o_bin rfl rfl v_eqT) ?_
                refine stp (v := .bool true) (o_mv rfl) ?_
                refine splitT rfl ?_
                refine gyesl rfl ?_
                refine m_call (head_ok w100) rfl fun v104 w104 ⟨hr104, hu104⟩ => ?_
                have hM104 : Mem w [] w104 [[⟨b2, 24, [.int .i64 parts, x]⟩], r5_, rs11, r11_, [⟨b81, 36, [.int .i64 (spaceF (List.map Pr.p ps)), .int .i64 ((pagesF (bodyF parts (List.map Pr.p ps))).length : Nat)]⟩], [⟨b97, 24, [.int .i64 P99, (.slice av99 lv99 cv99)]⟩], rs99, NS99] := hM100.pure hu104
                subst hr104
                refine stp (v := .bool true) (o_pickT rfl rfl) ?_
                refine stp (v := .bool true) (o_mv rfl) ?_
                refine h103 _ _ ?_
                clear h103
                refine ⟨(.bool true), rfl, ?_⟩
                first | exact ⟨rfl, hM104.upd⟩ | (exfalso; omega)
            ·
              refine dqp (m_slcO ((pagesF (bodyF parts (List.map Pr.p ps))).length) (hy5_) rfl (by omega) (⟨_, rfl⟩) trivial fun u105 hu105 => ?_)
              show vd _ _ _ _ _ _ _
              have hu105' := SlE.eqL (m := bb.take (pagesF (bodyF parts (List.map Pr.p ps))).length) hu105 (by first | rfl | simp)
              refine dqldA (cs := [.int .i64 (spaceF (List.map Pr.p ps)), .int .i64 ((pagesF (bodyF parts (List.map Pr.p ps))).length : Nat)]) rfl (by simp [isHeld]) rfl ((hM87.at (i := 4) (j := 0) rfl rfl).agg rfl rfl) ?_
              show _ ∧ _
              refine ⟨?_, ?_⟩
              ·
                show vd _ _ _ _ _ _ _
                refine dl (m_call (Decode_ok (spaceF (List.map Pr.p ps)) ((pagesF (bodyF parts (List.map Pr.p ps))).length : Nat) _ (bb.take (pagesF (bodyF parts (List.map Pr.p ps))).length) wd (by simp only [inK]; omega) (by simp only [inK]; omega) (hu105'.rd hM87 (i := 1) rfl) (by rw [List.length_take]; omega)) rfl fun v106 w106 ⟨P106, v106_, ps106, rs106, NS106, e106, hr106, hs106, hN106, hP106, hpl106, hsp106, hm106⟩ => ?_)
                have hM106 : Mem w [] w106 [[⟨b2, 24, [.int .i64 parts, x]⟩], r5_, rs11, r11_, [⟨b81, 36, [.int .i64 (spaceF (List.map Pr.p ps)), .int .i64 ((pagesF (bodyF parts (List.map Pr.p ps))).length : Nat)]⟩], rs106, NS106] := hM87.add2 hm106
                rw [(hD.2.2.1 rfl).1, List.take_left] at hsp106
                obtain ⟨he9, hP9, hq9⟩ := dc_back hft hm hsp106
                rw [he9, hP9] at hr106
                subst hr106
                obtain ⟨av106, lv106, cv106, rfl⟩ := hs106.isSlice
                have hh106 := held_upd (wr := wd) (bs := [b81]) hm106.upd (fun b hb => by
                  simp only [List.mem_cons, List.not_mem_nil, or_false] at hb
                  rw [hb]; exact ⟨(hM87.at (i := 4) (j := 0) rfl rfl).lt, by simp⟩) (fun b hb => rfl)
                refine ⟨hh106, ?_⟩
                refine dq (v := .tuple [.agg ([.int .i64 parts, (.slice av106 lv106 cv106)] : List Value).toArray, .int .i64 0].toArray) (o_mv rfl) ?_
                refine dq (v := .agg ([.int .i64 parts, (.slice av106 lv106 cv106)] : List Value).toArray) (o_ext rfl rfl) ?_
                refine dq (v := .int .i64 0) (o_ext rfl rfl) ?_
                refine dl (m_alU hM106 fun b107 w108 hup108 (hM108 : Mem w [] w108 [[⟨b2, 24, [.int .i64 parts, x]⟩], r5_, rs11, r11_, [⟨b81, 36, [.int .i64 (spaceF (List.map Pr.p ps)), .int .i64 ((pagesF (bodyF parts (List.map Pr.p ps))).length : Nat)]⟩], rs106, NS106, [⟨b107, 24, [.int .i64 0, .slice none 0 0]⟩]]) => ?_)
                have hh108 := held_upd (wr := wd) (bs := [b81]) hup108 (fun b hb => by
                  simp only [List.mem_cons, List.not_mem_nil, or_false] at hb
                  rw [hb]; exact ⟨(hM106.at (i := 4) (j := 0) rfl rfl).lt, by simp⟩) hh106
                refine ⟨hh108, ?_⟩
                refine dl (m_stAU (l := [.int .i64 parts, (.slice av106 lv106 cv106)]) hM108 (i := 7) rfl rfl rfl rfl (by simp [oneCells, Value.oneCell', byteV]) (by simp) fun w109 hup109 (hM109 : Mem w [] w109 [[⟨b2, 24, [.int .i64 parts, x]⟩], r5_, rs11, r11_, [⟨b81, 36, [.int .i64 (spaceF (List.map Pr.p ps)), .int .i64 ((pagesF (bodyF parts (List.map Pr.p ps))).length : Nat)]⟩], rs106, NS106, [⟨b107, 24, [.int .i64 parts, (.slice av106 lv106 cv106)]⟩]]) => ?_)
                have hh109 := held_upd (wr := wd) (bs := [b81]) hup109 (fun b hb => by
                  simp only [List.mem_cons, List.not_mem_nil, or_false] at hb
                  rw [hb]; exact ⟨(hM108.at (i := 4) (j := 0) rfl rfl).lt, hM108.apart (i := 4) (j := 0) (k := 7) rfl rfl rfl (by decide)⟩) hh108
                refine ⟨hh109, ?_⟩
                refine dq (v := .int .i64 0) (o_mv rfl) ?_
                refine h86 _ _ ?_
                clear h86
                refine seq fun K110 h110 => ?_
                refine seq fun K111 h111 => ?_
                refine stp (v := .bool false) (o_mv rfl) ?_
                refine stp (v := .bool true) (o_not rfl rfl) ?_
                refine h111 _ _ ?_
                clear h111
                refine cndT rfl ?_
                refine seq fun K112 h112 => ?_
                refine stp (v := .int .i64 0) (o_mv rfl) ?_
                refine stp (v := .bool true) (o_bin rfl rfl v_eqT) ?_
                refine stp (v := .bool true) (o_mv rfl) ?_
                refine splitT rfl ?_
                refine gyesl rfl ?_
                refine m_ldA (l := [.int .i64 parts, (.slice av106 lv106 cv106)]) hM109 (i := 7) (j := 0) rfl rfl rfl rfl rfl ?_
                refine gyesl rfl ?_
                refine m_ldA (l := [.int .i64 parts, x]) hM109 (i := 0) (j := 0) rfl rfl rfl rfl rfl ?_
                refine gyesl rfl ?_
                refine m_call (sameFoot_eq parts _ _ ps106 ps w109 (hs106.rd hM109 (i := 5) rfl) (hN106 _ (hM109.res (i := 6) rfl).1) (hx.upd hM109.upd) (fun p hp => (hok p hp).upd hM109.upd) (by omega) hq9) rfl fun v113 w113 ⟨hr113, hu113⟩ => ?_
                have hM113 : Mem w [] w113 [[⟨b2, 24, [.int .i64 parts, x]⟩], r5_, rs11, r11_, [⟨b81, 36, [.int .i64 (spaceF (List.map Pr.p ps)), .int .i64 ((pagesF (bodyF parts (List.map Pr.p ps))).length : Nat)]⟩], rs106, NS106, [⟨b107, 24, [.int .i64 parts, (.slice av106 lv106 cv106)]⟩]] := hM109.pure hu113
                subst hr113
                refine stp (v := .bool true) (o_pickT rfl rfl) ?_
                refine stp (v := .bool true) (o_mv rfl) ?_
                refine splitT rfl ?_
                refine gyesl rfl ?_
                refine m_call (head_ok w113) rfl fun v114 w114 ⟨hr114, hu114⟩ => ?_
                have hM114 : Mem w [] w114 [[⟨b2, 24, [.int .i64 parts, x]⟩], r5_, rs11, r11_, [⟨b81, 36, [.int .i64 (spaceF (List.map Pr.p ps)), .int .i64 ((pagesF (bodyF parts (List.map Pr.p ps))).length : Nat)]⟩], rs106, NS106, [⟨b107, 24, [.int .i64 parts, (.slice av106 lv106 cv106)]⟩]] := hM113.pure hu114
                subst hr114
                refine stp (v := .bool true) (o_pickT rfl rfl) ?_
                refine stp (v := .bool true) (o_mv rfl) ?_
                refine h112 _ _ ?_
                clear h112
                refine ⟨(.bool true), rfl, ?_⟩
                first | exact ⟨rfl, hM114.upd⟩ | (exfalso; omega)
              ·
                show vd _ _ _ _ _ _ _
                refine dl (m_alU hM87 fun b115 w116 hup116 (hM116 : Mem w [] w116 [[⟨b2, 24, [.int .i64 parts, x]⟩], r5_, rs11, r11_, [⟨b81, 36, [.int .i64 (spaceF (List.map Pr.p ps)), .int .i64 ((pagesF (bodyF parts (List.map Pr.p ps))).length : Nat)]⟩], [⟨b115, 24, [.int .i64 0, .slice none 0 0]⟩]]) => ?_)
                have hh116 := held_upd (wr := wd) (bs := [b81]) hup116 (fun b hb => by
                  simp only [List.mem_cons, List.not_mem_nil, or_false] at hb
                  rw [hb]; exact ⟨(hM87.at (i := 4) (j := 0) rfl rfl).lt, by simp⟩) (fun b hb => rfl)
                refine ⟨hh116, ?_⟩
                refine dl (m_call (Decode_ok (spaceF (List.map Pr.p ps)) ((pagesF (bodyF parts (List.map Pr.p ps))).length : Nat) _ (bb.take (pagesF (bodyF parts (List.map Pr.p ps))).length) w116 (by simp only [inK]; omega) (by simp only [inK]; omega) (hu105'.rd hM116 (i := 1) rfl) (by rw [List.length_take]; omega)) rfl fun v117 w117 ⟨P117, v117_, ps117, rs117, NS117, e117, hr117, hs117, hN117, hP117, hpl117, hsp117, hm117⟩ => ?_)
                have hM117 : Mem w [] w117 [[⟨b2, 24, [.int .i64 parts, x]⟩], r5_, rs11, r11_, [⟨b81, 36, [.int .i64 (spaceF (List.map Pr.p ps)), .int .i64 ((pagesF (bodyF parts (List.map Pr.p ps))).length : Nat)]⟩], [⟨b115, 24, [.int .i64 0, .slice none 0 0]⟩], rs117, NS117] := hM116.add2 hm117
                rw [(hD.2.2.1 rfl).1, List.take_left] at hsp117
                obtain ⟨he9, hP9, hq9⟩ := dc_back hft hm hsp117
                rw [he9, hP9] at hr117
                subst hr117
                obtain ⟨av117, lv117, cv117, rfl⟩ := hs117.isSlice
                have hh117 := held_upd (wr := wd) (bs := [b81]) hm117.upd (fun b hb => by
                  simp only [List.mem_cons, List.not_mem_nil, or_false] at hb
                  rw [hb]; exact ⟨(hM116.at (i := 4) (j := 0) rfl rfl).lt, by simp⟩) hh116
                refine ⟨hh117, ?_⟩
                refine dq (v := .tuple [.agg ([.int .i64 parts, (.slice av117 lv117 cv117)] : List Value).toArray, .int .i64 0].toArray) (o_mv rfl) ?_
                refine dq (v := .agg ([.int .i64 parts, (.slice av117 lv117 cv117)] : List Value).toArray) (o_ext rfl rfl) ?_
                refine dq (v := .int .i64 0) (o_ext rfl rfl) ?_
                refine dl (m_stAU (l := [.int .i64 parts, (.slice av117 lv117 cv117)]) hM117 (i := 5) rfl rfl rfl rfl (by simp [oneCells, Value.oneCell', byteV]) (by simp) fun w118 hup118 (hM118 : Mem w [] w118 [[⟨b2, 24, [.int .i64 parts, x]⟩], r5_, rs11, r11_, [⟨b81, 36, [.int .i64 (spaceF (List.map Pr.p ps)), .int .i64 ((pagesF (bodyF parts (List.map Pr.p ps))).length : Nat)]⟩], [⟨b115, 24, [.int .i64 parts, (.slice av117 lv117 cv117)]⟩], rs117, NS117]) => ?_)
                have hh118 := held_upd (wr := wd) (bs := [b81]) hup118 (fun b hb => by
                  simp only [List.mem_cons, List.not_mem_nil, or_false] at hb
                  rw [hb]; exact ⟨(hM117.at (i := 4) (j := 0) rfl rfl).lt, hM117.apart (i := 4) (j := 0) (k := 5) rfl rfl rfl (by decide)⟩) hh117
                refine ⟨hh118, ?_⟩
                refine dq (v := .int .i64 0) (o_mv rfl) ?_
                refine h86 _ _ ?_
                clear h86
                refine seq fun K119 h119 => ?_
                refine seq fun K120 h120 => ?_
                refine stp (v := .bool false) (o_mv rfl) ?_
                refine stp (v := .bool true) (o_not rfl rfl) ?_
                refine h120 _ _ ?_
                clear h120
                refine cndT rfl ?_
                refine seq fun K121 h121 => ?_
                refine stp (v := .int .i64 0) (o_mv rfl) ?_
                refine stp (v := .bool true) (o_bin rfl rfl v_eqT) ?_
                refine stp (v := .bool true) (o_mv rfl) ?_
                refine splitT rfl ?_
                refine gyesl rfl ?_
                refine m_ldA (l := [.int .i64 parts, (.slice av117 lv117 cv117)]) hM118 (i := 5) (j := 0) rfl rfl rfl rfl rfl ?_
                refine gyesl rfl ?_
                refine m_ldA (l := [.int .i64 parts, x]) hM118 (i := 0) (j := 0) rfl rfl rfl rfl rfl ?_
                refine gyesl rfl ?_
                refine m_call (sameFoot_eq parts _ _ ps117 ps w118 (hs117.rd hM118 (i := 6) rfl) (hN117 _ (hM118.res (i := 7) rfl).1) (hx.upd hM118.upd) (fun p hp => (hok p hp).upd hM118.upd) (by omega) hq9) rfl fun v122 w122 ⟨hr122, hu122⟩ => ?_
                have hM122 : Mem w [] w122 [[⟨b2, 24, [.int .i64 parts, x]⟩], r5_, rs11, r11_, [⟨b81, 36, [.int .i64 (spaceF (List.map Pr.p ps)), .int .i64 ((pagesF (bodyF parts (List.map Pr.p ps))).length : Nat)]⟩], [⟨b115, 24, [.int .i64 parts, (.slice av117 lv117 cv117)]⟩], rs117, NS117] := hM118.pure hu122
                subst hr122
                refine stp (v := .bool true) (o_pickT rfl rfl) ?_
                refine stp (v := .bool true) (o_mv rfl) ?_
                refine splitT rfl ?_
                refine gyesl rfl ?_
                refine m_call (head_ok w122) rfl fun v123 w123 ⟨hr123, hu123⟩ => ?_
                have hM123 : Mem w [] w123 [[⟨b2, 24, [.int .i64 parts, x]⟩], r5_, rs11, r11_, [⟨b81, 36, [.int .i64 (spaceF (List.map Pr.p ps)), .int .i64 ((pagesF (bodyF parts (List.map Pr.p ps))).length : Nat)]⟩], [⟨b115, 24, [.int .i64 parts, (.slice av117 lv117 cv117)]⟩], rs117, NS117] := hM122.pure hu123
                subst hr123
                refine stp (v := .bool true) (o_pickT rfl rfl) ?_
                refine stp (v := .bool true) (o_mv rfl) ?_
                refine h121 _ _ ?_
                clear h121
                refine ⟨(.bool true), rfl, ?_⟩
                first | exact ⟨rfl, hM123.upd⟩ | (exfalso; omega)

theorem FootDamage_ok (f : Ft) (y : Value) (bus : List Bu) (w : World) (hf : f.ok w) (hy : RdS buC w y bus) (hbu : ∀ b ∈ bus, b.ok) (hbl : bus.length * 24 ≤ 140737488351232) : Calls Try.prog 12 [.agg (ftC f).toArray, y].toArray w (Rt fun r w' => r = .bool true ∧ Upd [] w w') := by
  by_cases h : (encT f.parts (f.ps.map Pr.p)).2 = 0
  · exact FootDamage_yes f y bus w hf hy hbu hbl h
  · exact FootDamage_no f y bus w hf hy hbu hbl h
