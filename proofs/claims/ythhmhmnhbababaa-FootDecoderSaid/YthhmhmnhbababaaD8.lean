/- Footers read: blocks. -/
import Derived.Test.YthhmhmnhbababaaD7
import Derived.Test.YthhmhmnhbababaaE23
namespace Go.Proofs.Ythhmhmnhbababaa.E
open Go
def NumR (b : List UInt8) (a : Nat) (e m V : Int) (a' : Nat) (e' : Int) : Prop := (0 ≤ V ∧ V ≤ m) ∧ ∀ v R, e = 0 → b.drop a = putI v ++ R → 0 ≤ v → v ≤ m → v ≤ 9223372036854775807 → V = v ∧ e' = 0 ∧ b.drop a' = R
def TxR (b : List UInt8) (a : Nat) (e m : Int) (T : List UInt8) (a' : Nat) (e' : Int) : Prop := ((T.length : Int) ≤ m ∧ T.length ≤ b.length) ∧ ∀ t R, e = 0 → b.drop a = putI (t.length : Nat) ++ (t ++ R) → (t.length : Int) ≤ m → t.length ≤ 9223372036854775807 → T = t ∧ e' = 0 ∧ b.drop a' = R
theorem cNum_R (b : List UInt8) (a : Nat) (e m : Int) (hm : 0 ≤ m) : NumR b a e m (cNum b a e m) (cNumA b a e m) (cNumE b a e m) := by
 refine ⟨?_, ?_⟩
 ·unfold cNum
  split
  ·unfold numV
   split
   ·rename_i h
    refine ⟨by omega, ?_⟩
    apply Decidable.byContradiction; intro k
    have := (num_much (numE_get h) (by omega : m < _)).1
    omega
   omega
  omega
 rintro v R rfl h h0 hv h9
 have hg := get_put h0 h9 R
 rw [← h] at hg
 have hE : numE (b.drop a) m = 0 := by unfold numE; rw [hg]; simp only [if_pos]; rw [if_neg (by omega)]
 have hA : cNumA b a 0 m = a + (putI v).length := by simp only [cNumA, if_pos]; rw [if_pos ⟨trivial, hE⟩, hg]
 refine ⟨?_, ?_, ?_⟩
 ·simp only [cNum, if_pos, numV]; rw [if_pos hE, hg]; simp only []; omega
 ·simp only [cNumE, if_pos]; exact hE
 rw [hA, ← List.drop_drop, h, List.drop_left]
theorem cTx_R (b : List UInt8) (a : Nat) (e m : Int) (hm : 0 ≤ m) : TxR b a e m (cTx b a e m) (cTxA b a e m) (cTxE b a e m) := by
 refine ⟨?_, ?_⟩
 ·unfold cTx
  split
  ·by_cases c : (get (b.drop a)).2.2 = 0
   ·by_cases c1 : m < ((get (b.drop a)).1 : Int)
    ·rw [(tx_much c c1).2.2]; simp; omega
    by_cases c2 : ((b.drop a).length : Int) - (get (b.drop a)).2.1 < ((get (b.drop a)).1 : Int)
    ·rw [(tx_short c c1 c2).2.2]; simp; omega
    rw [(tx_fine c c1 c2).2.2, List.length_take, List.length_drop, List.length_drop]; omega
   rw [(tx_bad (m := m) c).2.2]; simp; omega
  simp; omega
 rintro t R rfl h hv h9
 have hg := get_put (v := (t.length : Nat)) (by omega) (by omega) (t ++ R)
 rw [← h] at hg
 have hl := congrArg List.length h
 rw [List.length_append, List.length_append] at hl
 have h1 : (get (b.drop a)).1 = t.length := by rw [hg]; simp
 have h2 : (get (b.drop a)).2.1 = (putI (t.length : Nat)).length := by rw [hg]
 have hf := tx_fine (l := b.drop a) (m := m) (by rw [hg]) (by omega) (by omega)
 refine ⟨?_, ?_, ?_⟩
 ·simp only [cTx, if_pos]; rw [hf.2.2, h2, h1, h, List.drop_left, List.take_left]
 ·simp only [cTxE, if_pos]; exact hf.1
 have hA : cTxA b a 0 m = a + ((putI (t.length : Nat)).length + t.length) := by simp only [cTxA, if_pos]; rw [if_pos ⟨trivial, hf.1⟩, hf.2.1, h1, h2]
 rw [hA, ← List.drop_drop, h, ← List.drop_drop, List.drop_left, List.drop_left]
theorem NumN_ok (bc : Nat) (b : List UInt8) (a : Nat) (e m : Int) (r0 : List Ent) (w : World) (hc : CurS bc b a e r0) (hr : Res w r0) (hl : b.length ≤ 140737488355328) (hm : 0 ≤ m) : Calls Try.prog 84 [.pointer (some ⟨bc, 0, none⟩), .int .i64 m].toArray w (Rt fun r w' => ∃ V a' e' r', r = .int .i64 V ∧ NumR b a e m V a' e' ∧ CurS bc b a' e' r' ∧ Mem w (ids r0) w' [r']) :=
 (Num_ok bc b a e m r0 w hc hr hl).mono fun en w2 h => h.elim fun v h => ⟨v, h.1, by
  obtain ⟨h1, r2, h2, h3⟩ := h.2
  exact ⟨_, _, _, r2, h1, cNum_R b a e m hm, h2, h3⟩⟩
theorem TextN_ok (bc : Nat) (b : List UInt8) (a : Nat) (e m : Int) (r0 : List Ent) (w : World) (hc : CurS bc b a e r0) (hr : Res w r0) (hl : b.length ≤ 140737488355328) (hm : 0 ≤ m) : Calls Try.prog 87 [.pointer (some ⟨bc, 0, none⟩), .int .i64 m].toArray w (Rt fun r w' => ∃ V a' e' r', r = .string (str V) ∧ TxR b a e m V a' e' ∧ CurS bc b a' e' r' ∧ Mem w (ids r0) w' [r']) :=
 (Text_ok bc b a e m r0 w hc hr hl).mono fun en w2 h => h.elim fun v h => ⟨v, h.1, by
  obtain ⟨h1, r2, h2, h3⟩ := h.2
  exact ⟨_, _, _, r2, h1, cTx_R b a e m hm, h2, h3⟩⟩
def BlSpec (b : List UInt8) (a0 : Nat) (e0 : Int) (bl : List Bi) (a' : Nat) (e' : Int) : Prop := ∀ BL R, e0 = 0 → b.drop a0 = putI (BL.length : Nat) ++ (bksB [] BL ++ R) → blsOk [] BL → BL.length ≤ 262144 → e' = 0 ∧ BL = bl ∧ b.drop a' = R
def BlInv (b : List UInt8) (a0 : Nat) (e0 : Int) (a : Nat) (e n : Int) (key : List UInt8) (L : List Bi) : Prop := ∀ BL R, e0 = 0 → b.drop a0 = putI (BL.length : Nat) ++ (bksB [] BL ++ R) → blsOk [] BL → BL.length ≤ 262144 → e = 0 ∧ ∃ B2, BL = L ++ B2 ∧ n = (B2.length : Nat) ∧ b.drop a = bksB key B2 ++ R ∧ blsOk key B2
theorem BlInv.init {b : List UInt8} {a0 a : Nat} {e0 e V : Int} (h : NumR b a0 e0 262144 V a e) : BlInv b a0 e0 a e V [] [] := by
 intro BL R h0 hb hk hl
 obtain ⟨h1, h2, h3⟩ := h.2 _ _ h0 hb (by omega) (by omega) (by omega)
 exact ⟨h2, BL, rfl, h1, h3, hk⟩
theorem putAll_cons (v : Int) (l : List Int) : putAll (v :: l) = putI v ++ putAll l := by unfold putAll; rw [List.flatMap_cons]
theorem putAll_nil : putAll [] = [] := rfl
theorem common_cut {key cut : List UInt8} : key.take (common key cut) ++ cut.drop (common key cut) = cut := by
 rw [(common_le key cut).2.2.1, List.take_append_drop]
theorem BlInv.step {b : List UInt8} {a0 a a1 a2 a3 a4 a5 : Nat} {e0 e e1 e2 e3 e4 e5 n V1 V2 V3 V4 : Int} {key T : List UInt8} {L : List Bi} (h : BlInv b a0 e0 a e n key L) (hn : 0 < n)
 (h1 : NumR b a e 65536 V1 a1 e1) (h2 : NumR b a1 e1 65536 V2 a2 e2) (h3 : NumR b a2 e2 65536 V3 a3 e3) (h4 : NumR b a3 e3 (key.length : Nat) V4 a4 e4) (h5 : TxR b a4 e4 64 T a5 e5) :
 BlInv b a0 e0 a5 e5 (n - 1) (key.take V4.toNat ++ T) (L ++ [⟨V1, V2, V3, key.take V4.toNat ++ T⟩]) := by
 intro BL R h0 hb hk hl
 obtain ⟨he, B2, rfl, rfl, hd, hk2⟩ := h BL R h0 hb hk hl
 cases B2 with
 | nil => simp at hn
 | cons B B2 =>
  obtain ⟨⟨hB, -⟩, hk3⟩ := hk2
  unfold blkOk at hB
  obtain ⟨hcl, hcl2, -, -⟩ := common_le key B.cut
  have hk2 : bksB key (B :: B2) = bkB key B ++ bksB B.cut B2 := rfl
  rw [hk2] at hd
  unfold bkB at hd
  simp only [putAll_cons, putAll_nil, List.append_nil, List.append_assoc] at hd
  obtain ⟨rfl, k1, d1⟩ := h1.2 _ _ he hd (by omega) (by omega) (by omega)
  obtain ⟨rfl, k2, d2⟩ := h2.2 _ _ k1 d1 (by omega) (by omega) (by omega)
  obtain ⟨rfl, k3, d3⟩ := h3.2 _ _ k2 d2 (by omega) (by omega) (by omega)
  obtain ⟨rfl, k4, d4⟩ := h4.2 _ _ k3 d3 (by omega) (by omega) (by omega)
  have hdl : ((B.cut.drop (common key B.cut)).length : Int) = (B.cut.length : Nat) - (common key B.cut : Nat) := by rw [List.length_drop]; omega
  rw [← hdl] at d4
  obtain ⟨rfl, k5, d5⟩ := h5.2 _ _ k4 d4 (by omega) (by omega)
  rw [Int.toNat_natCast, common_cut]
  exact ⟨k5, B2, by simp, by simp, d5, hk3⟩
theorem BlInv.done {b : List UInt8} {a0 a : Nat} {e0 e n : Int} {key : List UInt8} {L : List Bi} (h : BlInv b a0 e0 a e n key L) (hn : n ≤ 0 ∨ restV b a e ≤ 0) : BlSpec b a0 e0 L a e := by
 intro BL R h0 hb hk hl
 obtain ⟨he, B2, rfl, rfl, hd, hk2⟩ := h BL R h0 hb hk hl
 cases B2 with
 | nil => exact ⟨he, by simp, hd⟩
 | cons B B2 =>
  exfalso
  have hB := hk2.1.1
  unfold blkOk at hB
  have hk2 : bksB key (B :: B2) = bkB key B ++ bksB B.cut B2 := rfl
  rw [hk2] at hd
  unfold bkB at hd
  simp only [putAll_cons, putAll_nil, List.append_nil, List.append_assoc] at hd
  have hl1 := congrArg List.length hd
  have hp := putI_pos (v := B.st) (by omega)
  rw [List.length_append, List.length_drop] at hl1
  unfold restV at hn
  rw [if_pos he, List.length_cons] at hn
  omega
theorem blocks_ok (bc : Nat) (b : List UInt8) (a : Nat) (e : Int) (r0 : List Ent) (w : World) (hc : CurS bc b a e r0) (hr : Res w r0) (hl : b.length ≤ 140737488351232) : Calls Try.prog 89 [.pointer (some ⟨bc, 0, none⟩)].toArray w (Rt fun r w' => ∃ v r' rs bl a' e', r = v ∧ CurS bc b a' e' r' ∧ SlS biC 4 74 v bl rs ∧ (∀ x ∈ bl, x.ok) ∧ bl.length ≤ 262144 ∧ BlSpec b a e bl a' e' ∧ Mem w (ids r0) w' [r', rs]) := by
 have hM0 : Mem w (ids r0) w [r0] := Mem.start hr
 refine calls_vc mixed Try.func89 rfl C89 (by simp [Try.ntmps89]) <| seq fun _ h1 => mv <| h1 _ _ <| seq fun _ h2 => mv <| h2 _ _ <| seq fun _ h3 => mv <| h3 _ _ <| seq fun _ h4 => seq fun _ h5 => mv <| m_call (NumN_ok _ b a e 262144 r0 w hc (hM0.res (i := 0) rfl) (by first | omega | (simp; done) | (simp; omega)) (by omega)) rfl fun v6 w6 ⟨V6, a6_, e6_, r'6, hr6, hn6, hc6, hm6⟩ => ?_
 have hM6 : Mem w (ids r0) w6 [r'6] := hM0.step 0 rfl hm6
 subst hr6
 have hb6 := hn6.1
 refine mv <| h5 _ _ ?_
 have hM7 : Mem w (ids r0) w6 [r'6, []] := hM6.addNil
 have hs7 : SlS biC 4 74 (.slice none 0 0) [] [] := Sl.nil 4 74
 refine lp (n := fun _ _ => False) (ι := (Nat) × (Int) × (List Ent) × (Int) × (List UInt8) × (List Bi) × (Value) × (List Ent)) (fun ⟨a2, e2, rc, n, key, L, y3_, r3_⟩ f w' => f 0 = .pointer (some ⟨bc, 0, none⟩) ∧ f 3 = y3_ ∧ f 4 = .string (str key) ∧ f 5 = .int .i64 n ∧ Mem w (ids r0) w' [rc, r3_] ∧ (CurS bc b a2 e2 rc) ∧ (0 ≤ n ∧ (L.length : Int) + n ≤ 262144) ∧ (key.length ≤ 64 * L.length) ∧ (∀ x ∈ L, x.ok) ∧ (BlInv b a e a2 e2 n key L) ∧ (SlS biC 4 74 y3_ (L) r3_)) (fun ⟨a2, e2, rc, n, key, L, y3_, r3_⟩ => n.toNat) (a6_, e6_, r'6, V6, [], [], ((.slice none 0 0)), ([])) ?_ ?_
 ·exact ⟨rfl, rfl, by first | rfl | simp [upd], vi, hM7, hc6, by simp; omega, by simp, by simp, BlInv.init hn6, by first | exact hs7 | simpa using hs7⟩
 rintro ⟨a2, e2, rc, n, key, L, y3_, r3_⟩ f w8 ⟨e8_0, e8_3, e8_4, e8_5, hM8, hcl, hn, hkl, hok, hI, hy3_⟩ K9 h9
 obtain ⟨frm, rfl⟩ := re4 e8_0 e8_3 e8_4 e8_5
 refine seq fun _ h10 => seq fun _ h11 => mv <| bn rfl rfl <| mv <| splitP rfl (fun c12 => ?_) (fun c12 => ?_)
 ·refine gmv rfl <| gyesl rfl <| m_call (Rest_ok _ b a2 e2 rc w8 hcl (hM8.res (i := 0) rfl) (by first | omega | (simp; done) | (simp; omega))) rfl fun v13 w13 ⟨hr13, hm13⟩ => ?_
  have hM13 : Mem w (ids r0) w13 [rc, r3_] := hM8.step 0 rfl hm13
  subst hr13
  refine gbn rfl rfl rfl <| pkT rfl <| h11 _ _ <| cndP rfl (fun c14 => ?_) (fun c14 => ?_)
  ·refine h10 _ _ <| seq fun _ h15 => seq fun _ h16 => mv <| m_call (NumN_ok _ b a2 e2 65536 rc w13 hcl (hM13.res (i := 0) rfl) (by first | omega | (simp; done) | (simp; omega)) (by omega)) rfl fun v17 w17 ⟨V17, a17_, e17_, r'17, hr17, hn17, hc17, hm17⟩ => ?_
   have hM17 : Mem w (ids r0) w17 [r'17, r3_] := hM13.step 0 rfl hm17
   subst hr17
   have hb17 := hn17.1
   refine mv <| m_call (NumN_ok _ b a17_ e17_ 65536 r'17 w17 hc17 (hM17.res (i := 0) rfl) (by first | omega | (simp; done) | (simp; omega)) (by omega)) rfl fun v18 w18 ⟨V18, a18_, e18_, r'18, hr18, hn18, hc18, hm18⟩ => ?_
   have hM18 : Mem w (ids r0) w18 [r'18, r3_] := hM17.step 0 rfl hm18
   subst hr18
   have hb18 := hn18.1
   refine mv <| m_call (NumN_ok _ b a18_ e18_ 65536 r'18 w18 hc18 (hM18.res (i := 0) rfl) (by first | omega | (simp; done) | (simp; omega)) (by omega)) rfl fun v19 w19 ⟨V19, a19_, e19_, r'19, hr19, hn19, hc19, hm19⟩ => ?_
   have hM19 : Mem w (ids r0) w19 [r'19, r3_] := hM18.step 0 rfl hm19
   subst hr19
   have hb19 := hn19.1
   refine stp (v := .agg ([.int .i64 V17, .int .i64 V18, .int .i64 V19, .string (str ([]))] : List Value).toArray) (o_bld rfl rfl) <| m_al hM19 fun b20 w21 (hM21 : Mem w (ids r0) w21 [r'19, r3_, [⟨b20, 74, [.int .i64 0, .int .i64 0, .int .i64 0, .string (str ([]))]⟩]]) => m_stA (l := [.int .i64 V17, .int .i64 V18, .int .i64 V19, .string (str ([]))]) hM21 (i := 2) rfl rfl rfl rfl (by simp [oneCells, Value.oneCell', byteV]) (by simp) fun w22 (hM22 : Mem w (ids r0) w22 [r'19, r3_, [⟨b20, 74, [.int .i64 V17, .int .i64 V18, .int .i64 V19, .string (str ([]))]⟩]]) => h16 _ _ <| seq fun _ h23 => mv <| mv <| stp (v := .int .i64 (key.length : Nat)) (o_lens rfl rfl) <| m_call (NumN_ok _ b a19_ e19_ (key.length : Nat) r'19 w22 hc19 (hM22.res (i := 0) rfl) (by first | omega | (simp; done) | (simp; omega)) (by omega)) rfl fun v24 w24 ⟨V24, a24_, e24_, r'24, hr24, hn24, hc24, hm24⟩ => ?_
   have hM24 : Mem w (ids r0) w24 [r'24, r3_, [⟨b20, 74, [.int .i64 V17, .int .i64 V18, .int .i64 V19, .string (str ([]))]⟩]] := hM22.step 0 rfl hm24
   subst hr24
   have hb24 := hn24.1
   refine mv <| h23 _ _ <| seq fun _ h25 => mv <| m_call (TextN_ok _ b a24_ e24_ 64 r'24 w24 hc24 (hM24.res (i := 0) rfl) (by first | omega | (simp; done) | (simp; omega)) (by omega)) rfl fun v26 w26 ⟨V26, a26_, e26_, r'26, hr26, hn26, hc26, hm26⟩ => ?_
   have hM26 : Mem w (ids r0) w26 [r'26, r3_, [⟨b20, 74, [.int .i64 V17, .int .i64 V18, .int .i64 V19, .string (str ([]))]⟩]] := hM24.step 0 rfl hm26
   subst hr26
   have hb26 := hn26.1
   refine mv <| h25 _ _ <| seq fun _ h27 => mv <| mv <| stp (v := .string (str ((key.take V24.toNat).drop 0))) (o_slcs (a := 0) (b := V24.toNat) rfl (by omega) ⟨_, v_int (by omega)⟩ rfl rfl) <| mv <| stp (v := .string (str (((key.take V24.toNat).drop 0) ++ V26))) (o_sadd rfl rfl (by first | omega | (simp; omega)) rfl) <| fa rfl <| m_st (v := .string (str (((key.take V24.toNat).drop 0) ++ V26))) hM26 (i := 2) rfl rfl rfl rfl (by simp) fun w28 (hM28 : Mem w (ids r0) w28 [r'26, r3_, [⟨b20, 74, [.int .i64 V17, .int .i64 V18, .int .i64 V19, .string (str (((key.take V24.toNat).drop 0) ++ V26))]⟩]]) => h27 _ _ <| seq fun _ h29 => fa rfl <| m_ld (v := .string (str (((key.take V24.toNat).drop 0) ++ V26))) hM28 (i := 2) (j := 0) rfl rfl rfl rfl ?_
   refine mv <| h29 _ _ <| mv <| m_ldA (l := [.int .i64 V17, .int .i64 V18, .int .i64 V19, .string (str (((key.take V24.toNat).drop 0) ++ V26))]) hM28 (i := 2) (j := 0) rfl rfl rfl rfl rfl <| m_app1S (enc := biC) (q := (⟨V17, V18, V19, ((key.take V24.toNat).drop 0) ++ V26⟩ : Bi)) hM28 (i := 1) rfl hy3_ rfl (by simp) (rfl) (rfl) (by first | omega | (simp; omega)) (by omega) fun v30 w30 r30 u30 (hs30 : SlS biC 4 74 v30 (L ++ [(⟨V17, V18, V19, ((key.take V24.toNat).drop 0) ++ V26⟩ : Bi)]) r30) (hM30 : Mem w (ids r0) w30 [r'26, r30, [⟨b20, 74, [.int .i64 V17, .int .i64 V18, .int .i64 V19, .string (str (((key.take V24.toNat).drop 0) ++ V26))]⟩]]) => mv <| h15 _ _ <| mv <| stp (v := .int .i64 (n - 1)) (o_bin rfl rfl (v_sub64 (by omega))) <| mv ?_
   refine h9 (a26_, e26_, r'26, n - 1, (key.take V24.toNat).drop 0 ++ V26, L ++ [(⟨V17, V18, V19, (key.take V24.toNat).drop 0 ++ V26⟩ : Bi)], v30, r30) _ _ ⟨rfl, rfl, by first | rfl | simp [upd], vi, hM30.keep (by simp), hc26, by rw [List.length_append]; simp only [List.length_cons, List.length_nil]; omega, by simp only [List.drop_zero, List.length_append, List.length_take, List.length_cons, List.length_nil]; omega, by
    intro x hx
    rcases List.mem_append.1 hx with h | h
    ·exact hok x h
    obtain rfl := List.mem_singleton.1 h
    refine ⟨by simp only [inK]; omega, by simp only [inK]; omega, by simp only [inK]; omega, ?_⟩
    simp only [List.drop_zero, List.length_append, List.length_take]; omega, by exact hI.step (by omega) hn17 hn18 hn19 hn24 hn26, by first | exact hs30 | simpa using hs30⟩ (by (try dsimp only); omega)
  refine h4 _ _ <| seq fun _ h31 => mv <| mv <| h31 _ _ <| ⟨y3_, rfl, ⟨_, _, _, _, _, _, rfl, hcl, hy3_, hok, by omega, hI.done (by omega), hM13.keep (by simp)⟩⟩
 refine gx rfl <| gxl rfl <| gx rfl <| pkF rfl <| h11 _ _ <| cndF rfl <| h4 _ _ <| seq fun _ h32 => mv <| mv <| h32 _ _ <| ⟨y3_, rfl, ⟨_, _, _, _, _, _, rfl, hcl, hy3_, hok, by omega, hI.done (by omega), hM8.keep (by simp)⟩⟩
