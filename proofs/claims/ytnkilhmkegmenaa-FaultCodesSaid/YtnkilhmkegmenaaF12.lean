/- Entries as bytes and back: the law. -/
import Derived.Test.YtnkilhmkegmenaaF11
namespace Go.Proofs.Ytnkilhmkegmenaa.E
open Go
theorem encE_2 (l : List Flt) : (encE l).2 = check l := by
  unfold encE; split
  · rename_i h; exact h.symm
  · rfl
theorem fm_len : ∀ {l : List Flt}, (∀ f ∈ l, (entB f).length ≤ 64) → (l.flatMap entB).length ≤ 64 * l.length
  | [], _ => by simp
  | f :: l, h => by
    have h1 := h f (by simp)
    have h2 := fm_len (l := l) fun g hg => h g (List.mem_cons_of_mem _ hg)
    rw [List.flatMap_cons, List.length_append, List.length_cons]; omega
theorem encE_len (l : List Flt) : (encE l).1.length ≤ 20000 := by
  unfold encE; split
  · rename_i h
    have hc := check_0 h
    have h1 := fm_len (l := l) fun f hf => entB_len (fine_good hc.2 f hf)
    have h2 := putI_len (v := ((l.length : Nat) : Int)) (by omega)
    simp only [List.length_append]; omega
  · simp
theorem takes_ok {l : List Flt} {n : Nat} (hok : ∀ f ∈ l, f.ok) : ∀ f ∈ l.take n, f.ok := fun f hf => hok f (List.mem_of_mem_take hf)

/-- winnowlaw16.FaultRound -/
theorem FaultRound_ok (x : Value) (l : List Flt) (y : Value) (b : List UInt8) (n : Int) (_hn : inK .i64 n) (w : World) (hx : RdS fltC w x l) (hok : ∀ f ∈ l, f.ok) (hl : l.length * 64 ≤ 140737488351232) (hy : RdE byteV w y b) (hb : b.length ≤ 140737488351232) : Calls Try.prog 9 [x, y, .int .i64 n].toArray w (Rt fun r w' => r = .bool true ∧ Upd [] w w') := by
  have hM0 : Mem w [] w [] := Mem.nil w []
  have hel := encE_len l
  have hdl := decV_len b
  have hdl2 := decV_len (encE l).1
  have hel2 := encE_len (decV b).1
  have he2 := encE_2 l
  refine calls_vc mixed Try.func9 rfl C9 (by simp [Try.ntmps9]) ?_
  refine seq fun K1 h1 => ?_
  refine stp (v := .bool false) (o_mv rfl) ?_
  refine h1 _ _ ?_
  clear h1
  refine seq fun K2 h2 => ?_
  refine stp (v := x) (o_mv rfl) ?_
  refine m_call (Encode_ok _ l w (hx.upd hM0.upd) (by first | exact hok | exact decV_ok _) (by omega)) rfl fun v3 w3 ⟨v3_, rs3, hr3, hs3, hm3⟩ => ?_
  have hM3 : Mem w [] w3 [rs3] := hM0.add hm3
  subst hr3
  refine stp (v := .tuple [v3_, .int .i64 ((encE l).2)].toArray) (o_mv rfl) ?_
  refine stp (v := v3_) (o_ext rfl rfl) ?_
  refine stp (v := .int .i64 ((encE l).2)) (o_ext rfl rfl) ?_
  refine stp (v := v3_) (o_mv rfl) ?_
  refine stp (v := .int .i64 ((encE l).2)) (o_mv rfl) ?_
  refine h2 _ _ ?_
  clear h2
  refine seq fun K4 h4 => ?_
  refine seq fun K5 h5 => ?_
  refine stp (v := .int .i64 ((encE l).2)) (o_mv rfl) ?_
  refine stp (v := .bool (decide (((encE l).2) = 0))) (o_bin rfl rfl rfl) ?_
  refine h5 _ _ ?_
  clear h5
  refine cndP rfl (fun c6 => ?_) (fun c6 => ?_)
  ·
    refine seq fun K7 h7 => ?_
    have hde := dec_enc hok (by omega : check l = 0)
    refine stp (v := v3_) (o_mv rfl) ?_
    refine m_call (Decode_ok _ ((encE l).1) w3 (hs3.rd hM3 (i := 0) rfl) (by omega)) rfl fun v8 w8 ⟨v8_, rs8, hr8, hs8, hm8⟩ => ?_
    have hM8 : Mem w [] w8 [rs3, rs8] := hM3.add hm8
    subst hr8
    refine stp (v := .tuple [v8_, .int .i64 ((decV ((encE l).1)).2)].toArray) (o_mv rfl) ?_
    refine stp (v := v8_) (o_ext rfl rfl) ?_
    refine stp (v := .int .i64 ((decV ((encE l).1)).2)) (o_ext rfl rfl) ?_
    refine stp (v := v8_) (o_mv rfl) ?_
    refine stp (v := .int .i64 ((decV ((encE l).1)).2)) (o_mv rfl) ?_
    refine h7 _ _ ?_
    clear h7
    refine seq fun K9 h9 => ?_
    refine stp (v := .int .i64 ((decV ((encE l).1)).2)) (o_mv rfl) ?_
    refine stp (v := .bool (decide (¬ ((decV ((encE l).1)).2) = 0))) (o_bin rfl rfl v_neq) ?_
    refine stp (v := .bool (decide (¬ ((decV ((encE l).1)).2) = 0))) (o_mv rfl) ?_
    refine splitP rfl (fun c10 => absurd c10 (by rw [hde]; simp)) (fun c10 => ?_)
    refine stg rfl (v := v8_) (o_mv rfl) ?_
    refine stg rfl (v := x) (o_mv rfl) ?_
    refine gyesl rfl ?_
    refine m_call (sameFaults_ok _ _ ((decV ((encE l).1)).1) l w8 (hs8.rd hM8 (i := 1) rfl) (hx.upd hM8.upd) ((by omega))) rfl fun v11 w11 ⟨hr11, hu11⟩ => ?_
    have hM11 : Mem w [] w11 [rs3, rs8] := hM8.pure hu11
    subst hr11
    refine stg rfl (v := .bool (decide (¬ (((decV ((encE l).1)).1) = l)))) (o_not rfl v_not) ?_
    refine stp (v := .bool (decide (¬ (((decV ((encE l).1)).1) = l)))) (o_pickF rfl rfl) ?_
    refine stp (v := .bool (decide (¬ (((decV ((encE l).1)).1) = l)))) (o_mv rfl) ?_
    refine splitP rfl (fun c12 => absurd c12 (by rw [hde]; simp)) (fun c12 => ?_)
    refine stg rfl (v := .int .i64 n) (o_mv rfl) ?_
    refine stg rfl (v := .bool (decide ((0 : Int) ≤ n))) (o_bin rfl rfl rfl) ?_
    refine stg rfl (v := .bool (decide ((0 : Int) ≤ n))) (o_mv rfl) ?_
    refine splitP rfl (fun c13 => ?_) (fun c13 => ?_)
    ·
      refine stg rfl (v := .int .i64 n) (o_mv rfl) ?_
      refine stg rfl (v := x) (o_mv rfl) ?_
      refine stg rfl (v := .int .i64 (l.length : Nat)) (o_lenR (hx.upd hM11.upd) rfl rfl) ?_
      refine stg rfl (v := .bool (decide (n ≤ (l.length : Nat)))) (o_bin rfl rfl rfl) ?_
      refine stg rfl (v := .bool (decide (n ≤ (l.length : Nat)))) (o_pickT rfl rfl) ?_
      refine stg rfl (v := .bool (decide (n ≤ (l.length : Nat)))) (o_mv rfl) ?_
      refine splitP rfl (fun c14 => ?_) (fun c14 => ?_)
      ·
        refine stg rfl (v := x) (o_mv rfl) ?_
        refine stg rfl (v := .int .i64 n) (o_mv rfl) ?_
        refine gyes rfl rfl (m_slcES (enc := fltC) 0 n.toNat (hx) rfl (by omega) (by omega) ⟨_, v_int (by omega)⟩ rfl fun u15 hu15 => ?_)
        refine gyesl rfl ?_
        refine m_call (Check_ok _ (l.take n.toNat) w11 ((hu15.upd hM11.upd)) (by first | exact hok | exact decV_ok _ | exact takes_ok hok) (by first | omega | (simp only [List.length_take]; omega))) rfl fun v16 w16 ⟨hr16, hu16⟩ => ?_
        have hM16 : Mem w [] w16 [rs3, rs8] := hM11.pure hu16
        subst hr16
        refine stg rfl (v := .bool false) (o_bin rfl rfl (by rw [check_take (by omega : check l = 0)]; rfl)) ?_
        refine stg rfl (v := .bool false) (o_pickT rfl rfl) ?_
        refine stp (v := .bool false) (o_pickF rfl rfl) ?_
        refine h9 _ _ ?_
        clear h9
        refine cndF rfl ?_
        refine h4 _ _ ?_
        clear h4
        refine seq fun K17 h17 => ?_
        refine stp (v := y) (o_mv rfl) ?_
        refine m_call (Decode_ok _ b w16 (hy.upd hM16.upd) (by omega)) rfl fun v18 w18 ⟨v18_, rs18, hr18, hs18, hm18⟩ => ?_
        have hM18 : Mem w [] w18 [rs3, rs8, rs18] := hM16.add hm18
        subst hr18
        refine stp (v := .tuple [v18_, .int .i64 ((decV b).2)].toArray) (o_mv rfl) ?_
        refine stp (v := v18_) (o_ext rfl rfl) ?_
        refine stp (v := .int .i64 ((decV b).2)) (o_ext rfl rfl) ?_
        refine stp (v := v18_) (o_mv rfl) ?_
        refine stp (v := .int .i64 ((decV b).2)) (o_mv rfl) ?_
        refine h17 _ _ ?_
        clear h17
        refine seq fun K19 h19 => ?_
        refine seq fun K20 h20 => ?_
        refine stp (v := .int .i64 ((decV b).2)) (o_mv rfl) ?_
        refine stp (v := .bool (decide (¬ ((decV b).2) = 0))) (o_bin rfl rfl v_neq) ?_
        refine h20 _ _ ?_
        clear h20
        refine cndP rfl (fun c21 => ?_) (fun c21 => ?_)
        ·
          refine seq fun K22 h22 => ?_
          refine stp (v := .int .i64 ((decV b).2)) (o_mv rfl) ?_
          refine stp (v := .bool (decide (((decV b).2) = 160))) (o_bin rfl rfl rfl) ?_
          refine stp (v := .bool (decide (((decV b).2) = 160))) (o_mv rfl) ?_
          refine splitP rfl (fun c23 => ?_) (fun c23 => (c23 (by rw [decV_no (by omega)])).elim)
          refine stg rfl (v := v18_) (o_mv rfl) ?_
          refine stg rfl (v := .int .i64 (((decV b).1).length : Nat)) (o_lenR (hs18.rd hM18 (i := 2) rfl) rfl rfl) ?_
          refine stg rfl (v := .bool (decide (((((decV b).1).length : Nat) : Int) = 0))) (o_bin rfl rfl rfl) ?_
          refine stp (v := .bool (decide (((((decV b).1).length : Nat) : Int) = 0))) (o_pickT rfl rfl) ?_
          refine stp (v := .bool (decide (((((decV b).1).length : Nat) : Int) = 0))) (o_mv rfl) ?_
          refine splitP rfl (fun c24 => ?_) (fun c24 => (c24 (by rw [decV_no (by omega)]; rfl)).elim)
          refine gyesl rfl ?_
          refine m_call (works_ok w18) rfl fun v25 w25 ⟨hr25, hu25⟩ => ?_
          have hM25 : Mem w [] w25 [rs3, rs8, rs18] := hM18.pure hu25
          subst hr25
          refine stp (v := .bool true) (o_pickT rfl rfl) ?_
          refine stp (v := .bool true) (o_mv rfl) ?_
          refine h22 _ _ ?_
          clear h22
          refine ⟨(.bool true), rfl, ?_⟩
          exact ⟨rfl, hM25.upd⟩
        ·
          refine h19 _ _ ?_
          clear h19
          refine seq fun K26 h26 => ?_
          refine stp (v := v18_) (o_mv rfl) ?_
          refine m_call (Encode_ok _ ((decV b).1) w18 (hs18.rd hM18 (i := 2) rfl) (by first | exact hok | exact decV_ok _) (by omega)) rfl fun v27 w27 ⟨v27_, rs27, hr27, hs27, hm27⟩ => ?_
          have hM27 : Mem w [] w27 [rs3, rs8, rs18, rs27] := hM18.add hm27
          subst hr27
          refine stp (v := .tuple [v27_, .int .i64 ((encE ((decV b).1)).2)].toArray) (o_mv rfl) ?_
          refine stp (v := v27_) (o_ext rfl rfl) ?_
          refine stp (v := .int .i64 ((encE ((decV b).1)).2)) (o_ext rfl rfl) ?_
          refine stp (v := v27_) (o_mv rfl) ?_
          refine stp (v := .int .i64 ((encE ((decV b).1)).2)) (o_mv rfl) ?_
          refine h26 _ _ ?_
          clear h26
          refine seq fun K28 h28 => ?_
          refine stp (v := .int .i64 ((encE ((decV b).1)).2)) (o_mv rfl) ?_
          refine stp (v := .bool (decide (((encE ((decV b).1)).2) = 0))) (o_bin rfl rfl rfl) ?_
          refine stp (v := .bool (decide (((encE ((decV b).1)).2) = 0))) (o_mv rfl) ?_
          refine splitP rfl (fun c29 => ?_) (fun c29 => (c29 (by rw [(enc_dec (by omega)).2])).elim)
          refine stg rfl (v := v27_) (o_mv rfl) ?_
          refine stg rfl (v := y) (o_mv rfl) ?_
          refine gyesl rfl ?_
          refine m_call (same_ok _ _ ((encE ((decV b).1)).1) b w27 (hs27.rd hM27 (i := 3) rfl) (hy.upd hM27.upd) (by first | omega | (simp; done) | (simp; omega))) rfl fun v30 w30 ⟨hr30, hu30⟩ => ?_
          have hM30 : Mem w [] w30 [rs3, rs8, rs18, rs27] := hM27.pure hu30
          subst hr30
          refine stp (v := .bool (decide (((encE ((decV b).1)).1) = b))) (o_pickT rfl rfl) ?_
          refine stp (v := .bool (decide (((encE ((decV b).1)).1) = b))) (o_mv rfl) ?_
          refine splitP rfl (fun c31 => ?_) (fun c31 => (c31 (by rw [(enc_dec (by omega)).2])).elim)
          refine gyesl rfl ?_
          refine m_call (works_ok w30) rfl fun v32 w32 ⟨hr32, hu32⟩ => ?_
          have hM32 : Mem w [] w32 [rs3, rs8, rs18, rs27] := hM30.pure hu32
          subst hr32
          refine stp (v := .bool true) (o_pickT rfl rfl) ?_
          refine stp (v := .bool true) (o_mv rfl) ?_
          refine h28 _ _ ?_
          clear h28
          refine ⟨(.bool true), rfl, ?_⟩
          exact ⟨rfl, hM32.upd⟩
      ·
        refine gno rfl (by simp) ?_
        refine gno rfl (by simp) ?_
        refine gno rfl (by simp) ?_
        refine gnol rfl (by simp) ?_
        refine gno rfl (by simp) ?_
        refine stg rfl (v := .bool false) (o_pickF rfl rfl) ?_
        refine stp (v := .bool false) (o_pickF rfl rfl) ?_
        refine h9 _ _ ?_
        clear h9
        refine cndF rfl ?_
        refine h4 _ _ ?_
        clear h4
        refine seq fun K33 h33 => ?_
        refine stp (v := y) (o_mv rfl) ?_
        refine m_call (Decode_ok _ b w11 (hy.upd hM11.upd) (by omega)) rfl fun v34 w34 ⟨v34_, rs34, hr34, hs34, hm34⟩ => ?_
        have hM34 : Mem w [] w34 [rs3, rs8, rs34] := hM11.add hm34
        subst hr34
        refine stp (v := .tuple [v34_, .int .i64 ((decV b).2)].toArray) (o_mv rfl) ?_
        refine stp (v := v34_) (o_ext rfl rfl) ?_
        refine stp (v := .int .i64 ((decV b).2)) (o_ext rfl rfl) ?_
        refine stp (v := v34_) (o_mv rfl) ?_
        refine stp (v := .int .i64 ((decV b).2)) (o_mv rfl) ?_
        refine h33 _ _ ?_
        clear h33
        refine seq fun K35 h35 => ?_
        refine seq fun K36 h36 => ?_
        refine stp (v := .int .i64 ((decV b).2)) (o_mv rfl) ?_
        refine stp (v := .bool (decide (¬ ((decV b).2) = 0))) (o_bin rfl rfl v_neq) ?_
        refine h36 _ _ ?_
        clear h36
        refine cndP rfl (fun c37 => ?_) (fun c37 => ?_)
        ·
          refine seq fun K38 h38 => ?_
          refine stp (v := .int .i64 ((decV b).2)) (o_mv rfl) ?_
          refine stp (v := .bool (decide (((decV b).2) = 160))) (o_bin rfl rfl rfl) ?_
          refine stp (v := .bool (decide (((decV b).2) = 160))) (o_mv rfl) ?_
          refine splitP rfl (fun c39 => ?_) (fun c39 => (c39 (by rw [decV_no (by omega)])).elim)
          refine stg rfl (v := v34_) (o_mv rfl) ?_
          refine stg rfl (v := .int .i64 (((decV b).1).length : Nat)) (o_lenR (hs34.rd hM34 (i := 2) rfl) rfl rfl) ?_
          refine stg rfl (v := .bool (decide (((((decV b).1).length : Nat) : Int) = 0))) (o_bin rfl rfl rfl) ?_
          refine stp (v := .bool (decide (((((decV b).1).length : Nat) : Int) = 0))) (o_pickT rfl rfl) ?_
          refine stp (v := .bool (decide (((((decV b).1).length : Nat) : Int) = 0))) (o_mv rfl) ?_
          refine splitP rfl (fun c40 => ?_) (fun c40 => (c40 (by rw [decV_no (by omega)]; rfl)).elim)
          refine gyesl rfl ?_
          refine m_call (works_ok w34) rfl fun v41 w41 ⟨hr41, hu41⟩ => ?_
          have hM41 : Mem w [] w41 [rs3, rs8, rs34] := hM34.pure hu41
          subst hr41
          refine stp (v := .bool true) (o_pickT rfl rfl) ?_
          refine stp (v := .bool true) (o_mv rfl) ?_
          refine h38 _ _ ?_
          clear h38
          refine ⟨(.bool true), rfl, ?_⟩
          exact ⟨rfl, hM41.upd⟩
        ·
          refine h35 _ _ ?_
          clear h35
          refine seq fun K42 h42 => ?_
          refine stp (v := v34_) (o_mv rfl) ?_
          refine m_call (Encode_ok _ ((decV b).1) w34 (hs34.rd hM34 (i := 2) rfl) (by first | exact hok | exact decV_ok _) (by omega)) rfl fun v43 w43 ⟨v43_, rs43, hr43, hs43, hm43⟩ => ?_
          have hM43 : Mem w [] w43 [rs3, rs8, rs34, rs43] := hM34.add hm43
          subst hr43
          refine stp (v := .tuple [v43_, .int .i64 ((encE ((decV b).1)).2)].toArray) (o_mv rfl) ?_
          refine stp (v := v43_) (o_ext rfl rfl) ?_
          refine stp (v := .int .i64 ((encE ((decV b).1)).2)) (o_ext rfl rfl) ?_
          refine stp (v := v43_) (o_mv rfl) ?_
          refine stp (v := .int .i64 ((encE ((decV b).1)).2)) (o_mv rfl) ?_
          refine h42 _ _ ?_
          clear h42
          refine seq fun K44 h44 => ?_
          refine stp (v := .int .i64 ((encE ((decV b).1)).2)) (o_mv rfl) ?_
          refine stp (v := .bool (decide (((encE ((decV b).1)).2) = 0))) (o_bin rfl rfl rfl) ?_
          refine stp (v := .bool (decide (((encE ((decV b).1)).2) = 0))) (o_mv rfl) ?_
          refine splitP rfl (fun c45 => ?_) (fun c45 => (c45 (by rw [(enc_dec (by omega)).2])).elim)
          refine stg rfl (v := v43_) (o_mv rfl) ?_
          refine stg rfl (v := y) (o_mv rfl) ?_
          refine gyesl rfl ?_
          refine m_call (same_ok _ _ ((encE ((decV b).1)).1) b w43 (hs43.rd hM43 (i := 3) rfl) (hy.upd hM43.upd) (by first | omega | (simp; done) | (simp; omega))) rfl fun v46 w46 ⟨hr46, hu46⟩ => ?_
          have hM46 : Mem w [] w46 [rs3, rs8, rs34, rs43] := hM43.pure hu46
          subst hr46
          refine stp (v := .bool (decide (((encE ((decV b).1)).1) = b))) (o_pickT rfl rfl) ?_
          refine stp (v := .bool (decide (((encE ((decV b).1)).1) = b))) (o_mv rfl) ?_
          refine splitP rfl (fun c47 => ?_) (fun c47 => (c47 (by rw [(enc_dec (by omega)).2])).elim)
          refine gyesl rfl ?_
          refine m_call (works_ok w46) rfl fun v48 w48 ⟨hr48, hu48⟩ => ?_
          have hM48 : Mem w [] w48 [rs3, rs8, rs34, rs43] := hM46.pure hu48
          subst hr48
          refine stp (v := .bool true) (o_pickT rfl rfl) ?_
          refine stp (v := .bool true) (o_mv rfl) ?_
          refine h44 _ _ ?_
          clear h44
          refine ⟨(.bool true), rfl, ?_⟩
          exact ⟨rfl, hM48.upd⟩
    ·
      refine gno rfl (by simp) ?_
      refine gno rfl (by simp) ?_
      refine gno rfl (by simp) ?_
      refine gno rfl (by simp) ?_
      refine stg rfl (v := .bool false) (o_pickF rfl rfl) ?_
      refine stg rfl (v := .bool false) (o_mv rfl) ?_
      refine splitF rfl ?_
      refine gno rfl (by simp) ?_
      refine gno rfl (by simp) ?_
      refine gno rfl (by simp) ?_
      refine gnol rfl (by simp) ?_
      refine gno rfl (by simp) ?_
      refine stg rfl (v := .bool false) (o_pickF rfl rfl) ?_
      refine stp (v := .bool false) (o_pickF rfl rfl) ?_
      refine h9 _ _ ?_
      clear h9
      refine cndF rfl ?_
      refine h4 _ _ ?_
      clear h4
      refine seq fun K49 h49 => ?_
      refine stp (v := y) (o_mv rfl) ?_
      refine m_call (Decode_ok _ b w11 (hy.upd hM11.upd) (by omega)) rfl fun v50 w50 ⟨v50_, rs50, hr50, hs50, hm50⟩ => ?_
      have hM50 : Mem w [] w50 [rs3, rs8, rs50] := hM11.add hm50
      subst hr50
      refine stp (v := .tuple [v50_, .int .i64 ((decV b).2)].toArray) (o_mv rfl) ?_
      refine stp (v := v50_) (o_ext rfl rfl) ?_
      refine stp (v := .int .i64 ((decV b).2)) (o_ext rfl rfl) ?_
      refine stp (v := v50_) (o_mv rfl) ?_
      refine stp (v := .int .i64 ((decV b).2)) (o_mv rfl) ?_
      refine h49 _ _ ?_
      clear h49
      refine seq fun K51 h51 => ?_
      refine seq fun K52 h52 => ?_
      refine stp (v := .int .i64 ((decV b).2)) (o_mv rfl) ?_
      refine stp (v := .bool (decide (¬ ((decV b).2) = 0))) (o_bin rfl rfl v_neq) ?_
      refine h52 _ _ ?_
      clear h52
      refine cndP rfl (fun c53 => ?_) (fun c53 => ?_)
      ·
        refine seq fun K54 h54 => ?_
        refine stp (v := .int .i64 ((decV b).2)) (o_mv rfl) ?_
        refine stp (v := .bool (decide (((decV b).2) = 160))) (o_bin rfl rfl rfl) ?_
        refine stp (v := .bool (decide (((decV b).2) = 160))) (o_mv rfl) ?_
        refine splitP rfl (fun c55 => ?_) (fun c55 => (c55 (by rw [decV_no (by omega)])).elim)
        refine stg rfl (v := v50_) (o_mv rfl) ?_
        refine stg rfl (v := .int .i64 (((decV b).1).length : Nat)) (o_lenR (hs50.rd hM50 (i := 2) rfl) rfl rfl) ?_
        refine stg rfl (v := .bool (decide (((((decV b).1).length : Nat) : Int) = 0))) (o_bin rfl rfl rfl) ?_
        refine stp (v := .bool (decide (((((decV b).1).length : Nat) : Int) = 0))) (o_pickT rfl rfl) ?_
        refine stp (v := .bool (decide (((((decV b).1).length : Nat) : Int) = 0))) (o_mv rfl) ?_
        refine splitP rfl (fun c56 => ?_) (fun c56 => (c56 (by rw [decV_no (by omega)]; rfl)).elim)
        refine gyesl rfl ?_
        refine m_call (works_ok w50) rfl fun v57 w57 ⟨hr57, hu57⟩ => ?_
        have hM57 : Mem w [] w57 [rs3, rs8, rs50] := hM50.pure hu57
        subst hr57
        refine stp (v := .bool true) (o_pickT rfl rfl) ?_
        refine stp (v := .bool true) (o_mv rfl) ?_
        refine h54 _ _ ?_
        clear h54
        refine ⟨(.bool true), rfl, ?_⟩
        exact ⟨rfl, hM57.upd⟩
      ·
        refine h51 _ _ ?_
        clear h51
        refine seq fun K58 h58 => ?_
        refine stp (v := v50_) (o_mv rfl) ?_
        refine m_call (Encode_ok _ ((decV b).1) w50 (hs50.rd hM50 (i := 2) rfl) (by first | exact hok | exact decV_ok _) (by omega)) rfl fun v59 w59 ⟨v59_, rs59, hr59, hs59, hm59⟩ => ?_
        have hM59 : Mem w [] w59 [rs3, rs8, rs50, rs59] := hM50.add hm59
        subst hr59
        refine stp (v := .tuple [v59_, .int .i64 ((encE ((decV b).1)).2)].toArray) (o_mv rfl) ?_
        refine stp (v := v59_) (o_ext rfl rfl) ?_
        refine stp (v := .int .i64 ((encE ((decV b).1)).2)) (o_ext rfl rfl) ?_
        refine stp (v := v59_) (o_mv rfl) ?_
        refine stp (v := .int .i64 ((encE ((decV b).1)).2)) (o_mv rfl) ?_
        refine h58 _ _ ?_
        clear h58
        refine seq fun K60 h60 => ?_
        refine stp (v := .int .i64 ((encE ((decV b).1)).2)) (o_mv rfl) ?_
        refine stp (v := .bool (decide (((encE ((decV b).1)).2) = 0))) (o_bin rfl rfl rfl) ?_
        refine stp (v := .bool (decide (((encE ((decV b).1)).2) = 0))) (o_mv rfl) ?_
        refine splitP rfl (fun c61 => ?_) (fun c61 => (c61 (by rw [(enc_dec (by omega)).2])).elim)
        refine stg rfl (v := v59_) (o_mv rfl) ?_
        refine stg rfl (v := y) (o_mv rfl) ?_
        refine gyesl rfl ?_
        refine m_call (same_ok _ _ ((encE ((decV b).1)).1) b w59 (hs59.rd hM59 (i := 3) rfl) (hy.upd hM59.upd) (by first | omega | (simp; done) | (simp; omega))) rfl fun v62 w62 ⟨hr62, hu62⟩ => ?_
        have hM62 : Mem w [] w62 [rs3, rs8, rs50, rs59] := hM59.pure hu62
        subst hr62
        refine stp (v := .bool (decide (((encE ((decV b).1)).1) = b))) (o_pickT rfl rfl) ?_
        refine stp (v := .bool (decide (((encE ((decV b).1)).1) = b))) (o_mv rfl) ?_
        refine splitP rfl (fun c63 => ?_) (fun c63 => (c63 (by rw [(enc_dec (by omega)).2])).elim)
        refine gyesl rfl ?_
        refine m_call (works_ok w62) rfl fun v64 w64 ⟨hr64, hu64⟩ => ?_
        have hM64 : Mem w [] w64 [rs3, rs8, rs50, rs59] := hM62.pure hu64
        subst hr64
        refine stp (v := .bool true) (o_pickT rfl rfl) ?_
        refine stp (v := .bool true) (o_mv rfl) ?_
        refine h60 _ _ ?_
        clear h60
        refine ⟨(.bool true), rfl, ?_⟩
        exact ⟨rfl, hM64.upd⟩
  ·
    refine h4 _ _ ?_
    clear h4
    refine seq fun K65 h65 => ?_
    refine stp (v := y) (o_mv rfl) ?_
    refine m_call (Decode_ok _ b w3 (hy.upd hM3.upd) (by omega)) rfl fun v66 w66 ⟨v66_, rs66, hr66, hs66, hm66⟩ => ?_
    have hM66 : Mem w [] w66 [rs3, rs66] := hM3.add hm66
    subst hr66
    refine stp (v := .tuple [v66_, .int .i64 ((decV b).2)].toArray) (o_mv rfl) ?_
    refine stp (v := v66_) (o_ext rfl rfl) ?_
    refine stp (v := .int .i64 ((decV b).2)) (o_ext rfl rfl) ?_
    refine stp (v := v66_) (o_mv rfl) ?_
    refine stp (v := .int .i64 ((decV b).2)) (o_mv rfl) ?_
    refine h65 _ _ ?_
    clear h65
    refine seq fun K67 h67 => ?_
    refine seq fun K68 h68 => ?_
    refine stp (v := .int .i64 ((decV b).2)) (o_mv rfl) ?_
    refine stp (v := .bool (decide (¬ ((decV b).2) = 0))) (o_bin rfl rfl v_neq) ?_
    refine h68 _ _ ?_
    clear h68
    refine cndP rfl (fun c69 => ?_) (fun c69 => ?_)
    ·
      refine seq fun K70 h70 => ?_
      refine stp (v := .int .i64 ((decV b).2)) (o_mv rfl) ?_
      refine stp (v := .bool (decide (((decV b).2) = 160))) (o_bin rfl rfl rfl) ?_
      refine stp (v := .bool (decide (((decV b).2) = 160))) (o_mv rfl) ?_
      refine splitP rfl (fun c71 => ?_) (fun c71 => (c71 (by rw [decV_no (by omega)])).elim)
      refine stg rfl (v := v66_) (o_mv rfl) ?_
      refine stg rfl (v := .int .i64 (((decV b).1).length : Nat)) (o_lenR (hs66.rd hM66 (i := 1) rfl) rfl rfl) ?_
      refine stg rfl (v := .bool (decide (((((decV b).1).length : Nat) : Int) = 0))) (o_bin rfl rfl rfl) ?_
      refine stp (v := .bool (decide (((((decV b).1).length : Nat) : Int) = 0))) (o_pickT rfl rfl) ?_
      refine stp (v := .bool (decide (((((decV b).1).length : Nat) : Int) = 0))) (o_mv rfl) ?_
      refine splitP rfl (fun c72 => ?_) (fun c72 => (c72 (by rw [decV_no (by omega)]; rfl)).elim)
      refine gyesl rfl ?_
      refine m_call (works_ok w66) rfl fun v73 w73 ⟨hr73, hu73⟩ => ?_
      have hM73 : Mem w [] w73 [rs3, rs66] := hM66.pure hu73
      subst hr73
      refine stp (v := .bool true) (o_pickT rfl rfl) ?_
      refine stp (v := .bool true) (o_mv rfl) ?_
      refine h70 _ _ ?_
      clear h70
      refine ⟨(.bool true), rfl, ?_⟩
      exact ⟨rfl, hM73.upd⟩
    ·
      refine h67 _ _ ?_
      clear h67
      refine seq fun K74 h74 => ?_
      refine stp (v := v66_) (o_mv rfl) ?_
      refine m_call (Encode_ok _ ((decV b).1) w66 (hs66.rd hM66 (i := 1) rfl) (by first | exact hok | exact decV_ok _) (by omega)) rfl fun v75 w75 ⟨v75_, rs75, hr75, hs75, hm75⟩ => ?_
      have hM75 : Mem w [] w75 [rs3, rs66, rs75] := hM66.add hm75
      subst hr75
      refine stp (v := .tuple [v75_, .int .i64 ((encE ((decV b).1)).2)].toArray) (o_mv rfl) ?_
      refine stp (v := v75_) (o_ext rfl rfl) ?_
      refine stp (v := .int .i64 ((encE ((decV b).1)).2)) (o_ext rfl rfl) ?_
      refine stp (v := v75_) (o_mv rfl) ?_
      refine stp (v := .int .i64 ((encE ((decV b).1)).2)) (o_mv rfl) ?_
      refine h74 _ _ ?_
      clear h74
      refine seq fun K76 h76 => ?_
      refine stp (v := .int .i64 ((encE ((decV b).1)).2)) (o_mv rfl) ?_
      refine stp (v := .bool (decide (((encE ((decV b).1)).2) = 0))) (o_bin rfl rfl rfl) ?_
      refine stp (v := .bool (decide (((encE ((decV b).1)).2) = 0))) (o_mv rfl) ?_
      refine splitP rfl (fun c77 => ?_) (fun c77 => (c77 (by rw [(enc_dec (by omega)).2])).elim)
      refine stg rfl (v := v75_) (o_mv rfl) ?_
      refine stg rfl (v := y) (o_mv rfl) ?_
      refine gyesl rfl ?_
      refine m_call (same_ok _ _ ((encE ((decV b).1)).1) b w75 (hs75.rd hM75 (i := 2) rfl) (hy.upd hM75.upd) (by first | omega | (simp; done) | (simp; omega))) rfl fun v78 w78 ⟨hr78, hu78⟩ => ?_
      have hM78 : Mem w [] w78 [rs3, rs66, rs75] := hM75.pure hu78
      subst hr78
      refine stp (v := .bool (decide (((encE ((decV b).1)).1) = b))) (o_pickT rfl rfl) ?_
      refine stp (v := .bool (decide (((encE ((decV b).1)).1) = b))) (o_mv rfl) ?_
      refine splitP rfl (fun c79 => ?_) (fun c79 => (c79 (by rw [(enc_dec (by omega)).2])).elim)
      refine gyesl rfl ?_
      refine m_call (works_ok w78) rfl fun v80 w80 ⟨hr80, hu80⟩ => ?_
      have hM80 : Mem w [] w80 [rs3, rs66, rs75] := hM78.pure hu80
      subst hr80
      refine stp (v := .bool true) (o_pickT rfl rfl) ?_
      refine stp (v := .bool true) (o_mv rfl) ?_
      refine h76 _ _ ?_
      clear h76
      refine ⟨(.bool true), rfl, ?_⟩
      exact ⟨rfl, hM80.upd⟩
