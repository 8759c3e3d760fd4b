/- Trailers: the law. -/
import Derived.Test.YthhmhmnhbababaaC3
namespace Go.Proofs.Ythhmhmnhbababaa.E
open Go
def turn1 (i : Nat) (l : List UInt8) : List UInt8 := (l.take i).map (· ^^^ 1) ++ l.drop i
theorem turn1_zero (l : List UInt8) : turn1 0 l = l := rfl
theorem turn1_length (i : Nat) (l : List UInt8) : (turn1 i l).length = l.length := by unfold turn1; simp only [List.length_append, List.length_map, List.length_take, List.length_drop]; omega
theorem turn1_get {i : Nat} {l : List UInt8} (h : i < l.length) : (turn1 i l).getD i 0 = l.getD i 0 := by
  unfold turn1
  have hn : ((l.take i).map (· ^^^ 1)).length = i := by rw [List.length_map, List.length_take]; omega
  rw [List.getD_eq_getElem?_getD, List.getElem?_append_right (by omega), hn, Nat.sub_self, List.getElem?_drop, Nat.add_zero, ← List.getD_eq_getElem?_getD]
theorem turn1_set {i : Nat} {l : List UInt8} (h : i < l.length) : (turn1 i l).set i (l.getD i 0 ^^^ 1) = turn1 (i + 1) l := by
  unfold turn1
  have hn : ((l.take i).map (· ^^^ 1)).length = i := by rw [List.length_map, List.length_take]; omega
  rw [List.set_append_right _ _ (by omega), hn, Nat.sub_self, takeG 0 h, List.map_append, List.append_assoc]
  congr 1
  rw [dropG 0 h]; rfl
theorem xor1 (x : UInt8) : xorI .u8 (x.toNat : Int) 1 = ((x ^^^ 1).toNat : Int) := by
  have hx := x.toNat_lt
  have h4 : x.toNat ^^^ 1 < 2 ^ 8 := Nat.xor_lt_two_pow hx (by decide)
  have := xorI_nat (k := .u8) (a := x.toNat) (b := 1) (by simpa [IntKind.bits] using hx) (by decide) (by simp only [inK]; omega)
  rw [UInt8.toNat_xor]; exact this

/-- winnowlaw8.same -/
theorem same_ok (x y : Value) (a b : List UInt8) (w : World) (hx : RdE byteV w x a) (hy : RdE byteV w y b) (hla : a.length ≤ 9223372036854775807) : Calls Try.prog 23 [x, y].toArray w (Rt fun r w' => r = .bool (decide (a = b)) ∧ Upd [] w w') := by
  have hM0 : Mem w [] w [] := Mem.nil w []
  refine calls_vc mixed Try.func23 rfl C23 (by simp [Try.ntmps23]) ?_
  refine seq fun K1 h1 => ?_
  refine stp (v := .bool false) (o_mv rfl) ?_
  refine h1 _ _ ?_
  clear h1
  refine seq fun K2 h2 => ?_
  refine seq fun K3 h3 => ?_
  refine stp (v := x) (o_mv rfl) ?_
  refine stp (v := .int .i64 (a.length : Nat)) (o_lenR (hx.upd hM0.upd) rfl rfl) ?_
  refine stp (v := y) (o_mv rfl) ?_
  refine stp (v := .int .i64 (b.length : Nat)) (o_lenR (hy.upd hM0.upd) rfl rfl) ?_
  refine stp (v := .bool (decide (¬ ((a.length : Nat) : Int) = (b.length : Nat)))) (o_bin rfl rfl v_neq) ?_
  refine h3 _ _ ?_
  clear h3
  refine cndP rfl (fun c4 => ?_) (fun c4 => ?_)
  ·
    refine seq fun K5 h5 => ?_
    refine stp (v := .bool false) (o_mv rfl) ?_
    refine h5 _ _ ?_
    clear h5
    refine ⟨(.bool false), rfl, ?_⟩
    exact ⟨by rw [decide_eq_false (fun e => c4 (by rw [e]))], hM0.upd⟩
  ·
    refine h2 _ _ ?_
    clear h2
    refine seq fun K6 h6 => ?_
    refine seq fun K7 h7 => ?_
    refine stp (v := .int .i64 0) (o_mv rfl) ?_
    refine h7 _ _ ?_
    clear h7
    refine lp (n := fun _ _ => False) (ι := (Nat)) (fun i f w' => f 0 = x ∧ f 1 = y ∧ f 5 = .int .i64 (i : Nat) ∧ Mem w [] w' [] ∧ (i ≤ a.length) ∧ (a.take i = b.take i)) (fun i => a.length - i) (0) ?_ ?_
    · exact ⟨rfl, rfl, by first | rfl | exact v_int (by omega) | exact v_int (by simp) | exact v_int (by simp; omega), hM0, by omega, by simp⟩
    · rintro i f w8 ⟨e8_0, e8_1, e8_5, hM8, hi, hp⟩ K9 h9
      obtain ⟨frm, rfl⟩ : ∃ frm, f = (upd (upd (upd frm 0 (x)) 1 (y)) 5 (.int .i64 (i : Nat))) := ⟨f, by rw [upd_self e8_0, upd_self e8_1, upd_self e8_5]⟩
      clear e8_0 e8_1 e8_5
      refine seq fun K10 h10 => ?_
      refine seq fun K11 h11 => ?_
      refine stp (v := .int .i64 (i : Nat)) (o_mv rfl) ?_
      refine stp (v := x) (o_mv rfl) ?_
      refine stp (v := .int .i64 (a.length : Nat)) (o_lenR (hx.upd hM8.upd) rfl rfl) ?_
      refine stp (v := .bool (decide (((i : Nat) : Int) < (a.length : Nat)))) (o_bin rfl rfl rfl) ?_
      refine h11 _ _ ?_
      clear h11
      refine cndP rfl (fun c12 => ?_) (fun c12 => ?_)
      ·
        refine h10 _ _ ?_
        clear h10
        refine seq fun K13 h13 => ?_
        refine seq fun K14 h14 => ?_
        intro wd e1 e2 e3 e4
        have hd := Upd.same e1 e2 e3 e4 []
        have hM15 := hM8.pure hd
        clear e1 e2 e3 e4
        refine ⟨none, ?_⟩
        show vd _ _ _ _ _ _ _
        refine dq (v := x) (o_mv rfl) ?_
        refine dq (v := .int .i64 (i : Nat)) (o_mv rfl) ?_
        refine dqp (m_idxE 0 (j := i) (hx.upd hM15.upd) rfl rfl (by omega) fun b16 o16 hp16 => ?_)
        show vd _ _ _ _ _ _ _
        refine dq (v := y) (o_mv rfl) ?_
        refine dq (v := .int .i64 (i : Nat)) (o_mv rfl) ?_
        refine dqp (m_idxE 0 (j := i) (hy.upd hM15.upd) rfl rfl (by omega) fun b17 o17 hp17 => ?_)
        show vd _ _ _ _ _ _ _
        refine dqld rfl (trivial) (v := byteV (b.getD i 0)) (hp17) ?_
        refine dl (ld (v := byteV (a.getD i 0)) rfl (hp16) ?_)
        refine ⟨rfl, ?_⟩
        refine dq (v := .bool (decide (¬ ((a.getD i 0).toNat : Int) = ((b.getD i 0).toNat : Int)))) (o_bin rfl rfl v_neq) ?_
        refine h14 _ _ ?_
        clear h14
        refine cndP rfl (fun c18 => ?_) (fun c18 => ?_)
        ·
          refine seq fun K19 h19 => ?_
          refine stp (v := .bool false) (o_mv rfl) ?_
          refine h19 _ _ ?_
          clear h19
          refine ⟨(.bool false), rfl, ?_⟩
          exact ⟨by rw [decide_eq_false (ne_atG 0 i (nat_neG (by assumption)))], hM15.upd⟩
        ·
          refine h13 _ _ ?_
          clear h13
          refine stp (v := .int .i64 (i : Nat)) (o_mv rfl) ?_
          refine stp (v := .int .i64 ((i : Nat) + 1)) (o_bin rfl rfl (v_add64 (by constructor <;> omega))) ?_
          refine stp (v := .int .i64 ((i : Nat) + 1)) (o_mv rfl) ?_
          refine h9 (i + 1) _ _ ⟨rfl, rfl, by first | rfl | exact v_int (by omega) | exact v_int (by simp) | exact v_int (by simp; omega), hM15, by omega, take_eqG 0 hp (by omega) (by omega) (u8_eq (by omega))⟩ (by (try dsimp only); omega)
      ·
        refine h6 _ _ ?_
        clear h6
        refine seq fun K20 h20 => ?_
        refine stp (v := .bool true) (o_mv rfl) ?_
        refine h20 _ _ ?_
        clear h20
        refine ⟨(.bool true), rfl, ?_⟩
        exact ⟨by rw [decide_eq_true]; rw [← List.take_of_length_le (l := a) (i := i) (by omega), ← List.take_of_length_le (l := b) (i := i) (by omega), hp], hM8.upd⟩

theorem turn1_two {i : Nat} {l : List UInt8} (h : i < l.length) : (turn1 i l ++ ([113, 114] : List UInt8)).getD i 0 = l.getD i 0 := by
  rw [List.getD_eq_getElem?_getD, List.getElem?_append_left (by rw [turn1_length]; exact h), ← List.getD_eq_getElem?_getD, turn1_get h]
theorem turn1_two_set {i : Nat} {l : List UInt8} (h : i < l.length) : (turn1 i l ++ ([113, 114] : List UInt8)).set i (l.getD i 0 ^^^ 1) = turn1 (i + 1) l ++ ([113, 114] : List UInt8) := by
  rw [List.set_append_left _ _ (by rw [turn1_length]; exact h), turn1_set h]
theorem turn1_two_get {i : Nat} {l : List UInt8} (h : i < l.length) : ((turn1 i l ++ ([113, 114] : List UInt8)).set i (l.getD i 0 ^^^ 1)).getD i 0 = l.getD i 0 ^^^ 1 := by
  rw [List.getD_eq_getElem?_getD, List.getElem?_set_self (by rw [List.length_append, turn1_length]; omega)]; rfl
theorem turn1_end {i : Nat} {l : List UInt8} (h : l.length ≤ i) : (l.take i).map (· ^^^ 1) = turn1 i l := by unfold turn1; rw [List.drop_of_length_le h, List.append_nil]

/-- winnowlaw8.FootTrailer -/
theorem FootTrailer_ok (x : Value) (b : List UInt8) (size : Int) (hsz : inK .i64 size) (w : World) (hx : RdE byteV w x b) (hl : b.length ≤ 140737488351232) : Calls Try.prog 4 [x, .int .i64 size].toArray w (Rt fun r w' => r = .bool true ∧ Upd [] w w') := by
  have hM0 : Mem w [] w [] := Mem.nil w []
  refine calls_vc mixed Try.func4 rfl C4 (by simp [Try.ntmps4]) ?_
  refine seq fun K1 h1 => ?_
  refine stp (v := .bool false) (o_mv rfl) ?_
  refine h1 _ _ ?_
  clear h1
  refine seq fun K2 h2 => ?_
  refine m_bs hM0 rfl fun b3 w4 (hM4 : Mem w [] w4 [[⟨b3, 5, []⟩]]) => ?_
  refine stp (v := x) (o_mv rfl) ?_
  have hs5 : SlE byteV 5 (.slice (some ⟨b3, 0, none⟩) 0 0) [] [⟨b3, 5, []⟩] := SlE.lit (l := []) rfl
  refine m_appE hM4 (i := 0) rfl hs5 rfl rfl (hx.upd hM4.upd) (by first | omega | (simp; omega)) (by omega) fun v6 w6 r6 (hs6 : SlE byteV 5 v6 (b) r6) (hM6 : Mem w [] w6 [r6]) => ?_
  refine stp (v := v6) (o_mv rfl) ?_
  refine h2 _ _ ?_
  clear h2
  refine seq fun K7 h7 => ?_
  refine stp (v := v6) (o_mv rfl) ?_
  refine m_bs hM6 rfl fun b8 w9 (hM9 : Mem w [] w9 [r6, [⟨b8, 5, [.int .u8 113, .int .u8 114]⟩]]) => ?_
  refine m_appE hM9 (i := 0) rfl hs6 rfl rfl (own_rdE (E := byteV) (l := [113, 114]) (hM9.at (i := 1) (j := 0) rfl rfl) rfl) (by first | omega | (simp; omega)) (by omega) fun v10 w10 r10 (hs10 : SlE byteV 5 v10 (b ++ ([113, 114])) r10) (hM10 : Mem w [] w10 [r10, [⟨b8, 5, [.int .u8 113, .int .u8 114]⟩]]) => ?_
  refine stp (v := v10) (o_mv rfl) ?_
  refine h7 _ _ ?_
  clear h7
  refine seq fun K11 h11 => ?_
  refine stp (v := v10) (o_mv rfl) ?_
  refine stp (v := x) (o_mv rfl) ?_
  refine stp (v := .int .i64 (b.length : Nat)) (o_lenR (hx.upd hM10.upd) rfl rfl) ?_
  refine m_slcO b.length (hs10) rfl (by first | omega | (simp; done) | (simp; omega)) (⟨_, rfl⟩) trivial fun u12 hu12 => ?_
  have hu12' := SlE.eqL (m := b) hu12 (by simp)
  refine stp (v := .int .i64 size) (o_mv rfl) ?_
  refine m_call (Trailer_ok _ b size (by assumption) w10 (hu12'.rd hM10 (i := 0) rfl) (by first | omega | (simp; omega) | (simp only [turn1_length]; omega))) rfl fun v13 w13 ⟨hr13, hu13⟩ => ?_
  have hM13 : Mem w [] w13 [r10, [⟨b8, 5, [.int .u8 113, .int .u8 114]⟩]] := hM10.pure hu13
  subst hr13
  refine stp (v := .tuple [.agg ([.int .i64 ((trailF b size).1), .int .i64 ((trailF b size).2.1)] : List Value).toArray, .int .i64 ((trailF b size).2.2)].toArray) (o_mv rfl) ?_
  refine stp (v := .agg ([.int .i64 ((trailF b size).1), .int .i64 ((trailF b size).2.1)] : List Value).toArray) (o_ext rfl rfl) ?_
  refine stp (v := .int .i64 ((trailF b size).2.2)) (o_ext rfl rfl) ?_
  refine m_al hM13 fun b14 w15 (hM15 : Mem w [] w15 [r10, [⟨b8, 5, [.int .u8 113, .int .u8 114]⟩], [⟨b14, 36, [.int .i64 0, .int .i64 0]⟩]]) => ?_
  refine m_stA (l := [.int .i64 ((trailF b size).1), .int .i64 ((trailF b size).2.1)]) hM15 (i := 2) rfl rfl rfl rfl (by simp [oneCells, Value.oneCell', byteV]) (by simp) fun w16 (hM16 : Mem w [] w16 [r10, [⟨b8, 5, [.int .u8 113, .int .u8 114]⟩], [⟨b14, 36, [.int .i64 ((trailF b size).1), .int .i64 ((trailF b size).2.1)]⟩]]) => ?_
  refine stp (v := .int .i64 ((trailF b size).2.2)) (o_mv rfl) ?_
  refine h11 _ _ ?_
  clear h11
  refine seq fun K17 h17 => ?_
  refine stp (v := x) (o_mv rfl) ?_
  refine stp (v := .int .i64 size) (o_mv rfl) ?_
  refine m_call (refTrailer_ok _ b size (by assumption) w16 (hx.upd hM16.upd) (by first | omega | (simp; omega) | (simp only [turn1_length]; omega))) rfl fun v18 w18 ⟨hr18, hu18⟩ => ?_
  have hM18 : Mem w [] w18 [r10, [⟨b8, 5, [.int .u8 113, .int .u8 114]⟩], [⟨b14, 36, [.int .i64 ((trailF b size).1), .int .i64 ((trailF b size).2.1)]⟩]] := hM16.pure hu18
  subst hr18
  refine stp (v := .tuple [.agg ([.int .i64 ((trailF b size).1), .int .i64 ((trailF b size).2.1)] : List Value).toArray, .int .i64 ((trailF b size).2.2)].toArray) (o_mv rfl) ?_
  refine stp (v := .agg ([.int .i64 ((trailF b size).1), .int .i64 ((trailF b size).2.1)] : List Value).toArray) (o_ext rfl rfl) ?_
  refine stp (v := .int .i64 ((trailF b size).2.2)) (o_ext rfl rfl) ?_
  refine m_al hM18 fun b19 w20 (hM20 : Mem w [] w20 [r10, [⟨b8, 5, [.int .u8 113, .int .u8 114]⟩], [⟨b14, 36, [.int .i64 ((trailF b size).1), .int .i64 ((trailF b size).2.1)]⟩], [⟨b19, 36, [.int .i64 0, .int .i64 0]⟩]]) => ?_
  refine m_stA (l := [.int .i64 ((trailF b size).1), .int .i64 ((trailF b size).2.1)]) hM20 (i := 3) rfl rfl rfl rfl (by simp [oneCells, Value.oneCell', byteV]) (by simp) fun w21 (hM21 : Mem w [] w21 [r10, [⟨b8, 5, [.int .u8 113, .int .u8 114]⟩], [⟨b14, 36, [.int .i64 ((trailF b size).1), .int .i64 ((trailF b size).2.1)]⟩], [⟨b19, 36, [.int .i64 ((trailF b size).1), .int .i64 ((trailF b size).2.1)]⟩]]) => ?_
  refine stp (v := .int .i64 ((trailF b size).2.2)) (o_mv rfl) ?_
  refine h17 _ _ ?_
  clear h17
  refine seq fun K22 h22 => ?_
  refine seq fun K23 h23 => ?_
  refine m_ldA (l := [.int .i64 ((trailF b size).1), .int .i64 ((trailF b size).2.1)]) hM21 (i := 2) (j := 0) rfl rfl rfl rfl rfl ?_
  refine m_ldA (l := [.int .i64 ((trailF b size).1), .int .i64 ((trailF b size).2.1)]) hM21 (i := 3) (j := 0) rfl rfl rfl rfl rfl ?_
  refine stp (v := .bool (!(decide (((trailF b size).1) = ((trailF b size).1)) && (decide (((trailF b size).2.1) = ((trailF b size).2.1)) && true)))) (o_aeq (t := (decide (((trailF b size).1) = ((trailF b size).1)) && (decide (((trailF b size).2.1) = ((trailF b size).2.1)) && true))) rfl rfl (by simp [eqCs, eqC, toList_str, Int.natCast_inj]) rfl) ?_
  refine stp (v := .bool (!(decide (((trailF b size).1) = ((trailF b size).1)) && (decide (((trailF b size).2.1) = ((trailF b size).2.1)) && true)))) (o_mv rfl) ?_
  refine split rfl (fun c24 => absurd c24 (show ¬ (!(decide (((trailF b size).1) = ((trailF b size).1)) && (decide (((trailF b size).2.1) = ((trailF b size).2.1)) && true))) = true from (by simp))) (fun c24 => ?_)
  refine stg rfl (v := .int .i64 ((trailF b size).2.2)) (o_mv rfl) ?_
  refine stg rfl (v := .int .i64 ((trailF b size).2.2)) (o_mv rfl) ?_
  refine stg rfl (v := .bool false) (o_bin rfl rfl v_neF) ?_
  refine stp (v := .bool false) (o_pickF rfl rfl) ?_
  refine stp (v := .bool false) (o_mv rfl) ?_
  refine splitF rfl ?_
  refine stg rfl (v := v10) (o_mv rfl) ?_
  refine stg rfl (v := x) (o_mv rfl) ?_
  refine stg rfl (v := .int .i64 (b.length : Nat)) (o_lenR (hx.upd hM21.upd) rfl rfl) ?_
  refine gyes rfl rfl (m_slcO b.length (hs10) rfl (by first | omega | (simp; done) | (simp; omega)) (⟨_, rfl⟩) trivial fun u25 hu25 => ?_)
  have hu25' := SlE.eqL (m := b) hu25 (by simp)
  refine stg rfl (v := x) (o_mv rfl) ?_
  refine gyesl rfl ?_
  refine m_call (same_ok _ _ b b w21 (hu25'.rd hM21 (i := 0) rfl) (hx.upd hM21.upd) (by first | omega | (simp; done) | (simp; omega))) rfl fun v26 w26 ⟨hr26, hu26⟩ => ?_
  have hM26 : Mem w [] w26 [r10, [⟨b8, 5, [.int .u8 113, .int .u8 114]⟩], [⟨b14, 36, [.int .i64 ((trailF b size).1), .int .i64 ((trailF b size).2.1)]⟩], [⟨b19, 36, [.int .i64 ((trailF b size).1), .int .i64 ((trailF b size).2.1)]⟩]] := hM21.pure hu26
  obtain rfl : v26 = .bool true := hr26.trans (by simp)
  clear hr26
  refine stg rfl (v := .bool false) (o_not rfl rfl) ?_
  refine stp (v := .bool false) (o_pickF rfl rfl) ?_
  refine stp (v := .bool false) (o_mv rfl) ?_
  refine splitF rfl ?_
  refine stg rfl (v := v10) (o_mv rfl) ?_
  refine stg rfl (v := x) (o_mv rfl) ?_
  refine stg rfl (v := .int .i64 (b.length : Nat)) (o_lenR (hx.upd hM26.upd) rfl rfl) ?_
  refine gyes rfl rfl (m_idxE 0 (j := b.length) (hs10.rd hM26 (i := 0) rfl) rfl rfl (by simp) fun b27 o27 hp27 => ?_)
  refine gyesl rfl ?_
  refine ld (v := byteV ((b ++ ([113, 114])).getD b.length 0)) rfl (hp27) ?_
  refine stg rfl (v := .bool (decide (¬ (((b ++ ([113, 114])).getD b.length 0).toNat : Int) = 113))) (o_bin rfl rfl v_neq) ?_
  refine stp (v := .bool (decide (¬ (((b ++ ([113, 114])).getD b.length 0).toNat : Int) = 113))) (o_pickF rfl rfl) ?_
  refine stp (v := .bool (decide (¬ (((b ++ ([113, 114])).getD b.length 0).toNat : Int) = 113))) (o_mv rfl) ?_
  refine splitP rfl (fun c28 => absurd c28 (by simp)) (fun c28 => ?_)
  refine stg rfl (v := v10) (o_mv rfl) ?_
  refine stg rfl (v := x) (o_mv rfl) ?_
  refine stg rfl (v := .int .i64 (b.length : Nat)) (o_lenR (hx.upd hM26.upd) rfl rfl) ?_
  refine stg rfl (v := .int .i64 ((b.length : Nat) + 1)) (o_bin rfl rfl (v_add64 (by constructor <;> omega))) ?_
  refine gyes rfl rfl (m_idxE 0 (j := (b.length + 1)) (hs10.rd hM26 (i := 0) rfl) rfl (v_int (by omega)) (by simp) fun b29 o29 hp29 => ?_)
  refine gyesl rfl ?_
  refine ld (v := byteV ((b ++ ([113, 114])).getD (b.length + 1) 0)) rfl (hp29) ?_
  refine stg rfl (v := .bool (decide (¬ (((b ++ ([113, 114])).getD (b.length + 1) 0).toNat : Int) = 114))) (o_bin rfl rfl v_neq) ?_
  refine stp (v := .bool (decide (¬ (((b ++ ([113, 114])).getD (b.length + 1) 0).toNat : Int) = 114))) (o_pickF rfl rfl) ?_
  refine h23 _ _ ?_
  clear h23
  refine cndP rfl (fun c30 => absurd c30 (by simp)) (fun c30 => ?_)
  refine h22 _ _ ?_
  clear h22
  refine seq fun K31 h31 => ?_
  refine stp (v := .slice none 0 0) (o_mv rfl) ?_
  refine h31 _ _ ?_
  clear h31
  refine seq fun K32 h32 => ?_
  refine seq fun K33 h33 => ?_
  refine stp (v := .int .i64 0) (o_mv rfl) ?_
  refine h33 _ _ ?_
  clear h33
  have hM34 : Mem w [] w26 [r10, [⟨b8, 5, [.int .u8 113, .int .u8 114]⟩], [⟨b14, 36, [.int .i64 ((trailF b size).1), .int .i64 ((trailF b size).2.1)]⟩], [⟨b19, 36, [.int .i64 ((trailF b size).1), .int .i64 ((trailF b size).2.1)]⟩], []] := hM26.addNil
  have hs34 : SlE byteV 5 (.slice none 0 0) [] [] := Sl.nil 1 5
  refine lp (n := fun _ _ => False) (ι := (Nat) × (Value) × (List Ent) × (Value) × (List Ent)) (fun ⟨i, y5_, r5_, y10_, r10_⟩ f w' => f 5 = y5_ ∧ f 10 = y10_ ∧ f 11 = .int .i64 (i : Nat) ∧ f 0 = x ∧ f 1 = .int .i64 size ∧ f 6 = .pointer (some ⟨b14, 0, none⟩) ∧ f 8 = .pointer (some ⟨b19, 0, none⟩) ∧ Mem w [] w' [r5_, [⟨b8, 5, [.int .u8 113, .int .u8 114]⟩], [⟨b14, 36, [.int .i64 ((trailF b size).1), .int .i64 ((trailF b size).2.1)]⟩], [⟨b19, 36, [.int .i64 ((trailF b size).1), .int .i64 ((trailF b size).2.1)]⟩], r10_] ∧ (i ≤ b.length) ∧ (SlE byteV 5 y5_ (turn1 i b ++ ([113, 114] : List UInt8)) r5_) ∧ (SlE byteV 5 y10_ ((b.take i).map (· ^^^ 1)) r10_)) (fun ⟨i, y5_, r5_, y10_, r10_⟩ => b.length - i) (0, v10, r10, ((.slice none 0 0)), ([])) ?_ ?_
  · exact ⟨rfl, rfl, by first | rfl | exact v_int (by omega) | exact v_int (by simp) | exact v_int (by simp; omega), rfl, by first | rfl | exact v_int (by omega) | exact v_int (by simp) | exact v_int (by simp; omega), rfl, rfl, hM34, by omega, by rw [turn1_zero]; simpa using hs10, by first | exact hs34 | simpa using hs34⟩
  · rintro ⟨i, y5_, r5_, y10_, r10_⟩ f w35 ⟨e35_5, e35_10, e35_11, e35_0, e35_1, e35_6, e35_8, hM35, hi, hy5_, hy10_⟩ K36 h36
    obtain ⟨frm, rfl⟩ : ∃ frm, f = (upd (upd (upd (upd (upd (upd (upd frm 5 (y5_)) 10 (y10_)) 11 (.int .i64 (i : Nat))) 0 (x)) 1 (.int .i64 size)) 6 (.pointer (some ⟨b14, 0, none⟩))) 8 (.pointer (some ⟨b19, 0, none⟩))) := ⟨f, by rw [upd_self e35_5, upd_self e35_10, upd_self e35_11, upd_self e35_0, upd_self e35_1, upd_self e35_6, upd_self e35_8]⟩
    clear e35_5 e35_10 e35_11 e35_0 e35_1 e35_6 e35_8
    refine seq fun K37 h37 => ?_
    refine seq fun K38 h38 => ?_
    refine stp (v := .int .i64 (i : Nat)) (o_mv rfl) ?_
    refine stp (v := x) (o_mv rfl) ?_
    refine stp (v := .int .i64 (b.length : Nat)) (o_lenR (hx.upd hM35.upd) rfl rfl) ?_
    refine stp (v := .bool (decide (((i : Nat) : Int) < (b.length : Nat)))) (o_bin rfl rfl rfl) ?_
    refine h38 _ _ ?_
    clear h38
    refine cndP rfl (fun c39 => ?_) (fun c39 => ?_)
    ·
      refine h37 _ _ ?_
      clear h37
      refine seq fun K40 h40 => ?_
      refine seq fun K41 h41 => ?_
      have hlen : (turn1 i b ++ ([113, 114] : List UInt8)).length = b.length + 2 := by rw [List.length_append, turn1_length]; rfl
      refine stp (v := y5_) (o_mv rfl) ?_
      refine stp (v := .int .i64 (i : Nat)) (o_mv rfl) ?_
      refine stp (v := y5_) (o_mv rfl) ?_
      refine stp (v := .int .i64 (i : Nat)) (o_mv rfl) ?_
      refine m_idxE 0 (j := i) (hy5_.rd hM35 (i := 0) rfl) rfl rfl (by omega) fun b42 o42 hp42 => ?_
      refine ld (v := byteV ((turn1 i b ++ ([113, 114] : List UInt8)).getD i 0)) rfl (hp42) ?_
      refine stp (v := .int .u8 ((b.getD i 0 ^^^ 1).toNat : Int)) (o_bin rfl rfl (by rw [turn1_two (by omega)]; exact v_int (xor1 _))) ?_
      refine m_set (E := byteV) (q := b.getD i 0 ^^^ 1) (j := i) hM35 (i := 0) rfl hy5_ rfl rfl (by omega) (by simp) (rfl) fun w43 r43 u43 he43 hs43 (hM43 : Mem w [] w43 [r43, [⟨b8, 5, [.int .u8 113, .int .u8 114]⟩], [⟨b14, 36, [.int .i64 ((trailF b size).1), .int .i64 ((trailF b size).2.1)]⟩], [⟨b19, 36, [.int .i64 ((trailF b size).1), .int .i64 ((trailF b size).2.1)]⟩], r10_]) => ?_
      refine h41 _ _ ?_
      clear h41
      refine stp (v := y10_) (o_mv rfl) ?_
      refine stp (v := y5_) (o_mv rfl) ?_
      refine stp (v := .int .i64 (i : Nat)) (o_mv rfl) ?_
      refine m_idxE 0 (j := i) (hs43.rd hM43 (i := 0) rfl) rfl rfl (by rw [List.length_set]; omega) fun b44 o44 hp44 => ?_
      refine ld (v := byteV (((turn1 i b ++ ([113, 114] : List UInt8)).set i (b.getD i 0 ^^^ 1)).getD i 0)) rfl (hp44) ?_
      refine m_app1 (E := byteV) (q := b.getD i 0 ^^^ 1) hM43 (i := 4) rfl hy10_ rfl (by simp) (by rw [turn1_two_get (by omega)]; rfl) (by simp; omega) (by omega) fun v45 w45 r45 u45 (hs45 : SlE byteV 5 v45 (((b.take i).map (· ^^^ 1)) ++ [b.getD i 0 ^^^ 1]) r45) (hM45 : Mem w [] w45 [r43, [⟨b8, 5, [.int .u8 113, .int .u8 114]⟩], [⟨b14, 36, [.int .i64 ((trailF b size).1), .int .i64 ((trailF b size).2.1)]⟩], [⟨b19, 36, [.int .i64 ((trailF b size).1), .int .i64 ((trailF b size).2.1)]⟩], r45]) => ?_
      refine stp (v := v45) (o_mv rfl) ?_
      refine h40 _ _ ?_
      clear h40
      refine stp (v := .int .i64 (i : Nat)) (o_mv rfl) ?_
      refine stp (v := .int .i64 ((i : Nat) + 1)) (o_bin rfl rfl (v_add64 (by constructor <;> omega))) ?_
      refine stp (v := .int .i64 ((i : Nat) + 1)) (o_mv rfl) ?_
      refine h36 (i + 1, y5_, r43, v45, r45) _ _ ⟨rfl, rfl, by first | rfl | exact v_int (by omega) | exact v_int (by simp) | exact v_int (by simp; omega), rfl, by first | rfl | exact v_int (by omega) | exact v_int (by simp) | exact v_int (by simp; omega), rfl, rfl, hM45, by omega, by rw [← turn1_two_set (by omega)]; exact hs43, by rw [takeG 0 (show i < b.length by omega), List.map_append]; exact hs45⟩ (by (try dsimp only); omega)
    ·
      refine h32 _ _ ?_
      clear h32
      refine seq fun K46 h46 => ?_
      have hcc := turn1_end (i := i) (l := b) (by omega)
      have htl := turn1_length i b
      refine stp (v := y5_) (o_mv rfl) ?_
      refine stp (v := x) (o_mv rfl) ?_
      refine stp (v := .int .i64 (b.length : Nat)) (o_lenR (hx.upd hM35.upd) rfl rfl) ?_
      refine m_slcO b.length (hy5_) rfl (by rw [List.length_append]; omega) (⟨_, v_int (by omega)⟩) trivial fun u47 hu47 => ?_
      have hu47' := SlE.eqL (m := turn1 i b) hu47 (by rw [List.take_left' htl])
      refine stp (v := .int .i64 size) (o_mv rfl) ?_
      refine m_call (Trailer_ok _ (turn1 i b) size (by assumption) w35 (hu47'.rd hM35 (i := 0) rfl) (by first | omega | (simp; omega) | (simp only [turn1_length]; omega))) rfl fun v48 w48 ⟨hr48, hu48⟩ => ?_
      have hM48 : Mem w [] w48 [r5_, [⟨b8, 5, [.int .u8 113, .int .u8 114]⟩], [⟨b14, 36, [.int .i64 ((trailF b size).1), .int .i64 ((trailF b size).2.1)]⟩], [⟨b19, 36, [.int .i64 ((trailF b size).1), .int .i64 ((trailF b size).2.1)]⟩], r10_] := hM35.pure hu48
      subst hr48
      refine stp (v := .tuple [.agg ([.int .i64 ((trailF (turn1 i b) size).1), .int .i64 ((trailF (turn1 i b) size).2.1)] : List Value).toArray, .int .i64 ((trailF (turn1 i b) size).2.2)].toArray) (o_mv rfl) ?_
      refine stp (v := .agg ([.int .i64 ((trailF (turn1 i b) size).1), .int .i64 ((trailF (turn1 i b) size).2.1)] : List Value).toArray) (o_ext rfl rfl) ?_
      refine stp (v := .int .i64 ((trailF (turn1 i b) size).2.2)) (o_ext rfl rfl) ?_
      refine m_stA (l := [.int .i64 ((trailF (turn1 i b) size).1), .int .i64 ((trailF (turn1 i b) size).2.1)]) hM48 (i := 2) rfl rfl rfl rfl (by simp [oneCells, Value.oneCell', byteV]) (by simp) fun w49 (hM49 : Mem w [] w49 [r5_, [⟨b8, 5, [.int .u8 113, .int .u8 114]⟩], [⟨b14, 36, [.int .i64 ((trailF (turn1 i b) size).1), .int .i64 ((trailF (turn1 i b) size).2.1)]⟩], [⟨b19, 36, [.int .i64 ((trailF b size).1), .int .i64 ((trailF b size).2.1)]⟩], r10_]) => ?_
      refine stp (v := .int .i64 ((trailF (turn1 i b) size).2.2)) (o_mv rfl) ?_
      refine h46 _ _ ?_
      clear h46
      refine seq fun K50 h50 => ?_
      refine stp (v := y10_) (o_mv rfl) ?_
      refine stp (v := .int .i64 size) (o_mv rfl) ?_
      refine m_call (refTrailer_ok _ ((b.take i).map (· ^^^ 1)) size (by assumption) w49 (hy10_.rd hM49 (i := 4) rfl) (by first | omega | (simp; omega) | (simp only [turn1_length]; omega))) rfl fun v51 w51 ⟨hr51, hu51⟩ => ?_
      have hM51 : Mem w [] w51 [r5_, [⟨b8, 5, [.int .u8 113, .int .u8 114]⟩], [⟨b14, 36, [.int .i64 ((trailF (turn1 i b) size).1), .int .i64 ((trailF (turn1 i b) size).2.1)]⟩], [⟨b19, 36, [.int .i64 ((trailF b size).1), .int .i64 ((trailF b size).2.1)]⟩], r10_] := hM49.pure hu51
      subst hr51
      refine stp (v := .tuple [.agg ([.int .i64 ((trailF ((b.take i).map (· ^^^ 1)) size).1), .int .i64 ((trailF ((b.take i).map (· ^^^ 1)) size).2.1)] : List Value).toArray, .int .i64 ((trailF ((b.take i).map (· ^^^ 1)) size).2.2)].toArray) (o_mv rfl) ?_
      refine stp (v := .agg ([.int .i64 ((trailF ((b.take i).map (· ^^^ 1)) size).1), .int .i64 ((trailF ((b.take i).map (· ^^^ 1)) size).2.1)] : List Value).toArray) (o_ext rfl rfl) ?_
      refine stp (v := .int .i64 ((trailF ((b.take i).map (· ^^^ 1)) size).2.2)) (o_ext rfl rfl) ?_
      refine m_stA (l := [.int .i64 ((trailF ((b.take i).map (· ^^^ 1)) size).1), .int .i64 ((trailF ((b.take i).map (· ^^^ 1)) size).2.1)]) hM51 (i := 3) rfl rfl rfl rfl (by simp [oneCells, Value.oneCell', byteV]) (by simp) fun w52 (hM52 : Mem w [] w52 [r5_, [⟨b8, 5, [.int .u8 113, .int .u8 114]⟩], [⟨b14, 36, [.int .i64 ((trailF (turn1 i b) size).1), .int .i64 ((trailF (turn1 i b) size).2.1)]⟩], [⟨b19, 36, [.int .i64 ((trailF ((b.take i).map (· ^^^ 1)) size).1), .int .i64 ((trailF ((b.take i).map (· ^^^ 1)) size).2.1)]⟩], r10_]) => ?_
      refine stp (v := .int .i64 ((trailF ((b.take i).map (· ^^^ 1)) size).2.2)) (o_mv rfl) ?_
      refine h50 _ _ ?_
      clear h50
      refine seq fun K53 h53 => ?_
      refine m_ldA (l := [.int .i64 ((trailF (turn1 i b) size).1), .int .i64 ((trailF (turn1 i b) size).2.1)]) hM52 (i := 2) (j := 0) rfl rfl rfl rfl rfl ?_
      refine m_ldA (l := [.int .i64 ((trailF ((b.take i).map (· ^^^ 1)) size).1), .int .i64 ((trailF ((b.take i).map (· ^^^ 1)) size).2.1)]) hM52 (i := 3) (j := 0) rfl rfl rfl rfl rfl ?_
      refine stp (v := .bool (decide (((trailF (turn1 i b) size).1) = ((trailF ((b.take i).map (· ^^^ 1)) size).1)) && (decide (((trailF (turn1 i b) size).2.1) = ((trailF ((b.take i).map (· ^^^ 1)) size).2.1)) && true))) (o_aeq (t := (decide (((trailF (turn1 i b) size).1) = ((trailF ((b.take i).map (· ^^^ 1)) size).1)) && (decide (((trailF (turn1 i b) size).2.1) = ((trailF ((b.take i).map (· ^^^ 1)) size).2.1)) && true))) rfl rfl (by simp [eqCs, eqC, toList_str, Int.natCast_inj]) rfl) ?_
      refine stp (v := .bool (decide (((trailF (turn1 i b) size).1) = ((trailF ((b.take i).map (· ^^^ 1)) size).1)) && (decide (((trailF (turn1 i b) size).2.1) = ((trailF ((b.take i).map (· ^^^ 1)) size).2.1)) && true))) (o_mv rfl) ?_
      refine split rfl (fun c54 => ?_) (fun c54 => absurd ((show (decide (((trailF (turn1 i b) size).1) = ((trailF ((b.take i).map (· ^^^ 1)) size).1)) && (decide (((trailF (turn1 i b) size).2.1) = ((trailF ((b.take i).map (· ^^^ 1)) size).2.1)) && true)) = true from (by rw [hcc]; simp)).symm.trans c54) (by decide))
      refine stg rfl (v := .int .i64 ((trailF (turn1 i b) size).2.2)) (o_mv rfl) ?_
      refine stg rfl (v := .int .i64 ((trailF ((b.take i).map (· ^^^ 1)) size).2.2)) (o_mv rfl) ?_
      refine stg rfl (v := .bool (decide (((trailF (turn1 i b) size).2.2) = ((trailF ((b.take i).map (· ^^^ 1)) size).2.2)))) (o_bin rfl rfl rfl) ?_
      refine stp (v := .bool (decide (((trailF (turn1 i b) size).2.2) = ((trailF ((b.take i).map (· ^^^ 1)) size).2.2)))) (o_pickT rfl rfl) ?_
      refine stp (v := .bool (decide (((trailF (turn1 i b) size).2.2) = ((trailF ((b.take i).map (· ^^^ 1)) size).2.2)))) (o_mv rfl) ?_
      refine h53 _ _ ?_
      clear h53
      refine ⟨(.bool (decide (((trailF (turn1 i b) size).2.2) = ((trailF ((b.take i).map (· ^^^ 1)) size).2.2)))), rfl, ?_⟩
      exact ⟨by rw [hcc]; simp, hM52.upd⟩
