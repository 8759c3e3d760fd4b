/- Entries as bytes, the document's way: lenient reading. -/
import Derived.Test.YtnkilhmkegmenaaF14
namespace Go.Proofs.Ytnkilhmkegmenaa.E
open Go
/-- a short number, read leniently: the number, the place behind it -/
def numW (b : List UInt8) (a : Nat) : Int × Nat := if b.length ≤ a then (0, a) else if (get (b.drop a)).2.2 = 0 then ((((get (b.drop a)).1 : Nat) : Int), a + (get (b.drop a)).2.1) else (0, b.length)
def wrdW (b : List UInt8) (a n : Nat) : Nat := le ((b.drop a).take n)
theorem numW_end {b : List UInt8} {a : Nat} (h : b.length ≤ a) : numW b a = (0, a) := by unfold numW; rw [if_pos h]
theorem numW_no {b : List UInt8} {a : Nat} (h : ¬ b.length ≤ a) (h2 : ¬ (get (b.drop a)).2.2 = 0) : numW b a = (0, b.length) := by unfold numW; rw [if_neg h, if_neg h2]
theorem numW_yes {b : List UInt8} {a : Nat} (h : ¬ b.length ≤ a) (h2 : (get (b.drop a)).2.2 = 0) : numW b a = ((((get (b.drop a)).1 : Nat) : Int), a + (get (b.drop a)).2.1) := by unfold numW; rw [if_neg h, if_pos h2]
theorem get_lt (b : List UInt8) : (get b).1 < 9223372036854775808 := getA_bd b 0 0 (by omega) (by simp)
theorem numW_bd (b : List UInt8) (a : Nat) : 0 ≤ (numW b a).1 ∧ (numW b a).1 ≤ 9223372036854775807 ∧ (numW b a).2 ≤ max a b.length := by
  unfold numW
  split
  · exact ⟨by omega, by omega, by dsimp only; omega⟩
  · split
    · rename_i h
      have := get_ok h
      have h2 := this.2.1
      rw [List.length_drop] at h2
      have h3 := get_lt (b.drop a)
      dsimp only
      refine ⟨by omega, by omega, by omega⟩
    · exact ⟨by omega, by omega, by dsimp only; omega⟩

/-- winnowref2.Get -/
theorem refGet_ok (x : Value) (b : List UInt8) (w : World) (hx : RdB w x b) (hl : b.length ≤ 1152921504606846976) : Calls Try.prog 64 [x].toArray w (Rt fun r w' => r = tup3 (get b) ∧ Upd [] w w') := by
  have hM0 : Mem w [] w [] := Mem.nil w []
  refine calls_vc mixed Try.func64 rfl C64 (by simp [Try.ntmps64]) ?_
  refine seq fun K1 h1 => ?_
  refine stp (v := .int .i64 0) (o_mv rfl) ?_
  refine stp (v := .int .i64 0) (o_mv rfl) ?_
  refine stp (v := .int .i64 0) (o_mv rfl) ?_
  refine h1 _ _ ?_
  clear h1
  refine seq fun K2 h2 => ?_
  refine stp (v := .int .i64 0) (o_mv rfl) ?_
  refine h2 _ _ ?_
  clear h2
  refine seq fun K3 h3 => ?_
  refine stp (v := .int .i64 1) (o_mv rfl) ?_
  refine h3 _ _ ?_
  clear h3
  refine seq fun K4 h4 => ?_
  refine seq fun K5 h5 => ?_
  refine stp (v := .int .i64 0) (o_mv rfl) ?_
  refine h5 _ _ ?_
  clear h5
  refine lp (n := fun _ _ => False) (ι := (Nat) × (Nat)) (fun ⟨i, v⟩ f w' => f 0 = x ∧ f 5 = .int .i64 (v : Nat) ∧ f 6 = .int .i64 (128 ^ i : Nat) ∧ f 7 = .int .i64 (i : Nat) ∧ Mem w [] w' [] ∧ (i ≤ b.length ∧ i ≤ 8) ∧ (v < 128 ^ i) ∧ (get b = getA i v (b.drop i))) (fun ⟨i, v⟩ => b.length - i) (0, 0) ?_ ?_
  · exact ⟨rfl, by first | rfl | exact v_int (by omega) | exact v_int (by simp) | exact v_int (by simp; omega), by first | rfl | exact v_int (by omega) | exact v_int (by simp) | exact v_int (by simp; omega), by first | rfl | exact v_int (by omega) | exact v_int (by simp) | exact v_int (by simp; omega), hM0, by omega, by simp, rfl⟩
  · rintro ⟨i, v⟩ f w6 ⟨e6_0, e6_5, e6_6, e6_7, hM6, hi, hv, hg⟩ K7 h7
    obtain ⟨frm, rfl⟩ : ∃ frm, f = (upd (upd (upd (upd frm 0 (x)) 5 (.int .i64 (v : Nat))) 6 (.int .i64 (128 ^ i : Nat))) 7 (.int .i64 (i : Nat))) := ⟨f, by rw [upd_self e6_0, upd_self e6_5, upd_self e6_6, upd_self e6_7]⟩
    clear e6_0 e6_5 e6_6 e6_7
    refine seq fun K8 h8 => ?_
    refine seq fun K9 h9 => ?_
    refine stp (v := .int .i64 (i : Nat)) (o_mv rfl) ?_
    refine stp (v := x) (o_mv rfl) ?_
    refine stp (v := .int .i64 (b.length : Nat)) (o_lenR (hx.upd hM6.upd) rfl rfl) ?_
    refine stp (v := .bool (decide (((i : Nat) : Int) < (b.length : Nat)))) (o_bin rfl rfl rfl) ?_
    refine h9 _ _ ?_
    clear h9
    refine cndP rfl (fun c10 => ?_) (fun c10 => ?_)
    ·
      refine h8 _ _ ?_
      clear h8
      refine seq fun K11 h11 => ?_
      refine seq fun K12 h12 => ?_
      refine stp (v := x) (o_mv rfl) ?_
      refine stp (v := .int .i64 (i : Nat)) (o_mv rfl) ?_
      refine m_idxE 0 (j := i) (hx.upd hM6.upd) rfl rfl (by omega) fun b13 o13 hp13 => ?_
      refine ld (v := byteV (b.getD i 0)) rfl (hp13) ?_
      refine stp (v := .int .i64 ((b.getD i 0).toNat : Int)) (o_conv rfl (v_byteTo (by decide))) ?_
      refine stp (v := .int .i64 (((b.getD i 0).toNat : Int) % 128)) (o_rem rfl rfl (by omega) (v_rem (by omega))) ?_
      refine stp (v := .int .i64 (((b.getD i 0).toNat : Int) % 128)) (o_mv rfl) ?_
      refine h12 _ _ ?_
      clear h12
      refine seq fun K14 h14 => ?_
      refine stp (v := .int .i64 (v : Nat)) (o_mv rfl) ?_
      refine stp (v := .int .i64 (((b.getD i 0).toNat : Int) % 128)) (o_mv rfl) ?_
      refine stp (v := .int .i64 (128 ^ i : Nat)) (o_mv rfl) ?_
      refine stp (v := .int .i64 ((b.getD i 0).toNat % 128 * 128 ^ i : Nat)) (o_bin rfl rfl (ref_mul (by omega))) ?_
      refine stp (v := .int .i64 (v + (b.getD i 0).toNat % 128 * 128 ^ i : Nat)) (o_bin rfl rfl (v_add64 (by have := digit_bd (m128 (b.getD i 0)) (show i ≤ 8 by omega) hv; omega))) ?_
      refine stp (v := .int .i64 (v + (b.getD i 0).toNat % 128 * 128 ^ i : Nat)) (o_mv rfl) ?_
      refine h14 _ _ ?_
      clear h14
      refine seq fun K15 h15 => ?_
      refine seq fun K16 h16 => ?_
      refine stp (v := x) (o_mv rfl) ?_
      refine stp (v := .int .i64 (i : Nat)) (o_mv rfl) ?_
      refine m_idxE 0 (j := i) (hx.upd hM6.upd) rfl rfl (by omega) fun b17 o17 hp17 => ?_
      refine ld (v := byteV (b.getD i 0)) rfl (hp17) ?_
      refine stp (v := .bool (decide (((b.getD i 0).toNat : Int) < 128))) (o_bin rfl rfl rfl) ?_
      refine h16 _ _ ?_
      clear h16
      refine cndP rfl (fun c18 => ?_) (fun c18 => ?_)
      ·
        refine seq fun K19 h19 => ?_
        refine seq fun K20 h20 => ?_
        refine stp (v := .int .i64 (i : Nat)) (o_mv rfl) ?_
        refine stp (v := .bool (decide ((0 : Int) < ((i : Nat) : Int)))) (o_bin rfl rfl rfl) ?_
        refine stp (v := .bool (decide ((0 : Int) < ((i : Nat) : Int)))) (o_mv rfl) ?_
        refine splitP rfl (fun c21 => ?_) (fun c21 => ?_)
        ·
          refine stg rfl (v := x) (o_mv rfl) ?_
          refine stg rfl (v := .int .i64 (i : Nat)) (o_mv rfl) ?_
          refine gyes rfl rfl (m_idxE 0 (j := i) (hx.upd hM6.upd) rfl rfl (by omega) fun b22 o22 hp22 => ?_)
          refine gyesl rfl ?_
          refine ld (v := byteV (b.getD i 0)) rfl (hp22) ?_
          refine stg rfl (v := .bool (decide (((b.getD i 0).toNat : Int) = 0))) (o_bin rfl rfl rfl) ?_
          refine stp (v := .bool (decide (((b.getD i 0).toNat : Int) = 0))) (o_pickT rfl rfl) ?_
          refine h20 _ _ ?_
          clear h20
          refine cndP rfl (fun c23 => ?_) (fun c23 => ?_)
          ·
            refine seq fun K24 h24 => ?_
            refine stp (v := .int .i64 0) (o_mv rfl) ?_
            refine stp (v := .int .i64 0) (o_mv rfl) ?_
            refine stp (v := .int .i64 21) (o_mv rfl) ?_
            refine h24 _ _ ?_
            clear h24
            refine ⟨(.tuple [.int .i64 0, .int .i64 0, .int .i64 21].toArray), rfl, ?_⟩
            exact ⟨ret3 (get_zero hg (by omega) (by omega) (by omega)), hM6.upd⟩
          ·
            refine h19 _ _ ?_
            clear h19
            refine seq fun K25 h25 => ?_
            refine stp (v := .int .i64 (v + (b.getD i 0).toNat % 128 * 128 ^ i : Nat)) (o_mv rfl) ?_
            refine stp (v := .int .i64 (i : Nat)) (o_mv rfl) ?_
            refine stp (v := .int .i64 ((i : Nat) + 1)) (o_bin rfl rfl (v_add64 (by constructor <;> omega))) ?_
            refine stp (v := .int .i64 (v + (b.getD i 0).toNat % 128 * 128 ^ i : Nat)) (o_mv rfl) ?_
            refine stp (v := .int .i64 ((i : Nat) + 1)) (o_mv rfl) ?_
            refine stp (v := .int .i64 0) (o_mv rfl) ?_
            refine h25 _ _ ?_
            clear h25
            refine ⟨(.tuple [.int .i64 (v + (b.getD i 0).toNat % 128 * 128 ^ i : Nat), .int .i64 ((i : Nat) + 1), .int .i64 0].toArray), rfl, ?_⟩
            exact ⟨ret3 (get_stop hg (by omega) (by omega) (fun h => by have := h.1; have := h.2; omega)), hM6.upd⟩
        ·
          refine gno rfl (by simp) ?_
          refine gno rfl (by simp) ?_
          refine gno rfl (by simp) ?_
          refine gnol rfl (by simp) ?_
          refine gno rfl (by simp) ?_
          refine stp (v := .bool false) (o_pickF rfl rfl) ?_
          refine h20 _ _ ?_
          clear h20
          refine cndF rfl ?_
          refine h19 _ _ ?_
          clear h19
          refine seq fun K26 h26 => ?_
          refine stp (v := .int .i64 (v + (b.getD i 0).toNat % 128 * 128 ^ i : Nat)) (o_mv rfl) ?_
          refine stp (v := .int .i64 (i : Nat)) (o_mv rfl) ?_
          refine stp (v := .int .i64 ((i : Nat) + 1)) (o_bin rfl rfl (v_add64 (by constructor <;> omega))) ?_
          refine stp (v := .int .i64 (v + (b.getD i 0).toNat % 128 * 128 ^ i : Nat)) (o_mv rfl) ?_
          refine stp (v := .int .i64 ((i : Nat) + 1)) (o_mv rfl) ?_
          refine stp (v := .int .i64 0) (o_mv rfl) ?_
          refine h26 _ _ ?_
          clear h26
          refine ⟨(.tuple [.int .i64 (v + (b.getD i 0).toNat % 128 * 128 ^ i : Nat), .int .i64 ((i : Nat) + 1), .int .i64 0].toArray), rfl, ?_⟩
          exact ⟨ret3 (get_stop hg (by omega) (by omega) (fun h => by have := h.1; have := h.2; omega)), hM6.upd⟩
      ·
        refine h15 _ _ ?_
        clear h15
        refine seq fun K27 h27 => ?_
        refine seq fun K28 h28 => ?_
        refine stp (v := .int .i64 (i : Nat)) (o_mv rfl) ?_
        refine stp (v := .bool (decide (((i : Nat) : Int) = 8))) (o_bin rfl rfl rfl) ?_
        refine h28 _ _ ?_
        clear h28
        refine cndP rfl (fun c29 => ?_) (fun c29 => ?_)
        ·
          refine seq fun K30 h30 => ?_
          refine stp (v := .int .i64 0) (o_mv rfl) ?_
          refine stp (v := .int .i64 0) (o_mv rfl) ?_
          refine stp (v := .int .i64 21) (o_mv rfl) ?_
          refine h30 _ _ ?_
          clear h30
          refine ⟨(.tuple [.int .i64 0, .int .i64 0, .int .i64 21].toArray), rfl, ?_⟩
          exact ⟨ret3 (get_far hg (by omega) (by omega) (by omega)), hM6.upd⟩
        ·
          refine h27 _ _ ?_
          clear h27
          refine stp (v := .int .i64 (128 ^ i : Nat)) (o_mv rfl) ?_
          refine stp (v := .int .i64 (128 ^ (i + 1) : Nat)) (o_bin rfl rfl (ref_unit (by omega))) ?_
          refine stp (v := .int .i64 (128 ^ (i + 1) : Nat)) (o_mv rfl) ?_
          refine h11 _ _ ?_
          clear h11
          refine stp (v := .int .i64 (i : Nat)) (o_mv rfl) ?_
          refine stp (v := .int .i64 ((i : Nat) + 1)) (o_bin rfl rfl (v_add64 (by constructor <;> omega))) ?_
          refine stp (v := .int .i64 ((i : Nat) + 1)) (o_mv rfl) ?_
          refine h7 (i + 1, v + (b.getD i 0).toNat % 128 * 128 ^ i) _ _ ⟨rfl, by first | rfl | exact v_int (by omega) | exact v_int (by simp) | exact v_int (by simp; omega), by first | rfl | exact v_int (by omega) | exact v_int (by simp) | exact v_int (by simp; omega), by first | rfl | exact v_int (by omega) | exact v_int (by simp) | exact v_int (by simp; omega), hM6, by omega, (digit_bd (m128 _) (by omega) hv).1, get_more hg (by omega) (by omega) (by omega)⟩ (by (try dsimp only); omega)
    ·
      refine h4 _ _ ?_
      clear h4
      refine seq fun K31 h31 => ?_
      refine stp (v := .int .i64 0) (o_mv rfl) ?_
      refine stp (v := .int .i64 0) (o_mv rfl) ?_
      refine stp (v := .int .i64 20) (o_mv rfl) ?_
      refine h31 _ _ ?_
      clear h31
      refine ⟨(.tuple [.int .i64 0, .int .i64 0, .int .i64 20].toArray), rfl, ?_⟩
      exact ⟨ret3 (get_end hg (by omega)), hM6.upd⟩

/-- (*winnowref16.View).number -/
theorem number_ok (bv : Nat) (x : Value) (b : List UInt8) (a : Nat) (w : World) (hr : Res w [⟨bv, 87, [x, .int .i64 (a : Nat)]⟩]) (hx : ∀ w' r', Mem w [bv] w' [r'] → RdE byteV w' x b) (hl : b.length ≤ 140737488355328) (ha : a ≤ 140737488365328) : Calls Try.prog 50 [.pointer (some ⟨bv, 0, none⟩)].toArray w (Rt fun r w' => r = .int .i64 (numW b a).1 ∧ ∃ r', r' = [⟨bv, 87, [x, .int .i64 ((numW b a).2 : Nat)]⟩] ∧ Mem w [bv] w' [r']) := by
  have hM0 : Mem w ([bv]) w [[⟨bv, 87, [x, .int .i64 (a : Nat)]⟩]] := (Mem.start hr : Mem w [bv] w [[⟨bv, 87, [x, .int .i64 (a : Nat)]⟩]])
  refine calls_vc mixed Try.func50 rfl C50 (by simp [Try.ntmps50]) ?_
  refine seq fun K1 h1 => ?_
  refine stp (v := .int .i64 0) (o_mv rfl) ?_
  refine h1 _ _ ?_
  clear h1
  refine seq fun K2 h2 => ?_
  refine seq fun K3 h3 => ?_
  intro wd e1 e2 e3 e4
  have hd := Upd.same e1 e2 e3 e4 []
  have hM4 := hM0.pure hd
  clear e1 e2 e3 e4
  refine ⟨none, ?_⟩
  show vd _ _ _ _ _ _ _
  refine dq (v := .pointer (some ⟨bv, 0, none⟩)) (o_mv rfl) ?_
  refine dq (v := .pointer (some ⟨bv, 0, none⟩)) (o_nilchk rfl rfl) ?_
  refine dq (v := .pointer (some ⟨bv, 1, none⟩)) (o_fa rfl rfl) ?_
  refine dq (v := .pointer (some ⟨bv, 0, none⟩)) (o_mv rfl) ?_
  refine dq (v := .pointer (some ⟨bv, 0, none⟩)) (o_nilchk rfl rfl) ?_
  refine dq (v := .pointer (some ⟨bv, 0, none⟩)) (o_fa rfl rfl) ?_
  refine dqld rfl (trivial) (v := x) ((hM4.at (i := 0) (j := 0) rfl rfl).cell 0) ?_
  refine dq (v := .int .i64 (b.length : Nat)) (o_lenR ((hx _ _ hM4)) rfl rfl) ?_
  refine dl (m_ld (v := .int .i64 (a : Nat)) hM4 (i := 0) (j := 0) rfl rfl rfl rfl ?_)
  refine ⟨rfl, ?_⟩
  refine dq (v := .bool (decide (((b.length : Nat) : Int) ≤ ((a : Nat) : Int)))) (o_bin rfl rfl rfl) ?_
  refine h3 _ _ ?_
  clear h3
  refine cndP rfl (fun c5 => ?_) (fun c5 => ?_)
  ·
    refine seq fun K6 h6 => ?_
    refine stp (v := .int .i64 0) (o_mv rfl) ?_
    refine h6 _ _ ?_
    clear h6
    refine ⟨(.int .i64 0), rfl, ?_⟩
    rw [numW_end (by omega)]
    exact ⟨rfl, _, rfl, hM4⟩
  ·
    refine h2 _ _ ?_
    clear h2
    refine seq fun K7 h7 => ?_
    intro wd e1 e2 e3 e4
    have hd := Upd.same e1 e2 e3 e4 []
    have hM8 := hM4.pure hd
    clear e1 e2 e3 e4
    refine ⟨(some [bv]), ?_⟩
    show vd _ _ _ _ _ _ _
    refine dq (v := .pointer (some ⟨bv, 0, none⟩)) (o_mv rfl) ?_
    refine dq (v := .pointer (some ⟨bv, 0, none⟩)) (o_nilchk rfl rfl) ?_
    refine dq (v := .pointer (some ⟨bv, 0, none⟩)) (o_fa rfl rfl) ?_
    refine dq (v := .pointer (some ⟨bv, 0, none⟩)) (o_mv rfl) ?_
    refine dq (v := .pointer (some ⟨bv, 0, none⟩)) (o_nilchk rfl rfl) ?_
    refine dq (v := .pointer (some ⟨bv, 1, none⟩)) (o_fa rfl rfl) ?_
    refine dqld rfl (by simp [isHeld]) (v := .int .i64 (a : Nat)) ((hM8.at (i := 0) (j := 0) rfl rfl).cell 1) ?_
    refine dl (m_ld (v := x) hM8 (i := 0) (j := 0) rfl rfl rfl rfl ?_)
    refine ⟨(fun b hb => rfl), ?_⟩
    refine dqp (m_slcE a b.length ((hx _ _ hM8)) rfl (by omega) (by omega) rfl ⟨_, v_int (by omega)⟩ fun u9 hu9 => ?_)
    show vd _ _ _ _ _ _ _
    have hu9' : RdE byteV wd u9 (b.drop a) := by
      have e : (b.take b.length).drop a = (b.drop a) := by rw [List.take_length]
      rw [e] at hu9; exact hu9
    refine dl (m_call (refGet_ok _ (b.drop a) wd (hu9') (by first | omega | (simp; done) | (simp; omega))) rfl fun v10 w10 ⟨hr10, hu10⟩ => ?_)
    have hM10 : Mem w ([bv]) w10 [[⟨bv, 87, [x, .int .i64 (a : Nat)]⟩]] := hM8.pure hu10
    subst hr10
    have hh10 := held_upd (wr := wd) (bs := [bv]) hu10 (fun b hb => by
      simp only [List.mem_cons, List.not_mem_nil, or_false] at hb
      rw [hb]; exact ⟨(hM8.at (i := 0) (j := 0) rfl rfl).lt, by simp⟩) (fun b hb => rfl)
    refine ⟨hh10, ?_⟩
    refine dq (v := .tuple [.int .i64 ((get (b.drop a)).1 : Nat), .int .i64 ((get (b.drop a)).2.1 : Nat), .int .i64 ((get (b.drop a)).2.2)].toArray) (o_mv rfl) ?_
    refine dq (v := .int .i64 ((get (b.drop a)).1 : Nat)) (o_ext rfl rfl) ?_
    refine dq (v := .int .i64 ((get (b.drop a)).2.1 : Nat)) (o_ext rfl rfl) ?_
    refine dq (v := .int .i64 ((get (b.drop a)).2.2)) (o_ext rfl rfl) ?_
    refine dq (v := .int .i64 ((get (b.drop a)).1 : Nat)) (o_mv rfl) ?_
    refine dq (v := .int .i64 ((get (b.drop a)).2.1 : Nat)) (o_mv rfl) ?_
    refine dq (v := .int .i64 ((get (b.drop a)).2.2)) (o_mv rfl) ?_
    refine h7 _ _ ?_
    clear h7
    refine seq fun K11 h11 => ?_
    refine seq fun K12 h12 => ?_
    refine stp (v := .int .i64 ((get (b.drop a)).2.2)) (o_mv rfl) ?_
    refine stp (v := .bool (decide (¬ ((get (b.drop a)).2.2) = 0))) (o_bin rfl rfl v_neq) ?_
    refine h12 _ _ ?_
    clear h12
    refine cndP rfl (fun c13 => ?_) (fun c13 => ?_)
    ·
      refine seq fun K14 h14 => ?_
      refine stp (v := .pointer (some ⟨bv, 0, none⟩)) (o_mv rfl) ?_
      refine stp (v := .pointer (some ⟨bv, 0, none⟩)) (o_mv rfl) ?_
      refine stp (v := .pointer (some ⟨bv, 0, none⟩)) (o_nilchk rfl rfl) ?_
      refine stp (v := .pointer (some ⟨bv, 0, none⟩)) (o_fa rfl rfl) ?_
      refine m_ld (v := x) hM10 (i := 0) (j := 0) rfl rfl rfl rfl ?_
      refine stp (v := .int .i64 (b.length : Nat)) (o_lenR ((hx _ _ hM10)) rfl rfl) ?_
      refine stp (v := .pointer (some ⟨bv, 0, none⟩)) (o_nilchk rfl rfl) ?_
      refine stp (v := .pointer (some ⟨bv, 1, none⟩)) (o_fa rfl rfl) ?_
      refine m_st (v := .int .i64 (b.length : Nat)) hM10 (i := 0) rfl rfl rfl rfl (by simp) fun w15 (hM15 : Mem w ([bv]) w15 [[⟨bv, 87, [x, .int .i64 (b.length : Nat)]⟩]]) => ?_
      refine h14 _ _ ?_
      clear h14
      refine seq fun K16 h16 => ?_
      refine stp (v := .int .i64 0) (o_mv rfl) ?_
      refine h16 _ _ ?_
      clear h16
      refine ⟨(.int .i64 0), rfl, ?_⟩
      rw [numW_no (by omega) (by omega)]
      exact ⟨rfl, _, rfl, hM15⟩
    ·
      refine h11 _ _ ?_
      clear h11
      refine seq fun K17 h17 => ?_
      refine stp (v := .pointer (some ⟨bv, 0, none⟩)) (o_mv rfl) ?_
      refine stp (v := .pointer (some ⟨bv, 0, none⟩)) (o_mv rfl) ?_
      refine stp (v := .pointer (some ⟨bv, 0, none⟩)) (o_nilchk rfl rfl) ?_
      refine stp (v := .pointer (some ⟨bv, 1, none⟩)) (o_fa rfl rfl) ?_
      refine m_ld (v := .int .i64 (a : Nat)) hM10 (i := 0) (j := 0) rfl rfl rfl rfl ?_
      refine stp (v := .int .i64 ((get (b.drop a)).2.1 : Nat)) (o_mv rfl) ?_
      refine stp (v := .int .i64 (a + (get (b.drop a)).2.1 : Nat)) (o_bin rfl rfl ((v_add64 (by have := (get_ok (b := b.drop a) (by omega)).2.1; rw [List.length_drop] at this; omega)).trans (v_int (by omega)))) ?_
      refine stp (v := .pointer (some ⟨bv, 0, none⟩)) (o_nilchk rfl rfl) ?_
      refine stp (v := .pointer (some ⟨bv, 1, none⟩)) (o_fa rfl rfl) ?_
      refine m_st (v := .int .i64 (a + (get (b.drop a)).2.1 : Nat)) hM10 (i := 0) rfl rfl rfl rfl (by simp) fun w18 (hM18 : Mem w ([bv]) w18 [[⟨bv, 87, [x, .int .i64 (a + (get (b.drop a)).2.1 : Nat)]⟩]]) => ?_
      refine h17 _ _ ?_
      clear h17
      refine seq fun K19 h19 => ?_
      refine stp (v := .int .i64 ((get (b.drop a)).1 : Nat)) (o_mv rfl) ?_
      refine stp (v := .int .i64 ((get (b.drop a)).1 : Nat)) (o_mv rfl) ?_
      refine h19 _ _ ?_
      clear h19
      refine ⟨(.int .i64 ((get (b.drop a)).1 : Nat)), rfl, ?_⟩
      rw [numW_yes (by omega) (by omega)]
      exact ⟨rfl, _, rfl, hM18⟩

theorem wrdW_zero (b : List UInt8) (a : Nat) : wrdW b a 0 = 0 := by unfold wrdW; simp [le]
theorem wrdW_in {b : List UInt8} {a k : Nat} (h : a + k < b.length) (hk : k < 8) : binI .add .u64 ((wrdW b a k : Nat) : Int) (((b.getD (a + k) 0).toNat * 256 ^ k : Nat) : Int) = .int .u64 ((wrdW b a (k + 1) : Nat) : Int) := by
  have := wref_add (b := b.drop a) (i := k) hk (by rw [List.length_drop]; omega)
  rw [show (b.drop a).getD k 0 = b.getD (a + k) 0 by rw [List.getD_eq_getElem?_getD, List.getElem?_drop, ← List.getD_eq_getElem?_getD]] at this
  exact this
theorem wrdW_out {b : List UInt8} {a k : Nat} (h : ¬ a + k < b.length) : wrdW b a (k + 1) = wrdW b a k := by
  unfold wrdW
  rw [List.take_of_length_le (by rw [List.length_drop]; omega), List.take_of_length_le (by rw [List.length_drop]; omega)]
theorem wrdW_lt {b : List UInt8} {a n : Nat} : wrdW b a n < 256 ^ n := by
  unfold wrdW
  have h1 := le_lt ((b.drop a).take n)
  have h2 : 256 ^ ((b.drop a).take n).length ≤ 256 ^ n := Nat.pow_le_pow_right (by omega) (by rw [List.length_take]; omega)
  omega

/-- (*winnowref16.View).word -/
theorem word_ok16 (bv : Nat) (x : Value) (b : List UInt8) (a : Nat) (n : Nat) (hn : n ≤ 8) (w : World) (hr : Res w [⟨bv, 87, [x, .int .i64 (a : Nat)]⟩]) (hx : ∀ w' r', Mem w [bv] w' [r'] → RdE byteV w' x b) (hl : b.length ≤ 140737488355328) (ha : a ≤ 140737488365328) : Calls Try.prog 51 [.pointer (some ⟨bv, 0, none⟩), .int .i64 (n : Nat)].toArray w (Rt fun r w' => r = .int .u64 ((wrdW b a n : Nat) : Int) ∧ ∃ r', r' = [⟨bv, 87, [x, .int .i64 ((a + n : Nat) : Int)]⟩] ∧ Mem w [bv] w' [r']) := by
  have hM0 : Mem w ([bv]) w [[⟨bv, 87, [x, .int .i64 (a : Nat)]⟩]] := (Mem.start hr : Mem w [bv] w [[⟨bv, 87, [x, .int .i64 (a : Nat)]⟩]])
  refine calls_vc mixed Try.func51 rfl C51 (by simp [Try.ntmps51]) ?_
  refine seq fun K1 h1 => ?_
  refine stp (v := .int .u64 0) (o_mv rfl) ?_
  refine h1 _ _ ?_
  clear h1
  refine seq fun K2 h2 => ?_
  refine stp (v := .int .u64 0) (o_mv rfl) ?_
  refine h2 _ _ ?_
  clear h2
  refine seq fun K3 h3 => ?_
  refine seq fun K4 h4 => ?_
  refine stp (v := .int .i64 0) (o_mv rfl) ?_
  refine h4 _ _ ?_
  clear h4
  refine lp (n := fun _ _ => False) (ι := (Nat)) (fun k f w' => f 5 = .int .u64 (wrdW b a k : Nat) ∧ f 6 = .int .i64 (k : Nat) ∧ f 0 = .pointer (some ⟨bv, 0, none⟩) ∧ f 1 = .int .i64 (n : Nat) ∧ Mem w ([bv]) w' [[⟨bv, 87, [x, .int .i64 (a + k : Nat)]⟩]] ∧ (k ≤ n)) (fun k => n - k) (0) ?_ ?_
  · exact ⟨by rw [wrdW_zero]; rfl, by first | rfl | exact v_int (by omega) | exact v_int (by simp) | exact v_int (by simp; omega), rfl, by first | rfl | exact v_int (by omega) | exact v_int (by simp) | exact v_int (by simp; omega), hM0, by omega⟩
  · rintro k f w5 ⟨e5_5, e5_6, e5_0, e5_1, hM5, hk⟩ K6 h6
    obtain ⟨frm, rfl⟩ : ∃ frm, f = (upd (upd (upd (upd frm 5 (.int .u64 (wrdW b a k : Nat))) 6 (.int .i64 (k : Nat))) 0 (.pointer (some ⟨bv, 0, none⟩))) 1 (.int .i64 (n : Nat))) := ⟨f, by rw [upd_self e5_5, upd_self e5_6, upd_self e5_0, upd_self e5_1]⟩
    clear e5_5 e5_6 e5_0 e5_1
    refine seq fun K7 h7 => ?_
    refine seq fun K8 h8 => ?_
    refine stp (v := .int .i64 (k : Nat)) (o_mv rfl) ?_
    refine stp (v := .int .i64 (n : Nat)) (o_mv rfl) ?_
    refine stp (v := .bool (decide (((k : Nat) : Int) < (n : Nat)))) (o_bin rfl rfl rfl) ?_
    refine h8 _ _ ?_
    clear h8
    refine cndP rfl (fun c9 => ?_) (fun c9 => ?_)
    ·
      refine h7 _ _ ?_
      clear h7
      refine seq fun K10 h10 => ?_
      refine seq fun K11 h11 => ?_
      refine seq fun K12 h12 => ?_
      intro wd e1 e2 e3 e4
      have hd := Upd.same e1 e2 e3 e4 []
      have hM13 := hM5.pure hd
      clear e1 e2 e3 e4
      refine ⟨none, ?_⟩
      show vd _ _ _ _ _ _ _
      refine dq (v := .pointer (some ⟨bv, 0, none⟩)) (o_mv rfl) ?_
      refine dq (v := .pointer (some ⟨bv, 0, none⟩)) (o_nilchk rfl rfl) ?_
      refine dq (v := .pointer (some ⟨bv, 1, none⟩)) (o_fa rfl rfl) ?_
      refine dq (v := .pointer (some ⟨bv, 0, none⟩)) (o_mv rfl) ?_
      refine dq (v := .pointer (some ⟨bv, 0, none⟩)) (o_nilchk rfl rfl) ?_
      refine dq (v := .pointer (some ⟨bv, 0, none⟩)) (o_fa rfl rfl) ?_
      refine dqld rfl (trivial) (v := x) ((hM13.at (i := 0) (j := 0) rfl rfl).cell 0) ?_
      refine dq (v := .int .i64 (b.length : Nat)) (o_lenR ((hx _ _ hM13)) rfl rfl) ?_
      refine dl (m_ld (v := .int .i64 (a + k : Nat)) hM13 (i := 0) (j := 0) rfl rfl rfl rfl ?_)
      refine ⟨rfl, ?_⟩
      refine dq (v := .bool (decide (((a + k : Nat) : Int) < (b.length : Nat)))) (o_bin rfl rfl rfl) ?_
      refine h12 _ _ ?_
      clear h12
      refine cndP rfl (fun c14 => ?_) (fun c14 => ?_)
      ·
        intro wd e1 e2 e3 e4
        have hd := Upd.same e1 e2 e3 e4 []
        have hM15 := hM13.pure hd
        clear e1 e2 e3 e4
        refine ⟨none, ?_⟩
        show vd _ _ _ _ _ _ _
        refine dq (v := .int .u64 (wrdW b a k : Nat)) (o_mv rfl) ?_
        refine dq (v := .pointer (some ⟨bv, 0, none⟩)) (o_mv rfl) ?_
        refine dq (v := .pointer (some ⟨bv, 0, none⟩)) (o_nilchk rfl rfl) ?_
        refine dq (v := .pointer (some ⟨bv, 0, none⟩)) (o_fa rfl rfl) ?_
        refine dq (v := .pointer (some ⟨bv, 0, none⟩)) (o_mv rfl) ?_
        refine dq (v := .pointer (some ⟨bv, 0, none⟩)) (o_nilchk rfl rfl) ?_
        refine dq (v := .pointer (some ⟨bv, 1, none⟩)) (o_fa rfl rfl) ?_
        refine dq (v := .int .i64 (k : Nat)) (o_mv rfl) ?_
        refine dq (v := .int .i64 (8 * (k : Nat))) (o_bin rfl rfl (v_mul64 (by constructor <;> omega))) ?_
        refine dqld rfl (trivial) (v := .int .i64 (a + k : Nat)) ((hM15.at (i := 0) (j := 0) rfl rfl).cell 1) ?_
        refine dl (m_ld (v := x) hM15 (i := 0) (j := 0) rfl rfl rfl rfl ?_)
        refine ⟨rfl, ?_⟩
        refine dqp (m_idxE 0 (j := (a + k)) ((hx _ _ hM15)) rfl (v_int (by omega)) (by omega) fun b16 o16 hp16 => ?_)
        show vd _ _ _ _ _ _ _
        refine dl (ld (v := byteV (b.getD (a + k) 0)) rfl (hp16) ?_)
        refine ⟨rfl, ?_⟩
        refine dq (v := .int .u64 ((b.getD (a + k) 0).toNat : Int)) (o_conv rfl (v_byteTo (by decide))) ?_
        refine dq (v := .int .u64 ((b.getD (a + k) 0).toNat * 256 ^ k : Nat)) (o_shl rfl rfl (by omega) (word_shl (by omega))) ?_
        refine dq (v := .int .u64 (wrdW b a (k + 1) : Nat)) (o_bin rfl rfl (wrdW_in (by omega) (by omega))) ?_
        refine dq (v := .int .u64 (wrdW b a (k + 1) : Nat)) (o_mv rfl) ?_
        refine h11 _ _ ?_
        clear h11
        refine stp (v := .pointer (some ⟨bv, 0, none⟩)) (o_mv rfl) ?_
        refine stp (v := .pointer (some ⟨bv, 0, none⟩)) (o_nilchk rfl rfl) ?_
        refine stp (v := .pointer (some ⟨bv, 1, none⟩)) (o_fa rfl rfl) ?_
        refine m_ld (v := .int .i64 (a + k : Nat)) hM15 (i := 0) (j := 0) rfl rfl rfl rfl ?_
        refine stp (v := .int .i64 (a + (k + 1) : Nat)) (o_bin rfl rfl ((v_add64 (by omega)).trans (v_int (by omega)))) ?_
        refine stp (v := .pointer (some ⟨bv, 0, none⟩)) (o_nilchk rfl rfl) ?_
        refine stp (v := .pointer (some ⟨bv, 1, none⟩)) (o_fa rfl rfl) ?_
        refine m_st (v := .int .i64 (a + (k + 1) : Nat)) hM15 (i := 0) rfl rfl rfl rfl (by simp) fun w17 (hM17 : Mem w ([bv]) w17 [[⟨bv, 87, [x, .int .i64 (a + (k + 1) : Nat)]⟩]]) => ?_
        refine h10 _ _ ?_
        clear h10
        refine stp (v := .int .i64 (k : Nat)) (o_mv rfl) ?_
        refine stp (v := .int .i64 ((k : Nat) + 1)) (o_bin rfl rfl (v_add64 (by constructor <;> omega))) ?_
        refine stp (v := .int .i64 ((k : Nat) + 1)) (o_mv rfl) ?_
        refine h6 (k + 1) _ _ ⟨by first | rfl | (rw [wrdW_out (by omega)]; rfl), by first | rfl | exact v_int (by omega) | exact v_int (by simp) | exact v_int (by simp; omega), rfl, by first | rfl | exact v_int (by omega) | exact v_int (by simp) | exact v_int (by simp; omega), hM17, by omega⟩ (by (try dsimp only); omega)
      ·
        refine h11 _ _ ?_
        clear h11
        refine stp (v := .pointer (some ⟨bv, 0, none⟩)) (o_mv rfl) ?_
        refine stp (v := .pointer (some ⟨bv, 0, none⟩)) (o_nilchk rfl rfl) ?_
        refine stp (v := .pointer (some ⟨bv, 1, none⟩)) (o_fa rfl rfl) ?_
        refine m_ld (v := .int .i64 (a + k : Nat)) hM13 (i := 0) (j := 0) rfl rfl rfl rfl ?_
        refine stp (v := .int .i64 (a + (k + 1) : Nat)) (o_bin rfl rfl ((v_add64 (by omega)).trans (v_int (by omega)))) ?_
        refine stp (v := .pointer (some ⟨bv, 0, none⟩)) (o_nilchk rfl rfl) ?_
        refine stp (v := .pointer (some ⟨bv, 1, none⟩)) (o_fa rfl rfl) ?_
        refine m_st (v := .int .i64 (a + (k + 1) : Nat)) hM13 (i := 0) rfl rfl rfl rfl (by simp) fun w18 (hM18 : Mem w ([bv]) w18 [[⟨bv, 87, [x, .int .i64 (a + (k + 1) : Nat)]⟩]]) => ?_
        refine h10 _ _ ?_
        clear h10
        refine stp (v := .int .i64 (k : Nat)) (o_mv rfl) ?_
        refine stp (v := .int .i64 ((k : Nat) + 1)) (o_bin rfl rfl (v_add64 (by constructor <;> omega))) ?_
        refine stp (v := .int .i64 ((k : Nat) + 1)) (o_mv rfl) ?_
        refine h6 (k + 1) _ _ ⟨by first | rfl | (rw [wrdW_out (by omega)]; rfl), by first | rfl | exact v_int (by omega) | exact v_int (by simp) | exact v_int (by simp; omega), rfl, by first | rfl | exact v_int (by omega) | exact v_int (by simp) | exact v_int (by simp; omega), hM18, by omega⟩ (by (try dsimp only); omega)
    ·
      refine h3 _ _ ?_
      clear h3
      refine seq fun K19 h19 => ?_
      refine stp (v := .int .u64 (wrdW b a k : Nat)) (o_mv rfl) ?_
      refine stp (v := .int .u64 (wrdW b a k : Nat)) (o_mv rfl) ?_
      refine h19 _ _ ?_
      clear h19
      refine ⟨(.int .u64 (wrdW b a k : Nat)), rfl, ?_⟩
      exact ⟨by rw [show n = k by omega], _, by rw [show n = k by omega], hM5⟩
