/- Few bits; order; both: the laws' helpers. -/
import Derived.Test.YtjockanmmfmidaaDoorJ4
namespace Go.Proofs.YtjockanmmfmidaaDoor.E
open Go
theorem tmod17 (b : Int) : (Int.tmod b 17 < 0 → Int.tmod b 17 + 17 = b % 17) ∧ (¬ Int.tmod b 17 < 0 → Int.tmod b 17 = b % 17) := by
  rcases Int.le_total 0 b with h | h
  · rw [Int.tmod_eq_emod_of_nonneg h]
    exact ⟨fun k => by omega, fun _ => rfl⟩
  · obtain ⟨c, rfl⟩ : ∃ c, b = -c := ⟨-b, by omega⟩
    have e : Int.tmod (-c) 17 = -(c % 17) := by rw [Int.neg_tmod, Int.tmod_eq_emod_of_nonneg (by omega)]
    rw [e]
    constructor <;> intro k <;> omega
theorem tmod17_bd (b : Int) : -17 ≤ Int.tmod b 17 ∧ Int.tmod b 17 < 17 := by
  have := tmod17 b
  have h1 := Int.emod_nonneg b (show (17 : Int) ≠ 0 by omega)
  have h2 := Int.emod_lt_of_pos b (show (0 : Int) < 17 by omega)
  by_cases c : Int.tmod b 17 < 0
  · have := this.1 c; omega
  · have := this.2 c; omega
theorem shr8 {x : UInt8} {k : Nat} (hk : k < 8) {z : Int} (hz : z = (k : Int)) : Value.int .u8 ((x.toNat : Int).fdiv (2 ^ min z.toNat IntKind.u8.bits)) = .int .u8 ((x.toNat / 2 ^ k : Nat) : Int) := by
  subst hz; exact v_int (shrI_nat (k := .u8) (by simp only [IntKind.bits]; omega))
theorem rem8 {q : Nat} : Value.int .u8 (Int.tmod (q : Int) 2) = .int .u8 ((q % 2 : Nat) : Int) := (v_rem (Int.natCast_nonneg _)).trans rfl
theorem ones_bit (d : List UInt8) (i : Nat) {k : Nat} (hk : k < 8) : onesU d (8 * i + k) + (d.getD i 0).toNat / 2 ^ k % 2 = onesU d (8 * i + (k + 1)) := by
  rw [← Nat.add_assoc, onesU_succ]
  congr 1
  unfold testB
  rw [show (8 * i + k) / 8 = i by omega, show (8 * i + k) % 8 = k by omega, Nat.testBit_eq_decide_div_mod_eq]
  split
  · rename_i h; exact of_decide_eq_true h
  · rename_i h
    rw [decide_eq_true_eq] at h
    omega
theorem rev_drop {l : List (List UInt8)} {j : Nat} (h0 : 0 < j) (hj : j ≤ l.length) : (l.drop (j - 1)).reverse = (l.drop j).reverse ++ [l.getD (j - 1) []] := by
  rw [dropG [] (show j - 1 < l.length by omega), List.reverse_cons, show j - 1 + 1 = j by omega]
theorem allT_take {α : Type} (z : α) {l : List α} {q : α → Bool} {i : Nat} (h : i < l.length) (h1 : (l.take i).all q = true) (h2 : q (l.getD i z) = true) : (l.take (i + 1)).all q = true := by
  rw [takeG z h, List.all_append, h1]; simpa using h2
theorem allT_stop {α : Type} (z : α) {l : List α} {q : α → Bool} {i : Nat} (h : i < l.length) (h2 : q (l.getD i z) = false) : l.all q = false := by
  rw [List.all_eq_false]
  exact ⟨_, getD_memG z h, by rw [h2]; decide⟩

/-- winnowlaw7.bent -/
theorem bent_ok (b : Int) (hb : inK .i64 b) (w : World) : Calls Tryd.prog 13 [.int .i64 b].toArray w (Rt fun r w' => ∃ p, r = .int .i64 p ∧ (0 ≤ p ∧ p ≤ 16) ∧ Upd [] w w') := by
  have hM0 : Mem w [] w [] := Mem.nil w []
  have hm := tmod17 b
  have hbd := tmod17_bd b
  have h1 := Int.emod_nonneg b (show (17 : Int) ≠ 0 by omega)
  have h2 := Int.emod_lt_of_pos b (show (0 : Int) < 17 by omega)
  refine calls_vc mixed Tryd.func13 rfl C13 (by simp [Tryd.ntmps13]) ?_
  refine seq fun K1 h1 => ?_
  refine stp (v := .int .i64 0) (o_mv rfl) ?_
  refine h1 _ _ ?_
  clear h1
  refine seq fun K2 h2 => ?_
  refine stp (v := .int .i64 b) (o_mv rfl) ?_
  refine stp (v := .int .i64 (Int.tmod b 17)) (o_rem rfl rfl (by omega) (rfl)) ?_
  refine stp (v := .int .i64 (Int.tmod b 17)) (o_mv rfl) ?_
  refine h2 _ _ ?_
  clear h2
  refine seq fun K3 h3 => ?_
  refine seq fun K4 h4 => ?_
  refine stp (v := .int .i64 (Int.tmod b 17)) (o_mv rfl) ?_
  refine stp (v := .bool (decide ((Int.tmod b 17) < 0))) (o_bin rfl rfl rfl) ?_
  refine h4 _ _ ?_
  clear h4
  refine cndP rfl (fun c5 => ?_) (fun c5 => ?_)
  ·
    refine stp (v := .int .i64 (Int.tmod b 17)) (o_mv rfl) ?_
    refine stp (v := .int .i64 ((Int.tmod b 17) + 17)) (o_bin rfl rfl (v_add64 (by constructor <;> omega))) ?_
    refine stp (v := .int .i64 ((Int.tmod b 17) + 17)) (o_mv rfl) ?_
    refine h3 _ _ ?_
    clear h3
    refine seq fun K6 h6 => ?_
    refine stp (v := .int .i64 ((Int.tmod b 17) + 17)) (o_mv rfl) ?_
    refine stp (v := .int .i64 ((Int.tmod b 17) + 17)) (o_mv rfl) ?_
    refine h6 _ _ ?_
    clear h6
    refine ⟨(.int .i64 ((Int.tmod b 17) + 17)), rfl, ?_⟩
    exact ⟨_, rfl, by omega, hM0.upd⟩
  ·
    refine h3 _ _ ?_
    clear h3
    refine seq fun K7 h7 => ?_
    refine stp (v := .int .i64 (Int.tmod b 17)) (o_mv rfl) ?_
    refine stp (v := .int .i64 (Int.tmod b 17)) (o_mv rfl) ?_
    refine h7 _ _ ?_
    clear h7
    refine ⟨(.int .i64 (Int.tmod b 17)), rfl, ?_⟩
    exact ⟨_, rfl, by omega, hM0.upd⟩

/-- winnowlaw7.ones -/
theorem ones_ok (x : Value) (d : List UInt8) (w : World) (hx : RdE byteV w x d) (hl : d.length ≤ 4096) : Calls Tryd.prog 15 [x].toArray w (Rt fun r w' => r = .int .i64 ((onesU d (8 * d.length) : Nat) : Int) ∧ Upd [] w w') := by
  have hM0 : Mem w [] w [] := Mem.nil w []
  refine calls_vc mixed Tryd.func15 rfl C15 (by simp [Tryd.ntmps15]) ?_
  refine seq fun K1 h1 => ?_
  refine stp (v := .int .i64 0) (o_mv rfl) ?_
  refine h1 _ _ ?_
  clear h1
  refine seq fun K2 h2 => ?_
  refine stp (v := .int .i64 0) (o_mv rfl) ?_
  refine h2 _ _ ?_
  clear h2
  refine seq fun K3 h3 => ?_
  refine seq fun K4 h4 => ?_
  refine stp (v := .int .i64 0) (o_mv rfl) ?_
  refine h4 _ _ ?_
  clear h4
  refine lp (n := fun _ _ => False) (ι := (Nat) × (Nat)) (fun ⟨i, s⟩ f w' => f 4 = .int .i64 (i : Nat) ∧ f 3 = .int .i64 (s : Nat) ∧ f 0 = x ∧ Mem w [] w' [] ∧ (i ≤ d.length) ∧ (s = onesU d (8 * i))) (fun ⟨i, s⟩ => d.length - i) (0, 0) ?_ ?_
  · exact ⟨by first | rfl | exact v_int (by omega) | exact v_int (by simp) | exact v_int (by simp; omega), by first | rfl | exact v_int (by omega) | exact v_int (by simp) | exact v_int (by simp; omega), rfl, hM0, by omega, rfl⟩
  · rintro ⟨i, s⟩ f w5 ⟨e5_4, e5_3, e5_0, hM5, hi, hs⟩ K6 h6
    obtain ⟨frm, rfl⟩ : ∃ frm, f = (upd (upd (upd frm 4 (.int .i64 (i : Nat))) 3 (.int .i64 (s : Nat))) 0 (x)) := ⟨f, by rw [upd_self e5_4, upd_self e5_3, upd_self e5_0]⟩
    clear e5_4 e5_3 e5_0
    refine seq fun K7 h7 => ?_
    refine seq fun K8 h8 => ?_
    refine stp (v := .int .i64 (i : Nat)) (o_mv rfl) ?_
    refine stp (v := x) (o_mv rfl) ?_
    refine stp (v := .int .i64 (d.length : Nat)) (o_lenR (hx.upd hM5.upd) rfl rfl) ?_
    refine stp (v := .bool (decide (((i : Nat) : Int) < (d.length : Nat)))) (o_bin rfl rfl rfl) ?_
    refine h8 _ _ ?_
    clear h8
    refine cndP rfl (fun c9 => ?_) (fun c9 => ?_)
    ·
      refine h7 _ _ ?_
      clear h7
      refine seq fun K10 h10 => ?_
      refine seq fun K11 h11 => ?_
      refine stp (v := .int .i64 0) (o_mv rfl) ?_
      refine h11 _ _ ?_
      clear h11
      refine lp (n := fun _ _ => False) (ι := (Nat) × (Nat)) (fun ⟨k, s2⟩ f w' => f 5 = .int .i64 (k : Nat) ∧ f 3 = .int .i64 (s2 : Nat) ∧ f 0 = x ∧ f 4 = .int .i64 (i : Nat) ∧ Mem w [] w' [] ∧ (k ≤ 8) ∧ (s2 = onesU d (8 * i + k))) (fun ⟨k, s2⟩ => 8 - k) (0, s) ?_ ?_
      · exact ⟨by first | rfl | exact v_int (by omega) | exact v_int (by simp) | exact v_int (by simp; omega), by first | rfl | exact v_int (by omega) | exact v_int (by simp) | exact v_int (by simp; omega), rfl, by first | rfl | exact v_int (by omega) | exact v_int (by simp) | exact v_int (by simp; omega), hM5, by omega, hs⟩
      · rintro ⟨k, s2⟩ f w12 ⟨e12_5, e12_3, e12_0, e12_4, hM12, hk, hs2⟩ K13 h13
        obtain ⟨frm, rfl⟩ : ∃ frm, f = (upd (upd (upd (upd frm 5 (.int .i64 (k : Nat))) 3 (.int .i64 (s2 : Nat))) 0 (x)) 4 (.int .i64 (i : Nat))) := ⟨f, by rw [upd_self e12_5, upd_self e12_3, upd_self e12_0, upd_self e12_4]⟩
        clear e12_5 e12_3 e12_0 e12_4
        refine seq fun K14 h14 => ?_
        refine seq fun K15 h15 => ?_
        refine stp (v := .int .i64 (k : Nat)) (o_mv rfl) ?_
        refine stp (v := .bool (decide (((k : Nat) : Int) < 8))) (o_bin rfl rfl rfl) ?_
        refine h15 _ _ ?_
        clear h15
        refine cndP rfl (fun c16 => ?_) (fun c16 => ?_)
        ·
          refine h14 _ _ ?_
          clear h14
          refine seq fun K17 h17 => ?_
          refine stp (v := .int .i64 (s2 : Nat)) (o_mv rfl) ?_
          refine stp (v := x) (o_mv rfl) ?_
          refine stp (v := .int .i64 (i : Nat)) (o_mv rfl) ?_
          have hob := onesU_le d (8 * i + k)
          refine m_idxE 0 (j := i) (hx.upd hM12.upd) rfl rfl (by omega) fun b18 o18 hp18 => ?_
          refine ld (v := byteV (d.getD i 0)) rfl (hp18) ?_
          refine stp (v := .int .i64 (k : Nat)) (o_mv rfl) ?_
          refine stp (v := .int .u8 ((d.getD i 0).toNat / 2 ^ k : Nat)) (o_shr rfl rfl (by omega) (shr8 (by omega) rfl)) ?_
          refine stp (v := .int .u8 ((d.getD i 0).toNat / 2 ^ k % 2 : Nat)) (o_rem rfl rfl (by omega) (rem8)) ?_
          refine stp (v := .int .i64 ((d.getD i 0).toNat / 2 ^ k % 2 : Nat)) (o_conv rfl (v_same (by simp only [inK]; omega))) ?_
          refine stp (v := .int .i64 (s2 + (d.getD i 0).toNat / 2 ^ k % 2 : Nat)) (o_bin rfl rfl ((v_add64 (by omega)).trans (v_int (by omega)))) ?_
          refine stp (v := .int .i64 (s2 + (d.getD i 0).toNat / 2 ^ k % 2 : Nat)) (o_mv rfl) ?_
          refine h17 _ _ ?_
          clear h17
          refine stp (v := .int .i64 (k : Nat)) (o_mv rfl) ?_
          refine stp (v := .int .i64 ((k : Nat) + 1)) (o_bin rfl rfl (v_add64 (by constructor <;> omega))) ?_
          refine stp (v := .int .i64 ((k : Nat) + 1)) (o_mv rfl) ?_
          refine h13 (k + 1, s2 + (d.getD i 0).toNat / 2 ^ k % 2) _ _ ⟨by first | rfl | exact v_int (by omega) | exact v_int (by simp) | exact v_int (by simp; omega), by first | rfl | exact v_int (by omega) | exact v_int (by simp) | exact v_int (by simp; omega), rfl, by first | rfl | exact v_int (by omega) | exact v_int (by simp) | exact v_int (by simp; omega), hM12, by omega, by rw [hs2]; exact ones_bit d i (by omega)⟩ (by (try dsimp only); omega)
        ·
          refine h10 _ _ ?_
          clear h10
          refine stp (v := .int .i64 (i : Nat)) (o_mv rfl) ?_
          refine stp (v := .int .i64 ((i : Nat) + 1)) (o_bin rfl rfl (v_add64 (by constructor <;> omega))) ?_
          refine stp (v := .int .i64 ((i : Nat) + 1)) (o_mv rfl) ?_
          refine h6 (i + 1, s2) _ _ ⟨by first | rfl | exact v_int (by omega) | exact v_int (by simp) | exact v_int (by simp; omega), by first | rfl | exact v_int (by omega) | exact v_int (by simp) | exact v_int (by simp; omega), rfl, hM12, by omega, by rw [hs2, show 8 * i + k = 8 * (i + 1) by omega]⟩ (by (try dsimp only); omega)
    ·
      refine h3 _ _ ?_
      clear h3
      refine seq fun K19 h19 => ?_
      refine stp (v := .int .i64 (s : Nat)) (o_mv rfl) ?_
      refine stp (v := .int .i64 (s : Nat)) (o_mv rfl) ?_
      refine h19 _ _ ?_
      clear h19
      refine ⟨(.int .i64 (s : Nat)), rfl, ?_⟩
      exact ⟨by rw [hs, show i = d.length by omega], hM5.upd⟩

/-- winnowlaw7.all -/
theorem all_ok (a : Bool) (h : Int) (v : Value) (d : List UInt8) (y : Value) (l : List (List UInt8)) (w : World) (hfd : RdE byteV w v d) (hl : d.length ≤ 140737488351232) (hh : inK .i64 h) (hy : RdE strV w y l) (hk : ∀ k ∈ l, k.length ≤ 9223372036854775000) (hll : l.length * 16 ≤ 175921860444160) : Calls Tryd.prog 19 [.agg [.bool a, .int .i64 h, v].toArray, y].toArray w (Rt fun r w' => r = .bool (l.all (hasF a h d)) ∧ Upd [] w w') := by
  obtain ⟨av, nv, cv, rfl⟩ := hfd.isSlice
  have hM0 : Mem w [] w [] := Mem.nil w []
  refine calls_vc mixed Tryd.func19 rfl C19 (by simp [Tryd.ntmps19]) ?_
  refine seq fun K1 h1 => ?_
  refine m_bx (v := .agg ([.bool a, .int .i64 h, (.slice av nv cv)] : List Value).toArray) hM0 rfl rfl fun b2 w3 (hM3 : Mem w [] w3 [[⟨b2, 24, [.bool a, .int .i64 h, (.slice av nv cv)]⟩]]) => ?_
  refine stp (v := .bool false) (o_mv rfl) ?_
  refine h1 _ _ ?_
  clear h1
  refine seq fun K4 h4 => ?_
  refine seq fun K5 h5 => ?_
  refine stp (v := .int .i64 0) (o_mv rfl) ?_
  refine h5 _ _ ?_
  clear h5
  refine lp (n := fun _ _ => False) (ι := (Nat)) (fun i f w' => f 5 = .int .i64 (i : Nat) ∧ f 1 = y ∧ f 2 = .pointer (some ⟨b2, 0, none⟩) ∧ Mem w [] w' [[⟨b2, 24, [.bool a, .int .i64 h, (.slice av nv cv)]⟩]] ∧ (i ≤ l.length) ∧ ((l.take i).all (hasF a h d) = true)) (fun i => l.length - i) (0) ?_ ?_
  · exact ⟨by first | rfl | exact v_int (by omega) | exact v_int (by simp) | exact v_int (by simp; omega), rfl, rfl, hM3, by omega, by simp⟩
  · rintro i f w6 ⟨e6_5, e6_1, e6_2, hM6, hi, ha⟩ K7 h7
    obtain ⟨frm, rfl⟩ : ∃ frm, f = (upd (upd (upd frm 5 (.int .i64 (i : Nat))) 1 (y)) 2 (.pointer (some ⟨b2, 0, none⟩))) := ⟨f, by rw [upd_self e6_5, upd_self e6_1, upd_self e6_2]⟩
    clear e6_5 e6_1 e6_2
    refine seq fun K8 h8 => ?_
    refine seq fun K9 h9 => ?_
    refine stp (v := .int .i64 (i : Nat)) (o_mv rfl) ?_
    refine stp (v := y) (o_mv rfl) ?_
    refine stp (v := .int .i64 (l.length : Nat)) (o_lenR (hy.upd hM6.upd) rfl rfl) ?_
    refine stp (v := .bool (decide (((i : Nat) : Int) < (l.length : Nat)))) (o_bin rfl rfl rfl) ?_
    refine h9 _ _ ?_
    clear h9
    refine cndP rfl (fun c10 => ?_) (fun c10 => ?_)
    ·
      refine h8 _ _ ?_
      clear h8
      refine seq fun K11 h11 => ?_
      refine seq fun K12 h12 => ?_
      intro wd e1 e2 e3 e4
      have hd := Upd.same e1 e2 e3 e4 []
      have hM13 := hM6.pure hd
      clear e1 e2 e3 e4
      refine ⟨(some [b2]), ?_⟩
      show vd _ _ _ _ _ _ _
      refine dq (v := y) (o_mv rfl) ?_
      refine dq (v := .int .i64 (i : Nat)) (o_mv rfl) ?_
      refine dqp (m_idxE [] (j := i) (hy.upd hM13.upd) rfl rfl (by omega) fun b14 o14 hp14 => ?_)
      show vd _ _ _ _ _ _ _
      refine dqldA (cs := [.bool a, .int .i64 h, (.slice av nv cv)]) rfl (by simp [isHeld]) rfl ((hM13.at (i := 0) (j := 0) rfl rfl).agg rfl rfl) ?_
      refine dl (ld (v := .string (str (l.getD i []))) rfl (hp14) ?_)
      refine ⟨(fun b hb => rfl), ?_⟩
      refine dl (m_call (Has_ok a h _ d (l.getD i []) wd (hfd.upd hM13.upd) (by first | omega | (simp; done) | (simp; omega)) (by have := hk _ (getD_memG [] (i := i) (l := l) (by omega)); omega) (by first | assumption | omega)) rfl fun v15 w15 ⟨hr15, hu15⟩ => ?_)
      have hM15 : Mem w [] w15 [[⟨b2, 24, [.bool a, .int .i64 h, (.slice av nv cv)]⟩]] := hM13.pure hu15
      subst hr15
      have hh15 := held_upd (wr := wd) (bs := [b2]) hu15 (fun b hb => by
        simp only [List.mem_cons, List.not_mem_nil, or_false] at hb
        rw [hb]; exact ⟨(hM13.at (i := 0) (j := 0) rfl rfl).lt, by simp⟩) (fun b hb => rfl)
      refine ⟨hh15, ?_⟩
      refine dq (v := .bool (!(hasF a h d (l.getD i [])))) (o_not rfl rfl) ?_
      refine h12 _ _ ?_
      clear h12
      refine cnd rfl (fun hT => ?_) (fun hF => ?_)
      ·
        refine seq fun K17 h17 => ?_
        refine stp (v := .bool false) (o_mv rfl) ?_
        refine h17 _ _ ?_
        clear h17
        refine ⟨(.bool false), rfl, ?_⟩
        exact ⟨by rw [allT_stop [] (q := hasF a h d) (i := i) (by omega) (by simpa using hT)], hM15.upd⟩
      ·
        refine h11 _ _ ?_
        clear h11
        refine stp (v := .int .i64 (i : Nat)) (o_mv rfl) ?_
        refine stp (v := .int .i64 ((i : Nat) + 1)) (o_bin rfl rfl (v_add64 (by constructor <;> omega))) ?_
        refine stp (v := .int .i64 ((i : Nat) + 1)) (o_mv rfl) ?_
        refine h7 (i + 1) _ _ ⟨by first | rfl | exact v_int (by omega) | exact v_int (by simp) | exact v_int (by simp; omega), rfl, rfl, hM15, by omega, allT_take [] (by omega) ha (by simpa using hF)⟩ (by (try dsimp only); omega)
    ·
      refine h4 _ _ ?_
      clear h4
      refine seq fun K18 h18 => ?_
      refine stp (v := .bool true) (o_mv rfl) ?_
      refine h18 _ _ ?_
      clear h18
      refine ⟨(.bool true), rfl, ?_⟩
      rw [List.take_of_length_le (by omega)] at ha
      exact ⟨by rw [ha], hM6.upd⟩
