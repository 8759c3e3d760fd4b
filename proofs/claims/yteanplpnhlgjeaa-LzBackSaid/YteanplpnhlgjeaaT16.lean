/- Encode, the reference's: the walk. -/
import Derived.Test.YteanplpnhlgjeaaT15
namespace Go.Proofs.Yteanplpnhlgjeaa.E
open Go
theorem perm4 {a b c d e : List Ent} : [a ++ e, b, c, d].flatten.Perm [a, b, c, d, e].flatten := by
  simp only [List.flatten_cons, List.flatten_nil, List.append_nil, List.append_assoc]
  refine List.Perm.append_left _ ?_
  have h : b ++ (c ++ (d ++ e)) = (b ++ (c ++ d)) ++ e := by simp
  rw [h]
  exact List.perm_append_comm
theorem permU {a b c : List Ent} : [b, a ++ c].flatten.Perm [a, b, c].flatten := by
  simp only [List.flatten_cons, List.flatten_nil, List.append_nil]
  exact List.perm_append_comm_assoc _ _ _

/-- winnowref3.same -/
theorem rsame_ok (x : Value) (T : List UInt8) (i j : Nat) (w : World) (hx : RdE byteV w x T) (hi : i + 4 ≤ T.length) (hj : j ≤ i) (hl : T.length ≤ 65536) : Calls Try.prog 49 [x, .int .i64 ((i : Nat) : Int), .int .i64 ((j : Nat) : Int)].toArray w (Rt fun r w' => r = .int .i64 ((lcF T i j : Nat) : Int) ∧ Upd [] w w') := by
  have hM0 : Mem w [] w [] := Mem.nil w []
  refine calls_vc mixed Try.func49 rfl C49 (by simp [Try.ntmps49]) ?_
  refine seq fun K1 h1 => ?_
  refine stp (v := .int .i64 0) (o_mv rfl) ?_
  refine h1 _ _ ?_
  clear h1
  refine seq fun K2 h2 => ?_
  refine stp (v := .int .i64 0) (o_mv rfl) ?_
  refine h2 _ _ ?_
  clear h2
  refine seq fun K3 h3 => ?_
  refine lp (n := fun _ _ => False) (ι := (Nat)) (fun n f w' => f 7 = .int .i64 (n : Nat) ∧ f 0 = x ∧ f 1 = .int .i64 (i : Nat) ∧ f 2 = .int .i64 (j : Nat) ∧ Mem w [] w' [] ∧ (n ≤ 259 ∧ i + n ≤ T.length) ∧ (∀ k, k < n → T.getD (i + k) 0 = T.getD (j + k) 0)) (fun n => 259 - n) (0) ?_ ?_
  · exact ⟨by first | rfl | exact v_int (by omega) | exact v_int (by simp) | exact v_int (by simp; omega), rfl, by first | rfl | exact v_int (by omega) | exact v_int (by simp) | exact v_int (by simp; omega), by first | rfl | exact v_int (by omega) | exact v_int (by simp) | exact v_int (by simp; omega), hM0, by omega, fun k hk => by omega⟩
  · rintro n f w4 ⟨e4_7, e4_0, e4_1, e4_2, hM4, hn, hk⟩ K5 h5
    obtain ⟨frm, rfl⟩ : ∃ frm, f = (upd (upd (upd (upd frm 7 (.int .i64 (n : Nat))) 0 (x)) 1 (.int .i64 (i : Nat))) 2 (.int .i64 (j : Nat))) := ⟨f, by rw [upd_self e4_7, upd_self e4_0, upd_self e4_1, upd_self e4_2]⟩
    clear e4_7 e4_0 e4_1 e4_2
    refine seq fun K6 h6 => ?_
    refine seq fun K7 h7 => ?_
    intro wd e1 e2 e3 e4
    have hd := Upd.same e1 e2 e3 e4 []
    have hM8 := hM4.pure hd
    clear e1 e2 e3 e4
    refine ⟨none, ?_⟩
    show vd _ _ _ _ _ _ _
    refine dq (v := .int .i64 (n : Nat)) (o_mv rfl) ?_
    refine dq (v := .bool (decide (((n : Nat) : Int) < 259))) (o_bin rfl rfl rfl) ?_
    refine dq (v := .bool (decide (((n : Nat) : Int) < 259))) (o_mv rfl) ?_
    refine dsplitP rfl (fun c9 => ?_) (fun c9 => ?_)
    ·
      refine dqg rfl (v := .int .i64 (i : Nat)) (o_mv rfl) ?_
      refine dqg rfl (v := .int .i64 (n : Nat)) (o_mv rfl) ?_
      refine dqg rfl (v := .int .i64 ((i : Nat) + (n : Nat))) (o_bin rfl rfl (v_add64 (by constructor <;> omega))) ?_
      refine dqg rfl (v := x) (o_mv rfl) ?_
      refine dqg rfl (v := .int .i64 (T.length : Nat)) (o_lenR (hx.upd hM8.upd) rfl rfl) ?_
      refine dqg rfl (v := .bool (decide (((i : Nat) + (n : Nat) : Int) < (T.length : Nat)))) (o_bin rfl rfl rfl) ?_
      refine dq (v := .bool (decide (((i : Nat) + (n : Nat) : Int) < (T.length : Nat)))) (o_pickT rfl rfl) ?_
      refine dq (v := .bool (decide (((i : Nat) + (n : Nat) : Int) < (T.length : Nat)))) (o_mv rfl) ?_
      refine dsplitP rfl (fun c10 => ?_) (fun c10 => ?_)
      ·
        refine dqg rfl (v := x) (o_mv rfl) ?_
        refine dqg rfl (v := .int .i64 (i : Nat)) (o_mv rfl) ?_
        refine dqg rfl (v := .int .i64 (n : Nat)) (o_mv rfl) ?_
        refine dqg rfl (v := .int .i64 ((i : Nat) + (n : Nat))) (o_bin rfl rfl (v_add64 (by constructor <;> omega))) ?_
        refine dgyes rfl rfl (dqp (m_idxE 0 (j := ((i) + (n))) (hx.upd hM8.upd) rfl (v_int (by omega)) (by omega) fun b11 o11 hp11 => ?_))
        show vd _ _ _ _ _ _ _
        refine dqg rfl (v := x) (o_mv rfl) ?_
        refine dqg rfl (v := .int .i64 (j : Nat)) (o_mv rfl) ?_
        refine dqg rfl (v := .int .i64 (n : Nat)) (o_mv rfl) ?_
        refine dqg rfl (v := .int .i64 ((j : Nat) + (n : Nat))) (o_bin rfl rfl (v_add64 (by constructor <;> omega))) ?_
        refine dgyes rfl rfl (dqp (m_idxE 0 (j := ((j) + (n))) (hx.upd hM8.upd) rfl (v_int (by omega)) (by omega) fun b12 o12 hp12 => ?_))
        show vd _ _ _ _ _ _ _
        refine dqgyes rfl rfl ?_
        refine dqld rfl (trivial) (v := byteV (T.getD ((j) + (n)) 0)) (hp12) ?_
        refine dgyesl rfl ?_
        refine dl (ld (v := byteV (T.getD ((i) + (n)) 0)) rfl (hp11) ?_)
        refine ⟨rfl, ?_⟩
        refine dqg rfl (v := .bool (decide (((T.getD ((i) + (n)) 0).toNat : Int) = ((T.getD ((j) + (n)) 0).toNat : Int)))) (o_bin rfl rfl rfl) ?_
        refine dq (v := .bool (decide (((T.getD ((i) + (n)) 0).toNat : Int) = ((T.getD ((j) + (n)) 0).toNat : Int)))) (o_pickT rfl rfl) ?_
        refine h7 _ _ ?_
        clear h7
        refine cndP rfl (fun c13 => ?_) (fun c13 => ?_)
        ·
          refine h6 _ _ ?_
          clear h6
          refine stp (v := .int .i64 (n : Nat)) (o_mv rfl) ?_
          refine stp (v := .int .i64 ((n : Nat) + 1)) (o_bin rfl rfl (v_add64 (by constructor <;> omega))) ?_
          refine stp (v := .int .i64 ((n : Nat) + 1)) (o_mv rfl) ?_
          refine h5 (n + 1) _ _ ⟨by first | rfl | exact v_int (by omega) | exact v_int (by simp) | exact v_int (by simp; omega), rfl, by first | rfl | exact v_int (by omega) | exact v_int (by simp) | exact v_int (by simp; omega), by first | rfl | exact v_int (by omega) | exact v_int (by simp) | exact v_int (by simp; omega), hM8, by omega, fun k hk9 => by
              rcases Nat.lt_or_ge k n with h9 | h9
              · exact hk k h9
              · (obtain rfl : k = n := by omega); exact u8_eq (by assumption)⟩ (by (try dsimp only); omega)
        ·
          refine h3 _ _ ?_
          clear h3
          refine seq fun K14 h14 => ?_
          have hL : lcF T i j = n := lcF_is (by omega) (by omega) (by omega) hk (by first | exact .inr (.inr (nat_neG (by assumption))) | exact or3 (by omega))
          refine stp (v := .int .i64 (n : Nat)) (o_mv rfl) ?_
          refine stp (v := .int .i64 (n : Nat)) (o_mv rfl) ?_
          refine h14 _ _ ?_
          clear h14
          refine ⟨(.int .i64 (n : Nat)), rfl, ?_⟩
          exact ⟨by rw [hL], hM8.upd⟩
      ·
        refine dgno rfl (by simp) ?_
        refine dgno rfl (by simp) ?_
        refine dgno rfl (by simp) ?_
        refine dgno rfl (by simp) ?_
        refine dgno rfl (by simp) ?_
        refine dgno rfl (by simp) ?_
        refine dgno rfl (by simp) ?_
        refine dgno rfl (by simp) ?_
        refine dgno rfl (by simp) ?_
        refine dgno rfl (by simp) ?_
        refine dqgno rfl (by simp) ?_
        refine dgnol rfl (by simp) ?_
        refine dgno rfl (by simp) ?_
        refine dq (v := .bool false) (o_pickF rfl rfl) ?_
        refine h7 _ _ ?_
        clear h7
        refine cndF rfl ?_
        refine h3 _ _ ?_
        clear h3
        refine seq fun K15 h15 => ?_
        have hL : lcF T i j = n := lcF_is (by omega) (by omega) (by omega) hk (by first | exact .inr (.inr (nat_neG (by assumption))) | exact or3 (by omega))
        refine stp (v := .int .i64 (n : Nat)) (o_mv rfl) ?_
        refine stp (v := .int .i64 (n : Nat)) (o_mv rfl) ?_
        refine h15 _ _ ?_
        clear h15
        refine ⟨(.int .i64 (n : Nat)), rfl, ?_⟩
        exact ⟨by rw [hL], hM8.upd⟩
    ·
      refine dgno rfl (by simp) ?_
      refine dgno rfl (by simp) ?_
      refine dgno rfl (by simp) ?_
      refine dgno rfl (by simp) ?_
      refine dgno rfl (by simp) ?_
      refine dgno rfl (by simp) ?_
      refine dq (v := .bool false) (o_pickF rfl rfl) ?_
      refine dq (v := .bool false) (o_mv rfl) ?_
      refine dsplitF rfl ?_
      refine dgno rfl (by simp) ?_
      refine dgno rfl (by simp) ?_
      refine dgno rfl (by simp) ?_
      refine dgno rfl (by simp) ?_
      refine dgno rfl (by simp) ?_
      refine dgno rfl (by simp) ?_
      refine dgno rfl (by simp) ?_
      refine dgno rfl (by simp) ?_
      refine dgno rfl (by simp) ?_
      refine dgno rfl (by simp) ?_
      refine dqgno rfl (by simp) ?_
      refine dgnol rfl (by simp) ?_
      refine dgno rfl (by simp) ?_
      refine dq (v := .bool false) (o_pickF rfl rfl) ?_
      refine h7 _ _ ?_
      clear h7
      refine cndF rfl ?_
      refine h3 _ _ ?_
      clear h3
      refine seq fun K16 h16 => ?_
      have hL : lcF T i j = n := lcF_is (by omega) (by omega) (by omega) hk (by first | exact .inr (.inr (nat_neG (by assumption))) | exact or3 (by omega))
      refine stp (v := .int .i64 (n : Nat)) (o_mv rfl) ?_
      refine stp (v := .int .i64 (n : Nat)) (o_mv rfl) ?_
      refine h16 _ _ ?_
      clear h16
      refine ⟨(.int .i64 (n : Nat)), rfl, ?_⟩
      exact ⟨by rw [hL], hM8.upd⟩

/-- winnowref3.own -/
theorem own_ok (x : Value) (T : List UInt8) (w : World) (hx : RdE byteV w x T) (hl : T.length ≤ 65536) : Calls Try.prog 37 [x].toArray w (Rt fun r w' => ∃ us rA rB, SlS tokC 3 31 r us rA ∧ Nst (OwnP byteV 5 Tk.lit Tk.bs) us rB ∧ us.map Tk.p = ownF T ∧ Mem w [] w' [rA, rB]) := by
  have hM0 : Mem w [] w [[]] := (Mem.nil w []).addNil
  refine calls_vc mixed Try.func37 rfl C37 (by simp [Try.ntmps37]) ?_
  refine seq fun K1 h1 => ?_
  refine stp (v := .slice none 0 0) (o_mv rfl) ?_
  refine h1 _ _ ?_
  clear h1
  refine seq fun K2 h2 => ?_
  refine stp (v := .slice none 0 0) (o_mv rfl) ?_
  refine h2 _ _ ?_
  clear h2
  refine seq fun K3 h3 => ?_
  refine m_mksE (E := i64V) (z := 0) (n := 4096) (c := 4096) rfl hM0 (v_int (by omega)) (v_int (by omega)) (by omega) (by omega) (by omega) fun v4 w4 r4 hs4 (hM4 : Mem w [] w4 [[], r4]) => ?_
  refine stp (v := v4) (o_mv rfl) ?_
  refine h3 _ _ ?_
  clear h3
  refine seq fun K5 h5 => ?_
  refine stp (v := x) (o_mv rfl) ?_
  refine stp (v := .int .i64 (T.length : Nat)) (o_lenR (hx.upd hM4.upd) rfl rfl) ?_
  refine stp (v := .int .i64 ((T.length : Nat) + 1)) (o_bin rfl rfl (v_add64 (by constructor <;> omega))) ?_
  refine m_mksE (E := i64V) (z := 0) (n := (T.length + 1)) (c := (T.length + 1)) rfl hM4 (v_int (by omega)) (v_int (by omega)) (by omega) (by omega) (by omega) fun v6 w6 r6 hs6 (hM6 : Mem w [] w6 [[], r4, r6]) => ?_
  refine stp (v := v6) (o_mv rfl) ?_
  refine h5 _ _ ?_
  clear h5
  refine seq fun K7 h7 => ?_
  refine stp (v := .int .i64 0) (o_mv rfl) ?_
  refine h7 _ _ ?_
  clear h7
  refine seq fun K8 h8 => ?_
  refine stp (v := .int .i64 0) (o_mv rfl) ?_
  refine h8 _ _ ?_
  clear h8
  refine seq fun K9 h9 => ?_
  refine seq fun K10 h10 => ?_
  refine stp (v := .int .i64 0) (o_mv rfl) ?_
  refine h10 _ _ ?_
  clear h10
  have hM11 : Mem w [] w6 [[], r4, r6, []] := hM6.addNil
  have hs11 : SlS tokC 3 31 (.slice none 0 0) [] [] := Sl.nil 3 31
  refine lp (n := fun _ _ => False) (ι := (Nat) × (Nat) × (Nat) × (Nat) × (List Int) × (List Int) × (List Tk) × (List Ent) × (Value) × (List Ent) × (Value) × (List Ent) × (Value) × (List Ent)) (fun ⟨i, j, k, m, H, A, us, rB, y4_, r4_, y5_, r5_, y3_, r3_⟩ f w' => f 4 = y4_ ∧ f 5 = y5_ ∧ f 3 = y3_ ∧ f 6 = .int .i64 (j : Nat) ∧ f 7 = .int .i64 (m : Nat) ∧ f 8 = .int .i64 (i : Nat) ∧ f 0 = x ∧ Mem w [] w' [rB, r4_, r5_, r3_] ∧ (Tab (slotR T) 4096 m H A 0) ∧ (A.length = T.length + 1) ∧ (ownF T = us.map Tk.p ++ ownK T k i j) ∧ (Nst (OwnP byteV 5 Tk.lit Tk.bs) us rB) ∧ (T.length ≤ i + k) ∧ (j ≤ i) ∧ (i ≤ T.length) ∧ (m ≤ i) ∧ (us.length ≤ i) ∧ (SlE i64V 3 y4_ (H) r4_) ∧ (SlE i64V 3 y5_ (A) r5_) ∧ (SlS tokC 3 31 y3_ (us) r3_)) (fun ⟨i, j, k, m, H, A, us, rB, y4_, r4_, y5_, r5_, y3_, r3_⟩ => T.length - i) (0, 0, T.length, 0, (List.replicate 4096 0), (List.replicate (T.length + 1) 0), [], [], v4, r4, v6, r6, ((.slice none 0 0)), ([])) ?_ ?_
  · exact ⟨rfl, rfl, rfl, by first | rfl | exact v_int (by omega) | exact v_int (by simp) | exact v_int (by simp; omega), by first | rfl | exact v_int (by omega) | exact v_int (by simp) | exact v_int (by simp; omega), by first | rfl | exact v_int (by omega) | exact v_int (by simp) | exact v_int (by simp; omega), rfl, hM11, Tab.init _ _ _ _, by simp, rfl, Nst.nil, by omega, by omega, by omega, by omega, by simp, by first | exact hs4 | simpa using hs4, by first | exact hs6 | simpa using hs6, by first | exact hs11 | simpa using hs11⟩
  · rintro ⟨i, j, k, m, H, A, us, rB, y4_, r4_, y5_, r5_, y3_, r3_⟩ f w12 ⟨e12_4, e12_5, e12_3, e12_6, e12_7, e12_8, e12_0, hM12, ht, hAl, hE, hns, hk, hj, hi, hm, hul, hy4_, hy5_, hy3_⟩ K13 h13
    obtain ⟨frm, rfl⟩ : ∃ frm, f = (upd (upd (upd (upd (upd (upd (upd frm 4 (y4_)) 5 (y5_)) 3 (y3_)) 6 (.int .i64 (j : Nat))) 7 (.int .i64 (m : Nat))) 8 (.int .i64 (i : Nat))) 0 (x)) := ⟨f, by rw [upd_self e12_4, upd_self e12_5, upd_self e12_3, upd_self e12_6, upd_self e12_7, upd_self e12_8, upd_self e12_0]⟩
    clear e12_4 e12_5 e12_3 e12_6 e12_7 e12_8 e12_0
    refine seq fun K14 h14 => ?_
    refine seq fun K15 h15 => ?_
    refine stp (v := .int .i64 (i : Nat)) (o_mv rfl) ?_
    refine stp (v := .int .i64 ((i : Nat) + 4)) (o_bin rfl rfl (v_add64 (by constructor <;> omega))) ?_
    refine stp (v := x) (o_mv rfl) ?_
    refine stp (v := .int .i64 (T.length : Nat)) (o_lenR (hx.upd hM12.upd) rfl rfl) ?_
    refine stp (v := .bool (decide (((i : Nat) + 4 : Int) ≤ (T.length : Nat)))) (o_bin rfl rfl rfl) ?_
    refine h15 _ _ ?_
    clear h15
    refine cndP rfl (fun c16 => ?_) (fun c16 => ?_)
    ·
      refine h14 _ _ ?_
      clear h14
      refine seq fun K17 h17 => ?_
      refine lp (n := fun _ _ => False) (ι := (Nat) × (List Int) × (List Int) × (Value) × (List Ent) × (Value) × (List Ent)) (fun ⟨m, H, A, y4_, r4_, y5_, r5_⟩ f w' => f 4 = y4_ ∧ f 5 = y5_ ∧ f 7 = .int .i64 (m : Nat) ∧ f 0 = x ∧ f 3 = y3_ ∧ f 6 = .int .i64 (j : Nat) ∧ f 8 = .int .i64 (i : Nat) ∧ Mem w [] w' [rB, r4_, r5_, r3_] ∧ (Tab (slotR T) 4096 m H A 0) ∧ (A.length = T.length + 1) ∧ (m ≤ i) ∧ (SlE i64V 3 y4_ (H) r4_) ∧ (SlE i64V 3 y5_ (A) r5_)) (fun ⟨m, H, A, y4_, r4_, y5_, r5_⟩ => i - m) (m, H, A, y4_, r4_, y5_, r5_) ?_ ?_
      · exact ⟨rfl, rfl, by first | rfl | exact v_int (by omega) | exact v_int (by simp) | exact v_int (by simp; omega), rfl, rfl, by first | rfl | exact v_int (by omega) | exact v_int (by simp) | exact v_int (by simp; omega), by first | rfl | exact v_int (by omega) | exact v_int (by simp) | exact v_int (by simp; omega), hM12, ht, hAl, hm, by first | exact hy4_ | simpa using hy4_, by first | exact hy5_ | simpa using hy5_⟩
      · rintro ⟨m, H, A, y4_, r4_, y5_, r5_⟩ f w18 ⟨e18_4, e18_5, e18_7, e18_0, e18_3, e18_6, e18_8, hM18, ht, hAl, hm, hy4_, hy5_⟩ K19 h19
        obtain ⟨frm, rfl⟩ : ∃ frm, f = (upd (upd (upd (upd (upd (upd (upd frm 4 (y4_)) 5 (y5_)) 7 (.int .i64 (m : Nat))) 0 (x)) 3 (y3_)) 6 (.int .i64 (j : Nat))) 8 (.int .i64 (i : Nat))) := ⟨f, by rw [upd_self e18_4, upd_self e18_5, upd_self e18_7, upd_self e18_0, upd_self e18_3, upd_self e18_6, upd_self e18_8]⟩
        clear e18_4 e18_5 e18_7 e18_0 e18_3 e18_6 e18_8
        refine seq fun K20 h20 => ?_
        refine seq fun K21 h21 => ?_
        refine stp (v := .int .i64 (m : Nat)) (o_mv rfl) ?_
        refine stp (v := .int .i64 (i : Nat)) (o_mv rfl) ?_
        refine stp (v := .bool (decide (((m : Nat) : Int) < (i : Nat)))) (o_bin rfl rfl rfl) ?_
        refine h21 _ _ ?_
        clear h21
        refine cndP rfl (fun c22 => ?_) (fun c22 => ?_)
        ·
          refine h20 _ _ ?_
          clear h20
          refine seq fun K23 h23 => ?_
          refine stp (v := x) (o_mv rfl) ?_
          refine stp (v := .int .i64 (m : Nat)) (o_mv rfl) ?_
          refine m_call (slot_ok _ T m w18 (hx.upd hM18.upd) (by omega) (by omega)) rfl fun v24 w24 ⟨hr24, hu24⟩ => ?_
          have hM24 : Mem w [] w24 [rB, r4_, r5_, r3_] := hM18.pure hu24
          subst hr24
          refine stp (v := .int .i64 (slotR T m : Nat)) (o_mv rfl) ?_
          refine h23 _ _ ?_
          clear h23
          refine seq fun K25 h25 => ?_
          refine stp (v := y5_) (o_mv rfl) ?_
          refine stp (v := .int .i64 (m : Nat)) (o_mv rfl) ?_
          have hsl := slotR_lt T m
          have hHl := ht.hl
          refine stp (v := y4_) (o_mv rfl) ?_
          refine stp (v := .int .i64 (slotR T m : Nat)) (o_mv rfl) ?_
          refine m_idxE 0 (j := slotR T m) (hy4_.rd hM24 (i := 1) rfl) rfl rfl (by omega) fun b26 o26 hp26 => ?_
          refine ld (v := .int .i64 (H.getD (slotR T m) 0)) rfl (hp26) ?_
          refine m_set (E := i64V) (q := (H.getD (slotR T m) 0 - 0)) (j := m) hM24 (i := 2) rfl hy5_ rfl rfl (by omega) (by simp) (v_int (by omega)) fun w27 r27 u27 he27 hs27 (hM27 : Mem w [] w27 [rB, r4_, r27, r3_]) => ?_
          refine h25 _ _ ?_
          clear h25
          refine seq fun K28 h28 => ?_
          refine stp (v := y4_) (o_mv rfl) ?_
          refine stp (v := .int .i64 (slotR T m : Nat)) (o_mv rfl) ?_
          refine stp (v := .int .i64 (m : Nat)) (o_mv rfl) ?_
          refine stp (v := .int .i64 ((m : Nat) + 1)) (o_bin rfl rfl (v_add64 (by constructor <;> omega))) ?_
          refine m_set (E := i64V) (q := (m : Nat) + 1) (j := slotR T m) hM27 (i := 1) rfl hy4_ rfl rfl (by omega) (by simp) (rfl) fun w29 r29 u29 he29 hs29 (hM29 : Mem w [] w29 [rB, r29, r27, r3_]) => ?_
          refine h28 _ _ ?_
          clear h28
          refine stp (v := .int .i64 (m : Nat)) (o_mv rfl) ?_
          refine stp (v := .int .i64 ((m : Nat) + 1)) (o_bin rfl rfl (v_add64 (by constructor <;> omega))) ?_
          refine stp (v := .int .i64 ((m : Nat) + 1)) (o_mv rfl) ?_
          refine h19 (m + 1, (H.set (slotR T m) ((m : Nat) + 1)), (A.set m (H.getD (slotR T m) 0 - 0)), y4_, r29, y5_, r27) _ _ ⟨rfl, rfl, by first | rfl | exact v_int (by omega) | exact v_int (by simp) | exact v_int (by simp; omega), rfl, rfl, by first | rfl | exact v_int (by omega) | exact v_int (by simp) | exact v_int (by simp; omega), by first | rfl | exact v_int (by omega) | exact v_int (by simp) | exact v_int (by simp; omega), hM29, ht.step (by omega) hsl, by rw [List.length_set]; exact hAl, by omega, by first | exact hs29 | simpa using hs29, by first | exact hs27 | simpa using hs27⟩ (by (try dsimp only); omega)
        ·
          refine h17 _ _ ?_
          clear h17
          refine seq fun K30 h30 => ?_
          refine stp (v := .int .i64 0) (o_mv rfl) ?_
          refine h30 _ _ ?_
          clear h30
          refine seq fun K31 h31 => ?_
          refine stp (v := .int .i64 0) (o_mv rfl) ?_
          refine h31 _ _ ?_
          clear h31
          refine seq fun K32 h32 => ?_
          refine stp (v := .int .i64 0) (o_mv rfl) ?_
          refine h32 _ _ ?_
          clear h32
          refine seq fun K33 h33 => ?_
          refine stp (v := y4_) (o_mv rfl) ?_
          refine stp (v := x) (o_mv rfl) ?_
          refine stp (v := .int .i64 (i : Nat)) (o_mv rfl) ?_
          refine m_call (slot_ok _ T i w18 (hx.upd hM18.upd) (by omega) (by omega)) rfl fun v34 w34 ⟨hr34, hu34⟩ => ?_
          have hM34 : Mem w [] w34 [rB, r4_, r5_, r3_] := hM18.pure hu34
          subst hr34
          have hsl := slotR_lt T i
          have hHl := ht.hl
          have hmi : m = i := by omega
          have hhv := ht.hv _ hsl
          have hpl := pv_le (slotR T) (slotR T i) m
          rw [hmi] at hhv hpl
          refine m_idxE 0 (j := slotR T i) (hy4_.rd hM34 (i := 1) rfl) rfl rfl (by omega) fun b35 o35 hp35 => ?_
          refine ld (v := .int .i64 (H.getD (slotR T i) 0)) rfl (hp35) ?_
          refine stp (v := .int .i64 ((H.getD (slotR T i) 0) - 1)) (o_bin rfl rfl (v_sub64 (by constructor <;> omega))) ?_
          refine stp (v := .int .i64 ((H.getD (slotR T i) 0) - 1)) (o_mv rfl) ?_
          refine h33 _ _ ?_
          clear h33
          refine seq fun K36 h36 => ?_
          refine lp (n := fun _ _ => False) (ι := (Nat) × (Nat) × (Nat) × (Nat)) (fun ⟨p, s, d, b⟩ f w' => f 10 = .int .i64 (b : Nat) ∧ f 11 = .int .i64 (d : Nat) ∧ f 12 = .int .i64 (s : Nat) ∧ f 13 = .int .i64 ((p : Nat) - 1) ∧ f 0 = x ∧ f 3 = y3_ ∧ f 4 = y4_ ∧ f 5 = y5_ ∧ f 6 = .int .i64 (j : Nat) ∧ f 7 = .int .i64 (m : Nat) ∧ f 8 = .int .i64 (i : Nat) ∧ Mem w [] w' [rB, r4_, r5_, r3_] ∧ (Srch T (slotR T) i p s d b) ∧ (s ≤ 16)) (fun ⟨p, s, d, b⟩ => p) (pv (slotR T) (slotR T i) i, 0, 0, 0) ?_ ?_
          · exact ⟨by first | rfl | exact v_int (by omega) | exact v_int (by simp) | exact v_int (by simp; omega), by first | rfl | exact v_int (by omega) | exact v_int (by simp) | exact v_int (by simp; omega), by first | rfl | exact v_int (by omega) | exact v_int (by simp) | exact v_int (by simp; omega), by first | rfl | exact v_int (by omega) | exact v_int (by simp) | exact v_int (by simp; omega), rfl, rfl, rfl, rfl, by first | rfl | exact v_int (by omega) | exact v_int (by simp) | exact v_int (by simp; omega), by first | rfl | exact v_int (by omega) | exact v_int (by simp) | exact v_int (by simp; omega), by first | rfl | exact v_int (by omega) | exact v_int (by simp) | exact v_int (by simp; omega), hM34, Srch.init (slotR_h T) (by omega), by omega⟩
          · rintro ⟨p, s, d, b⟩ f w37 ⟨e37_10, e37_11, e37_12, e37_13, e37_0, e37_3, e37_4, e37_5, e37_6, e37_7, e37_8, hM37, hS, hs⟩ K38 h38
            obtain ⟨frm, rfl⟩ : ∃ frm, f = (upd (upd (upd (upd (upd (upd (upd (upd (upd (upd (upd frm 10 (.int .i64 (b : Nat))) 11 (.int .i64 (d : Nat))) 12 (.int .i64 (s : Nat))) 13 (.int .i64 ((p : Nat) - 1))) 0 (x)) 3 (y3_)) 4 (y4_)) 5 (y5_)) 6 (.int .i64 (j : Nat))) 7 (.int .i64 (m : Nat))) 8 (.int .i64 (i : Nat))) := ⟨f, by rw [upd_self e37_10, upd_self e37_11, upd_self e37_12, upd_self e37_13, upd_self e37_0, upd_self e37_3, upd_self e37_4, upd_self e37_5, upd_self e37_6, upd_self e37_7, upd_self e37_8]⟩
            clear e37_10 e37_11 e37_12 e37_13 e37_0 e37_3 e37_4 e37_5 e37_6 e37_7 e37_8
            refine seq fun K39 h39 => ?_
            refine seq fun K40 h40 => ?_
            refine stp (v := .int .i64 ((p : Nat) - 1)) (o_mv rfl) ?_
            refine stp (v := .bool (decide ((0 : Int) ≤ ((p : Nat) - 1 : Int)))) (o_bin rfl rfl rfl) ?_
            refine stp (v := .bool (decide ((0 : Int) ≤ ((p : Nat) - 1 : Int)))) (o_mv rfl) ?_
            refine splitP rfl (fun c41 => ?_) (fun c41 => ?_)
            ·
              have hSp := hS.hp
              have hSb := hS.hb
              refine stg rfl (v := .int .i64 (i : Nat)) (o_mv rfl) ?_
              refine stg rfl (v := .int .i64 ((p : Nat) - 1)) (o_mv rfl) ?_
              refine stg rfl (v := .int .i64 ((i : Nat) - ((p : Nat) - 1))) (o_bin rfl rfl (v_sub64 (by constructor <;> omega))) ?_
              refine stg rfl (v := .bool (decide (((i : Nat) - ((p : Nat) - 1) : Int) ≤ 32768))) (o_bin rfl rfl rfl) ?_
              refine stp (v := .bool (decide (((i : Nat) - ((p : Nat) - 1) : Int) ≤ 32768))) (o_pickT rfl rfl) ?_
              refine stp (v := .bool (decide (((i : Nat) - ((p : Nat) - 1) : Int) ≤ 32768))) (o_mv rfl) ?_
              refine splitP rfl (fun c42 => ?_) (fun c42 => ?_)
              ·
                refine stg rfl (v := .int .i64 (s : Nat)) (o_mv rfl) ?_
                refine stg rfl (v := .bool (decide (((s : Nat) : Int) < 16))) (o_bin rfl rfl rfl) ?_
                refine stp (v := .bool (decide (((s : Nat) : Int) < 16))) (o_pickT rfl rfl) ?_
                refine h40 _ _ ?_
                clear h40
                refine cndP rfl (fun c43 => ?_) (fun c43 => ?_)
                ·
                  refine h39 _ _ ?_
                  clear h39
                  refine seq fun K44 h44 => ?_
                  refine seq fun K45 h45 => ?_
                  refine stp (v := x) (o_mv rfl) ?_
                  refine stp (v := .int .i64 (i : Nat)) (o_mv rfl) ?_
                  refine stp (v := .int .i64 (p - 1 : Nat)) (o_mv (v_int (by omega))) ?_
                  refine m_call (alike_ok _ T i (p - 1) w37 (hx.upd hM37.upd) (by omega) (by omega) (by omega)) rfl fun v46 w46 ⟨hr46, hu46⟩ => ?_
                  have hM46 : Mem w [] w46 [rB, r4_, r5_, r3_] := hM37.pure hu46
                  subst hr46
                  refine h45 _ _ ?_
                  clear h45
                  refine cndP rfl (fun c47 => ?_) (fun c47 => ?_)
                  ·
                    refine seq fun K48 h48 => ?_
                    refine stp (v := .int .i64 (s : Nat)) (o_mv rfl) ?_
                    refine stp (v := .int .i64 ((s : Nat) + 1)) (o_bin rfl rfl (v_add64 (by constructor <;> omega))) ?_
                    refine stp (v := .int .i64 ((s : Nat) + 1)) (o_mv rfl) ?_
                    refine h48 _ _ ?_
                    clear h48
                    refine seq fun K49 h49 => ?_
                    refine stp (v := x) (o_mv rfl) ?_
                    refine stp (v := .int .i64 (i : Nat)) (o_mv rfl) ?_
                    refine stp (v := .int .i64 (p - 1 : Nat)) (o_mv (v_int (by omega))) ?_
                    refine m_call (rsame_ok _ T i (p - 1) w46 (hx.upd hM46.upd) (by omega) (by omega) (by omega)) rfl fun v50 w50 ⟨hr50, hu50⟩ => ?_
                    have hM50 : Mem w [] w50 [rB, r4_, r5_, r3_] := hM46.pure hu50
                    subst hr50
                    refine stp (v := .int .i64 (lcF T i (p - 1) : Nat)) (o_mv rfl) ?_
                    refine h49 _ _ ?_
                    clear h49
                    refine seq fun K51 h51 => ?_
                    have hlc := lcF_le (T := T) (i := i) (j := p - 1)
                    refine stp (v := .int .i64 (lcF T i (p - 1) : Nat)) (o_mv rfl) ?_
                    refine stp (v := .int .i64 (b : Nat)) (o_mv rfl) ?_
                    refine stp (v := .bool (decide (((b : Nat) : Int) < ((lcF T i (p - 1) : Nat) : Int)))) (o_bin rfl rfl rfl) ?_
                    refine stp (v := .bool (decide (((b : Nat) : Int) < ((lcF T i (p - 1) : Nat) : Int)))) (o_mv rfl) ?_
                    refine splitP rfl (fun c52 => ?_) (fun c52 => ?_)
                    ·
                      refine stg rfl (v := .int .i64 (lcF T i (p - 1) : Nat)) (o_mv rfl) ?_
                      refine stg rfl (v := .int .i64 (i : Nat)) (o_mv rfl) ?_
                      refine stg rfl (v := .int .i64 (p - 1 : Nat)) (o_mv (v_int (by omega))) ?_
                      refine stg rfl (v := .int .i64 ((i : Nat) - (p - 1 : Nat))) (o_bin rfl rfl (v_sub64 (by constructor <;> omega))) ?_
                      refine gyesl rfl ?_
                      refine m_call (refPut_ok ((i : Nat) - (p - 1 : Nat)) (by simp only [inK]; omega) w50) rfl fun v53 w53 ⟨rs53, hs53, hm53⟩ => ?_
                      have hM53 : Mem w [] w53 [rB, r4_, r5_, r3_, rs53] := hM50.add hm53
                      have hn53 := putI_len (v := (i : Nat) - (p - 1 : Nat)) (by omega)
                      have hpl2 := plen_put (v := (i : Nat) - ((p - 1 : Nat) : Int)) (by omega) (by omega)
                      rw [show ((i : Nat) - ((p - 1 : Nat) : Int) : Int).toNat = i - (p - 1) by omega] at hpl2
                      refine stg rfl (v := .int .i64 ((putI ((i : Nat) - (p - 1 : Nat))).length : Nat)) (o_lenR (hs53.rd hM53 (i := 4) rfl) rfl rfl) ?_
                      refine stg rfl (v := .int .i64 (3 + ((putI ((i : Nat) - (p - 1 : Nat))).length : Nat))) (o_bin rfl rfl (v_add64 (by constructor <;> omega))) ?_
                      refine stg rfl (v := .bool (decide (((3 + ((putI ((i : Nat) - (p - 1 : Nat))).length : Nat) : Int) : Int) ≤ ((lcF T i (p - 1) : Nat) : Int)))) (o_bin rfl rfl rfl) ?_
                      refine stp (v := .bool (decide (((3 + ((putI ((i : Nat) - (p - 1 : Nat))).length : Nat) : Int) : Int) ≤ ((lcF T i (p - 1) : Nat) : Int)))) (o_pickT rfl rfl) ?_
                      refine h51 _ _ ?_
                      clear h51
                      refine cndP rfl (fun c54 => ?_) (fun c54 => ?_)
                      ·
                        refine seq fun K55 h55 => ?_
                        refine stp (v := .int .i64 (lcF T i (p - 1) : Nat)) (o_mv rfl) ?_
                        refine stp (v := .int .i64 (lcF T i (p - 1) : Nat)) (o_mv rfl) ?_
                        refine h55 _ _ ?_
                        clear h55
                        refine stp (v := .int .i64 (i : Nat)) (o_mv rfl) ?_
                        refine stp (v := .int .i64 ((p : Nat) - 1)) (o_mv rfl) ?_
                        refine stp (v := .int .i64 ((i - (p - 1) : Nat) : Int)) (o_bin rfl rfl ((v_sub64 (by omega)).trans (v_int (by omega)))) ?_
                        refine stp (v := .int .i64 ((i - (p - 1) : Nat) : Int)) (o_mv rfl) ?_
                        refine h44 _ _ ?_
                        clear h44
                        have hav := ht.av (p - 1) (by omega)
                        have hpq := pv_le (slotR T) (slotR T (p - 1)) (p - 1)
                        refine stp (v := y5_) (o_mv rfl) ?_
                        refine stp (v := .int .i64 ((p : Nat) - 1)) (o_mv rfl) ?_
                        refine m_idxE 0 (j := (p - 1)) (hy5_.rd hM53 (i := 2) rfl) rfl (v_int (by omega)) (by omega) fun b56 o56 hp56 => ?_
                        refine ld (v := .int .i64 (A.getD (p - 1) 0)) rfl (hp56) ?_
                        refine stp (v := .int .i64 ((A.getD (p - 1) 0) - 1)) (o_bin rfl rfl (v_sub64 (by constructor <;> omega))) ?_
                        refine stp (v := .int .i64 ((A.getD (p - 1) 0) - 1)) (o_mv rfl) ?_
                        refine h38 (pv (slotR T) (slotR T (p - 1)) (p - 1), s + 1, i - (p - 1), lcF T i (p - 1)) _ _ ⟨by first | rfl | exact v_int (by omega) | exact v_int (by simp) | exact v_int (by simp; omega), by first | rfl | exact v_int (by omega) | exact v_int (by simp) | exact v_int (by simp; omega), by first | rfl | exact v_int (by omega) | exact v_int (by simp) | exact v_int (by simp; omega), by first | rfl | exact v_int (by omega) | exact v_int (by simp) | exact v_int (by simp; omega), rfl, rfl, rfl, rfl, by first | rfl | exact v_int (by omega) | exact v_int (by simp) | exact v_int (by simp; omega), by first | rfl | exact v_int (by omega) | exact v_int (by simp) | exact v_int (by simp; omega), by first | rfl | exact v_int (by omega) | exact v_int (by simp) | exact v_int (by simp; omega), hM53.keep (by simp), hS.better (slotR_h T) (by omega) (by assumption) (by omega) (by omega) (by omega), by omega⟩ (by (try dsimp only); omega)
                      ·
                        refine h44 _ _ ?_
                        clear h44
                        have hav := ht.av (p - 1) (by omega)
                        have hpq := pv_le (slotR T) (slotR T (p - 1)) (p - 1)
                        refine stp (v := y5_) (o_mv rfl) ?_
                        refine stp (v := .int .i64 ((p : Nat) - 1)) (o_mv rfl) ?_
                        refine m_idxE 0 (j := (p - 1)) (hy5_.rd hM53 (i := 2) rfl) rfl (v_int (by omega)) (by omega) fun b57 o57 hp57 => ?_
                        refine ld (v := .int .i64 (A.getD (p - 1) 0)) rfl (hp57) ?_
                        refine stp (v := .int .i64 ((A.getD (p - 1) 0) - 1)) (o_bin rfl rfl (v_sub64 (by constructor <;> omega))) ?_
                        refine stp (v := .int .i64 ((A.getD (p - 1) 0) - 1)) (o_mv rfl) ?_
                        refine h38 (pv (slotR T) (slotR T (p - 1)) (p - 1), s + 1, d, b) _ _ ⟨by first | rfl | exact v_int (by omega) | exact v_int (by simp) | exact v_int (by simp; omega), by first | rfl | exact v_int (by omega) | exact v_int (by simp) | exact v_int (by simp; omega), by first | rfl | exact v_int (by omega) | exact v_int (by simp) | exact v_int (by simp; omega), by first | rfl | exact v_int (by omega) | exact v_int (by simp) | exact v_int (by simp; omega), rfl, rfl, rfl, rfl, by first | rfl | exact v_int (by omega) | exact v_int (by simp) | exact v_int (by simp; omega), by first | rfl | exact v_int (by omega) | exact v_int (by simp) | exact v_int (by simp; omega), by first | rfl | exact v_int (by omega) | exact v_int (by simp) | exact v_int (by simp; omega), hM53.keep (by simp), hS.worse (slotR_h T) (by omega) (by assumption) (by omega) (by omega) (by omega), by omega⟩ (by (try dsimp only); omega)
                    ·
                      refine gno rfl (by simp) ?_
                      refine gno rfl (by simp) ?_
                      refine gno rfl (by simp) ?_
                      refine gno rfl (by simp) ?_
                      refine gnol rfl (by simp) ?_
                      refine gno rfl (by simp) ?_
                      refine gno rfl (by simp) ?_
                      refine gno rfl (by simp) ?_
                      refine stp (v := .bool false) (o_pickF rfl rfl) ?_
                      refine h51 _ _ ?_
                      clear h51
                      refine cndF rfl ?_
                      refine h44 _ _ ?_
                      clear h44
                      have hav := ht.av (p - 1) (by omega)
                      have hpq := pv_le (slotR T) (slotR T (p - 1)) (p - 1)
                      refine stp (v := y5_) (o_mv rfl) ?_
                      refine stp (v := .int .i64 ((p : Nat) - 1)) (o_mv rfl) ?_
                      refine m_idxE 0 (j := (p - 1)) (hy5_.rd hM50 (i := 2) rfl) rfl (v_int (by omega)) (by omega) fun b58 o58 hp58 => ?_
                      refine ld (v := .int .i64 (A.getD (p - 1) 0)) rfl (hp58) ?_
                      refine stp (v := .int .i64 ((A.getD (p - 1) 0) - 1)) (o_bin rfl rfl (v_sub64 (by constructor <;> omega))) ?_
                      refine stp (v := .int .i64 ((A.getD (p - 1) 0) - 1)) (o_mv rfl) ?_
                      refine h38 (pv (slotR T) (slotR T (p - 1)) (p - 1), s + 1, d, b) _ _ ⟨by first | rfl | exact v_int (by omega) | exact v_int (by simp) | exact v_int (by simp; omega), by first | rfl | exact v_int (by omega) | exact v_int (by simp) | exact v_int (by simp; omega), by first | rfl | exact v_int (by omega) | exact v_int (by simp) | exact v_int (by simp; omega), by first | rfl | exact v_int (by omega) | exact v_int (by simp) | exact v_int (by simp; omega), rfl, rfl, rfl, rfl, by first | rfl | exact v_int (by omega) | exact v_int (by simp) | exact v_int (by simp; omega), by first | rfl | exact v_int (by omega) | exact v_int (by simp) | exact v_int (by simp; omega), by first | rfl | exact v_int (by omega) | exact v_int (by simp) | exact v_int (by simp; omega), hM50, hS.worse (slotR_h T) (by omega) (by assumption) (by omega) (by omega) (by omega), by omega⟩ (by (try dsimp only); omega)
                  ·
                    refine h44 _ _ ?_
                    clear h44
                    have hav := ht.av (p - 1) (by omega)
                    have hpq := pv_le (slotR T) (slotR T (p - 1)) (p - 1)
                    refine stp (v := y5_) (o_mv rfl) ?_
                    refine stp (v := .int .i64 ((p : Nat) - 1)) (o_mv rfl) ?_
                    refine m_idxE 0 (j := (p - 1)) (hy5_.rd hM46 (i := 2) rfl) rfl (v_int (by omega)) (by omega) fun b59 o59 hp59 => ?_
                    refine ld (v := .int .i64 (A.getD (p - 1) 0)) rfl (hp59) ?_
                    refine stp (v := .int .i64 ((A.getD (p - 1) 0) - 1)) (o_bin rfl rfl (v_sub64 (by constructor <;> omega))) ?_
                    refine stp (v := .int .i64 ((A.getD (p - 1) 0) - 1)) (o_mv rfl) ?_
                    refine h38 (pv (slotR T) (slotR T (p - 1)) (p - 1), s, d, b) _ _ ⟨by first | rfl | exact v_int (by omega) | exact v_int (by simp) | exact v_int (by simp; omega), by first | rfl | exact v_int (by omega) | exact v_int (by simp) | exact v_int (by simp; omega), by first | rfl | exact v_int (by omega) | exact v_int (by simp) | exact v_int (by simp; omega), by first | rfl | exact v_int (by omega) | exact v_int (by simp) | exact v_int (by simp; omega), rfl, rfl, rfl, rfl, by first | rfl | exact v_int (by omega) | exact v_int (by simp) | exact v_int (by simp; omega), by first | rfl | exact v_int (by omega) | exact v_int (by simp) | exact v_int (by simp; omega), by first | rfl | exact v_int (by omega) | exact v_int (by simp) | exact v_int (by simp; omega), hM46, hS.skip (slotR_h T) (by omega) (by assumption), by omega⟩ (by (try dsimp only); omega)
                ·
                  refine h36 _ _ ?_
                  clear h36
                  refine seq fun K60 h60 => ?_
                  refine seq fun K61 h61 => ?_
                  have hBe := hS.stop (by omega)
                  have hbl := best_le (T := T) (i := i)
                  rw [hBe] at hbl
                  dsimp only at hbl
                  refine stp (v := .int .i64 (b : Nat)) (o_mv rfl) ?_
                  refine stp (v := .bool (decide (((b : Nat) : Int) = 0))) (o_bin rfl rfl rfl) ?_
                  refine h61 _ _ ?_
                  clear h61
                  refine cndP rfl (fun c62 => ?_) (fun c62 => ?_)
                  ·
                    refine seq fun K63 h63 => ?_
                    refine stp (v := .int .i64 (i : Nat)) (o_mv rfl) ?_
                    refine stp (v := .int .i64 ((i : Nat) + 1)) (o_bin rfl rfl (v_add64 (by constructor <;> omega))) ?_
                    refine stp (v := .int .i64 ((i : Nat) + 1)) (o_mv rfl) ?_
                    refine h63 _ _ ?_
                    clear h63
                    refine h13 (i + 1, j, k - 1, m, H, A, us, rB, y4_, r4_, y5_, r5_, y3_, r3_) _ _ ⟨rfl, rfl, rfl, by first | rfl | exact v_int (by omega) | exact v_int (by simp) | exact v_int (by simp; omega), by first | rfl | exact v_int (by omega) | exact v_int (by simp) | exact v_int (by simp; omega), by first | rfl | exact v_int (by omega) | exact v_int (by simp) | exact v_int (by simp; omega), rfl, hM37.keep (by simp), ht, hAl, by rw [← own_miss (by omega) hk (by rw [hBe]; omega)]; exact hE, hns, by omega, by omega, by omega, by omega, by omega, by first | exact hy4_ | simpa using hy4_, by first | exact hy5_ | simpa using hy5_, by first | exact hy3_ | simpa using hy3_⟩ (by (try dsimp only); omega)
                  ·
                    refine h60 _ _ ?_
                    clear h60
                    refine seq fun K64 h64 => ?_
                    refine stp (v := y3_) (o_mv rfl) ?_
                    refine m_bs hM37 rfl fun b65 w66 (hM66 : Mem w [] w66 [rB, r4_, r5_, r3_, [⟨b65, 5, []⟩]]) => ?_
                    refine stp (v := x) (o_mv rfl) ?_
                    refine stp (v := .int .i64 (j : Nat)) (o_mv rfl) ?_
                    refine stp (v := .int .i64 (i : Nat)) (o_mv rfl) ?_
                    refine m_slcE j i (hx) rfl (by omega) (by omega) ⟨_, rfl⟩ ⟨_, rfl⟩ fun u67 hu67 => ?_
                    have hs68 : SlE byteV 5 (.slice (some ⟨b65, 0, none⟩) 0 0) [] [⟨b65, 5, []⟩] := SlE.lit (l := []) rfl
                    refine m_appE hM66 (i := 4) rfl hs68 rfl rfl ((hu67.upd hM66.upd)) (by first | omega | (simp; omega)) (by omega) fun v69 w69 r69 (hs69 : SlE byteV 5 v69 ((T.take i).drop j) r69) (hM69 : Mem w [] w69 [rB, r4_, r5_, r3_, r69]) => ?_
                    refine stp (v := .int .i64 (d : Nat)) (o_mv rfl) ?_
                    refine stp (v := .int .i64 (b : Nat)) (o_mv rfl) ?_
                    obtain ⟨a70_, n70_, c70_, rfl⟩ := Sl.isSlice hs69
                    refine stp (v := .agg ([(.slice a70_ n70_ c70_), .int .i64 (d : Nat), .int .i64 (b : Nat)] : List Value).toArray) (o_bld rfl rfl) ?_
                    refine m_app1S (enc := tokC) (q := (⟨a70_, n70_, c70_, (T.take i).drop j, (d : Nat), (b : Nat)⟩ : Tk)) hM69 (i := 3) rfl hy3_ rfl (by simp) (rfl) rfl (by first | omega | (simp; omega)) (by omega) fun v71 w71 r71 u71 (hs71 : SlS tokC 3 31 v71 (us ++ [(⟨a70_, n70_, c70_, (T.take i).drop j, (d : Nat), (b : Nat)⟩ : Tk)]) r71) (hM71 : Mem w [] w71 [rB, r4_, r5_, r71, r69]) => ?_
                    refine stp (v := v71) (o_mv rfl) ?_
                    refine h64 _ _ ?_
                    clear h64
                    refine seq fun K72 h72 => ?_
                    refine stp (v := .int .i64 (i : Nat)) (o_mv rfl) ?_
                    refine stp (v := .int .i64 (b : Nat)) (o_mv rfl) ?_
                    refine stp (v := .int .i64 ((i : Nat) + (b : Nat))) (o_bin rfl rfl (v_add64 (by constructor <;> omega))) ?_
                    refine stp (v := .int .i64 ((i : Nat) + (b : Nat))) (o_mv rfl) ?_
                    refine h72 _ _ ?_
                    clear h72
                    refine stp (v := .int .i64 ((i : Nat) + (b : Nat))) (o_mv rfl) ?_
                    refine stp (v := .int .i64 ((i : Nat) + (b : Nat))) (o_mv rfl) ?_
                    refine h13 (i + b, i + b, k - 1, m, H, A, (us ++ [(⟨a70_, n70_, c70_, (T.take i).drop j, (d : Nat), (b : Nat)⟩ : Tk)]), rB ++ r69, y4_, r4_, y5_, r5_, v71, r71) _ _ ⟨rfl, rfl, rfl, by first | rfl | exact v_int (by omega) | exact v_int (by simp) | exact v_int (by simp; omega), by first | rfl | exact v_int (by omega) | exact v_int (by simp) | exact v_int (by simp; omega), by first | rfl | exact v_int (by omega) | exact v_int (by simp) | exact v_int (by simp; omega), rfl, (hM71.keep (R' := [rB, r4_, r5_, r71, r69]) (by simp)).perm perm4, ht, hAl, by rw [hE, own_hit (by omega) hk (by rw [hBe]; omega), hBe, List.map_append, List.append_assoc]; rfl, hns.app hs69, by omega, by omega, by omega, by omega, by rw [List.length_append, List.length_singleton]; omega, by first | exact hy4_ | simpa using hy4_, by first | exact hy5_ | simpa using hy5_, by first | exact hs71 | simpa using hs71⟩ (by (try dsimp only); omega)
              ·
                refine gno rfl (by simp) ?_
                refine gno rfl (by simp) ?_
                refine stp (v := .bool false) (o_pickF rfl rfl) ?_
                refine h40 _ _ ?_
                clear h40
                refine cndF rfl ?_
                refine h36 _ _ ?_
                clear h36
                refine seq fun K73 h73 => ?_
                refine seq fun K74 h74 => ?_
                have hBe := hS.stop (by omega)
                have hbl := best_le (T := T) (i := i)
                rw [hBe] at hbl
                dsimp only at hbl
                refine stp (v := .int .i64 (b : Nat)) (o_mv rfl) ?_
                refine stp (v := .bool (decide (((b : Nat) : Int) = 0))) (o_bin rfl rfl rfl) ?_
                refine h74 _ _ ?_
                clear h74
                refine cndP rfl (fun c75 => ?_) (fun c75 => ?_)
                ·
                  refine seq fun K76 h76 => ?_
                  refine stp (v := .int .i64 (i : Nat)) (o_mv rfl) ?_
                  refine stp (v := .int .i64 ((i : Nat) + 1)) (o_bin rfl rfl (v_add64 (by constructor <;> omega))) ?_
                  refine stp (v := .int .i64 ((i : Nat) + 1)) (o_mv rfl) ?_
                  refine h76 _ _ ?_
                  clear h76
                  refine h13 (i + 1, j, k - 1, m, H, A, us, rB, y4_, r4_, y5_, r5_, y3_, r3_) _ _ ⟨rfl, rfl, rfl, by first | rfl | exact v_int (by omega) | exact v_int (by simp) | exact v_int (by simp; omega), by first | rfl | exact v_int (by omega) | exact v_int (by simp) | exact v_int (by simp; omega), by first | rfl | exact v_int (by omega) | exact v_int (by simp) | exact v_int (by simp; omega), rfl, hM37.keep (by simp), ht, hAl, by rw [← own_miss (by omega) hk (by rw [hBe]; omega)]; exact hE, hns, by omega, by omega, by omega, by omega, by omega, by first | exact hy4_ | simpa using hy4_, by first | exact hy5_ | simpa using hy5_, by first | exact hy3_ | simpa using hy3_⟩ (by (try dsimp only); omega)
                ·
                  refine h73 _ _ ?_
                  clear h73
                  refine seq fun K77 h77 => ?_
                  refine stp (v := y3_) (o_mv rfl) ?_
                  refine m_bs hM37 rfl fun b78 w79 (hM79 : Mem w [] w79 [rB, r4_, r5_, r3_, [⟨b78, 5, []⟩]]) => ?_
                  refine stp (v := x) (o_mv rfl) ?_
                  refine stp (v := .int .i64 (j : Nat)) (o_mv rfl) ?_
                  refine stp (v := .int .i64 (i : Nat)) (o_mv rfl) ?_
                  refine m_slcE j i (hx) rfl (by omega) (by omega) ⟨_, rfl⟩ ⟨_, rfl⟩ fun u80 hu80 => ?_
                  have hs81 : SlE byteV 5 (.slice (some ⟨b78, 0, none⟩) 0 0) [] [⟨b78, 5, []⟩] := SlE.lit (l := []) rfl
                  refine m_appE hM79 (i := 4) rfl hs81 rfl rfl ((hu80.upd hM79.upd)) (by first | omega | (simp; omega)) (by omega) fun v82 w82 r82 (hs82 : SlE byteV 5 v82 ((T.take i).drop j) r82) (hM82 : Mem w [] w82 [rB, r4_, r5_, r3_, r82]) => ?_
                  refine stp (v := .int .i64 (d : Nat)) (o_mv rfl) ?_
                  refine stp (v := .int .i64 (b : Nat)) (o_mv rfl) ?_
                  obtain ⟨a83_, n83_, c83_, rfl⟩ := Sl.isSlice hs82
                  refine stp (v := .agg ([(.slice a83_ n83_ c83_), .int .i64 (d : Nat), .int .i64 (b : Nat)] : List Value).toArray) (o_bld rfl rfl) ?_
                  refine m_app1S (enc := tokC) (q := (⟨a83_, n83_, c83_, (T.take i).drop j, (d : Nat), (b : Nat)⟩ : Tk)) hM82 (i := 3) rfl hy3_ rfl (by simp) (rfl) rfl (by first | omega | (simp; omega)) (by omega) fun v84 w84 r84 u84 (hs84 : SlS tokC 3 31 v84 (us ++ [(⟨a83_, n83_, c83_, (T.take i).drop j, (d : Nat), (b : Nat)⟩ : Tk)]) r84) (hM84 : Mem w [] w84 [rB, r4_, r5_, r84, r82]) => ?_
                  refine stp (v := v84) (o_mv rfl) ?_
                  refine h77 _ _ ?_
                  clear h77
                  refine seq fun K85 h85 => ?_
                  refine stp (v := .int .i64 (i : Nat)) (o_mv rfl) ?_
                  refine stp (v := .int .i64 (b : Nat)) (o_mv rfl) ?_
                  refine stp (v := .int .i64 ((i : Nat) + (b : Nat))) (o_bin rfl rfl (v_add64 (by constructor <;> omega))) ?_
                  refine stp (v := .int .i64 ((i : Nat) + (b : Nat))) (o_mv rfl) ?_
                  refine h85 _ _ ?_
                  clear h85
                  refine stp (v := .int .i64 ((i : Nat) + (b : Nat))) (o_mv rfl) ?_
                  refine stp (v := .int .i64 ((i : Nat) + (b : Nat))) (o_mv rfl) ?_
                  refine h13 (i + b, i + b, k - 1, m, H, A, (us ++ [(⟨a83_, n83_, c83_, (T.take i).drop j, (d : Nat), (b : Nat)⟩ : Tk)]), rB ++ r82, y4_, r4_, y5_, r5_, v84, r84) _ _ ⟨rfl, rfl, rfl, by first | rfl | exact v_int (by omega) | exact v_int (by simp) | exact v_int (by simp; omega), by first | rfl | exact v_int (by omega) | exact v_int (by simp) | exact v_int (by simp; omega), by first | rfl | exact v_int (by omega) | exact v_int (by simp) | exact v_int (by simp; omega), rfl, (hM84.keep (R' := [rB, r4_, r5_, r84, r82]) (by simp)).perm perm4, ht, hAl, by rw [hE, own_hit (by omega) hk (by rw [hBe]; omega), hBe, List.map_append, List.append_assoc]; rfl, hns.app hs82, by omega, by omega, by omega, by omega, by rw [List.length_append, List.length_singleton]; omega, by first | exact hy4_ | simpa using hy4_, by first | exact hy5_ | simpa using hy5_, by first | exact hs84 | simpa using hs84⟩ (by (try dsimp only); omega)
            ·
              refine gno rfl (by simp) ?_
              refine gno rfl (by simp) ?_
              refine gno rfl (by simp) ?_
              refine gno rfl (by simp) ?_
              refine stp (v := .bool false) (o_pickF rfl rfl) ?_
              refine stp (v := .bool false) (o_mv rfl) ?_
              refine splitF rfl ?_
              refine gno rfl (by simp) ?_
              refine gno rfl (by simp) ?_
              refine stp (v := .bool false) (o_pickF rfl rfl) ?_
              refine h40 _ _ ?_
              clear h40
              refine cndF rfl ?_
              refine h36 _ _ ?_
              clear h36
              refine seq fun K86 h86 => ?_
              refine seq fun K87 h87 => ?_
              have hBe := hS.stop (by omega)
              have hbl := best_le (T := T) (i := i)
              rw [hBe] at hbl
              dsimp only at hbl
              refine stp (v := .int .i64 (b : Nat)) (o_mv rfl) ?_
              refine stp (v := .bool (decide (((b : Nat) : Int) = 0))) (o_bin rfl rfl rfl) ?_
              refine h87 _ _ ?_
              clear h87
              refine cndP rfl (fun c88 => ?_) (fun c88 => ?_)
              ·
                refine seq fun K89 h89 => ?_
                refine stp (v := .int .i64 (i : Nat)) (o_mv rfl) ?_
                refine stp (v := .int .i64 ((i : Nat) + 1)) (o_bin rfl rfl (v_add64 (by constructor <;> omega))) ?_
                refine stp (v := .int .i64 ((i : Nat) + 1)) (o_mv rfl) ?_
                refine h89 _ _ ?_
                clear h89
                refine h13 (i + 1, j, k - 1, m, H, A, us, rB, y4_, r4_, y5_, r5_, y3_, r3_) _ _ ⟨rfl, rfl, rfl, by first | rfl | exact v_int (by omega) | exact v_int (by simp) | exact v_int (by simp; omega), by first | rfl | exact v_int (by omega) | exact v_int (by simp) | exact v_int (by simp; omega), by first | rfl | exact v_int (by omega) | exact v_int (by simp) | exact v_int (by simp; omega), rfl, hM37.keep (by simp), ht, hAl, by rw [← own_miss (by omega) hk (by rw [hBe]; omega)]; exact hE, hns, by omega, by omega, by omega, by omega, by omega, by first | exact hy4_ | simpa using hy4_, by first | exact hy5_ | simpa using hy5_, by first | exact hy3_ | simpa using hy3_⟩ (by (try dsimp only); omega)
              ·
                refine h86 _ _ ?_
                clear h86
                refine seq fun K90 h90 => ?_
                refine stp (v := y3_) (o_mv rfl) ?_
                refine m_bs hM37 rfl fun b91 w92 (hM92 : Mem w [] w92 [rB, r4_, r5_, r3_, [⟨b91, 5, []⟩]]) => ?_
                refine stp (v := x) (o_mv rfl) ?_
                refine stp (v := .int .i64 (j : Nat)) (o_mv rfl) ?_
                refine stp (v := .int .i64 (i : Nat)) (o_mv rfl) ?_
                refine m_slcE j i (hx) rfl (by omega) (by omega) ⟨_, rfl⟩ ⟨_, rfl⟩ fun u93 hu93 => ?_
                have hs94 : SlE byteV 5 (.slice (some ⟨b91, 0, none⟩) 0 0) [] [⟨b91, 5, []⟩] := SlE.lit (l := []) rfl
                refine m_appE hM92 (i := 4) rfl hs94 rfl rfl ((hu93.upd hM92.upd)) (by first | omega | (simp; omega)) (by omega) fun v95 w95 r95 (hs95 : SlE byteV 5 v95 ((T.take i).drop j) r95) (hM95 : Mem w [] w95 [rB, r4_, r5_, r3_, r95]) => ?_
                refine stp (v := .int .i64 (d : Nat)) (o_mv rfl) ?_
                refine stp (v := .int .i64 (b : Nat)) (o_mv rfl) ?_
                obtain ⟨a96_, n96_, c96_, rfl⟩ := Sl.isSlice hs95
                refine stp (v := .agg ([(.slice a96_ n96_ c96_), .int .i64 (d : Nat), .int .i64 (b : Nat)] : List Value).toArray) (o_bld rfl rfl) ?_
                refine m_app1S (enc := tokC) (q := (⟨a96_, n96_, c96_, (T.take i).drop j, (d : Nat), (b : Nat)⟩ : Tk)) hM95 (i := 3) rfl hy3_ rfl (by simp) (rfl) rfl (by first | omega | (simp; omega)) (by omega) fun v97 w97 r97 u97 (hs97 : SlS tokC 3 31 v97 (us ++ [(⟨a96_, n96_, c96_, (T.take i).drop j, (d : Nat), (b : Nat)⟩ : Tk)]) r97) (hM97 : Mem w [] w97 [rB, r4_, r5_, r97, r95]) => ?_
                refine stp (v := v97) (o_mv rfl) ?_
                refine h90 _ _ ?_
                clear h90
                refine seq fun K98 h98 => ?_
                refine stp (v := .int .i64 (i : Nat)) (o_mv rfl) ?_
                refine stp (v := .int .i64 (b : Nat)) (o_mv rfl) ?_
                refine stp (v := .int .i64 ((i : Nat) + (b : Nat))) (o_bin rfl rfl (v_add64 (by constructor <;> omega))) ?_
                refine stp (v := .int .i64 ((i : Nat) + (b : Nat))) (o_mv rfl) ?_
                refine h98 _ _ ?_
                clear h98
                refine stp (v := .int .i64 ((i : Nat) + (b : Nat))) (o_mv rfl) ?_
                refine stp (v := .int .i64 ((i : Nat) + (b : Nat))) (o_mv rfl) ?_
                refine h13 (i + b, i + b, k - 1, m, H, A, (us ++ [(⟨a96_, n96_, c96_, (T.take i).drop j, (d : Nat), (b : Nat)⟩ : Tk)]), rB ++ r95, y4_, r4_, y5_, r5_, v97, r97) _ _ ⟨rfl, rfl, rfl, by first | rfl | exact v_int (by omega) | exact v_int (by simp) | exact v_int (by simp; omega), by first | rfl | exact v_int (by omega) | exact v_int (by simp) | exact v_int (by simp; omega), by first | rfl | exact v_int (by omega) | exact v_int (by simp) | exact v_int (by simp; omega), rfl, (hM97.keep (R' := [rB, r4_, r5_, r97, r95]) (by simp)).perm perm4, ht, hAl, by rw [hE, own_hit (by omega) hk (by rw [hBe]; omega), hBe, List.map_append, List.append_assoc]; rfl, hns.app hs95, by omega, by omega, by omega, by omega, by rw [List.length_append, List.length_singleton]; omega, by first | exact hy4_ | simpa using hy4_, by first | exact hy5_ | simpa using hy5_, by first | exact hs97 | simpa using hs97⟩ (by (try dsimp only); omega)
    ·
      refine h9 _ _ ?_
      clear h9
      refine seq fun K99 h99 => ?_
      refine seq fun K100 h100 => ?_
      refine stp (v := .int .i64 (j : Nat)) (o_mv rfl) ?_
      refine stp (v := x) (o_mv rfl) ?_
      refine stp (v := .int .i64 (T.length : Nat)) (o_lenR (hx.upd hM12.upd) rfl rfl) ?_
      refine stp (v := .bool (decide (((j : Nat) : Int) < (T.length : Nat)))) (o_bin rfl rfl rfl) ?_
      refine h100 _ _ ?_
      clear h100
      refine cndP rfl (fun c101 => ?_) (fun c101 => ?_)
      ·
        refine stp (v := y3_) (o_mv rfl) ?_
        refine m_bs hM12 rfl fun b102 w103 (hM103 : Mem w [] w103 [rB, r4_, r5_, r3_, [⟨b102, 5, []⟩]]) => ?_
        refine stp (v := x) (o_mv rfl) ?_
        refine stp (v := .int .i64 (j : Nat)) (o_mv rfl) ?_
        refine m_slcE j T.length (hx) rfl (by omega) (by omega) rfl ⟨_, rfl⟩ fun u104 hu104 => ?_
        have hu104' : RdE byteV w u104 (T.drop j) := by
          have e : (T.take T.length).drop j = (T.drop j) := by rw [List.take_length]
          rw [e] at hu104; exact hu104
        have hs105 : SlE byteV 5 (.slice (some ⟨b102, 0, none⟩) 0 0) [] [⟨b102, 5, []⟩] := SlE.lit (l := []) rfl
        refine m_appE hM103 (i := 4) rfl hs105 rfl rfl ((hu104'.upd hM103.upd)) (by first | omega | (simp; omega)) (by omega) fun v106 w106 r106 (hs106 : SlE byteV 5 v106 (T.drop j) r106) (hM106 : Mem w [] w106 [rB, r4_, r5_, r3_, r106]) => ?_
        obtain ⟨a107_, n107_, c107_, rfl⟩ := Sl.isSlice hs106
        refine stp (v := .agg ([(.slice a107_ n107_ c107_), .int .i64 0, .int .i64 0] : List Value).toArray) (o_bld rfl rfl) ?_
        refine m_app1S (enc := tokC) (q := (⟨a107_, n107_, c107_, T.drop j, 0, 0⟩ : Tk)) hM106 (i := 3) rfl hy3_ rfl (by simp) (rfl) rfl (by first | omega | (simp; omega)) (by omega) fun v108 w108 r108 u108 (hs108 : SlS tokC 3 31 v108 (us ++ [(⟨a107_, n107_, c107_, T.drop j, 0, 0⟩ : Tk)]) r108) (hM108 : Mem w [] w108 [rB, r4_, r5_, r108, r106]) => ?_
        refine stp (v := v108) (o_mv rfl) ?_
        refine h99 _ _ ?_
        clear h99
        refine seq fun K109 h109 => ?_
        refine stp (v := v108) (o_mv rfl) ?_
        refine stp (v := v108) (o_mv rfl) ?_
        refine h109 _ _ ?_
        clear h109
        refine ⟨v108, rfl, ?_⟩
        have hE2 := hE
        rw [own_tail _ _ _ (by omega) hk, if_pos (by omega)] at hE2
        exact ⟨_, _, _, hs108, hns.app hs106, by rw [hE2, List.map_append]; rfl, (((hM108.drop 1).drop 2).keep (R' := [rB, r108, r106]) (by simp)).perm permU⟩
      ·
        refine h99 _ _ ?_
        clear h99
        refine seq fun K110 h110 => ?_
        refine stp (v := y3_) (o_mv rfl) ?_
        refine stp (v := y3_) (o_mv rfl) ?_
        refine h110 _ _ ?_
        clear h110
        refine ⟨y3_, rfl, ?_⟩
        have hE2 := hE
        rw [own_tail _ _ _ (by omega) hk, if_neg (by omega), List.append_nil] at hE2
        exact ⟨us, _, rB, hy3_, hns, hE2.symm, (((hM12.drop 1).drop 2).keep (R' := [rB, r3_]) (by simp)).perm perm2⟩

theorem ok_toks {ps : List Pk} {us : List Tk} {w : World} (he : (expF ps).2 = 0) (h : us.map Tk.p = ps) (hr : ∀ t ∈ us, RdE byteV w t.lit t.bs) : ∀ t ∈ us, t.ok w := by
  intro t ht
  have hm : t.p ∈ ps := by rw [← h]; exact List.mem_map.2 ⟨t, ht, rfl⟩
  have hb := expG_bd ps [] he
  have h1 := hb.1 _ hm
  have h5 : t.bs.length ≤ (ps.map fun t => t.1.length).sum := le_sumN (List.mem_map.2 ⟨t.p, hm, rfl⟩)
  have hle := expF_le ps
  unfold expF at hle
  have h2 := hb.2.1
  have h3 := hb.2.2
  simp only [List.length_nil] at h2 h3
  refine ⟨hr t ht, ?_, ?_, by omega⟩
  · simp only [inK]; simp only at h1; omega
  · simp only [inK]; simp only at h1; omega
theorem len_toks {ps : List Pk} {us : List Tk} (he : (expF ps).2 = 0) (h : us.map Tk.p = ps) : us.length ≤ 65536 := by
  have hb := (expG_bd ps [] he).2.2
  have hle := expF_le ps
  unfold expF at hle
  simp only [List.length_nil] at hb
  have := congrArg List.length h
  rw [List.length_map] at this
  omega
theorem ok_own {T : List UInt8} {us : List Tk} {w : World} (hT : T.length ≤ 65536) (h : us.map Tk.p = ownF T) (hr : ∀ t ∈ us, RdE byteV w t.lit t.bs) : ∀ t ∈ us, t.ok w := ok_toks (by rw [own_text hT]) h hr
theorem len_own {T : List UInt8} {us : List Tk} (hT : T.length ≤ 65536) (h : us.map Tk.p = ownF T) : us.length ≤ 65536 := len_toks (by rw [own_text hT]) h

/-- winnowref3.Encode -/
theorem refEncode_ok (x : Value) (T : List UInt8) (w : World) (hx : RdE byteV w x T) (hl : T.length ≤ 140737488355328) : Calls Try.prog 22 [x].toArray w (Rt fun r w' => ∃ v rs, r = .tuple [v, .int .i64 (encF T).2].toArray ∧ SlE byteV 5 v (encF T).1 rs ∧ Mem w [] w' [rs]) := by
  have hM0 : Mem w [] w [] := Mem.nil w []
  refine calls_vc mixed Try.func22 rfl C22 (by simp [Try.ntmps22]) ?_
  refine seq fun K1 h1 => ?_
  refine stp (v := .slice none 0 0) (o_mv rfl) ?_
  refine stp (v := .int .i64 0) (o_mv rfl) ?_
  refine h1 _ _ ?_
  clear h1
  refine seq fun K2 h2 => ?_
  refine seq fun K3 h3 => ?_
  refine stp (v := x) (o_mv rfl) ?_
  refine stp (v := .int .i64 (T.length : Nat)) (o_lenR (hx.upd hM0.upd) rfl rfl) ?_
  refine stp (v := .bool (decide ((65536 : Int) < ((T.length : Nat) : Int)))) (o_bin rfl rfl rfl) ?_
  refine h3 _ _ ?_
  clear h3
  refine cndP rfl (fun c4 => ?_) (fun c4 => ?_)
  ·
    refine seq fun K5 h5 => ?_
    refine stp (v := .slice none 0 0) (o_mv rfl) ?_
    refine stp (v := .int .i64 2) (o_mv rfl) ?_
    refine h5 _ _ ?_
    clear h5
    refine ⟨(.tuple [.slice none 0 0, .int .i64 2].toArray), rfl, ?_⟩
    exact ⟨.slice none 0 0, [], by rw [encF_long (by omega)], by rw [encF_long (by omega)]; exact Sl.nil 1 5, hM0.keep (by simp)⟩
  ·
    refine h2 _ _ ?_
    clear h2
    refine seq fun K6 h6 => ?_
    refine stp (v := x) (o_mv rfl) ?_
    refine m_call (own_ok _ T w (hx.upd hM0.upd) (by omega)) rfl fun v7 w7 ⟨us7, rA7, rB7, hs7, hn7, hp7, hm7⟩ => ?_
    have hM7 : Mem w [] w7 [rA7, rB7] := hM0.add2 hm7
    have hlu7 := len_own (by omega) hp7
    refine m_call (refWrite_ok _ us7 w7 (hs7.rd hM7 (i := 0) rfl) ((ok_own (w := w7) (by omega) hp7 (hn7.rdE hM7 (i := 1) rfl) : ∀ t ∈ us7, Tk.ok w7 t)) (by first | omega | (simp; done) | (simp; omega))) rfl fun v8 w8 ⟨y8, rs8, hr8, hs8, hm8⟩ => ?_
    have hM8 : Mem w [] w8 [rA7, rB7, rs8] := hM7.add hm8
    rw [hp7] at hr8 hs8
    subst hr8
    have hln8 := wrF_len (ownF T)
    refine stp (v := y8) (o_ext rfl rfl) ?_
    refine stp (v := .int .i64 ((wrF (ownF T)).2)) (o_ext rfl rfl) ?_
    refine stp (v := y8) (o_mv rfl) ?_
    refine stp (v := .int .i64 ((wrF (ownF T)).2)) (o_mv rfl) ?_
    refine h6 _ _ ?_
    clear h6
    refine ⟨(.tuple [y8, .int .i64 ((wrF (ownF T)).2)].toArray), rfl, ?_⟩
    have hwe := wr_enc (T := T) (by omega)
    have he2 := encF_ok (T := T) (by omega)
    exact ⟨_, _, by rw [hwe, he2], by have h9 := hs8; rw [hwe] at h9; exact h9, (hM8.drop 0).drop 1 |>.keep (by simp)⟩
