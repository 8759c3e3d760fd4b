/- The laws' own comparison (slim claims: in place of D15's). -/
import Derived.Test.YthhmhmnhbababaaD3
import Derived.Test.YthhmhmnhbababaaE23
namespace Go.Proofs.Ythhmhmnhbababaa.E
open Go
theorem take_min {α : Type} (l : List α) (n : Nat) : l.take (min l.length n) = l.take n := by
 rcases Nat.lt_or_ge n l.length with h | h
 ·rw [Nat.min_eq_right (by omega)]
 rw [Nat.min_eq_left h, List.take_length, List.take_of_length_le h]
theorem sameL_ok (x y : Value) (a b : List UInt8) (w : World) (hx : RdE byteV w x a) (hy : RdE byteV w y b) (hla : a.length ≤ 9223372036854775807) : Calls Try.prog 23 [x, y].toArray w (Rt fun r w' => r = .bool (decide (a = b)) ∧ Upd [] w w') := by
 have hM0 : Mem w [] w [] := Mem.nil w []
 refine calls_vc mixed Try.func23 rfl C23 (by simp [Try.ntmps23]) <| seq fun _ h1 => mv <| h1 _ _ <| seq fun _ h2 => seq fun _ h3 => mv <| stp (v := .int .i64 (a.length : Nat)) (o_lenR (hx.upd hM0.upd) rfl rfl) <| mv <| stp (v := .int .i64 (b.length : Nat)) (o_lenR (hy.upd hM0.upd) rfl rfl) <| bneq rfl rfl <| h3 _ _ <| cndP rfl (fun c4 => ?_) (fun c4 => ?_)
 ·refine seq fun _ h5 => mv <| h5 _ _ <| ⟨(.bool false), rfl, ⟨by rw [decide_eq_false (fun e => c4 (by rw [e]))], hM0.upd⟩⟩
 refine h2 _ _ <| seq fun _ h6 => seq fun _ h7 => mv <| h7 _ _ <| lp (n := fun _ _ => False) (ι := (Nat)) (fun i f w' => f 0 = x ∧ f 1 = y ∧ f 5 = .int .i64 (i : Nat) ∧ Mem w [] w' [] ∧ (i ≤ a.length) ∧ (a.take i = b.take i)) (fun i => a.length - i) (0) ?_ ?_
 ·exact ⟨rfl, rfl, vi, hM0, by omega, by simp⟩
 rintro i f w8 ⟨e8_0, e8_1, e8_5, hM8, hi, hp⟩ K9 h9
 obtain ⟨frm, rfl⟩ := re3 e8_0 e8_1 e8_5
 refine seq fun _ h10 => seq fun _ h11 => mv <| mv <| stp (v := .int .i64 (a.length : Nat)) (o_lenR (hx.upd hM8.upd) rfl rfl) <| bn rfl rfl <| h11 _ _ <| cndP rfl (fun c12 => ?_) (fun c12 => ?_)
 ·refine h10 _ _ <| seq fun _ h13 => seq fun _ h14 => ?_
  intro wd e1 e2 e3 e4
  have hd := Upd.same e1 e2 e3 e4 []
  have hM15 := hM8.pure hd
  clear e1 e2 e3 e4
  refine ⟨none, ?_⟩
  show vd _ _ _ _ _ _ _
  refine dmv <| dmv <| dqp (m_idxE 0 (j := i) (hx.upd hM15.upd) rfl rfl (by omega) fun b16 o16 hp16 => ?_)
  show vd _ _ _ _ _ _ _
  refine dmv <| dmv <| dqp (m_idxE 0 (j := i) (hy.upd hM15.upd) rfl rfl (by omega) fun b17 o17 hp17 => ?_)
  show vd _ _ _ _ _ _ _
  refine dqld rfl (trivial) (v := byteV (b.getD i 0)) (hp17) <| dl (ld (v := byteV (a.getD i 0)) rfl (hp16) <| ⟨rfl, dq (v := .bool (decide (¬ ((a.getD i 0).toNat : Int) = ((b.getD i 0).toNat : Int)))) (o_bin rfl rfl v_neq) <| h14 _ _ <| cndP rfl (fun c18 => ?_) (fun c18 => ?_)⟩)
  ·refine seq fun _ h19 => mv <| h19 _ _ <| ⟨(.bool false), rfl, ⟨by rw [decide_eq_false (ne_atG 0 i (nat_neG (by assumption)))], hM15.upd⟩⟩
  refine h13 _ _ <| mv <| stp (v := .int .i64 ((i : Nat) + 1)) (o_bin rfl rfl (v_add64 (by omega))) <| mv <| h9 (i + 1) _ _ ⟨rfl, rfl, vi, hM15, by omega, take_eqG 0 hp (by omega) (by omega) (u8_eq (by omega))⟩ (by (try dsimp only); omega)
 refine h6 _ _ <| seq fun _ h20 => mv <| h20 _ _ <| ⟨(.bool true), rfl, ⟨by rw [decide_eq_true]; rw [← List.take_of_length_le (l := a) (i := i) (by omega), ← List.take_of_length_le (l := b) (i := i) (by omega), hp], hM8.upd⟩⟩
