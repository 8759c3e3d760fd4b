/- Footers: the tiles tile the file. -/
import Derived.Test.YthhmhmnhbababaaD19
namespace Go.Proofs.Ythhmhmnhbababaa.E
open Go
theorem drop_head {α : Type} {l : List α} {n : Nat} {x : α} {r : List α} (z : α) (h : l.drop n = x :: r) : n < l.length ∧ l.getD n z = x ∧ l.drop (n + 1) = r := by
  have hl : n < l.length := by
    have := congrArg List.length h
    rw [List.length_drop, List.length_cons] at this; omega
  rw [dropG z hl] at h
  exact ⟨hl, (List.cons.inj h).1, (List.cons.inj h).2⟩
theorem tailT_len {sp : Int} {n : Nat} (h : 1 ≤ n) : 2 ≤ (tailT sp n).length := by
  unfold tailT
  rw [tlsG_cons (by omega) (by omega), List.length_append, List.length_cons]; simp
theorem tlsG_le : ∀ (k : Nat) (a left : Int), (tlsG k a left).length ≤ k
  | 0, _, _ => by simp [tlsG]
  | k + 1, a, left => by
    rw [tlsG]
    split
    · simp
    · have := tlsG_le k (a + min left 4100) (left - min left 4100)
      rw [List.length_cons]; omega
theorem tailT_le {sp : Int} {n : Nat} : (tailT sp n).length ≤ n + 1 := by
  have := tlsG_le n sp n
  unfold tailT
  rw [List.length_append, List.length_singleton]; omega
def TInv (TT : List Ti) (T0 : Int) (j : Nat) (a kd : Int) : Prop := ∃ (left : Int) (q : Nat), (TT.drop j = tlsG q a left ++ [⟨2, T0, T0 + 24⟩] ∧ 0 ≤ left ∧ left ≤ q ∧ a + left = T0 ∧ 0 ≤ kd ∧ kd ≤ 1) ∨ (TT.drop j = [] ∧ a = T0 + 24)
theorem TInv.step {TT : List Ti} {T0 : Int} {j : Nat} {a kd : Int} (h : TInv TT T0 j a kd) (hj : j < TT.length) :
    (TT.getD j ti0).fr = a ∧ (a < (TT.getD j ti0).to ∧ kd ≤ (TT.getD j ti0).kd) ∧ (((TT.getD j ti0).kd = 2 ∧ TT.length = j + 1 ∧ (TT.getD j ti0).to - a = 24) ∨ ((TT.getD j ti0).kd = 1 ∧ j + 2 ≤ TT.length ∧ (TT.getD j ti0).to - a ≤ 4100 ∧ (4100 ≤ (TT.getD j ti0).to - a ∨ TT.length = j + 2))) ∧ TInv TT T0 (j + 1) (TT.getD j ti0).to (TT.getD j ti0).kd := by
  obtain ⟨left, q, ⟨h1, h2, h3, h4, h5, h6⟩ | ⟨h1, -⟩⟩ := h
  · by_cases c : 0 < left
    · rw [tlsG_cons c h3, List.cons_append] at h1
      obtain ⟨-, e1, e2⟩ := drop_head ti0 h1
      have hl := congrArg List.length e2
      rw [List.length_drop, List.length_append, List.length_singleton] at hl
      refine ⟨by rw [e1], by rw [e1]; dsimp only; omega, .inr ?_, left - min left 4100, q - 1, .inl ⟨by rw [e1]; exact e2, by omega, by omega, by rw [e1]; dsimp only; omega, by rw [e1]; dsimp only; omega, by rw [e1]; dsimp only; omega⟩⟩
      rw [e1]
      dsimp only
      refine ⟨rfl, by omega, by omega, ?_⟩
      by_cases c2 : 4100 ≤ left
      · exact .inl (by omega)
      · rw [tlsG_end (by omega), List.length_nil] at hl
        exact .inr (by omega)
    · rw [tlsG_end (by omega), List.nil_append] at h1
      obtain ⟨-, e1, e2⟩ := drop_head ti0 h1
      have hl := congrArg List.length e2
      rw [List.length_drop, List.length_nil] at hl
      have h0 : a = T0 := by omega
      refine ⟨by rw [e1, h0], by rw [e1]; dsimp only; omega, .inl ?_, 0, 0, .inr ⟨e2, by rw [e1]⟩⟩
      rw [e1]
      exact ⟨rfl, by omega, by dsimp only; omega⟩
  · have := congrArg List.length h1
    rw [List.length_drop, List.length_nil] at this; omega
theorem TInv.done {TT : List Ti} {T0 : Int} {j : Nat} {a kd : Int} (h : TInv TT T0 j a kd) (hj : TT.length ≤ j) : a = T0 + 24 := by
  obtain ⟨left, q, ⟨h1, h2, h3, h4, h5, h6⟩ | ⟨h1, h2⟩⟩ := h
  · rw [List.drop_eq_nil_of_le hj] at h1
    have := congrArg List.length h1
    rw [List.length_append] at this; simp at this
  · exact h2
theorem TInv.init {TT : List Ti} {sp : Int} {N n : Nat} (h : TT.drop n = tailT sp N) : TInv TT (sp + (N : Nat)) n sp 0 := ⟨N, N, .inl ⟨h, by omega, by omega, rfl, by omega, by omega⟩⟩
