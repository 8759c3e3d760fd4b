/- Trailers. -/
import Derived.Test.YthhmhmnhbababaaC2
namespace Go.Proofs.Ythhmhmnhbababaa.E
open Go
theorem may_no {a b : Int} (h : ¬ mayT a b) : decide (mayT a b) = false := decide_eq_false h
theorem may_yes {a b : Int} (h : mayT a b) : decide (mayT a b) = true := decide_eq_true h
section
variable {b : List UInt8} {size : Int}
theorem tr_len (h : ¬ b.length = 24) : trailF b size = (0, 0, 81) := by unfold trailF; rw [if_pos h]
theorem tr_open (h : b.length = 24) (h2 : ¬ (openF b).2 = 0) : trailF b size = (0, 0, 81) := by unfold trailF; rw [if_neg (by omega), if_pos h2]
theorem tr_magic (h : b.length = 24) (h2 : (openF b).2 = 0) (h3 : ¬ (openF b).1.take 4 = magic) : trailF b size = (0, 0, 81) := by unfold trailF; rw [if_neg (by omega), if_neg (by omega), if_pos h3]
theorem tr_may (h : b.length = 24) (h2 : (openF b).2 = 0) (h3 : (openF b).1.take 4 = magic) (h4 : ¬ mayT (word (((openF b).1.drop 4).take 8) : Nat) (word (((openF b).1.drop 12).take 8) : Nat)) : trailF b size = (0, 0, 81) := by unfold trailF; rw [if_neg (by omega), if_neg (by omega), if_neg (fun k => k h3), if_pos h4]
theorem tr_size (h : b.length = 24) (h2 : (openF b).2 = 0) (h3 : (openF b).1.take 4 = magic) (h4 : mayT (word (((openF b).1.drop 4).take 8) : Nat) (word (((openF b).1.drop 12).take 8) : Nat)) (h5 : ¬ ((word (((openF b).1.drop 4).take 8) : Nat) : Int) + (word (((openF b).1.drop 12).take 8) : Nat) + 24 = size) : trailF b size = (0, 0, 82) := by
  unfold trailF; rw [if_neg (by omega), if_neg (by omega), if_neg (fun k => k h3), if_neg (fun k => k h4), if_neg h5]
theorem tr_ok (h : b.length = 24) (h2 : (openF b).2 = 0) (h3 : (openF b).1.take 4 = magic) (h4 : mayT (word (((openF b).1.drop 4).take 8) : Nat) (word (((openF b).1.drop 12).take 8) : Nat)) (h5 : ((word (((openF b).1.drop 4).take 8) : Nat) : Int) + (word (((openF b).1.drop 12).take 8) : Nat) + 24 = size) :
    trailF b size = (((word (((openF b).1.drop 4).take 8) : Nat) : Int), ((word (((openF b).1.drop 12).take 8) : Nat) : Int), 0) := by
  unfold trailF; rw [if_neg (by omega), if_neg (by omega), if_neg (fun k => k h3), if_neg (fun k => k h4), if_pos h5]
end
theorem drop_take0 {α : Type} (l : List α) (a n : Nat) : (l.take (a + n)).drop a = (l.drop a).take n := by rw [List.drop_take]; congr 1; omega
