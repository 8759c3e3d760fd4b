/- Footers as bytes: pages, trailers. -/
import Derived.Test.YthhmhmnhbababaaD5
import Derived.Test.YthhmhmnhbababaaE23
import Derived.Test.YthhmhmnhbababaaC3
namespace Go.Proofs.Ythhmhmnhbababaa.E
open Go
def pgs : Nat → List UInt8 → List UInt8
 | 0, _ => []
 | k + 1, b => if b.length = 0 then [] else sealF (b.take 4096) ++ pgs k (b.drop 4096)
def pagesF (b : List UInt8) : List UInt8 := pgs b.length b
def trF (sp : Int) (n : Nat) : List UInt8 := sealF (magic ++ fixedI sp 8 ++ fixedI (n : Nat) 8)
def encT (parts : Int) (ps : List Pp) : List UInt8 × Int := if ¬ ftOk parts ps then ([], 80) else if 16777216 < (bodyF parts ps).length ∨ 268435456 < spaceF ps then ([], 62) else (pagesF (bodyF parts ps) ++ trF (spaceF ps) (pagesF (bodyF parts ps)).length, 0)
theorem encT_no {parts : Int} {ps : List Pp} (h : ¬ ftOk parts ps) : encT parts ps = ([], 80) := by unfold encT; rw [if_pos h]
theorem encT_full {parts : Int} {ps : List Pp} (h : ftOk parts ps) (h2 : 16777216 < (bodyF parts ps).length ∨ 268435456 < spaceF ps) : encT parts ps = ([], 62) := by unfold encT; rw [if_neg (fun k => k h), if_pos h2]
theorem encT_ok {parts : Int} {ps : List Pp} (h : ftOk parts ps) (h2 : ¬ (16777216 < (bodyF parts ps).length ∨ 268435456 < spaceF ps)) : encT parts ps = (pagesF (bodyF parts ps) ++ trF (spaceF ps) (pagesF (bodyF parts ps)).length, 0) := by unfold encT; rw [if_neg (fun k => k h), if_neg h2]
theorem seal_len (b : List UInt8) : (sealF b).length = b.length + 4 := by unfold sealF; rw [List.length_append, fixed_length]
theorem pgs_fuel : ∀ (k m : Nat) (b : List UInt8), b.length ≤ k → b.length ≤ m → pgs k b = pgs m b
 | 0, m, b, hk, _ => by
  cases m with
  | zero => rfl
  | succ m => rw [pgs, pgs, if_pos (by omega)]
 | k + 1, 0, b, _, hm => by rw [pgs, pgs, if_pos (by omega)]
 | k + 1, m + 1, b, hk, hm => by
  rw [pgs, pgs]
  split
  ·rfl
  rw [pgs_fuel k m (b.drop 4096) (by rw [List.length_drop]; omega) (by rw [List.length_drop]; omega)]
theorem pages_nil {b : List UInt8} (h : b.length = 0) : pagesF b = [] := by
 unfold pagesF; rw [h]; rfl
theorem pages_cons {b : List UInt8} (h : ¬ b.length = 0) : pagesF b = sealF (b.take 4096) ++ pagesF (b.drop 4096) := by
 unfold pagesF
 conv => lhs; rw [show b.length = b.length - 1 + 1 by omega, pgs, if_neg h]
 rw [pgs_fuel (b.length - 1) (b.drop 4096).length (b.drop 4096) (by rw [List.length_drop]; omega) (Nat.le_refl _)]
theorem pages_len : ∀ (m : Nat) (b : List UInt8), b.length ≤ m → (pagesF b).length = b.length + 4 * ((b.length + 4095) / 4096)
 | 0, b, h => by rw [pages_nil (by omega)]; simp; omega
 | m + 1, b, h => by
  by_cases c : b.length = 0
  ·rw [pages_nil c, c]; rfl
  rw [pages_cons c, List.length_append, seal_len, pages_len m (b.drop 4096) (by rw [List.length_drop]; omega), List.length_take, List.length_drop]
  omega
section
variable {P : Program} {r : List MI} {f : Fr} {w : World} {K : Fr → World → Prop} {d : Nat}
theorem m_slcA {w1 : World} {α : Type} {E : α → Value} {x yl : Operand} {k : IntKind} {u : Value} {l : List α} (A : Nat) (h : RdE E w1 u l) (hx : ev f x = u) (hA : A ≤ l.length) (hl : ev f yl = .int k A)
 (hk : ∀ v', (∀ w2, RdE E w2 u l → RdE E w2 v' (l.drop A)) → vr P r (upd f d v') w K) : vr P (.p none d (.slc 1 x (some yl) none none) :: r) f w K := by
 obtain ⟨a, c, rfl, h2, h3, h4⟩ := h.form
 show kslice (ev f x) _
 rw [hx]
 show bnd (some (ev f yl)) 0 l.length fun l' => vr P r (upd f d (.slice (cutAt 1 a l' c) (l.length - l') (c - l'))) w K
 refine bndS hl ⟨by omega, by omega⟩ ?_
 rw [Int.toNat_natCast]
 refine hk _ fun w2 h' => ?_
 have key := Rd.sub h' (by simp) (Nat.le_refl _) hA (by omega : 0 < 1)
 have e : (l.drop A).length = l.length - A := by simp
 show Rd w2 _ _ _
 rw [e]
 simp only [Nat.mul_one] at key
 rw [List.take_of_length_le (by simp), ← List.map_drop] at key
 exact key
end
