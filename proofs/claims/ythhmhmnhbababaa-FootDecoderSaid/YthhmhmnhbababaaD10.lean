/- Footers read: the decoder. -/
import Derived.Test.YthhmhmnhbababaaD9
import Derived.Test.YthhmhmnhbababaaE23
namespace Go.Proofs.Ythhmhmnhbababaa.E
open Go
def DecS (bd : Nat) (bk pg left : Int) (L : List UInt8) (br : Bool) (r : List Ent) : Prop := ∃ vb rb, r = ⟨bd, 98, [.int .i64 bk, .int .i64 pg, .int .i64 left, vb, .bool br]⟩ :: rb ∧ SlE byteV 5 vb L rb
def unp : Nat → List UInt8 → Option (List UInt8)
 | 0, _ => some []
 | k + 1, r => if r.length = 0 then some [] else if (openF (r.take 4100)).2 = 0 then (unp k (r.drop 4100)).map ((openF (r.take 4100)).1 ++ ·) else none
theorem unp_fuel : ∀ (k m : Nat) (r : List UInt8), r.length ≤ k → r.length ≤ m → unp k r = unp m r
 | 0, m, r, hk, _ => by
  cases m with
  | zero => rfl
  | succ m => rw [unp, unp, if_pos (by omega)]
 | k + 1, 0, r, _, hm => by rw [unp, unp, if_pos (by omega)]
 | k + 1, m + 1, r, hk, hm => by
  rw [unp, unp]
  split
  ·rfl
  rw [unp_fuel k m (r.drop 4100) (by rw [List.length_drop]; omega) (by rw [List.length_drop]; omega)]
def unpF (r : List UInt8) : Option (List UInt8) := unp r.length r
theorem unp_nil {r : List UInt8} (h : r.length = 0) : unpF r = some [] := by unfold unpF; rw [h]; rfl
theorem unp_cons {r : List UInt8} (h : ¬ r.length = 0) (h2 : (openF (r.take 4100)).2 = 0) : unpF r = (unpF (r.drop 4100)).map ((openF (r.take 4100)).1 ++ ·) := by
 unfold unpF
 conv => lhs; rw [show r.length = r.length - 1 + 1 by omega, unp, if_neg h, if_pos h2]
 rw [unp_fuel (r.length - 1) (r.drop 4100).length (r.drop 4100) (by rw [List.length_drop]; omega) (Nat.le_refl _)]
theorem unp_bad {r : List UInt8} (h : ¬ r.length = 0) (h2 : ¬ (openF (r.take 4100)).2 = 0) : unpF r = none := by
 unfold unpF
 rw [show r.length = r.length - 1 + 1 by omega, unp, if_neg h, if_neg h2]
theorem open_seal (x : List UInt8) : openF (sealF x) = (x, 0) := by
 have hl := seal_len x
 have hd : (sealF x).drop ((sealF x).length - 4) = fixed 4 (crcN 0 ((sealF x).take ((sealF x).length - 4))) := by
  rw [hl, Nat.add_sub_cancel]
  unfold sealF
  rw [List.take_left, List.drop_left]
 rw [open_ok (by omega) hd.symm, hl, Nat.add_sub_cancel]
 unfold sealF
 rw [List.take_left]
theorem unp_pages : ∀ (m : Nat) (b : List UInt8), b.length ≤ m → unpF (pagesF b) = some b
 | 0, b, h => by
  obtain rfl := List.length_eq_zero_iff.1 (show b.length = 0 by omega)
  rfl
 | m + 1, b, h => by
  by_cases c : b.length = 0
  ·obtain rfl := List.length_eq_zero_iff.1 c
   rfl
  have hp := pages_cons c
  have hsl := seal_len (b.take 4096)
  rw [List.length_take] at hsl
  have ht : (pagesF b).take 4100 = sealF (b.take 4096) ∧ (pagesF b).drop 4100 = pagesF (b.drop 4096) := by
   rcases Nat.lt_or_ge b.length 4096 with k | k
   ·have e0 : b.drop 4096 = [] := List.drop_eq_nil_of_le (by omega)
    rw [hp, e0, pages_nil (b := []) rfl, List.append_nil]
    exact ⟨List.take_of_length_le (by omega), List.drop_eq_nil_of_le (by omega)⟩
   rw [hp]
   exact ⟨List.take_left' (by omega), List.drop_left' (by omega)⟩
  have hne : ¬ (pagesF b).length = 0 := by rw [hp, List.length_append]; omega
  rw [unp_cons hne (by rw [ht.1, open_seal]), ht.1, ht.2, open_seal, unp_pages m (b.drop 4096) (by rw [List.length_drop]; omega)]
  simp
theorem open_take {r : List UInt8} (h : (openF r).2 = 0) : 4 ≤ r.length ∧ sealF (openF r).1 = r ∧ (openF r).1.length = r.length - 4 := by
 by_cases h4 : r.length < 4
 ·rw [open_short h4] at h; simp at h
 by_cases h2 : fixed 4 (crcN 0 (r.take (r.length - 4))) = r.drop (r.length - 4)
 ·have e := open_ok h4 h2
  rw [e]
  exact ⟨by omega, (seal_eq h4).2 h2, by simp⟩
 rw [open_sum h4 h2] at h; simp at h
theorem pages_unp : ∀ (m : Nat) (r b : List UInt8), r.length ≤ m → unpF r = some b → (r.length % 4100 = 0 ∨ 5 ≤ r.length % 4100) → pagesF b = r
 | 0, r, b, h, hu, _ => by
  obtain rfl := List.length_eq_zero_iff.1 (show r.length = 0 by omega)
  rw [unp_nil rfl] at hu
  obtain rfl := Option.some.inj hu
  rfl
 | m + 1, r, b, h, hu, hm => by
  by_cases c : r.length = 0
  ·obtain rfl := List.length_eq_zero_iff.1 c
   rw [unp_nil rfl] at hu
   obtain rfl := Option.some.inj hu
   rfl
  by_cases ho : (openF (r.take 4100)).2 = 0
  ·rw [unp_cons c ho] at hu
   obtain ⟨h4, hse, hol⟩ := open_take ho
   rw [List.length_take] at h4 hol
   cases hq : unpF (r.drop 4100) with
   | none => rw [hq] at hu; simp at hu
   | some b2 =>
    rw [hq] at hu
    have hb : (openF (r.take 4100)).1 ++ b2 = b := Option.some.inj hu
    have ih := pages_unp m (r.drop 4100) b2 (by rw [List.length_drop]; omega) hq (by rw [List.length_drop]; omega)
    have hbl := congrArg List.length hb
    rw [List.length_append] at hbl
    have hd : b.take 4096 = (openF (r.take 4100)).1 ∧ b.drop 4096 = b2 := by
     rcases Nat.lt_or_ge r.length 4100 with k | k
     ·have e0 : r.drop 4100 = [] := List.drop_eq_nil_of_le (by omega)
      rw [e0, unp_nil rfl] at hq
      obtain rfl := Option.some.inj hq
      rw [List.append_nil] at hb
      rw [← hb]
      exact ⟨List.take_of_length_le (by omega), List.drop_eq_nil_of_le (by omega)⟩
     rw [← hb]
     exact ⟨List.take_left' (by omega), List.drop_left' (by omega)⟩
    rw [pages_cons (by omega), hd.1, hd.2, ih, hse, List.take_append_drop]
  rw [unp_bad c ho] at hu; simp at hu
def pgE (left : Int) (br : Bool) (c : List UInt8) : Int := if br = true ∨ left = 0 ∨ ¬ (c.length : Int) = min left 4100 ∨ ¬ (openF c).2 = 0 then 80 else 0
theorem pgE_no {left : Int} {br : Bool} {c : List UInt8} (h : br = true ∨ left = 0 ∨ ¬ (c.length : Int) = min left 4100 ∨ ¬ (openF c).2 = 0) : pgE left br c = 80 := by unfold pgE; rw [if_pos h]
theorem pgE_yes {left : Int} {c : List UInt8} (h : ¬ (left = 0 ∨ ¬ (c.length : Int) = min left 4100 ∨ ¬ (openF c).2 = 0)) : pgE left false c = 0 := by unfold pgE; rw [if_neg (fun k => k.elim (fun k => by cases k) h)]
section
variable {P : Program} {r : List MI} {f : Fr} {w : World} {K : Fr → World → Prop} {d : Nat}
theorem m_slcB {w1 : World} {α : Type} {E : α → Value} {x yh : Operand} {k : IntKind} {u : Value} {l : List α} (B : Nat) (h : RdE E w1 u l) (hx : ev f x = u) (hB : B ≤ l.length) (hh : ev f yh = .int k B)
 (hk : ∀ v', (∀ w2, RdE E w2 u l → RdE E w2 v' (l.take B)) → vr P r (upd f d v') w K) : vr P (.p none d (.slc 1 x none (some yh) none) :: r) f w K := by
 obtain ⟨a, c, rfl, h2, h3, h4⟩ := h.form
 show kslice (ev f x) _
 rw [hx]
 show bnd (some (ev f yh)) l.length c fun h => bnd none 0 h fun l' => vr P r (upd f d (.slice (cutAt 1 a l' c) (h - l') (c - l'))) w K
 refine bndS hh ⟨by omega, by omega⟩ ?_
 rw [Int.toNat_natCast]
 show vr P r (upd f d (.slice (cutAt 1 a 0 c) (B - 0) (c - 0))) w K
 refine hk _ fun w2 h' => ?_
 have key := Rd.sub h' (by simp) hB (Nat.zero_le B) (by omega : 0 < 1)
 have e : (l.take B).length = B := by rw [List.length_take]; omega
 show Rd w2 _ _ _
 rw [e]
 simp only [Nat.mul_one, Nat.sub_zero, List.drop_zero] at key ⊢
 rw [List.map_take]
 exact key
end
