/- Lists: what the laws' own helpers do to them. -/
import Derived.Test.YtnkilhmkegmenaaE13
import Derived.Test.YtnkilhmkegmenaaE11
namespace Go.Proofs.Ytnkilhmkegmenaa.E
open Go

section
variable {α : Type} (z : α)
theorem takeG {b : List α} {i : Nat} (h : i < b.length) : b.take (i + 1) = b.take i ++ [b.getD i z] := by
  rw [List.take_add_one, List.getElem?_eq_getElem h, List.getD_eq_getElem?_getD, List.getElem?_eq_getElem h]; rfl
theorem dropG {b : List α} {i : Nat} (h : i < b.length) : b.drop i = b.getD i z :: b.drop (i + 1) := by
  rw [List.drop_eq_getElem_cons h, List.getD_eq_getElem?_getD, List.getElem?_eq_getElem h]; rfl
theorem appG1 {a b : List α} {i : Nat} (h : i < a.length) : (a ++ b).getD i z = a.getD i z := by
  rw [List.getD_eq_getElem?_getD, List.getElem?_append_left h, ← List.getD_eq_getElem?_getD]
theorem appG2 {a b : List α} {i : Nat} (h : a.length ≤ i) : (a ++ b).getD i z = b.getD (i - a.length) z := by
  rw [List.getD_eq_getElem?_getD, List.getElem?_append_right h, ← List.getD_eq_getElem?_getD]
theorem repG {n i : Nat} {q : α} (h : i < n) : (List.replicate n q).getD i z = q := by simp [List.getD_eq_getElem?_getD, h]
theorem markG1 {b : List α} {m i : Nat} {q : α} (h : i < b.length) : (b ++ List.replicate m q).getD i z = b.getD i z := appG1 z h
theorem markG2 {b : List α} {m i : Nat} {q : α} (h : b.length ≤ i) (h2 : i < b.length + m) : (b ++ List.replicate m q).getD i z = q := by rw [appG2 z h, repG z (by omega)]
theorem setG {b : List α} {q c : α} {i m n : Nat} (hn : n = b.length + m) (hi : i < b.length) (hc : c = b.getD i z) : ((b ++ List.replicate m q).take i ++ List.replicate (n - i) z).set i c = (b ++ List.replicate m q).take (i + 1) ++ List.replicate (n - (i + 1)) z := by
  have e : (b ++ List.replicate m q).take (i + 1) = (b ++ List.replicate m q).take i ++ [b.getD i z] := by
    rw [takeG z (by simp; omega), appG1 z hi]
  subst hc
  rw [e, List.set_append_right _ _ (by simp; omega)]
  have h1 : ((b ++ List.replicate m q).take i).length = i := by simp; omega
  obtain ⟨k, hk⟩ : ∃ k, n - i = k + 1 := ⟨n - i - 1, by omega⟩
  rw [h1, Nat.sub_self, hk, List.replicate_succ, List.set_cons_zero, show n - (i + 1) = k by omega]; simp
theorem setG2 {b : List α} {q : α} {i m n : Nat} (hn : n = b.length + m) (hi : b.length ≤ i) (h2 : i < n) : ((b ++ List.replicate m q).take i ++ List.replicate (n - i) z).set i q = (b ++ List.replicate m q).take (i + 1) ++ List.replicate (n - (i + 1)) z := by
  have e : (b ++ List.replicate m q).take (i + 1) = (b ++ List.replicate m q).take i ++ [q] := by
    rw [takeG z (by simp; omega), appG2 z hi, repG z (by omega)]
  rw [e, List.set_append_right _ _ (by simp; omega)]
  have h1 : ((b ++ List.replicate m q).take i).length = i := by simp; omega
  obtain ⟨k, hk⟩ : ∃ k, n - i = k + 1 := ⟨n - i - 1, by omega⟩
  rw [h1, Nat.sub_self, hk, List.replicate_succ, List.set_cons_zero, show n - (i + 1) = k by omega]; simp
theorem take_eqG {a b : List α} {i : Nat} (h : a.take i = b.take i) (ha : i < a.length) (hb : i < b.length) (he : a.getD i z = b.getD i z) : a.take (i + 1) = b.take (i + 1) := by rw [takeG z ha, takeG z hb, h, he]
theorem ne_atG {a c : List α} (i : Nat) (h : ¬ a.getD i z = c.getD i z) : ¬ a = c := fun e => h (by rw [e])
/-- a list turned round as far as place i from both its ends -/
def revI (i : Nat) (l : List α) : List α := (List.range l.length).map fun j => if j < i ∨ l.length ≤ j + i then l.getD (l.length - 1 - j) z else l.getD j z
theorem revI_length (i : Nat) (l : List α) : (revI z i l).length = l.length := by simp [revI]
theorem revI_getD {i j : Nat} {l : List α} (h : j < l.length) : (revI z i l).getD j z = if j < i ∨ l.length ≤ j + i then l.getD (l.length - 1 - j) z else l.getD j z := by
  rw [List.getD_eq_getElem?_getD, revI, List.getElem?_map, List.getElem?_range h]; rfl
theorem ext_getD {a b : List α} (hl : a.length = b.length) (h : ∀ j, j < a.length → a.getD j z = b.getD j z) : a = b := by
  apply List.ext_getElem hl
  intro j h1 h2
  have := h j h1
  simpa [List.getD_eq_getElem?_getD, List.getElem?_eq_getElem h1, List.getElem?_eq_getElem h2] using this
theorem revI_zero (l : List α) : revI z 0 l = l := by
  apply ext_getD z (by simp [revI])
  intro j h
  rw [revI_length] at h
  rw [revI_getD z h, if_neg (by omega)]
theorem revI_end {i : Nat} {l : List α} (h : l.length ≤ 2 * i + 1) : revI z i l = l.reverse := by
  apply ext_getD z (by simp [revI])
  intro j hj
  rw [revI_length] at hj
  rw [revI_getD z hj]
  have e : l.reverse.getD j z = l.getD (l.length - 1 - j) z := by
    rw [List.getD_eq_getElem?_getD, List.getElem?_reverse hj, ← List.getD_eq_getElem?_getD]
  rw [e]
  split
  · rfl
  · congr 1; omega
theorem set_getD {l : List α} {i j : Nat} {q : α} (hj : j < l.length) : (l.set i q).getD j z = if i = j then q else l.getD j z := by
  rw [List.getD_eq_getElem?_getD, List.getElem?_set]
  split
  · rename_i h; subst h; rw [if_pos hj]; rfl
  · rw [← List.getD_eq_getElem?_getD]
theorem revI_succ {i : Nat} {l : List α} (h : 2 * i + 1 < l.length) : ((revI z i l).set i (l.getD (l.length - 1 - i) z)).set (l.length - 1 - i) (l.getD i z) = revI z (i + 1) l := by
  apply ext_getD z (by simp [revI])
  intro j hj
  simp only [List.length_set, revI_length] at hj
  rw [set_getD z (by simpa [revI_length] using hj), set_getD z (by rw [revI_length]; exact hj), revI_getD z hj, revI_getD z hj]
  split
  · rename_i e; rw [if_pos (by omega)]; congr 1; omega
  · split
    · rename_i e; subst e; rw [if_pos (by omega)]
    · by_cases h1 : j < i ∨ l.length ≤ j + i
      · rw [if_pos h1, if_pos (by omega)]
      · rw [if_neg h1, if_neg (by omega)]
end
def natV (n : Nat) : Value := .int .i64 (n : Int)
instance : One natV := ⟨fun _ => rfl⟩
theorem splice_full {cs l : List Value} (h : cs.length = l.length) : splice cs 0 l = l := by
  rw [splice_eq _ _ _ (by omega)]
  simp [← h]
theorem res_tmp {P : Program} {t : Nat} {r : List ResultVar} {f : Fr} {w : World} {K : List Value → Prop} (h : resV P r f w fun vs => K (f t :: vs)) : resV P (.tmp t :: r) f w K := h
theorem res_cell {P : Program} {a t : Nat} {s : Option Nat} {r : List ResultVar} {f : Fr} {w : World} {K : List Value → Prop} (hs : ldsz P t = some s) (h : vl P (.ld s (.tmp a)) f w fun v _ => resV P r f w fun vs => K (v :: vs)) : resV P (.cell a t :: r) f w K := by
  unfold resV; rw [hs]; exact h
theorem vl_ld {P : Program} {f : Fr} {w : World} {K : Value → World → Prop} {x : Operand} {b o : Nat} {v : Value} (hx : ev f x = .pointer (some ⟨b, o, none⟩)) (hv : w.cell? ⟨b, o, none⟩ = some v) (h : K v w) : vl P (.ld none x) f w K := by
  show kptr (ev f x) _; rw [hx]; exact ⟨v, hv, h⟩
theorem vl_ldA {P : Program} {f : Fr} {w : World} {K : Value → World → Prop} {x : Operand} {b o n : Nat} {cs : List Value} (hx : ev f x = .pointer (some ⟨b, o, none⟩)) (hl : cs.length = n) (hr : Row w (some ⟨b, o, none⟩) cs) (h : K (.agg cs.toArray) w) : vl P (.ld (some n) x) f w K := by
  show kptr (ev f x) _; rw [hx]; exact ⟨cs, hl, hr, h⟩
theorem Own.all {w : World} {en : Ent} (h : Own w en) : Row w (some ⟨en.b, 0, none⟩) en.cs := h.row (l := en.cs) fun i _ => by rw [Nat.zero_add]
theorem nat_neG {x y : UInt8} (h : ¬ (x.toNat : Int) = (y.toNat : Int)) : ¬ x = y := fun e => h (by rw [e])
theorem u8_eq {a b : UInt8} (h : (a.toNat : Int) = (b.toNat : Int)) : a = b := UInt8.toNat_inj.1 (by omega)
theorem up_self {α : Type} {E : α → Value} {t : TypeId} {v : Value} {l : List α} {r : List Ent} (h : SlE E t v l r) : upR E l r = r := by
  rcases h.form with ⟨_, _, h3⟩ | ⟨b, cap, tail, _, h2, _, _⟩
  · subst h3; rfl
  · subst h2
    unfold upR
    simp only [List.map_cons, List.map_nil]
    rw [List.drop_left' (by simp)]
/-- two places of a list turned round are exchanged -/
theorem back_el {α : Type} (z : α) {E : α → Value} {t : TypeId} {x : Value} {l : List α} {i : Nat} {r r' : List Ent} (_ : SlE E t x (revI z i l) r) (h : 2 * i + 1 < l.length)
    (k : SlE E t x (((revI z i l).set i ((revI z i l).getD (l.length - 1 - i) z)).set (l.length - 1 - i) ((revI z i l).getD i z)) r') : SlE E t x (((revI z i l).set i (l.getD (l.length - 1 - i) z)).set (l.length - 1 - i) (l.getD i z)) r' := by
  rwa [revI_getD z (by omega), revI_getD z (by omega), if_neg (by omega), if_neg (by omega)] at k
theorem back_up {α : Type} (z : α) {E : α → Value} {l : List α} {i : Nat} {r0 r r' r'' : List Ent} (h : 2 * i + 1 < l.length) (he : r = upR E (revI z i l) r0) (k1 : r' = upR E ((revI z i l).set i ((revI z i l).getD (l.length - 1 - i) z)) r)
    (k2 : r'' = upR E (((revI z i l).set i ((revI z i l).getD (l.length - 1 - i) z)).set (l.length - 1 - i) ((revI z i l).getD i z)) r') : r'' = upR E (((revI z i l).set i (l.getD (l.length - 1 - i) z)).set (l.length - 1 - i) (l.getD i z)) r0 := by
  rw [k2, k1, he, upR_upR (by simp), upR_upR (by simp)]
  rw [revI_getD z (by omega), revI_getD z (by omega), if_neg (by omega), if_neg (by omega)]
end Go.Proofs.Ytnkilhmkegmenaa.E
