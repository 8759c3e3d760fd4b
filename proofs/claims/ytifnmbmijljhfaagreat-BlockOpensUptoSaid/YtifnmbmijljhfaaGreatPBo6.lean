/- Part 6 of the proof of what the last of these files says. -/
import Derived.Test.YtifnmbmijljhfaaGreatPBo5
import Derived.SizedLaws
import Derived.ChangeSlices
import Derived.Carry
import Derived.OpenShut
import Derived.ShutString
import Derived.ChangeOld
import Derived.Below
import Derived.ProofKit
namespace Go.Proofs.YtifnmbmijljhfaaGreat.E
open Go Go.ChangeShapes Go.WideShapes
theorem inK_of_wf {k : IntKind} {a : Int} (h : (Lit.int k a).wf = true) : inK k a := by
 simp only [Lit.wf, Bool.and_eq_true, decide_eq_true_eq] at h
 cases k <;> simp [inK, IntKind.min, IntKind.max, IntKind.signed, IntKind.bits] at h ⊢ <;> omega
theorem elems_of_row {k : IntKind} {W : World} {x : Addr} {len cap : Nat} {zs : List Int} (hl : len ≤ cap) (hz : zs.length = cap) (hcell : ∀ i, i < zs.length → W.cell? (x.add i) = some (.int k (zs.getD i 0))) :
 RdE (fun n => .int k n) W (.slice (some x) len cap) (zs.take len) := by
 have hlen : (zs.take len).length = len := by simp; omega
 show Rd _ _ _ _
 rw [hlen]
 refine ⟨some x, cap, rfl, hl, ?_, fun h => by cases h⟩
 obtain ⟨b, o, m⟩ := x
 cases m with
 | some m =>
  show List.map _ _ = []
  by_cases h0 : 0 < zs.length
  ·have h1 := hcell 0 h0
   have h2 : W.cell? (Addr.add ⟨b, o, some m⟩ 0) = none := by
    unfold World.cell? Addr.add
    split
    ·simp
    rfl
   rw [h2] at h1; cases h1
  have : zs = [] := List.length_eq_zero_iff.1 (by omega)
  subst this; simp
 | none =>
  intro i hi
  simp only [List.length_map] at hi
  have hi' : i < zs.length := by simp at hi; omega
  have h1 := hcell i hi'
  have h2 : Addr.add ⟨b, o, none⟩ i = ⟨b, o + i, none⟩ := by
   unfold Addr.add; split
   ·rename_i h; simp [h]
   rfl
  rw [h2] at h1
  rw [h1, List.getElem?_map, List.getElem?_take_of_lt (by rw [hlen] at hi; exact hi), List.getElem?_eq_getElem hi', List.getD_eq_getElem?_getD, List.getElem?_eq_getElem hi']
  rfl
theorem open_elems {H : Type} {enc : TypeId × Value → H} {P : Program} {W : World} {base : Nat} {held : Bool} {t e : TypeId} {k : IntKind} {a : Option Addr} {len cap : Nat} {d : DataW H} {ps : List MemPlace} {ts : List TypeId} {ds : List (DataW H)} {j : Nat}
 (hsz : (DataW.weightsEach P ts ds).all (· ≤ reachBytes) = true) (ht : ts[j]? = some t) (hd : ds[j]? = some d) (hu : P.underlying t = some (.slice e)) (he : P.underlying e = some (.int k)) (hc : P.cellsOf e = 1) {B : Nat} (hB : P.bytesOf e = B)
 (h : DataW.Trod enc P W base (fun _ => true) held t (.slice a len cap) d ps) : ∃ l : List Int, RdE (fun n => .int k n) W (.slice a len cap) l ∧ (∀ x ∈ l, inK k x) ∧ l.length * B ≤ 140737488351232 := by
 obtain ⟨fuel, hf⟩ := h
 rcases open_ints hu he hc hf with ⟨hcs, _⟩ | ⟨x, l, c, zs, hcs, _, hl, hm, hz, hx, hcell, hwz⟩
 ·simp [Value.cells] at hcs
  obtain ⟨rfl, rfl, rfl⟩ := hcs
  exact ⟨[], ⟨none, 0, rfl, Nat.le_refl _, rfl, fun _ => rfl⟩, by simp, by simp⟩
 simp [Value.cells] at hcs
 obtain ⟨rfl, rfl, rfl⟩ := hcs
 simp only [if_true] at hz
 refine ⟨zs.take len, elems_of_row hl hz hcell, fun x hx => inK_of_wf (hwz x (List.mem_of_mem_take hx)), ?_⟩
 obtain ⟨hx, _⟩ := Prod.mk.inj hx
 subst hx
 have z := sized_slice hsz ht hd hu
 rw [hB] at z
 have h1 : ((lits (H := H) k (zs.take len)).length + (lits (H := H) k (zs.drop len)).length) = zs.length := by
  simp [lits]; omega
 rw [h1] at z
 refine Nat.le_trans (Nat.mul_le_mul_right _ ?_) z
 rw [List.length_take]; exact Nat.min_le_right _ _
theorem bytes_of_ints (l : List Int) (h : ∀ x ∈ l, inK .u8 x) : ∃ m : List UInt8, m.length = l.length ∧ l.map (fun n => Value.int .u8 n) = m.map byteV := by
 refine ⟨l.map fun n => n.toNat.toUInt8, by simp, ?_⟩
 rw [List.map_map]
 apply List.map_congr_left
 intro x hx
 have := h x hx
 simp only [inK] at this
 show _ = byteV _
 unfold byteV
 congr 1
 simp
 omega
theorem open_bytes {H : Type} {enc : TypeId × Value → H} {P : Program} {W : World} {base : Nat} {held : Bool} {t e : TypeId} {a : Option Addr} {len cap : Nat} {d : DataW H} {ps : List MemPlace} {ts : List TypeId} {ds : List (DataW H)} {j : Nat}
 (hsz : (DataW.weightsEach P ts ds).all (· ≤ reachBytes) = true) (ht : ts[j]? = some t) (hd : ds[j]? = some d) (hu : P.underlying t = some (.slice e)) (he : P.underlying e = some (.int .u8)) (hc : P.cellsOf e = 1) (hB : P.bytesOf e = 1)
 (h : DataW.Trod enc P W base (fun _ => true) held t (.slice a len cap) d ps) : ∃ l : List UInt8, RdB W (.slice a len cap) l ∧ l.length ≤ 140737488351232 := by
 obtain ⟨l, hr, hin, hb⟩ := open_elems hsz ht hd hu he hc hB h
 obtain ⟨m, hm, hmap⟩ := bytes_of_ints l hin
 refine ⟨m, ?_, by omega⟩
 show Rd _ _ _ _
 rw [hm, ← hmap]; exact hr
end Go.Proofs.YtifnmbmijljhfaaGreat.E
namespace Go.Proofs.YtifnmbmijljhfaaGreat.E
open Go
theorem bv_nat {n a : Nat} (h : a < 2 ^ n) : (BitVec.ofInt n (a : Int)).toNat = a := by
 rw [BitVec.ofInt_natCast, BitVec.toNat_ofNat, Nat.mod_eq_of_lt h]
theorem andI_nat {k : IntKind} {a b : Nat} (ha : a < 2 ^ k.bits) (hb : b < 2 ^ k.bits) (h : inK k ((a &&& b : Nat) : Int)) : andI k a b = ((a &&& b : Nat) : Int) := by
 unfold andI; rw [BitVec.toNat_and, bv_nat ha, bv_nat hb, wrap_same h]
theorem orI_nat {k : IntKind} {a b : Nat} (ha : a < 2 ^ k.bits) (hb : b < 2 ^ k.bits) (h : inK k ((a ||| b : Nat) : Int)) : orI k a b = ((a ||| b : Nat) : Int) := by
 unfold orI; rw [BitVec.toNat_or, bv_nat ha, bv_nat hb, wrap_same h]
theorem xorI_nat {k : IntKind} {a b : Nat} (ha : a < 2 ^ k.bits) (hb : b < 2 ^ k.bits) (h : inK k ((a ^^^ b : Nat) : Int)) : xorI k a b = ((a ^^^ b : Nat) : Int) := by
 unfold xorI; rw [BitVec.toNat_xor, bv_nat ha, bv_nat hb, wrap_same h]
theorem shlI_nat {k : IntKind} {a n : Nat} (hn : n ≤ k.bits) (h : inK k ((a * 2 ^ n : Nat) : Int)) : shlI k a n = ((a * 2 ^ n : Nat) : Int) := by
 unfold shlI
 rw [Int.toNat_natCast, Nat.min_eq_left hn]
 have e : (a : Int) * 2 ^ n = ((a * 2 ^ n : Nat) : Int) := by simp
 rw [e, wrap_same h]
theorem shrI_nat {k : IntKind} {a n : Nat} (hn : n ≤ k.bits) : shrI k a n = ((a / 2 ^ n : Nat) : Int) := by
 unfold shrI
 rw [Int.toNat_natCast, Nat.min_eq_left hn, Int.fdiv_eq_ediv_of_nonneg _ (by exact Int.le_of_lt (Int.pow_pos (by omega)))]
 have e : (2 : Int) ^ n = ((2 ^ n : Nat) : Int) := by simp
 rw [e]; rfl
theorem or_add {v d n : Nat} (h : v < 2 ^ n) : v ||| d * 2 ^ n = v + d * 2 ^ n := by
 rw [← Nat.shiftLeft_eq, Nat.or_comm, ← Nat.shiftLeft_add_eq_or_of_lt h, Nat.add_comm]
theorem and_low (a n : Nat) : a &&& (2 ^ n - 1) = a % 2 ^ n := Nat.and_two_pow_sub_one_eq_mod a n
theorem pow256 (i : Nat) : (256 : Nat) ^ i = 2 ^ (8 * i) := by rw [Nat.pow_mul]
theorem pow128 (i : Nat) : (128 : Nat) ^ i = 2 ^ (7 * i) := by rw [Nat.pow_mul]
end Go.Proofs.YtifnmbmijljhfaaGreat.E
namespace Go.Proofs.YtifnmbmijljhfaaGreat.E
open Go
theorem Mem.perm {w0 w : World} {S : List Nat} {R R' : List (List Ent)} (h : Mem w0 S w R) (hp : R'.flatten.Perm R.flatten) : Mem w0 S w R' :=
 ⟨h.upd, fun e he => h.own e (hp.mem_iff.1 he), ((hp.map _).nodup_iff).2 h.nd, fun e he => h.new e (hp.mem_iff.1 he)⟩
theorem set_perm {R : List (List Ent)} {i : Nat} {r : List Ent} (hi : R[i]? = some r) (a b : List Ent) : (R.set i (a ++ b)).flatten.Perm (R.set i b ++ [a]).flatten := by
 obtain ⟨A2, B2, h1, h2⟩ : ∃ A B, (R.set i (a ++ b)).flatten = A ++ (a ++ b) ++ B ∧ (R.set i b).flatten = A ++ b ++ B := by
  induction R generalizing i with
  | nil => simp at hi
  | cons x R ih =>
   cases i with
   | zero => exact ⟨[], R.flatten, by simp, by simp⟩
   | succ i =>
    simp at hi
    obtain ⟨A, B, h1, h2⟩ := ih hi
    exact ⟨x ++ A, B, by simp [h1], by simp [h2]⟩
 rw [h1, List.flatten_append, h2]
 simp only [List.flatten_cons, List.flatten_nil, List.append_nil]
 have h3 : (A2 ++ (a ++ b) ++ B2).Perm (a ++ (A2 ++ b ++ B2)) := by
  rw [List.append_assoc, List.append_assoc]
  refine List.Perm.trans (List.perm_append_comm_assoc _ _ _) ?_
  simp
 exact h3.trans List.perm_append_comm
theorem Mem.split {w0 w : World} {S : List Nat} {R : List (List Ent)} {i : Nat} {a b : List Ent} (h : Mem w0 S w R) (hi : R[i]? = some (a ++ b)) : Mem w0 S w (R.set i b ++ [a]) := by
 have e : R.set i (a ++ b) = R := by
  apply List.ext_getElem?; intro j; rw [List.getElem?_set]
  split
  ·rename_i hj; subst hj
   rw [hi]
   split
   ·rfl
   rename_i hn; rw [List.getElem?_eq_none (by omega)] at hi; cases hi
  rfl
 refine h.perm ?_
 have := (set_perm hi a b).symm
 rwa [e] at this
def Gr {α : Type} (E : α → Value) (t : TypeId) (a x : Value) (p l : List α) (r : List Ent) : Prop :=
 (∃ b cap tail, a = .slice (some ⟨b, 0, none⟩) p.length cap ∧ x = .slice (some ⟨b, 0, none⟩) (p ++ l).length cap ∧ r = [⟨b, t, (p ++ l).map E ++ tail⟩] ∧ (p ++ l).length ≤ cap ∧ tail.length = cap - (p ++ l).length) ∨
 ∃ rx ra, r = rx ++ ra ∧ SlE E t x (p ++ l) rx ∧ SlE E t a p ra
theorem Gr.zero {α : Type} {E : α → Value} {t : TypeId} {a : Value} {p : List α} {r : List Ent} (h : SlE E t a p r) : Gr E t a a p [] r := by
 rcases h.form with ⟨h1, h2, h3⟩ | ⟨b, cap, tail, h1, h2, h3, h4⟩
 ·subst h3
  exact .inr ⟨[], [], rfl, by simpa using h, h⟩
 exact .inl ⟨b, cap, tail, h1, by simpa using h1, by simpa using h2, by simpa using h3, by simpa using h4⟩
theorem Gr.slice {α : Type} {E : α → Value} {t : TypeId} {a x : Value} {p l : List α} {r : List Ent} (h : Gr E t a x p l r) : ∃ ad c, x = .slice ad (p ++ l).length c := by
 rcases h with ⟨b, cap, tail, h1, h2, h3, h4, h5⟩ | ⟨rx, ra, rfl, h1, h2⟩
 ·exact ⟨_, _, h2⟩
 rcases h1.form with ⟨h, h0, _⟩ | ⟨b, cap, tail, h, _⟩
 ·exact ⟨none, 0, by rw [h, h0]⟩
 exact ⟨_, _, h⟩
theorem set_same {R : List (List Ent)} {i : Nat} {r : List Ent} (hi : R[i]? = some r) : R.set i r = R := by
 have hil : i < R.length := by
  rcases Nat.lt_or_ge i R.length with h | h
  ·exact h
  rw [List.getElem?_eq_none h] at hi; cases hi
 apply List.ext_getElem?; intro j; rw [List.getElem?_set]
 split
 ·rename_i hj; subst hj; first | exact hi.symm | (rw [if_pos hil]; exact hi.symm)
 rfl
theorem Mem.res2 {w0 w : World} {S : List Nat} {a b : List Ent} {R : List (List Ent)} (h : Mem w0 S w R) (i j : Nat) (hi : R[i]? = some a) (hj : R[j]? = some b) (hij : i ≠ j) : Res w (a ++ b) := by
 have hj' : (R.set i [])[j]? = some b := by rw [List.getElem?_set, if_neg hij]; exact hj
 have p1 := set_perm hi a []
 rw [List.append_nil, set_same hi] at p1
 have p2 := set_perm hj' a b
 rw [set_same hj'] at p2
 have h2 := h.perm (p2.trans p1.symm)
 have hil : j < R.length := by
  rcases Nat.lt_or_ge j R.length with h | h
  ·exact h
  rw [List.getElem?_eq_none h] at hj; cases hj
 exact h2.res (i := j) (by rw [List.getElem?_set, if_pos rfl]; simp [hil])
end Go.Proofs.YtifnmbmijljhfaaGreat.E
namespace Go.Proofs.YtifnmbmijljhfaaGreat.E
open Go
section
variable {α : Type} (z : α)
theorem takeG {b : List α} {i : Nat} (h : i < b.length) : b.take (i + 1) = b.take i ++ [b.getD i z] := by
 rw [List.take_add_one, List.getElem?_eq_getElem h, List.getD_eq_getElem?_getD, List.getElem?_eq_getElem h]; rfl
theorem dropG {b : List α} {i : Nat} (h : i < b.length) : b.drop i = b.getD i z :: b.drop (i + 1) := by
 rw [List.drop_eq_getElem_cons h, List.getD_eq_getElem?_getD, List.getElem?_eq_getElem h]; rfl
theorem appG1 {a b : List α} {i : Nat} (h : i < a.length) : (a ++ b).getD i z = a.getD i z := by
 rw [List.getD_eq_getElem?_getD, List.getElem?_append_left h, ← List.getD_eq_getElem?_getD]
theorem appG2 {a b : List α} {i : Nat} (h : a.length ≤ i) : (a ++ b).getD i z = b.getD (i - a.length) z := by
 rw [List.getD_eq_getElem?_getD, List.getElem?_append_right h, ← List.getD_eq_getElem?_getD]
theorem take_eqG {a b : List α} {i : Nat} (h : a.take i = b.take i) (ha : i < a.length) (hb : i < b.length) (he : a.getD i z = b.getD i z) : a.take (i + 1) = b.take (i + 1) := by rw [takeG z ha, takeG z hb, h, he]
theorem ne_atG {a c : List α} (i : Nat) (h : ¬ a.getD i z = c.getD i z) : ¬ a = c := fun e => h (by rw [e])
end
def natV (n : Nat) : Value := .int .i64 (n : Int)
instance : One natV := ⟨fun _ => rfl⟩
theorem splice_full {cs l : List Value} (h : cs.length = l.length) : splice cs 0 l = l := by
 rw [splice_eq _ _ _ (by omega)]
 simp [← h]
theorem res_tmp {P : Program} {t : Nat} {r : List ResultVar} {f : Fr} {w : World} {K : List Value → Prop} (h : resV P r f w fun vs => K (f t :: vs)) : resV P (.tmp t :: r) f w K := h
theorem res_cell {P : Program} {a t : Nat} {s : Option Nat} {r : List ResultVar} {f : Fr} {w : World} {K : List Value → Prop} (hs : ldsz P t = some s) (h : vl P (.ld s (.tmp a)) f w fun v _ => resV P r f w fun vs => K (v :: vs)) : resV P (.cell a t :: r) f w K := by
 unfold resV; rw [hs]; exact h
theorem vl_ld {P : Program} {f : Fr} {w : World} {K : Value → World → Prop} {x : Operand} {b o : Nat} {v : Value} (hx : ev f x = .pointer (some ⟨b, o, none⟩)) (hv : w.cell? ⟨b, o, none⟩ = some v) (h : K v w) : vl P (.ld none x) f w K := by
 show kptr (ev f x) _; rw [hx]; exact ⟨v, hv, h⟩
theorem vl_ldA {P : Program} {f : Fr} {w : World} {K : Value → World → Prop} {x : Operand} {b o n : Nat} {cs : List Value} (hx : ev f x = .pointer (some ⟨b, o, none⟩)) (hl : cs.length = n) (hr : Row w (some ⟨b, o, none⟩) cs) (h : K (.agg cs.toArray) w) : vl P (.ld (some n) x) f w K := by
 show kptr (ev f x) _; rw [hx]; exact ⟨cs, hl, hr, h⟩
theorem Own.all {w : World} {en : Ent} (h : Own w en) : Row w (some ⟨en.b, 0, none⟩) en.cs := h.row (l := en.cs) fun i _ => by rw [Nat.zero_add]
theorem nat_neG {x y : UInt8} (h : ¬ (x.toNat : Int) = (y.toNat : Int)) : ¬ x = y := fun e => h (by rw [e])
theorem u8_eq {a b : UInt8} (h : (a.toNat : Int) = (b.toNat : Int)) : a = b := UInt8.toNat_inj.1 (by omega)
end Go.Proofs.YtifnmbmijljhfaaGreat.E
namespace Go.Proofs.YtifnmbmijljhfaaGreat.E
open Go
class Enc {α : Type} (enc : α → List Value) (sz : outParam Nat) : Prop where
 len : ∀ a, (enc a).length = sz
 pos : 0 < sz
 one : ∀ a, oneCells (enc a)
section
variable {α : Type} {enc : α → List Value} {sz : Nat} [Enc enc sz]
theorem fm_length (l : List α) : (l.flatMap enc).length = l.length * sz := by
 induction l with
 | nil => simp
 | cons a l ih => rw [List.flatMap_cons, List.length_append, ih, Enc.len (enc := enc) a, List.length_cons, Nat.add_mul]; omega
theorem fm_drop (k : Nat) : ∀ (l : List α), (l.flatMap enc).drop (k * sz) = (l.drop k).flatMap enc := by
 induction k with
 | zero => intro l; simp
 | succ k ih =>
  intro l
  cases l with
  | nil => simp
  | cons a l =>
   rw [List.flatMap_cons, List.drop_succ_cons, ← ih l, Nat.add_mul, Nat.one_mul, Nat.add_comm, ← List.drop_drop, List.drop_left' (Enc.len a)]
theorem fm_take (k : Nat) : ∀ (l : List α), (l.flatMap enc).take (k * sz) = (l.take k).flatMap enc := by
 induction k with
 | zero => intro l; simp
 | succ k ih =>
  intro l
  cases l with
  | nil => simp
  | cons a l =>
   rw [List.flatMap_cons, List.take_succ_cons, List.flatMap_cons, ← ih l, Nat.add_mul, Nat.one_mul, Nat.add_comm, List.take_append, Enc.len (enc := enc) a, List.take_of_length_le (by rw [Enc.len (enc := enc) a]; omega)]
   congr 2; omega
theorem fm_get (z : α) {l : List α} {j i : Nat} (hj : j < l.length) (hi : i < sz) : (l.flatMap enc)[j * sz + i]? = (enc (l.getD j z))[i]? := by
 rw [← List.getElem?_drop, fm_drop, dropG z hj, List.flatMap_cons, List.getElem?_append_left (by rw [Enc.len (enc := enc)]; exact hi)]
theorem fm_set (z : α) {l : List α} {tail : List Value} {j : Nat} (q : α) (hj : j < l.length) : splice (l.flatMap enc ++ tail) (j * sz) (enc q) = (l.set j q).flatMap enc ++ tail := by
 have h1 : j * sz + sz ≤ l.length * sz := by
  have := Nat.mul_le_mul_right sz hj
  rwa [Nat.succ_mul] at this
 rw [splice_eq _ _ _ (by rw [List.length_append, fm_length, Enc.len (enc := enc)]; omega), Enc.len (enc := enc)]
 rw [List.take_append_of_le_length (by rw [fm_length]; omega), fm_take, List.drop_append_of_le_length (by rw [fm_length]; omega)]
 rw [show j * sz + sz = (j + 1) * sz by rw [Nat.succ_mul], fm_drop]
 rw [List.set_eq_take_append_cons_drop, if_pos hj]
 simp [List.flatMap_append]
end
theorem fm_one {α : Type} {enc : α → List Value} (sz : Nat) (he : Enc enc sz) (l : List α) : oneCells (l.flatMap enc) := by
 intro c hc
 obtain ⟨a, _, h⟩ := List.mem_flatMap.1 hc
 exact he.one a c h
abbrev RdS {α : Type} (enc : α → List Value) (w : World) (v : Value) (l : List α) : Prop := Rd w v l.length (l.flatMap enc)
abbrev SlS {α : Type} (enc : α → List Value) (sz : Nat) (t : TypeId) (v : Value) (l : List α) (r : List Ent) : Prop := Sl sz t v l.length (l.flatMap enc) r
def upS {α : Type} (enc : α → List Value) (l : List α) (r : List Ent) : List Ent := r.map fun e => ⟨e.b, e.t, l.flatMap enc ++ e.cs.drop (l.flatMap enc).length⟩
section
variable {α : Type} {enc : α → List Value} {sz : Nat} [Enc enc sz] {t : TypeId} {v : Value} {l m : List α} {r : List Ent}
theorem SlS.cut {a : Option Addr} {n c : Nat} (h : SlS enc sz t (.slice a n c) l r) (k : Nat) (hk : k ≤ l.length) : SlS enc sz t (.slice a k c) (l.take k) r := by
 have hs := Enc.pos (enc := enc)
 rcases h.form with ⟨h1, h2, h3⟩ | ⟨b, cap, tail, h1, h2, h3, h4⟩
 ·injection h1 with e1 e2 e3
  subst e1 e3 h3
  have : k = 0 := by omega
  subst this
  exact ⟨by simp, .inl ⟨rfl, by simp, rfl⟩⟩
 injection h1 with e1 e2 e3
 subst e1 e3
 have hk2 : (l.take k).length = k := by simp; omega
 refine ⟨fm_length _, .inr ⟨b, c, (l.drop k).flatMap enc ++ tail, by rw [hk2], ?_, by omega, ?_⟩⟩
 ·rw [h2, ← List.append_assoc, ← List.flatMap_append, List.take_append_drop]
 rw [List.length_append, fm_length, h4, hk2, ← Nat.add_mul]
 congr 1
 simp; omega
end
section
variable {α : Type} {enc : α → List Value} {sz : Nat} [Enc enc sz] {P : Program} {r : List MI} {f : Fr} {w w0 : World} {K : Fr → World → Prop} {d : Nat} {v : Value} {S : List Nat} {R : List (List Ent)} {t : TypeId}
def Cells (w : World) (b o : Nat) (cs : List Value) : Prop := ∀ i, i < cs.length → w.cell? ⟨b, o + i, none⟩ = cs[i]?
theorem Cells.get {b o : Nat} {cs : List Value} (h : Cells w b o cs) (i : Nat) {x : Value} (hx : cs[i]? = some x) : w.cell? ⟨b, o + i, none⟩ = some x := by
 have hi : i < cs.length := by
  rcases Nat.lt_or_ge i cs.length with h | h
  ·exact h
  rw [List.getElem?_eq_none h] at hx; cases hx
 rw [h i hi, hx]
theorem Cells.row {b o n k : Nat} {cs l : List Value} (h : Cells w b o cs) (hl : (cs.drop k).take n = l) (hn : l.length = n) : Row w (some ⟨b, o + k, none⟩) l := by
 intro i hi
 have h1 : k + i < cs.length := by
  subst hl
  simp at hi; omega
 have := h (k + i) h1
 subst hl
 rw [List.getElem?_take_of_lt (by omega), List.getElem?_drop, ← this]
 congr 2; omega
theorem m_idxS (z : α) {x i : Operand} {u : Value} {l : List α} {j : Nat} {k : IntKind} (h : RdS enc w u l) (hx : ev f x = u) (hi : ev f i = .int k j) (hj : j < l.length)
 (hk : ∀ b o, Cells w b o (enc (l.getD j z)) → vr P r (upd f d (.pointer (some ⟨b, o, none⟩))) w K) : vr P (.p none d (.idx sz x i) :: r) f w K :=
 pe_idxR (T := fun v => vr P r (upd f d v) w K) h (fm_length l) (Enc.pos (enc := enc)) hx hi hj fun b o ha => hk b o fun i hi => by
  rw [Enc.len (enc := enc)] at hi
  rw [ha i hi, fm_get z hj hi]
theorem m_app1S {n : Nat} {bytes : Nat} {zs : List Value} {x : Operand} {ps : List (Nat × Nat × Operand)} {l : List α} {q : α} {i c : Nat} {rs : List Ent} (hM : Mem w0 S w R) (hi : R[i]? = some rs) (hs : SlS enc sz t v l rs) (hx : ev f x = v) (hxd : x ≠ .tmp d)
 (hc : fillC zs (ps.map fun (o, s, x) => (o, s, ev f x)) = some (enc q)) (hz : zs.length = sz) (hb : (l.length + 1) * bytes ≤ 175921860444160) (hb0 : 0 < bytes ∧ bytes < 65536)
 (h : ∀ v' w' r' u, SlS enc sz t v' (l ++ [q]) r' → Mem w0 S w' (R.set i r') → vr P r (upd (upd f d u) c v') w' K) :
 vr P (.l none (some d) (.bs t 1 n zs ps) :: .l none (some c) (.app t bytes sz zs x (.tmp d)) :: r) f w K := by
 refine m_bs hM hc fun b w' hM' => ?_
 have hil : i < R.length := by
  rcases Nat.lt_or_ge i R.length with h | h
  ·exact h
  rw [List.getElem?_eq_none h] at hi; cases hi
 have hi' : (R ++ [[⟨b, t, enc q⟩]])[i]? = some rs := by rw [List.getElem?_append_left hil]; exact hi
 have hev : ev (upd f d (.slice (some ⟨b, 0, none⟩) 1 1)) x = v := by
  cases x with
  | tmp s => show upd f d _ s = v; unfold upd; rw [if_neg (fun e => hxd (by rw [e]))]; exact hx
  | _ => exact hx
 have hd : ev (upd f d (.slice (some ⟨b, 0, none⟩) 1 1)) (.tmp d) = .slice (some ⟨b, 0, none⟩) 1 1 := by show upd f d _ d = _; unfold upd; rw [if_pos rfl]
 have hrd : Rd w' (.slice (some ⟨b, 0, none⟩) 1 1) 1 (enc q) := by
  have ho := hM'.own ⟨b, t, enc q⟩ (by simp)
  exact ⟨_, 1, rfl, Nat.le_refl _, ho.row (l := enc q) fun j hj => by simp, fun h => by cases h⟩
 refine app (sz := sz) (m := 1) (new := enc q) hM' hi' hs hev (by rw [hd]; exact hrd) (by rw [Enc.len (enc := enc)]; omega) (Enc.one q) hz hb hb0 fun v' w2 r' h1 h2 => h v' w2 r' _ ?_ ?_
 ·have e : (l ++ [q]).flatMap enc = l.flatMap enc ++ enc q := by simp [List.flatMap_append]
  show Sl sz t v' (l ++ [q]).length _ r'
  rw [e, List.length_append]; exact h1
 rw [List.set_append_left _ _ hil] at h2
 exact h2.keep (by simp)
theorem m_appS' {bytes : Nat} {zs : List Value} {x y : Operand} {l m : List α} {u : Value} {i c : Nat} {rs : List Ent} (hM : Mem w0 S w R) (hi : R[i]? = some rs) (hs : SlS enc sz t v l rs) (hx : ev f x = v) (hy : ev f y = u) (hu : RdS enc w u m) (hz : zs.length = sz) (hb : (l.length + m.length) * bytes ≤ 175921860444160) (hb0 : 0 < bytes ∧ bytes < 65536)
 (h : ∀ v' w' r', SlS enc sz t v' (l ++ m) r' → Mem w0 S w' (R.set i r') → vr P r (upd f c v') w' K) : vr P (.l none (some c) (.app t bytes sz zs x y) :: r) f w K :=
 app hM hi hs hx (by rw [hy]; exact hu) (fm_length m) (fm_one sz inferInstance m) hz hb hb0 fun v' w' r' h1 h2 => h v' w' r' (by
  show Sl sz t v' (l ++ m).length _ r'
  rw [List.flatMap_append, List.length_append]; exact h1) h2
theorem m_setS (z : α) {x p y : Operand} {l : List α} {q : α} {i j : Nat} {k : IntKind} {rs : List Ent} (hM : Mem w0 S w R) (hi : R[i]? = some rs) (hs : SlS enc sz t v l rs) (hx : ev f x = v) (hp : ev f p = .int k j) (hj : j < l.length) (hyd : y ≠ .tmp d) (hy : ev f y = .agg (enc q).toArray)
 (h : ∀ w' r' u, r' = upS enc (l.set j q) rs → SlS enc sz t v (l.set j q) r' → Mem w0 S w' (R.set i r') → vr P r (upd f d u) w' K) : vr P (.p none d (.idx sz x p) :: .l none none (.st sz (.tmp d) y) :: r) f w K := by
 rcases hs.form with ⟨_, h0, _⟩ | ⟨b, cap, tail, rfl, rfl, h1, h2⟩
 ·omega
 refine idx hx hp ⟨by omega, by omega⟩ ?_
 have hown := hM.at hi (j := 0) rfl
 have hev : ev (upd f d (.pointer (some ⟨b, 0 + (j : Int).toNat * sz, none⟩))) y = .agg (enc q).toArray := by
  cases y with
  | tmp a => show upd f d _ a = _; unfold upd; rw [if_neg (fun e => hyd (by rw [e]))]; exact hy
  | _ => exact hy
 have e1 : 0 + (j : Int).toNat * sz = j * sz := by simp
 have hle : j * sz + sz ≤ l.length * sz := by
  have := Nat.mul_le_mul_right sz hj
  rwa [Nat.succ_mul] at this
 refine stA (n := sz) (by show upd f d _ d = _; unfold upd; rw [if_pos rfl]) hev (by simpa using Enc.len (enc := enc) q) (by simpa using Enc.one q) (hown.writable (by rw [e1, List.length_append, fm_length]; omega)) ?_
 have hM' := hM.step i hi (mem_stores hown (0 + (j : Int).toNat * sz) (enc q))
 rw [e1, fm_set z q hj] at hM'
 rw [e1]
 refine h _ _ _ ?_ ⟨fm_length _, .inr ⟨b, cap, tail, by simp, rfl, by simpa using h1, by simpa using h2⟩⟩ (by simpa using hM')
 unfold upS
 simp only [List.map_cons, List.map_nil]
 have e : (l.flatMap enc).length = ((l.set j q).flatMap enc).length := by rw [fm_length, fm_length, List.length_set]
 rw [List.drop_left' e]
theorem repS (q : α) (n : Nat) : repC (enc q) n = (List.replicate n q).flatMap enc := by
 induction n with
 | zero => rfl
 | succ n ih => rw [repC, ih, List.replicate_succ, List.flatMap_cons]
theorem m_mksS {bytes q : Nat} {z : α} {zs : List Value} {x y : Operand} {k k' : IntKind} {n c : Nat} (hz : zs = enc z) (hM : Mem w0 S w R) (hx : ev f x = .int k n) (hy : ev f y = .int k' c) (hn : n ≤ c) (hb : bytes * c ≤ 281474976710656) (hc : c < 9223372036854775808)
 (h : ∀ v' w' r', SlS enc sz t v' (List.replicate n z) r' → Mem w0 S w' (R ++ [r']) → vr P r (upd f d v') w' K) : vr P (.l none (some d) (.mks t bytes q zs x y) :: r) f w K := by
 subst hz
 refine m_mks hM hx hy hn hb hc fun b w' hM' => h _ _ _ ⟨fm_length _, .inr ⟨b, c, (List.replicate (c - n) z).flatMap enc, by simp, ?_, by simpa using hn, by rw [fm_length]; simp⟩⟩ hM'
 rw [repS, ← List.flatMap_append, List.replicate_append_replicate, Nat.add_sub_cancel' hn]
end
end Go.Proofs.YtifnmbmijljhfaaGreat.E
namespace Go.Proofs.YtifnmbmijljhfaaGreat.E
open Go Go.ChangeShapes Go.WideShapes
def Arg (P : Program) (W : World) (t : TypeId) (cs : List Value) : Prop :=
 ∃ (H : Type) (enc : TypeId × Value → H) (base : Nat) (spare : Nat → Bool) (held : Bool) (fuel : Nat) (d : DataW H) (ps : List MemPlace),
  DataW.trod enc P W base spare held fuel t cs = some (d, ps) ∧ ∀ n ∈ d.weights P t, n ≤ 140737488351232
section
variable {P : Program} {W : World} {t : TypeId} {cs : List Value}
theorem arg_of {H : Type} {enc : TypeId × Value → H} {base : Nat} {spare : Nat → Bool} {held : Bool} {v : Value} {d : DataW H} {ps : List MemPlace} {ts : List TypeId} {ds : List (DataW H)} {j : Nat}
 (h : DataW.Trod enc P W base spare held t v d ps) (hsz : (DataW.weightsEach P ts ds).all (· ≤ reachBytes) = true) (ht : ts[j]? = some t) (hd : ds[j]? = some d) : Arg P W t v.cells.toList := by
 obtain ⟨fuel, h⟩ := h
 refine ⟨H, enc, base, spare, held, fuel, d, ps, h, fun n hn => ?_⟩
 have := List.all_eq_true.1 hsz _ (DataW.weights_mem_each ht hd n hn)
 exact of_decide_eq_true this
theorem Arg.int {k : IntKind} (h : Arg P W t cs) (hu : P.underlying t = some (.int k)) : ∃ n, cs = [.int k n] ∧ inK k n := by
 obtain ⟨H, enc, base, spare, held, fuel, d, ps, h, _⟩ := h
 obtain ⟨n, h1, _, h3⟩ := DataW.trod_int hu h
 exact ⟨n, h1, inK_of_wf h3⟩
theorem Arg.bool (h : Arg P W t cs) (hu : P.underlying t = some .bool) : ∃ b, cs = [.bool b] := by
 obtain ⟨H, enc, base, spare, held, fuel, d, ps, h, _⟩ := h
 obtain ⟨n, h1, _⟩ := DataW.trod_bool hu h
 exact ⟨n, h1⟩
theorem Arg.str (h : Arg P W t cs) (hu : P.underlying t = some .string) : ∃ l, cs = [.string (str l)] ∧ l.length ≤ 140737488351232 := by
 obtain ⟨H, enc, base, spare, held, fuel, d, ps, h, hw⟩ := h
 obtain ⟨s, h1, h2, h3⟩ := DataW.trod_string hu h
 obtain ⟨h2, _⟩ := Prod.mk.inj h2
 subst h2
 refine ⟨s.data.toList, by rw [h1, str_list], hw _ (by simp [DataW.weights])⟩
theorem mem_weightsEach {H : Type} {n : Nat} : ∀ {ts : List TypeId} {ds : List (DataW H)} {i : Nat} {t : TypeId} {d : DataW H}, ts[i]? = some t → ds[i]? = some d → n ∈ d.weights P t → n ∈ DataW.weightsEach P ts ds := fun ht hd hn => DataW.weights_mem_each ht hd n hn
theorem mem_weightsAll {H : Type} {n : Nat} {e : TypeId} : ∀ {ds : List (DataW H)} {d : DataW H}, d ∈ ds → n ∈ d.weights P e → n ∈ DataW.weightsAll P e ds
 | [], _, h, _ => by cases h
 | x :: r, d, h, hn => by
  simp only [DataW.weightsAll, List.mem_append]
  rcases List.mem_cons.1 h with rfl | h
  ·exact .inl hn
  exact .inr (mem_weightsAll h hn)
theorem Arg.struct {fs : Array Field} (h : Arg P W t cs) (hu : P.underlying t = some (.struct fs)) : cs.length = P.cellsOf t ∧ ∀ (i : Nat) (f : Field), fs[i]? = some f → Arg P W f.type ((cs.drop f.offset).take (P.cellsOf f.type)) := by
 obtain ⟨H, enc, base, spare, held, fuel, d, ps, h, hw⟩ := h
 obtain ⟨xs, n, _, hx, hl, hlen, hf⟩ := DataW.trod_struct hu h
 obtain ⟨hd, _⟩ := Prod.mk.inj hx
 subst hd
 refine ⟨hl, fun i f hif => ?_⟩
 have h1 := hf i f hif
 have hi : i < xs.length := by
  rw [hlen]; exact (Array.getElem?_eq_some_iff.1 hif).1
 rw [List.getElem?_eq_getElem hi] at h1
 refine ⟨H, enc, base, spare, held, n, (xs[i]).1, (xs[i]).2, h1, fun m hm => hw m ?_⟩
 simp only [DataW.weights, hu]
 refine mem_weightsEach (i := i) (t := f.type) (d := (xs[i]).1) ?_ ?_ hm
 ·rw [List.getElem?_map, Array.getElem?_toList, hif]; rfl
 rw [List.getElem?_map, List.getElem?_eq_getElem hi]; rfl
theorem flat_length {css : List (List Value)} {sz : Nat} (h : ∀ c ∈ css, c.length = sz) : css.flatten.length = css.length * sz := by
 induction css with
 | nil => simp
 | cons c css ih =>
  rw [List.flatten_cons, List.length_append, ih fun x hx => h x (List.mem_cons_of_mem _ hx), h c (by simp), List.length_cons, Nat.succ_mul, Nat.add_comm]
theorem flat_get {css : List (List Value)} {sz : Nat} (h : ∀ c ∈ css, c.length = sz) {i j : Nat} (hi : i < css.length) (hj : j < sz) : css.flatten[i * sz + j]? = (css.getD i [])[j]? := by
 induction css generalizing i with
 | nil => simp at hi
 | cons c css ih =>
  have hc := h c (by simp)
  rw [List.flatten_cons]
  cases i with
  | zero => rw [Nat.zero_mul, Nat.zero_add, List.getElem?_append_left (by omega)]; rfl
  | succ i =>
   rw [List.getElem?_append_right (by rw [Nat.succ_mul]; omega), hc, show (i + 1) * sz + j - sz = i * sz + j by rw [Nat.succ_mul]; omega, ih (fun x hx => h x (List.mem_cons_of_mem _ hx)) (by simpa using hi)]; rfl
theorem rd_flat {x : Addr} {len cap sz : Nat} {css : List (List Value)} (hl : len ≤ cap) (hn : css.length = len) (h : ∀ c ∈ css, c.length = sz) (hc : ∀ i, i < len → ∀ j, j < sz → W.cell? ((x.add (i * sz)).add j) = (css.getD i [])[j]?) : Rd W (.slice (some x) len cap) len css.flatten := by
 refine ⟨some x, cap, rfl, hl, ?_, fun h => by cases h⟩
 have hfl := flat_length h
 have key : ∀ q, q < css.flatten.length → W.cell? (x.add q) = css.flatten[q]? := by
  intro q hq
  rw [hfl, hn] at hq
  have hs : 0 < sz := by
   rcases Nat.eq_zero_or_pos sz with h0 | h0
   ·subst h0; simp at hq
   exact h0
  have e : q = q / sz * sz + q % sz := by rw [Nat.mul_comm]; exact (Nat.div_add_mod q sz).symm
  have h1 : q / sz < len := (Nat.div_lt_iff_lt_mul hs).2 hq
  have h2 := hc (q / sz) h1 (q % sz) (Nat.mod_lt _ hs)
  rw [← flat_get h (by omega) (Nat.mod_lt _ hs), ← e] at h2
  rw [← h2]
  congr 1
  have : q = q / sz * sz + q % sz := e
  rw [Addr.add_add] <;> rw [← this]
 obtain ⟨b, o, m⟩ := x
 cases m with
 | some m =>
  show css.flatten = []
  by_cases h0 : 0 < css.flatten.length
  ·have h1 := key 0 h0
   have h2 : W.cell? (Addr.add ⟨b, o, some m⟩ 0) = none := by
    unfold World.cell? Addr.add
    split
    ·simp
    rfl
   rw [h2, List.getElem?_eq_getElem h0] at h1; cases h1
  exact List.length_eq_zero_iff.1 (by omega)
 | none =>
  intro i hi
  have h1 := key i hi
  have h2 : Addr.add ⟨b, o, none⟩ i = ⟨b, o + i, none⟩ := by
   unfold Addr.add; split
   ·rename_i h; simp [h]
   rfl
  rw [h2] at h1
  exact h1
theorem Arg.slice {e : TypeId} (h : Arg P W t cs) (hu : P.underlying t = some (.slice e)) : ∃ (a : Option Addr) (len cap : Nat) (css : List (List Value)), cs = [.slice a len cap] ∧ Rd W (.slice a len cap) len css.flatten ∧ css.length = len ∧
 (∀ c ∈ css, Arg P W e c ∧ c.length = P.cellsOf e) ∧ len * P.bytesOf e ≤ 140737488351232 := by
 obtain ⟨H, enc, base, spare, held, fuel, d, ps, h, hw⟩ := h
 rcases DataW.trod_slice hu h with ⟨rfl, _⟩ | ⟨a, len, cap, elems, rest, n, _, rfl, hx, hb, hl, hm, hlen, hel, _, _⟩
 ·exact ⟨none, 0, 0, [], rfl, ⟨none, 0, rfl, Nat.le_refl _, rfl, fun _ => rfl⟩, rfl, by simp, by simp⟩
 obtain ⟨hd, _⟩ := Prod.mk.inj hx
 subst hd
 let f : Nat → List Value := fun i => (W.cells? base (a.add (i * P.cellsOf e)) (P.cellsOf e)).getD []
 have each : ∀ i, i < len → ∃ c, W.cells? base (a.add (i * P.cellsOf e)) (P.cellsOf e) = some c ∧ ∃ y ∈ elems, DataW.trod enc P W base spare held n e c = some y := by
  intro i hi
  have h1 := hel i hi
  rw [List.getElem?_eq_getElem (by omega), Option.bind_eq_some_iff] at h1
  obtain ⟨c, h2, h3⟩ := h1
  exact ⟨c, h2, _, List.getElem_mem _, h3⟩
 have hget : ∀ i, i < len → ((List.range len).map f).getD i [] = f i := by
  intro i hi
  rw [List.getD_eq_getElem?_getD, List.getElem?_map, List.getElem?_range hi]; rfl
 refine ⟨some a, len, cap, (List.range len).map f, rfl, rd_flat hl (by simp) (sz := P.cellsOf e) ?_ ?_, by simp, ?_, ?_⟩
 ·intro c hc
  obtain ⟨i, hi, rfl⟩ := List.mem_map.1 hc
  obtain ⟨c, h2, _⟩ := each i (by simpa using hi)
  have e1 : f i = c := by show Option.getD _ _ = _; rw [h2]; rfl
  rw [e1]; exact (World.cells?_some h2).2.1
 ·intro i hi j hj
  rw [hget i hi]
  obtain ⟨c, h2, _⟩ := each i hi
  have e1 : f i = c := by show Option.getD _ _ = _; rw [h2]; rfl
  rw [e1]; exact (World.cells?_some h2).2.2 j hj
 ·intro c hc
  obtain ⟨i, hi, rfl⟩ := List.mem_map.1 hc
  obtain ⟨c, h2, y, hy, h3⟩ := each i (by simpa using hi)
  have e1 : f i = c := by show Option.getD _ _ = _; rw [h2]; rfl
  rw [e1]
  refine ⟨⟨H, enc, base, spare, held, n, y.1, y.2, h3, fun m hm => hw m ?_⟩, (World.cells?_some h2).2.1⟩
  simp only [DataW.weights, hu]
  exact List.mem_cons_of_mem _ (List.mem_append.2 (.inl (mem_weightsAll (List.mem_map.2 ⟨y, hy, rfl⟩) hm)))
 have h1 := hw ((elems.map (·.1)).length + (rest.map (·.1)).length |> (· * P.bytesOf e)) (by simp [DataW.weights, hu])
 refine Nat.le_trans (Nat.mul_le_mul_right _ ?_) h1
 simp [hlen]
theorem told {α : Type} {enc : α → List Value} {ok : α → Prop} : ∀ {css : List (List Value)}, (∀ c ∈ css, ∃ x, c = enc x ∧ ok x) → ∃ l : List α, css.flatten = l.flatMap enc ∧ css.length = l.length ∧ ∀ x ∈ l, ok x
 | [], _ => ⟨[], rfl, rfl, by simp⟩
 | c :: css, h => by
  obtain ⟨x, rfl, hx⟩ := h c (by simp)
  obtain ⟨l, h1, h2, h3⟩ := told fun c hc => h c (List.mem_cons_of_mem _ hc)
  refine ⟨x :: l, by simp [h1], by simp [h2], ?_⟩
  intro y hy
  rcases List.mem_cons.1 hy with rfl | hy
  ·exact hx
  exact h3 y hy
theorem Arg.slices {α : Type} {enc : α → List Value} {ok : α → Prop} {e : TypeId} (h : Arg P W t cs) (hu : P.underlying t = some (.slice e)) (hk : ∀ c, Arg P W e c → c.length = P.cellsOf e → ∃ x, c = enc x ∧ ok x) :
 ∃ (v : Value) (l : List α), cs = [v] ∧ RdS enc W v l ∧ (∀ x ∈ l, ok x) ∧ l.length * P.bytesOf e ≤ 140737488351232 := by
 obtain ⟨a, len, cap, css, h1, h2, h3, h4, h5⟩ := h.slice hu
 obtain ⟨l, e1, e2, e3⟩ := told fun c hc => hk c (h4 c hc).1 (h4 c hc).2
 refine ⟨_, l, h1, ?_, e3, by rw [← e2, h3]; exact h5⟩
 show Rd _ _ _ _
 rw [← e1, ← e2, h3]; exact h2
end
end Go.Proofs.YtifnmbmijljhfaaGreat.E
namespace Go.Proofs.YtifnmbmijljhfaaGreat.E
open Go
section
variable {P : Program} {r : List MI} {f : Fr} {w : World} {K : Fr → World → Prop} {d : Nat} {v : Value} {w0 : World} {S : List Nat} {R : List (List Ent)}
theorem m_bsU {t : TypeId} {n q : Nat} {z : List Value} {ps : List (Nat × Nat × Operand)} {cs : List Value} (hM : Mem w0 S w R) (hc : fillC z (ps.map fun (o, s, x) => (o, s, ev f x)) = some cs) (h : ∀ b w', Upd [] w w' → Mem w0 S w' (R ++ [[⟨b, t, cs⟩]]) → vr P r (upd f d (.slice (some ⟨b, 0, none⟩) n n)) w' K) :
 vr P (.l none (some d) (.bs t n q z ps) :: r) f w K :=
 m_bs (Mem.nil w []) hc fun b w' hM' => h b w' hM'.upd (hM.add hM')
theorem m_stU {i o b : Nat} {t : TypeId} {cs : List Value} {a x : Operand} (hM : Mem w0 S w R) (hi : R[i]? = some [⟨b, t, cs⟩]) (ha : ev f a = .pointer (some ⟨b, o, none⟩)) (hx : ev f x = v) (h1 : v.oneCell' = true) (ho : o < cs.length)
 (h : ∀ w', Upd (ids [⟨b, t, cs⟩]) w w' → Mem w0 S w' (R.set i [⟨b, t, cs.set o v⟩]) → vr P r f w' K) : vr P (.l none none (.st 1 a x) :: r) f w K :=
 m_st (Mem.start (hM.res hi)) (i := 0) rfl ha hx h1 ho fun w' hM' => h w' hM'.upd (hM.step i hi hM')
theorem m_stAU {i o b n : Nat} {t : TypeId} {cs l : List Value} {a x : Operand} (hM : Mem w0 S w R) (hi : R[i]? = some [⟨b, t, cs⟩]) (ha : ev f a = .pointer (some ⟨b, o, none⟩)) (hx : ev f x = .agg l.toArray) (hl : l.length = n) (h1 : oneCells l) (ho : o + n ≤ cs.length)
 (h : ∀ w', Upd (ids [⟨b, t, cs⟩]) w w' → Mem w0 S w' (R.set i [⟨b, t, splice cs o l⟩]) → vr P r f w' K) : vr P (.l none none (.st n a x) :: r) f w K :=
 m_stA (Mem.start (hM.res hi)) (i := 0) rfl ha hx hl h1 ho fun w' hM' => h w' hM'.upd (hM.step i hi hM')
theorem m_appEU {α : Type} {E : α → Value} [One E] {t : TypeId} {bytes : Nat} {z : Value} {x y : Operand} {l m : List α} {u : Value} {i c : Nat} {rs : List Ent} (hM : Mem w0 S w R) (hi : R[i]? = some rs) (hs : SlE E t v l rs) (hx : ev f x = v) (hy : ev f y = u) (hu : RdE E w u m) (hb : (l.length + m.length) * bytes ≤ 175921860444160) (hb0 : 0 < bytes ∧ bytes < 65536)
 (h : ∀ v' w' r', SlE E t v' (l ++ m) r' → Upd (ids rs) w w' → Mem w0 S w' (R.set i r') → vr P r (upd f c v') w' K) : vr P (.l none (some c) (.app t bytes 1 [z] x y) :: r) f w K :=
 m_appE (Mem.start (hM.res hi)) (i := 0) rfl hs hx hy hu hb hb0 fun v' w' r' h1 h2 => h v' w' r' h1 h2.upd (hM.step i hi h2)
end
theorem byteV_of {n : Int} (h0 : 0 ≤ n) (h : n < 256) : Value.int .u8 n = byteV n.toNat.toUInt8 := by
 unfold byteV
 congr 1
 simp
 omega
theorem Mem.apart {w0 w : World} {S : List Nat} {R : List (List Ent)} (h : Mem w0 S w R) {i j k : Nat} {r rs : List Ent} {e : Ent} (hi : R[i]? = some r) (hj : r[j]? = some e) (hk : R[k]? = some rs) (hn : i ≠ k) : e.b ∉ ids rs := by
 have h1 := (h.res2 i k hi hk hn).2
 unfold ids at h1 ⊢
 rw [List.map_append, List.nodup_append] at h1
 intro hm
 exact h1.2.2 e.b (List.mem_map.2 ⟨e, List.mem_of_getElem? hj, rfl⟩) e.b hm rfl
theorem Sl.isSlice {sz : Nat} {t : TypeId} {v : Value} {n : Nat} {cs : List Value} {r : List Ent} (h : Sl sz t v n cs r) : ∃ a m c, v = .slice a m c := by
 rcases h.form with ⟨rfl, _⟩ | ⟨b, c, _, rfl, _⟩ <;> exact ⟨_, _, _, rfl⟩
theorem Sl.one {sz : Nat} {t : TypeId} {v : Value} {n : Nat} {cs : List Value} {r : List Ent} (h : Sl sz t v n cs r) : v.oneCell' = true := by
 obtain ⟨a, m, c, rfl⟩ := h.isSlice; rfl
theorem Rd.isSlice {w : World} {v : Value} {n : Nat} {cs : List Value} (h : Rd w v n cs) : ∃ a m c, v = .slice a m c := by
 obtain ⟨a, c, rfl, _⟩ := h.form; exact ⟨_, _, _, rfl⟩
theorem Rd.one {w : World} {v : Value} {n : Nat} {cs : List Value} (h : Rd w v n cs) : v.oneCell' = true := by
 obtain ⟨a, m, c, rfl⟩ := h.isSlice; rfl
theorem Mem.stepAdd {w0 w w' : World} {S : List Nat} {R : List (List Ent)} (h : Mem w0 S w R) (i : Nat) {r r' rs : List Ent} (hi : R[i]? = some r) (l : Mem w (ids r) w' [r', rs]) : Mem w0 S w' (R.set i r' ++ [rs]) := by
 have h1 := h.step i hi (r' := r' ++ rs) (l.perm (by simp))
 refine h1.perm ?_
 have : ∀ (R : List (List Ent)) (i : Nat), R[i]? = some r → ((R.set i r').flatten ++ rs).Perm (R.set i (r' ++ rs)).flatten := by
  intro R
  induction R with
  | nil => intro i hi; simp at hi
  | cons x R ih =>
   intro i hi
   cases i with
   | zero =>
    simp only [List.set_cons_zero, List.flatten_cons, List.append_assoc]
    exact List.Perm.append_left _ List.perm_append_comm
   | succ i =>
    simp only [List.set_cons_succ, List.flatten_cons, List.append_assoc]
    exact List.Perm.append_left _ (ih i (by simpa using hi))
 simpa using this R i hi
theorem own_rdS {α : Type} {enc : α → List Value} {sz : Nat} [Enc enc sz] {w : World} {b : Nat} {t : TypeId} {cs : List Value} {l : List α} (h : Own w ⟨b, t, cs⟩) (hc : cs = l.flatMap enc) : RdS enc w (.slice (some ⟨b, 0, none⟩) l.length l.length) l :=
 ⟨some ⟨b, 0, none⟩, l.length, rfl, Nat.le_refl _, by subst hc; exact h.row fun j hj => by simp, fun h => by cases h⟩
theorem Mem.step2 {w0 w w' : World} {S : List Nat} {R : List (List Ent)} (h : Mem w0 S w R) (i j : Nat) {a b a' b' : List Ent} (hi : R[i]? = some a) (hj : R[j]? = some b) (hij : i ≠ j) (l : Mem w (ids (a ++ b)) w' [a', b']) : Mem w0 S w' ((R.set i a').set j b') := by
 have key : ∀ x y : List Ent, (((R.set i []).set j []) ++ [x ++ y]).flatten.Perm ((R.set i x).set j y).flatten := by
  intro x y
  have e1 : (R.set j y)[i]? = some a := by rw [List.getElem?_set_ne (fun e => hij e.symm)]; exact hi
  have e2 : (R.set i [])[j]? = some b := by rw [List.getElem?_set_ne hij]; exact hj
  have p1 := set_perm e1 x []
  have p2 := set_perm e2 y []
  rw [List.append_nil] at p1 p2
  have c1 : (R.set i x).set j y = (R.set j y).set i x := List.set_comm _ _ hij
  have c2 : (R.set j y).set i [] = (R.set i []).set j y := (List.set_comm _ _ hij).symm
  rw [c1]
  refine List.Perm.trans ?_ p1.symm
  rw [c2]
  simp only [List.flatten_append, List.flatten_cons, List.flatten_nil, List.append_nil] at p2 ⊢
  refine List.Perm.trans ?_ (List.Perm.append_right x p2.symm)
  rw [List.append_assoc]
  exact List.Perm.append_left _ List.perm_append_comm
 have h0 : (R.set i a).set j b = R := by
  rw [set_same hi, set_same hj]
 have h1 : Mem w0 S w (((R.set i []).set j []) ++ [a ++ b]) := h.perm (by have := key a b; rwa [h0] at this)
 have h2 := h1.step (i := ((R.set i []).set j []).length) (r' := a' ++ b') (by simp) (l.perm (by simp))
 refine h2.perm ?_
 have := (key a' b').symm
 simpa using this
theorem Mem.start2 {w : World} {e : Ent} {r : List Ent} (h : Res w (e :: r)) : Mem w (ids (e :: r)) w [[e], r] :=
 (Mem.start h).keep (by simp)
def blkV : Value → Nat | .slice (some a) _ _ => a.block | _ => 0
theorem Rd.blkV_lt {α : Type} {E : α → Value} {w : World} {v : Value} {l : List α} (h : RdE E w v l) (hl : 0 < l.length) : blkV v < w.heap.size := by
 obtain ⟨a, c, rfl, h2, h3, h4⟩ := h.form
 cases a with
 | none => have := h4 rfl; omega
 | some a =>
  obtain ⟨b, o, m⟩ := a
  cases m with
  | some m => simp only [Row] at h3; have := congrArg List.length h3; simp at this; subst this; simp at hl
  | none =>
   have h5 := h3 0 (by simpa using hl)
   rw [List.getElem?_eq_getElem (by simpa using hl)] at h5
   exact World.block_lt_of_cell? w ⟨b, o + 0, none⟩ h5
theorem m_idxE2 {α : Type} {E : α → Value} (z : α) {P : Program} {r : List MI} {f : Fr} {w : World} {K : Fr → World → Prop} {d : Nat} {x i : Operand} {u : Value} {l : List α} {j : Nat} {k : IntKind} (h : RdE E w u l) (hx : ev f x = u) (hi : ev f i = .int k j) (hj : j < l.length)
 (hk : ∀ b o, w.cell? ⟨b, o, none⟩ = some (E (l.getD j z)) → b = blkV u → vr P r (upd f d (.pointer (some ⟨b, o, none⟩))) w K) : vr P (.p none d (.idx 1 x i) :: r) f w K := by
 show pe (.idx 1 x i) f (fun v => vr P r (upd f d v) w K)
 obtain ⟨a, c, rfl, h2, h3, h4⟩ := h.form
 show kslice (ev f x) _; rw [hx]; show anyint (ev f i) _; rw [hi]; refine ⟨⟨by omega, by omega⟩, ?_⟩
 cases a with
 | none => have := h4 rfl; omega
 | some a =>
  obtain ⟨b, o, m⟩ := a
  cases m with
  | some m => simp only [Row] at h3; have := congrArg List.length h3; simp at this; subst this; simp at hj
  | none =>
   refine hk _ _ ?_ rfl
   have h5 := h3 j (by simpa using hj)
   rw [Int.toNat_natCast, Nat.mul_one, h5, List.getElem?_map, List.getElem?_eq_getElem hj, List.getD_eq_getElem?_getD, List.getElem?_eq_getElem hj]; rfl
theorem Mem.old {w0 w : World} {R : List (List Ent)} {i : Nat} {r : List Ent} (h : Mem w0 [] w R) (hi : R[i]? = some r) {b : Nat} (hb : b < w0.heap.size) : b ∉ ids r := fun hm => by
 obtain ⟨e, he, rfl⟩ := List.mem_map.1 hm
 rcases h.new e (List.mem_flatten.2 ⟨r, List.mem_of_getElem? hi, he⟩) with h | h
 ·simp at h
 omega
theorem SlE.isSome {α : Type} {E : α → Value} {t : TypeId} {v : Value} {l : List α} {r : List Ent} (h : SlE E t v l r) (hl : 0 < l.length) : ∃ b cp, v = .slice (some ⟨b, 0, none⟩) l.length cp ∧ l.length ≤ cp := by
 rcases h.form with ⟨_, h, _⟩ | ⟨b, c, tl, h, _, h2, _⟩
 ·omega
 exact ⟨b, c, h, h2⟩
theorem SlE.cutTo {α : Type} {E : α → Value} {t : TypeId} {b cp : Nat} {l m : List α} {r : List Ent} (h : SlE E t (.slice (some ⟨b, 0, none⟩) (l ++ m).length cp) (l ++ m) r) : SlE E t (.slice (some ⟨b, 0, none⟩) l.length cp) l r := by
 rcases h.form with ⟨h, _, _⟩ | ⟨b', c, tl, h, h1, h2, h3⟩
 ·cases h
 cases h
 refine ⟨by simp, .inr ⟨b, cp, m.map E ++ tl, rfl, by rw [h1]; simp, by simp at h2; omega, ?_⟩⟩
 simp only [List.length_append, List.length_map, Nat.mul_one] at h3 h2 ⊢
 omega
theorem o_slcU {f : Fr} {x y : Operand} {b n c : Nat} {k : IntKind} {j : Int} {v : Value} (hx : ev f x = .slice (some ⟨b, 0, none⟩) n c) (hy : ev f y = .int k j) (hj : 0 ≤ j ∧ j ≤ (c : Int)) (hv : Value.slice (some ⟨b, 0, none⟩) j.toNat c = v) : PeV (.slc 1 x none (some y) none) f v := fun K h => by
 subst hv
 have key : bnd ((none : Option Operand).map (ev f)) c c fun m => bnd ((some y).map (ev f)) n m fun h => bnd ((none : Option Operand).map (ev f)) 0 h fun l => K (.slice (cutAt 1 (some ⟨b, 0, none⟩) l m) (h - l) (m - l)) := by
  refine bndN ?_
  show bnd (some (ev f y)) n c _
  refine bndS hy hj <| bndN ?_
  have e : cutAt 1 (some ⟨b, 0, none⟩) 0 c = some ⟨b, 0, none⟩ := by show (if c = 0 then _ else some (⟨b, 0 + 0 * 1, none⟩ : Addr)) = _; split <;> simp
  rw [e]; exact h
 show kslice (ev f x) _; rw [hx]; exact key
theorem Arg.bytes {P : Program} {W : World} {t e : TypeId} {cs : List Value} (h : Arg P W t cs) (hu : P.underlying t = some (.slice e)) (he : P.underlying e = some (.int .u8)) (hb : P.bytesOf e = 1) :
 ∃ (v : Value) (l : List UInt8), cs = [v] ∧ RdE byteV W v l ∧ l.length ≤ 140737488351232 := by
 obtain ⟨v, l, h1, h2, _, h4⟩ := h.slices (enc := fun x => [byteV x]) (ok := fun _ => True) hu fun c hc _ => by
  obtain ⟨n, h1, h2⟩ := hc.int he
  simp only [inK] at h2
  exact ⟨n.toNat.toUInt8, by rw [h1, byteV_of h2.1 (by omega)], trivial⟩
 rw [hb] at h4
 refine ⟨v, l, h1, ?_, by omega⟩
 have e : ∀ l : List UInt8, l.flatMap (fun x => [byteV x]) = l.map byteV := fun l => by
  induction l with
  | nil => rfl
  | cons a l ih => rw [List.flatMap_cons, ih]; rfl
 unfold RdS at h2
 rwa [e] at h2
theorem Arg.strs {P : Program} {W : World} {t e : TypeId} {cs : List Value} (h : Arg P W t cs) (hu : P.underlying t = some (.slice e)) (he : P.underlying e = some .string) (hb : P.bytesOf e = 16) :
 ∃ (v : Value) (l : List (List UInt8)), cs = [v] ∧ RdE strV W v l ∧ (∀ x ∈ l, x.length ≤ 140737488351232) ∧ l.length * 16 ≤ 140737488351232 := by
 obtain ⟨v, l, h1, h2, h3, h4⟩ := h.slices (enc := fun x => [strV x]) (ok := fun x => x.length ≤ 140737488351232) hu fun c hc _ => by
  obtain ⟨l, h1, h2⟩ := hc.str he; exact ⟨l, h1, h2⟩
 rw [hb] at h4
 refine ⟨v, l, h1, ?_, h3, h4⟩
 have e : ∀ l : List (List UInt8), l.flatMap (fun x => [strV x]) = l.map strV := fun l => by
  induction l with
  | nil => rfl
  | cons a l ih => rw [List.flatMap_cons, ih]; rfl
 unfold RdS at h2
 rwa [e] at h2
end Go.Proofs.YtifnmbmijljhfaaGreat.E
namespace Go.Proofs.YtifnmbmijljhfaaGreat.E
open Go
variable {P : Program}
section
variable {r : List MI} {f : Fr} {w : World} {K : Fr → World → Prop} {d s : Nat} {b : Bool}
theorem bn {op : BinOp} {k : IntKind} {x y : Operand} {a b : Int} (hx : ev f x = .int k a) (hy : ev f y = .int k b) (h : vr P r (upd f d (binI op k a b)) w K) : vr P (.p none d (.bin op k x y) :: r) f w K := bin hx hy h
theorem bneq {k : IntKind} {x y : Operand} {a b : Int} (hx : ev f x = .int k a) (hy : ev f y = .int k b) (h : vr P r (upd f d (.bool (decide (¬ a = b)))) w K) : vr P (.p none d (.bin .neq k x y) :: r) f w K := stp (o_bin hx hy v_neq) h
theorem pkT {c x y : Operand} (hc : ev f c = .bool true) (h : vr P r (upd f d (ev f x)) w K) : vr P (.p none d (.pick c x y) :: r) f w K := stp (o_pickT hc rfl) h
theorem pkF {c x y : Operand} (hc : ev f c = .bool false) (h : vr P r (upd f d (ev f y)) w K) : vr P (.p none d (.pick c x y) :: r) f w K := stp (o_pickF hc rfl) h
theorem gmv {x : Operand} (hs : f s = .bool b) (h : vr P r (upd f d (ev f x)) w K) : vr P (.p (some (s, b)) d (.mv x) :: r) f w K := stg hs (o_mv rfl) h
theorem gbn {op : BinOp} {k : IntKind} {x y : Operand} {m n : Int} (hs : f s = .bool b) (hx : ev f x = .int k m) (hy : ev f y = .int k n) (h : vr P r (upd f d (binI op k m n)) w K) : vr P (.p (some (s, b)) d (.bin op k x y) :: r) f w K := stg hs (o_bin hx hy rfl) h
theorem gbneq {k : IntKind} {x y : Operand} {m n : Int} (hs : f s = .bool b) (hx : ev f x = .int k m) (hy : ev f y = .int k n) (h : vr P r (upd f d (.bool (decide (¬ m = n)))) w K) : vr P (.p (some (s, b)) d (.bin .neq k x y) :: r) f w K := stg hs (o_bin hx hy v_neq) h
theorem gpkT {c x y : Operand} (hs : f s = .bool b) (hc : ev f c = .bool true) (h : vr P r (upd f d (ev f x)) w K) : vr P (.p (some (s, b)) d (.pick c x y) :: r) f w K := stg hs (o_pickT hc rfl) h
theorem gpkF {c x y : Operand} (hs : f s = .bool b) (hc : ev f c = .bool false) (h : vr P r (upd f d (ev f y)) w K) : vr P (.p (some (s, b)) d (.pick c x y) :: r) f w K := stg hs (o_pickF hc rfl) h
theorem gfa {off : Nat} {x : Operand} {c o : Nat} (hs : f s = .bool b) (hx : ev f x = .pointer (some ⟨c, o, none⟩)) (h : vr P r (upd f d (.pointer (some ⟨c, o + off, none⟩))) w K) : vr P (.p (some (s, b)) d (.fa off x) :: r) f w K := stg hs (o_fa hx rfl) h
theorem gx {o : PO} (hb : f s = .bool (!b)) (h : vr P r (upd f d undef) w K) : vr P (.p (some (s, b)) d o :: r) f w K := gno hb (by simp) h
theorem gxl {o : LO} {e : Option Nat} (hb : f s = .bool (!b)) (h : vr P r (putO f e undef) w K) : vr P (.l (some (s, b)) e o :: r) f w K := gnol hb (by simp) h
end
section
variable {hh : Option (List Nat)} {wr : World} {r : List SI} {f : Fr} {w : World} {K : Fr → World → Prop} {d i s : Nat} {b : Bool}
theorem dmv {x : Operand} (h : vd P hh wr r (upd f d (ev f x)) w K) : vd P hh wr (.qp i none d (.mv x) :: r) f w K := dq (o_mv rfl) h
theorem dbn {op : BinOp} {k : IntKind} {x y : Operand} {m n : Int} (hx : ev f x = .int k m) (hy : ev f y = .int k n) (h : vd P hh wr r (upd f d (binI op k m n)) w K) : vd P hh wr (.qp i none d (.bin op k x y) :: r) f w K := dq (o_bin hx hy rfl) h
theorem dpkT {c x y : Operand} (hc : ev f c = .bool true) (h : vd P hh wr r (upd f d (ev f x)) w K) : vd P hh wr (.qp i none d (.pick c x y) :: r) f w K := dq (o_pickT hc rfl) h
theorem dpkF {c x y : Operand} (hc : ev f c = .bool false) (h : vd P hh wr r (upd f d (ev f y)) w K) : vd P hh wr (.qp i none d (.pick c x y) :: r) f w K := dq (o_pickF hc rfl) h
theorem dfa {off : Nat} {x : Operand} {c o : Nat} (hx : ev f x = .pointer (some ⟨c, o, none⟩)) (h : vd P hh wr r (upd f d (.pointer (some ⟨c, o + off, none⟩))) w K) : vd P hh wr (.qp i none d (.fa off x) :: r) f w K := dq (o_fa hx rfl) h
theorem dgmv {x : Operand} (hs : f s = .bool b) (h : vd P hh wr r (upd f d (ev f x)) w K) : vd P hh wr (.qp i (some (s, b)) d (.mv x) :: r) f w K := dqg hs (o_mv rfl) h
theorem dgbn {op : BinOp} {k : IntKind} {x y : Operand} {m n : Int} (hs : f s = .bool b) (hx : ev f x = .int k m) (hy : ev f y = .int k n) (h : vd P hh wr r (upd f d (binI op k m n)) w K) : vd P hh wr (.qp i (some (s, b)) d (.bin op k x y) :: r) f w K := dqg hs (o_bin hx hy rfl) h
theorem dgfa {off : Nat} {x : Operand} {c o : Nat} (hs : f s = .bool b) (hx : ev f x = .pointer (some ⟨c, o, none⟩)) (h : vd P hh wr r (upd f d (.pointer (some ⟨c, o + off, none⟩))) w K) : vd P hh wr (.qp i (some (s, b)) d (.fa off x) :: r) f w K := dqg hs (o_fa hx rfl) h
theorem dx {o : PO} (hb : f s = .bool (!b)) (h : vd P hh wr r (upd f d undef) w K) : vd P hh wr (.qp i (some (s, b)) d o :: r) f w K := dgno hb (by simp) h
theorem dxl {o : LO} {e : Option Nat} (hb : f s = .bool (!b)) (h : vd P hh wr r (putO f e undef) w K) : vd P hh wr (.l i (some (s, b)) e o :: r) f w K := dgnol hb (by simp) h
theorem dxq {z : Option Nat} {x : Operand} (hb : f s = .bool (!b)) (h : vd P hh wr r (upd f d undef) w K) : vd P hh wr (.ql i (some (s, b)) d z x :: r) f w K := dqgno hb (by simp) h
end
theorem vi {k : IntKind} {a b : Int} (h : a = b := by first | rfl | omega | simp | (simp; omega)) : Value.int k a = .int k b := by rw [h]
theorem re9 {f : Fr} {i0 i1 i2 i3 i4 i5 i6 i7 i8 : Nat} {x0 x1 x2 x3 x4 x5 x6 x7 x8 : Value} (h0 : f i0 = x0) (h1 : f i1 = x1) (h2 : f i2 = x2) (h3 : f i3 = x3) (h4 : f i4 = x4) (h5 : f i5 = x5) (h6 : f i6 = x6) (h7 : f i7 = x7) (h8 : f i8 = x8) : ∃ g, f = upd (upd (upd (upd (upd (upd (upd (upd (upd g i0 x0) i1 x1) i2 x2) i3 x3) i4 x4) i5 x5) i6 x6) i7 x7) i8 x8 := ⟨f, by rw [upd_self h0, upd_self h1, upd_self h2, upd_self h3, upd_self h4, upd_self h5, upd_self h6, upd_self h7, upd_self h8]⟩
theorem re11 {f : Fr} {i0 i1 i2 i3 i4 i5 i6 i7 i8 i9 i10 : Nat} {x0 x1 x2 x3 x4 x5 x6 x7 x8 x9 x10 : Value} (h0 : f i0 = x0) (h1 : f i1 = x1) (h2 : f i2 = x2) (h3 : f i3 = x3) (h4 : f i4 = x4) (h5 : f i5 = x5) (h6 : f i6 = x6) (h7 : f i7 = x7) (h8 : f i8 = x8) (h9 : f i9 = x9) (h10 : f i10 = x10) : ∃ g, f = upd (upd (upd (upd (upd (upd (upd (upd (upd (upd (upd g i0 x0) i1 x1) i2 x2) i3 x3) i4 x4) i5 x5) i6 x6) i7 x7) i8 x8) i9 x9) i10 x10 := ⟨f, by rw [upd_self h0, upd_self h1, upd_self h2, upd_self h3, upd_self h4, upd_self h5, upd_self h6, upd_self h7, upd_self h8, upd_self h9, upd_self h10]⟩
end Go.Proofs.YtifnmbmijljhfaaGreat.E
