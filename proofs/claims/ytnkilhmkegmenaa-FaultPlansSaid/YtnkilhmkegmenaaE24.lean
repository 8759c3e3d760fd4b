/- A part of a nest is taken out of its slot, and put back. -/
import Derived.Test.YtnkilhmkegmenaaE21
namespace Go.Proofs.Ytnkilhmkegmenaa.E
open Go
theorem Mem.openP {w0 w : World} {S : List Nat} {R : List (List Ent)} {i : Nat} {a b r : List Ent} (h : Mem w0 S w R) (hi : R[i]? = some r) (hp : r.Perm (a ++ b)) : Mem w0 S w (R.set i b ++ [a]) := by
  refine h.perm ?_
  obtain ⟨X, Y, e1, e2⟩ := flatten_set R i _ b hi
  rw [List.flatten_append, e1, e2]
  simp only [List.flatten_cons, List.flatten_nil, List.append_nil]
  refine List.Perm.trans ?_ ((hp.append_left X).append_right Y).symm
  simp only [List.append_assoc]
  refine List.Perm.append_left X ?_
  rw [← List.append_assoc b Y a]
  exact List.perm_append_comm
theorem Mem.shutP {w0 w : World} {S : List Nat} {R : List (List Ent)} {i : Nat} {a b : List Ent} (h : Mem w0 S w (R ++ [a])) (hi : R[i]? = some b) : Mem w0 S w (R.set i (a ++ b)) := by
  refine h.perm ?_
  obtain ⟨X, Y, e1, e2⟩ := flatten_set R i _ (a ++ b) hi
  rw [List.flatten_append, e1, e2]
  simp only [List.flatten_cons, List.flatten_nil, List.append_nil, List.append_assoc]
  refine List.Perm.append_left X ?_
  rw [← List.append_assoc b Y a]
  exact List.perm_append_comm
theorem Mem.openP2 {w0 w : World} {S : List Nat} {R : List (List Ent)} {i : Nat} {a a2 b r : List Ent} (h : Mem w0 S w R) (hi : R[i]? = some r) (hp : r.Perm ((a ++ a2) ++ b)) : Mem w0 S w (R.set i b ++ [a, a2]) :=
  (h.openP hi hp).perm (by simp)
theorem Mem.shutP2 {w0 w : World} {S : List Nat} {R : List (List Ent)} {i : Nat} {a a2 b : List Ent} (h : Mem w0 S w (R ++ [a, a2])) (hi : R[i]? = some b) : Mem w0 S w (R.set i ((a ++ a2) ++ b)) :=
  Mem.shutP (a := a ++ a2) (h.perm (by simp)) hi
theorem set_get_self {α : Type} (z : α) : ∀ {l : List α} {i : Nat}, i < l.length → l.set i (l.getD i z) = l
  | _ :: _, 0, _ => rfl
  | x :: l, i + 1, h => by simpa using set_get_self z (l := l) (i := i) (by simpa using h)
theorem Nst.ok {β : Type} {Q : β → List Ent → Prop} {T : β → Prop} {w : World} (hQ : ∀ p r, Q p r → (∀ e ∈ r, Own w e) → T p) {ps : List β} {NS : List Ent} (h : Nst Q ps NS) (ho : ∀ e ∈ NS, Own w e) : ∀ p ∈ ps, T p := fun p hp => by
  obtain ⟨a, h1, h2⟩ := h.get p hp
  exact hQ p a h2 fun e he => ho e (h1 e he)
end Go.Proofs.Ytnkilhmkegmenaa.E
