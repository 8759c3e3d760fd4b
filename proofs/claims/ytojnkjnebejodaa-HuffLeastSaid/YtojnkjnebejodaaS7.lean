/- Things and rows of the reference. -/
import Derived.Test.YtojnkjnebejodaaS6
namespace Go.Proofs.Ytojnkjnebejodaa.E
open Go
def pkC (t : Th) : List Value := .int .i64 t.w :: (List.range 256).map fun i => .int .i64 ((t.f i : Nat) : Int)
@[simp] theorem pkC_len (t : Th) : (pkC t).length = 257 := by simp [pkC]
theorem pkC_one (t : Th) : oneCells (pkC t) := by
  intro v hv
  unfold pkC at hv
  rcases List.mem_cons.1 hv with rfl | hv
  · rfl
  · obtain ⟨i, _, rfl⟩ := List.mem_map.1 hv; rfl
instance : Enc pkC 257 := ⟨pkC_len, by omega, pkC_one⟩
theorem zcPk : List.replicate 257 (Value.int .i64 0) = pkC th0 := by kernel_rfl
theorem zcPk_len : (List.replicate 257 (Value.int .i64 0)).length = 257 := List.length_replicate
theorem pkC_set {t : Th} {i v : Nat} {r : Int} (hi : i < 256) : (pkC t).set (1 + i) (.int .i64 (v : Int)) = pkC ⟨t.w, fun k => if k = i then v else t.f k, r⟩ := by
  unfold pkC
  rw [Nat.add_comm 1 i, List.set_cons_succ]
  congr 1
  apply List.ext_getElem (by simp)
  intro k h1 h2
  simp only [List.length_set, List.length_map, List.length_range] at h1
  simp only [List.getElem_set, List.getElem_map, List.getElem_range]
  by_cases c : i = k
  · subst c; simp
  · rw [if_neg c, if_neg (fun e => c e.symm)]
theorem pkC_w {c : Int} : fillC (List.replicate 257 (Value.int .i64 0)) [(0, 1, .int .i64 c)] = some (pkC ⟨c, fun _ => 0, 0⟩) := by
  rw [zcPk]
  unfold fillC
  rw [if_pos ⟨rfl, by rw [pkC_len]; omega⟩]
  rfl
theorem pkC_cell {t : Th} {i : Nat} (hi : i < 256) : (pkC t)[1 + i]? = some (.int .i64 ((t.f i : Nat) : Int)) := by
  unfold pkC
  rw [Nat.add_comm 1 i, List.getElem?_cons_succ, List.getElem?_map, List.getElem?_range hi]; rfl
theorem pkC_ext {t u : Th} (h : t.w = u.w) (h2 : ∀ k, k < 256 → t.f k = u.f k) : pkC t = pkC u := by
  unfold pkC
  rw [h]
  congr 1
  apply List.map_congr_left
  intro k hk
  rw [h2 k (List.mem_range.1 hk)]
/-- the first i symbols gathered, anew -/
def accP (a b : Th) (i : Nat) : Th := ⟨a.w + b.w, fun k => if k < i then a.f k + b.f k else 0, 0⟩
theorem accP_zero {a b : Th} : fillC (List.replicate 257 (Value.int .i64 0)) [(0, 1, .int .i64 (a.w + b.w))] = some (pkC (accP a b 0)) := by
  rw [pkC_w]; congr 1
theorem accP_set {a b : Th} {i : Nat} (h : i < 256) : (pkC (accP a b i)).set (1 + i) (.int .i64 ((a.f i + b.f i : Nat) : Int)) = pkC (accP a b (i + 1)) := by
  rw [pkC_set (r := 0) h]
  refine pkC_ext rfl fun k _ => ?_
  show (if k = i then a.f i + b.f i else if k < i then a.f k + b.f k else 0) = if k < i + 1 then a.f k + b.f k else 0
  by_cases c : k = i
  · subst c; simp
  · rw [if_neg c]
    by_cases c2 : k < i
    · rw [if_pos c2, if_pos (by omega)]
    · rw [if_neg c2, if_neg (by omega)]
theorem accP_end {a b : Th} : pkC (accP a b 256) = pkC (bothT a b) := pkC_ext rfl fun k hk => by
  show (if k < 256 then _ else _) = _
  rw [if_pos hk]; rfl
theorem ins_at {A lc : List Th} {x : Th} {k : Nat} (hp : lc.Perm A) (hs : SrtR lc) (hx : ∀ y ∈ A, Cr Th.r Th.w y x) (hk : k ≤ lc.length) (hlow : ∀ q, q < k → (lc.getD q th0).w ≤ x.w) (hhi : k = lc.length ∨ ¬ (lc.getD k th0).w ≤ x.w) : (lc.take k ++ [x] ++ (lc.take lc.length).drop k).Perm (A ++ [x]) ∧ SrtR (lc.take k ++ [x] ++ (lc.take lc.length).drop k) := by
  rw [List.take_length]
  have hcr : ∀ q, q < lc.length → Cr Th.r Th.w (lc.getD q th0) x := fun q hq => hx _ (hp.subset (getD_memG th0 hq))
  constructor
  · refine List.Perm.trans ?_ (hp.append_right [x])
    have : (lc.take k ++ [x] ++ lc.drop k).Perm (lc.take k ++ lc.drop k ++ [x]) := by
      rw [List.append_assoc, List.append_assoc]
      exact List.Perm.append_left _ List.perm_append_comm
    rwa [List.take_append_drop] at this
  · have hs1 : (lc.take k ++ lc.drop k).Pairwise (fun a b : Th => a.r < b.r) := by rw [List.take_append_drop]; exact hs
    obtain ⟨p1, p2, p3⟩ := List.pairwise_append.1 hs1
    refine List.pairwise_append.2 ⟨List.pairwise_append.2 ⟨p1, List.pairwise_singleton _ _, fun a ha b hb => ?_⟩, p2, fun a ha b hb => ?_⟩
    · rw [List.mem_singleton] at hb; subst hb
      obtain ⟨q, hq, rfl⟩ := List.mem_iff_getElem.1 ha
      rw [List.length_take] at hq
      have h1 := hcr q (by omega)
      have h2 := hlow q (by omega)
      rw [List.getD_eq_getElem?_getD, List.getElem?_eq_getElem (by omega)] at h1 h2
      rw [List.getElem_take]
      exact h1.2 (by simp only [Option.getD_some] at h2 ⊢; omega)
    · rcases List.mem_append.1 ha with ha | ha
      · exact p3 a ha b hb
      · rw [List.mem_singleton] at ha; subst ha
        rcases hhi with hhi | hhi
        · rw [hhi, List.drop_length] at hb; cases hb
        · rcases Nat.lt_or_ge k lc.length with c | c
          · have h1 := (hcr k c).1 (by omega)
            rw [dropG th0 c] at hb p2
            rcases List.mem_cons.1 hb with rfl | hb
            · exact h1
            · have := (List.pairwise_cons.1 p2).1 b hb; omega
          · rw [List.drop_eq_nil_of_le c] at hb; cases hb
theorem thsA_new {cs : List Int} {j : Nat} (hl : cs.length ≤ 256) (hj : j < cs.length) : ∀ y ∈ thsA cs j, Cr Th.r Th.w y (one (cs.getD (cs.length - 1 - j) 0) (cs.length - 1 - j)) := fun y hy => by
  obtain ⟨i, rfl, h2, h3, h4⟩ := thsA_mem cs j (by omega) y hy
  exact one_cr (by omega) (by omega)
