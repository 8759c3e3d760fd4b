/- Tokens: Expand and Write. What is computed. -/
import Derived.Test.YteanplpnhlgjeaaK1
import Derived.Test.YteanplpnhlgjeaaE19
namespace Go.Proofs.Yteanplpnhlgjeaa.E
open Go
structure Tk where
  ad : Option Addr
  ln : Nat
  cp : Nat
  bs : List UInt8
  d : Int
  n : Int
abbrev Tk.lit (t : Tk) : Value := .slice t.ad t.ln t.cp
def tokC (t : Tk) : List Value := [.slice t.ad t.ln t.cp, .int .i64 t.d, .int .i64 t.n]
instance : Enc tokC 3 := ⟨fun _ => rfl, by omega, fun c => by intro v hv; simp only [tokC, List.mem_cons, List.not_mem_nil, or_false] at hv; rcases hv with rfl | rfl | rfl <;> rfl⟩
def tz : Tk := ⟨none, 0, 0, [], 0, 0⟩
abbrev Pk := List UInt8 × Int × Int
abbrev Tk.p (t : Tk) : Pk := (t.bs, t.d, t.n)
def Tk.ok (w : World) (t : Tk) : Prop := RdE byteV w t.lit t.bs ∧ inK .i64 t.d ∧ inK .i64 t.n ∧ t.bs.length ≤ 140737488351232
/-- n bytes once more, each from so far back -/
def agn (text : List UInt8) (d : Nat) : Nat → List UInt8
  | 0 => text
  | k + 1 => agn text d k ++ [(agn text d k).getD ((agn text d k).length - d) 0]
theorem agn_len (text : List UInt8) (d : Nat) : ∀ k, (agn text d k).length = text.length + k
  | 0 => rfl
  | k + 1 => by rw [agn, List.length_append, agn_len text d k]; rfl
def noneT (t : Pk) : Prop := t.2.1 = 0 ∧ t.2.2 = 0
instance (t : Pk) : Decidable (noneT t) := by unfold noneT; infer_instance
/-- may the token stand behind m bytes, its own among them? -/
def okT (t : Pk) (m : Int) (last : Bool) : Prop := if noneT t then last = true ∧ 0 < t.1.length else 4 ≤ t.2.2 ∧ t.2.2 ≤ 259 ∧ 1 ≤ t.2.1 ∧ t.2.1 ≤ 32768 ∧ t.2.1 ≤ m
instance (t : Pk) (m : Int) (last : Bool) : Decidable (okT t m last) := by unfold okT; infer_instance
theorem okT_none {t : Pk} {m : Int} {last : Bool} (h : noneT t) : okT t m last ↔ last = true ∧ 0 < t.1.length := by unfold okT; rw [if_pos h]
theorem okT_some {t : Pk} {m : Int} {last : Bool} (h : ¬ noneT t) : okT t m last ↔ 4 ≤ t.2.2 ∧ t.2.2 ≤ 259 ∧ 1 ≤ t.2.1 ∧ t.2.1 ≤ 32768 ∧ t.2.1 ≤ m := by unfold okT; rw [if_neg h]
theorem okT_bd {t : Pk} {m : Int} {last : Bool} (h : okT t m last) : 0 ≤ t.2.2 ∧ t.2.2 ≤ 259 ∧ 0 ≤ t.2.1 ∧ t.2.1 ≤ 32768 ∧ (0 < t.2.2 → 1 ≤ t.2.1 ∧ t.2.1 ≤ m) ∧ (t.2.2 = 0 ↔ noneT t) ∧ (t.2.2 = 0 → 0 < t.1.length) ∧ (¬ t.2.2 = 0 → 4 ≤ t.2.2) := by
  by_cases c : noneT t
  · rw [okT_none c] at h
    unfold noneT at c ⊢; omega
  · rw [okT_some c] at h
    refine ⟨by omega, by omega, by omega, by omega, fun _ => by omega, ⟨fun h => by omega, fun h => absurd h c⟩, by omega, by omega⟩
/-- the text of tokens behind a text -/
def expG : List Pk → List UInt8 → List UInt8 × Int
  | [], text => (text, 0)
  | t :: ts, text => if ¬ okT t (text.length + t.1.length : Nat) (decide (ts = [])) then ([], 31) else if 65536 < ((text.length + t.1.length : Nat) : Int) + t.2.2 then ([], 2) else expG ts (agn (text ++ t.1) t.2.1.toNat t.2.2.toNat)
def expF (ts : List Pk) : List UInt8 × Int := expG ts []
def pz : Pk := ([], 0, 0)
theorem last_iff {α : Type} {l : List α} {i : Nat} (h : i < l.length) : (l.drop (i + 1) = []) ↔ (i : Int) = (l.length : Int) - 1 := by
  rw [List.drop_eq_nil_iff]; omega
theorem exp_tok {ts : List Pk} {i : Nat} {T : List UInt8} (h : i < ts.length) (hE : expF ts = expG (ts.drop i) T) (h1 : ¬ okT (ts.getD i pz) (T.length + (ts.getD i pz).1.length : Nat) (decide ((i : Int) = (ts.length : Int) - 1))) : expF ts = ([], 31) := by
  rw [hE, dropG pz h, expG, if_pos]
  rw [decide_eq_decide.2 (last_iff h)]; exact h1
theorem exp_long {ts : List Pk} {i : Nat} {T : List UInt8} (h : i < ts.length) (hE : expF ts = expG (ts.drop i) T) (h1 : okT (ts.getD i pz) (T.length + (ts.getD i pz).1.length : Nat) (decide ((i : Int) = (ts.length : Int) - 1))) (h2 : 65536 < ((T.length + (ts.getD i pz).1.length : Nat) : Int) + (ts.getD i pz).2.2) : expF ts = ([], 2) := by
  rw [hE, dropG pz h, expG, if_neg, if_pos h2]
  rw [decide_eq_decide.2 (last_iff h)]; exact fun h => h h1
theorem exp_go {ts : List Pk} {i : Nat} {T : List UInt8} (h : i < ts.length) (hE : expF ts = expG (ts.drop i) T) (h1 : okT (ts.getD i pz) (T.length + (ts.getD i pz).1.length : Nat) (decide ((i : Int) = (ts.length : Int) - 1))) (h2 : ¬ 65536 < ((T.length + (ts.getD i pz).1.length : Nat) : Int) + (ts.getD i pz).2.2) : expF ts = expG (ts.drop (i + 1)) (agn (T ++ (ts.getD i pz).1) (ts.getD i pz).2.1.toNat (ts.getD i pz).2.2.toNat) := by
  rw [hE, dropG pz h, expG, if_neg, if_neg h2]
  rw [decide_eq_decide.2 (last_iff h)]; exact fun h => h h1
theorem exp_end {ts : List Pk} {i : Nat} {T : List UInt8} (h : ts.length ≤ i) (hE : expF ts = expG (ts.drop i) T) : expF ts = (T, 0) := by
  rw [hE, List.drop_eq_nil_of_le h]; rfl
theorem expG_bd : ∀ (ts : List Pk) (T : List UInt8), (expG ts T).2 = 0 → (∀ t ∈ ts, 0 ≤ t.2.2 ∧ t.2.2 ≤ 259 ∧ 0 ≤ t.2.1 ∧ t.2.1 ≤ 32768 ∧ (t.2.2 = 0 ↔ noneT t)) ∧ (ts.length : Nat) + (ts.map fun t => t.1.length).sum + T.length ≤ (expG ts T).1.length + 1 * ts.length ∧ T.length + ts.length ≤ (expG ts T).1.length
  | [], T, _ => by simp [expG]
  | t :: ts, T, h => by
    rw [expG] at h ⊢
    split at h
    · simp at h
    · rename_i h1
      have h1 := Decidable.not_not.1 h1
      split at h
      · simp at h
      · rename_i h2
        have hb := okT_bd h1
        obtain ⟨k1, k2, k3⟩ := expG_bd ts _ h
        rw [if_neg (fun h => h h1), if_neg h2]
        rw [agn_len, List.length_append] at k2 k3
        refine ⟨?_, ?_, ?_⟩
        · intro x hx
          rcases List.mem_cons.1 hx with rfl | hx
          · exact ⟨hb.1, hb.2.1, hb.2.2.1, hb.2.2.2.1, hb.2.2.2.2.2.1⟩
          · exact k1 x hx
        · simp only [List.length_cons, List.map_cons, List.sum_cons]; omega
        · simp only [List.length_cons]
          have := hb.2.2.2.2.2.2.1; have := hb.2.2.2.2.2.2.2
          omega
theorem expG_le : ∀ (ts : List Pk) (T : List UInt8), T.length ≤ 65536 → (expG ts T).1.length ≤ 65536
  | [], T, h => h
  | t :: ts, T, h => by
    rw [expG]
    split
    · simp
    · split
      · simp
      · rename_i h1 h2
        have hb := okT_bd (Decidable.not_not.1 h1)
        exact expG_le ts _ (by rw [agn_len, List.length_append]; omega)
theorem expF_le (ts : List Pk) : (expF ts).1.length ≤ 65536 := expG_le ts [] (by simp)
theorem expG_err : ∀ (ts : List Pk) (T : List UInt8), ¬ (expG ts T).2 = 0 → (expG ts T).1 = []
  | [], T, h => absurd rfl h
  | t :: ts, T, h => by
    rw [expG] at h ⊢
    split
    · rfl
    · split
      · rfl
      · rename_i h1 h2
        rw [if_neg h1, if_neg h2] at h
        exact expG_err ts _ h
/-- the bytes of a token -/
def tokB (t : Pk) : List UInt8 := putI (t.1.length : Nat) ++ t.1 ++ (if noneT t then [] else putI (t.2.2 - 4) ++ putI t.2.1)
def toksB (ts : List Pk) : List UInt8 := ts.flatMap tokB
def wrF (ts : List Pk) : List UInt8 × Int := if (expF ts).2 = 0 then (toksB ts, 0) else ([], (expF ts).2)
theorem wrF_ok {ts : List Pk} (h : (expF ts).2 = 0) : wrF ts = (toksB ts, 0) := by unfold wrF; rw [if_pos h]
theorem wrF_no {ts : List Pk} (h : ¬ (expF ts).2 = 0) : wrF ts = ([], (expF ts).2) := by unfold wrF; rw [if_neg h]
theorem toksB_snoc {ts : List Pk} {i : Nat} (h : i < ts.length) : toksB (ts.take (i + 1)) = toksB (ts.take i) ++ tokB (ts.getD i pz) := by
  unfold toksB; rw [takeG pz h, List.flatMap_append]; simp

theorem bool_iff {p q : Prop} [Decidable p] [Decidable q] (h : p ↔ q) : Value.bool (decide p) = .bool (decide q) := by rw [decide_eq_decide.2 h]
theorem bool_no {q : Prop} [Decidable q] (h : ¬ q) : Value.bool false = .bool (decide q) := by rw [decide_eq_false h]
theorem bool_yes {q : Prop} [Decidable q] (h : q) : Value.bool true = .bool (decide q) := by rw [decide_eq_true h]
theorem mapG (ts : List Tk) (i : Nat) : (ts.map Tk.p).getD i pz = (ts.getD i tz).p := by
  rw [List.getD_eq_getElem?_getD, List.getD_eq_getElem?_getD, List.getElem?_map]
  cases ts[i]? <;> rfl
section
variable {ts : List Tk} {i : Nat} {T : List UInt8}
theorem exT_tok (h : i < ts.length) (hE : expF (ts.map Tk.p) = expG ((ts.map Tk.p).drop i) T) (h1 : ¬ okT (ts.getD i tz).p (T.length + (ts.getD i tz).bs.length : Nat) (decide ((i : Int) = (ts.length : Int) - 1))) : expF (ts.map Tk.p) = ([], 31) := by
  refine exp_tok (i := i) (T := T) (by simpa using h) hE ?_
  rw [mapG, List.length_map]; exact h1
theorem exT_long (h : i < ts.length) (hE : expF (ts.map Tk.p) = expG ((ts.map Tk.p).drop i) T) (h1 : okT (ts.getD i tz).p (T.length + (ts.getD i tz).bs.length : Nat) (decide ((i : Int) = (ts.length : Int) - 1))) (h2 : 65536 < ((T.length + (ts.getD i tz).bs.length : Nat) : Int) + (ts.getD i tz).n) : expF (ts.map Tk.p) = ([], 2) := by
  refine exp_long (i := i) (T := T) (by simpa using h) hE ?_ ?_
  · rw [mapG, List.length_map]; exact h1
  · rw [mapG]; exact h2
theorem exT_go (h : i < ts.length) (hE : expF (ts.map Tk.p) = expG ((ts.map Tk.p).drop i) T) (h1 : okT (ts.getD i tz).p (T.length + (ts.getD i tz).bs.length : Nat) (decide ((i : Int) = (ts.length : Int) - 1))) (h2 : ¬ 65536 < ((T.length + (ts.getD i tz).bs.length : Nat) : Int) + (ts.getD i tz).n) : expF (ts.map Tk.p) = expG ((ts.map Tk.p).drop (i + 1)) (agn (T ++ (ts.getD i tz).bs) (ts.getD i tz).d.toNat (ts.getD i tz).n.toNat) := by
  have := exp_go (ts := ts.map Tk.p) (i := i) (T := T) (by simpa using h) hE (by rw [mapG, List.length_map]; exact h1) (by rw [mapG]; exact h2)
  rwa [mapG] at this
theorem exT_end (h : ts.length ≤ i) (hE : expF (ts.map Tk.p) = expG ((ts.map Tk.p).drop i) T) : expF (ts.map Tk.p) = (T, 0) := exp_end (i := i) (by simpa using h) hE
theorem toksT_snoc (h : i < ts.length) : toksB ((ts.take (i + 1)).map Tk.p) = toksB ((ts.take i).map Tk.p) ++ tokB (ts.getD i tz).p := by
  have := toksB_snoc (ts := ts.map Tk.p) (i := i) (by simpa using h)
  rwa [mapG, ← List.map_take, ← List.map_take] at this
end
theorem exT_sum {ts : List Tk} (h : (expF (ts.map Tk.p)).2 = 0) : (ts.map fun t => t.bs.length).sum ≤ 65536 ∧ ts.length ≤ 65536 ∧ (∀ i, i < ts.length → 0 ≤ (ts.getD i tz).n ∧ (ts.getD i tz).n ≤ 259 ∧ 0 ≤ (ts.getD i tz).d ∧ (ts.getD i tz).d ≤ 32768 ∧ ((ts.getD i tz).n = 0 ↔ noneT (ts.getD i tz).p)) := by
  obtain ⟨h1, h2, h3⟩ := expG_bd (ts.map Tk.p) [] h
  have hle := expF_le (ts.map Tk.p)
  unfold expF at hle
  have hm : (List.map (fun t : Pk => t.1.length) (List.map Tk.p ts)) = ts.map fun t => t.bs.length := by rw [List.map_map]; rfl
  rw [hm] at h2
  simp only [List.length_map, List.length_nil] at h2 h3
  refine ⟨by omega, by omega, fun i hi => ?_⟩
  exact h1 (ts.getD i tz).p (List.mem_map.2 ⟨_, getD_memG tz hi, rfl⟩)
def sumL (ts : List Tk) (i : Nat) : Nat := ((ts.take i).map fun t => t.bs.length).sum
theorem sumL_succ {ts : List Tk} {i : Nat} (h : i < ts.length) : sumL ts (i + 1) = sumL ts i + (ts.getD i tz).bs.length := by
  unfold sumL; rw [takeG tz h, List.map_append, List.sum_append]; simp
theorem sum_app_le (a b : List Nat) : a.sum ≤ (a ++ b).sum := by rw [List.sum_append]; omega
theorem sumL_le (ts : List Tk) (i : Nat) : sumL ts i ≤ (ts.map fun t => t.bs.length).sum := by
  unfold sumL
  have : (ts.map fun t => t.bs.length) = ((ts.take i).map fun t => t.bs.length) ++ ((ts.drop i).map fun t => t.bs.length) := by rw [← List.map_append, List.take_append_drop]
  rw [this]; exact sum_app_le _ _

theorem okK_none {t : Tk} {m : Int} {last : Bool} (h : noneT t.p) : okT t.p m last ↔ last = true ∧ 0 < t.bs.length := okT_none h
theorem okK_some {t : Tk} {m : Int} {last : Bool} (h : ¬ noneT t.p) : okT t.p m last ↔ 4 ≤ t.n ∧ t.n ≤ 259 ∧ 1 ≤ t.d ∧ t.d ≤ 32768 ∧ t.d ≤ m := okT_some h
theorem noneK {t : Tk} : noneT t.p ↔ t.d = 0 ∧ t.n = 0 := Iff.rfl
theorem okK_bd {t : Tk} {m : Int} {last : Bool} (h : okT t.p m last) : 0 ≤ t.n ∧ t.n ≤ 259 ∧ 0 ≤ t.d ∧ t.d ≤ 32768 ∧ (0 < t.n → 1 ≤ t.d ∧ t.d ≤ m) ∧ (t.n = 0 ↔ noneT t.p) ∧ (t.n = 0 → 0 < t.bs.length) ∧ (¬ t.n = 0 → 4 ≤ t.n) := okT_bd h

theorem tokB_len {t : Tk} (h1 : t.bs.length ≤ 140737488355328) (h2 : inK .i64 (t.n - 4)) (h3 : inK .i64 t.d) : (tokB t.p).length ≤ t.bs.length + 27 := by
  have a1 := putI_len (v := ((t.bs.length : Nat) : Int)) (by omega)
  simp only [inK] at h2 h3
  have a2 := putI_len (v := t.n - 4) (by omega)
  have a3 := putI_len (v := t.d) (by omega)
  unfold tokB
  rw [List.length_append, List.length_append]
  split
  · simp only [List.length_nil]; omega
  · rw [List.length_append]; simp only [Tk.p]; omega
theorem tokB_none {t : Tk} (h : noneT t.p) : tokB t.p = putI (t.bs.length : Nat) ++ t.bs := by unfold tokB; rw [if_pos h, List.append_nil]
theorem tokB_some {t : Tk} (h : ¬ noneT t.p) : tokB t.p = putI (t.bs.length : Nat) ++ t.bs ++ putI (t.n - 4) ++ putI t.d := by unfold tokB; rw [if_neg h, List.append_assoc (putI _ ++ _)]
