/- Rows: arguments of any shape. -/
import Derived.Test.YtnkilhmkegmenaaE12
import Derived.Test.YtnkilhmkegmenaaE15
namespace Go.Proofs.Ytnkilhmkegmenaa.E
open Go Go.ChangeShapes Go.WideShapes

/-- A row's argument (or a part of it): its cells read as its type says, within the sizes that a machine holds. -/
def Arg (P : Program) (W : World) (t : TypeId) (cs : List Value) : Prop :=
  ∃ (H : Type) (enc : TypeId × Value → H) (base : Nat) (spare : Nat → Bool) (held : Bool) (fuel : Nat) (d : DataW H) (ps : List MemPlace),
    DataW.trod enc P W base spare held fuel t cs = some (d, ps) ∧ ∀ n ∈ d.weights P t, n ≤ 140737488351232
section
variable {P : Program} {W : World} {t : TypeId} {cs : List Value}
theorem arg_of {H : Type} {enc : TypeId × Value → H} {base : Nat} {spare : Nat → Bool} {held : Bool} {v : Value} {d : DataW H} {ps : List MemPlace} {ts : List TypeId} {ds : List (DataW H)} {j : Nat}
    (h : DataW.Trod enc P W base spare held t v d ps) (hsz : (DataW.weightsEach P ts ds).all (· ≤ reachBytes) = true) (ht : ts[j]? = some t) (hd : ds[j]? = some d) : Arg P W t v.cells.toList := by
  obtain ⟨fuel, h⟩ := h
  refine ⟨H, enc, base, spare, held, fuel, d, ps, h, fun n hn => ?_⟩
  have := List.all_eq_true.1 hsz _ (DataW.weights_mem_each ht hd n hn)
  exact of_decide_eq_true this
theorem Arg.int {k : IntKind} (h : Arg P W t cs) (hu : P.underlying t = some (.int k)) : ∃ n, cs = [.int k n] ∧ inK k n := by
  obtain ⟨H, enc, base, spare, held, fuel, d, ps, h, _⟩ := h
  obtain ⟨n, h1, _, h3⟩ := DataW.trod_int hu h
  exact ⟨n, h1, inK_of_wf h3⟩
theorem Arg.bool (h : Arg P W t cs) (hu : P.underlying t = some .bool) : ∃ b, cs = [.bool b] := by
  obtain ⟨H, enc, base, spare, held, fuel, d, ps, h, _⟩ := h
  obtain ⟨n, h1, _⟩ := DataW.trod_bool hu h
  exact ⟨n, h1⟩
theorem Arg.str (h : Arg P W t cs) (hu : P.underlying t = some .string) : ∃ l, cs = [.string (str l)] ∧ l.length ≤ 140737488351232 := by
  obtain ⟨H, enc, base, spare, held, fuel, d, ps, h, hw⟩ := h
  obtain ⟨s, h1, h2, h3⟩ := DataW.trod_string hu h
  obtain ⟨h2, _⟩ := Prod.mk.inj h2
  subst h2
  refine ⟨s.data.toList, by rw [h1, str_list], ?_⟩
  exact hw _ (by simp [DataW.weights])
theorem mem_weightsEach {H : Type} {n : Nat} : ∀ {ts : List TypeId} {ds : List (DataW H)} {i : Nat} {t : TypeId} {d : DataW H}, ts[i]? = some t → ds[i]? = some d → n ∈ d.weights P t → n ∈ DataW.weightsEach P ts ds := fun ht hd hn => DataW.weights_mem_each ht hd n hn
theorem mem_weightsAll {H : Type} {n : Nat} {e : TypeId} : ∀ {ds : List (DataW H)} {d : DataW H}, d ∈ ds → n ∈ d.weights P e → n ∈ DataW.weightsAll P e ds
  | [], _, h, _ => by cases h
  | x :: r, d, h, hn => by
    simp only [DataW.weightsAll, List.mem_append]
    rcases List.mem_cons.1 h with rfl | h
    · exact .inl hn
    · exact .inr (mem_weightsAll h hn)
theorem Arg.struct {fs : Array Field} (h : Arg P W t cs) (hu : P.underlying t = some (.struct fs)) : cs.length = P.cellsOf t ∧ ∀ (i : Nat) (f : Field), fs[i]? = some f → Arg P W f.type ((cs.drop f.offset).take (P.cellsOf f.type)) := by
  obtain ⟨H, enc, base, spare, held, fuel, d, ps, h, hw⟩ := h
  obtain ⟨xs, n, _, hx, hl, hlen, hf⟩ := DataW.trod_struct hu h
  obtain ⟨hd, _⟩ := Prod.mk.inj hx
  subst hd
  refine ⟨hl, fun i f hif => ?_⟩
  have h1 := hf i f hif
  have hi : i < xs.length := by
    rw [hlen]; exact (Array.getElem?_eq_some_iff.1 hif).1
  rw [List.getElem?_eq_getElem hi] at h1
  refine ⟨H, enc, base, spare, held, n, (xs[i]).1, (xs[i]).2, h1, fun m hm => hw m ?_⟩
  simp only [DataW.weights, hu]
  refine mem_weightsEach (i := i) (t := f.type) (d := (xs[i]).1) ?_ ?_ hm
  · rw [List.getElem?_map, Array.getElem?_toList, hif]; rfl
  · rw [List.getElem?_map, List.getElem?_eq_getElem hi]; rfl
theorem flat_length {css : List (List Value)} {sz : Nat} (h : ∀ c ∈ css, c.length = sz) : css.flatten.length = css.length * sz := by
  induction css with
  | nil => simp
  | cons c css ih =>
    rw [List.flatten_cons, List.length_append, ih fun x hx => h x (List.mem_cons_of_mem _ hx), h c (by simp), List.length_cons, Nat.succ_mul, Nat.add_comm]
theorem flat_get {css : List (List Value)} {sz : Nat} (h : ∀ c ∈ css, c.length = sz) {i j : Nat} (hi : i < css.length) (hj : j < sz) : css.flatten[i * sz + j]? = (css.getD i [])[j]? := by
  induction css generalizing i with
  | nil => simp at hi
  | cons c css ih =>
    have hc := h c (by simp)
    rw [List.flatten_cons]
    cases i with
    | zero => rw [Nat.zero_mul, Nat.zero_add, List.getElem?_append_left (by omega)]; rfl
    | succ i =>
      rw [List.getElem?_append_right (by rw [Nat.succ_mul]; omega), hc, show (i + 1) * sz + j - sz = i * sz + j by rw [Nat.succ_mul]; omega, ih (fun x hx => h x (List.mem_cons_of_mem _ hx)) (by simpa using hi)]; rfl
theorem rd_flat {x : Addr} {len cap sz : Nat} {css : List (List Value)} (hl : len ≤ cap) (hn : css.length = len) (h : ∀ c ∈ css, c.length = sz) (hc : ∀ i, i < len → ∀ j, j < sz → W.cell? ((x.add (i * sz)).add j) = (css.getD i [])[j]?) : Rd W (.slice (some x) len cap) len css.flatten := by
  refine ⟨some x, cap, rfl, hl, ?_, fun h => by cases h⟩
  have hfl := flat_length h
  have key : ∀ q, q < css.flatten.length → W.cell? (x.add q) = css.flatten[q]? := by
    intro q hq
    rw [hfl, hn] at hq
    have hs : 0 < sz := by
      rcases Nat.eq_zero_or_pos sz with h0 | h0
      · subst h0; simp at hq
      · exact h0
    have e : q = q / sz * sz + q % sz := by rw [Nat.mul_comm]; exact (Nat.div_add_mod q sz).symm
    have h1 : q / sz < len := (Nat.div_lt_iff_lt_mul hs).2 hq
    have h2 := hc (q / sz) h1 (q % sz) (Nat.mod_lt _ hs)
    rw [← flat_get h (by omega) (Nat.mod_lt _ hs), ← e] at h2
    rw [← h2]
    congr 1
    have : q = q / sz * sz + q % sz := e
    rw [Addr.add_add] <;> rw [← this]
  obtain ⟨b, o, m⟩ := x
  cases m with
  | some m =>
    show css.flatten = []
    by_cases h0 : 0 < css.flatten.length
    · have h1 := key 0 h0
      have h2 : W.cell? (Addr.add ⟨b, o, some m⟩ 0) = none := by
        unfold World.cell? Addr.add
        split
        · simp
        · rfl
      rw [h2, List.getElem?_eq_getElem h0] at h1; cases h1
    · exact List.length_eq_zero_iff.1 (by omega)
  | none =>
    intro i hi
    have h1 := key i hi
    have h2 : Addr.add ⟨b, o, none⟩ i = ⟨b, o + i, none⟩ := by
      unfold Addr.add; split
      · rename_i h; simp [h]
      · rfl
    rw [h2] at h1
    exact h1
theorem Arg.slice {e : TypeId} (h : Arg P W t cs) (hu : P.underlying t = some (.slice e)) : ∃ (a : Option Addr) (len cap : Nat) (css : List (List Value)), cs = [.slice a len cap] ∧ Rd W (.slice a len cap) len css.flatten ∧ css.length = len ∧
    (∀ c ∈ css, Arg P W e c ∧ c.length = P.cellsOf e) ∧ len * P.bytesOf e ≤ 140737488351232 := by
  obtain ⟨H, enc, base, spare, held, fuel, d, ps, h, hw⟩ := h
  rcases DataW.trod_slice hu h with ⟨rfl, _⟩ | ⟨a, len, cap, elems, rest, n, _, rfl, hx, hb, hl, hm, hlen, hel, _, _⟩
  · exact ⟨none, 0, 0, [], rfl, ⟨none, 0, rfl, Nat.le_refl _, rfl, fun _ => rfl⟩, rfl, by simp, by simp⟩
  · obtain ⟨hd, _⟩ := Prod.mk.inj hx
    subst hd
    let f : Nat → List Value := fun i => (W.cells? base (a.add (i * P.cellsOf e)) (P.cellsOf e)).getD []
    have each : ∀ i, i < len → ∃ c, W.cells? base (a.add (i * P.cellsOf e)) (P.cellsOf e) = some c ∧ ∃ y ∈ elems, DataW.trod enc P W base spare held n e c = some y := by
      intro i hi
      have h1 := hel i hi
      rw [List.getElem?_eq_getElem (by omega), Option.bind_eq_some_iff] at h1
      obtain ⟨c, h2, h3⟩ := h1
      exact ⟨c, h2, _, List.getElem_mem _, h3⟩
    have hget : ∀ i, i < len → ((List.range len).map f).getD i [] = f i := by
      intro i hi
      rw [List.getD_eq_getElem?_getD, List.getElem?_map, List.getElem?_range hi]; rfl
    refine ⟨some a, len, cap, (List.range len).map f, rfl, rd_flat hl (by simp) (sz := P.cellsOf e) ?_ ?_, by simp, ?_, ?_⟩
    · intro c hc
      obtain ⟨i, hi, rfl⟩ := List.mem_map.1 hc
      obtain ⟨c, h2, _⟩ := each i (by simpa using hi)
      have e1 : f i = c := by show Option.getD _ _ = _; rw [h2]; rfl
      rw [e1]; exact (World.cells?_some h2).2.1
    · intro i hi j hj
      rw [hget i hi]
      obtain ⟨c, h2, _⟩ := each i hi
      have e1 : f i = c := by show Option.getD _ _ = _; rw [h2]; rfl
      rw [e1]; exact (World.cells?_some h2).2.2 j hj
    · intro c hc
      obtain ⟨i, hi, rfl⟩ := List.mem_map.1 hc
      obtain ⟨c, h2, y, hy, h3⟩ := each i (by simpa using hi)
      have e1 : f i = c := by show Option.getD _ _ = _; rw [h2]; rfl
      rw [e1]
      refine ⟨⟨H, enc, base, spare, held, n, y.1, y.2, h3, fun m hm => hw m ?_⟩, (World.cells?_some h2).2.1⟩
      simp only [DataW.weights, hu]
      exact List.mem_cons_of_mem _ (List.mem_append.2 (.inl (mem_weightsAll (List.mem_map.2 ⟨y, hy, rfl⟩) hm)))
    · have h1 := hw ((elems.map (·.1)).length + (rest.map (·.1)).length |> (· * P.bytesOf e)) (by simp [DataW.weights, hu])
      refine Nat.le_trans (Nat.mul_le_mul_right _ ?_) h1
      simp [hlen]
/-- A row's list of cells, told as a list of what each is. -/
theorem told {α : Type} {enc : α → List Value} {ok : α → Prop} : ∀ {css : List (List Value)}, (∀ c ∈ css, ∃ x, c = enc x ∧ ok x) → ∃ l : List α, css.flatten = l.flatMap enc ∧ css.length = l.length ∧ ∀ x ∈ l, ok x
  | [], _ => ⟨[], rfl, rfl, by simp⟩
  | c :: css, h => by
    obtain ⟨x, rfl, hx⟩ := h c (by simp)
    obtain ⟨l, h1, h2, h3⟩ := told fun c hc => h c (List.mem_cons_of_mem _ hc)
    refine ⟨x :: l, by simp [h1], by simp [h2], ?_⟩
    intro y hy
    rcases List.mem_cons.1 hy with rfl | hy
    · exact hx
    · exact h3 y hy
theorem Arg.slices {α : Type} {enc : α → List Value} {ok : α → Prop} {e : TypeId} (h : Arg P W t cs) (hu : P.underlying t = some (.slice e)) (hk : ∀ c, Arg P W e c → c.length = P.cellsOf e → ∃ x, c = enc x ∧ ok x) :
    ∃ (v : Value) (l : List α), cs = [v] ∧ RdS enc W v l ∧ (∀ x ∈ l, ok x) ∧ l.length * P.bytesOf e ≤ 140737488351232 := by
  obtain ⟨a, len, cap, css, h1, h2, h3, h4, h5⟩ := h.slice hu
  obtain ⟨l, e1, e2, e3⟩ := told fun c hc => hk c (h4 c hc).1 (h4 c hc).2
  refine ⟨_, l, h1, ?_, e3, by rw [← e2, h3]; exact h5⟩
  show Rd _ _ _ _
  rw [← e1, ← e2, h3]; exact h2
end
end Go.Proofs.Ytnkilhmkegmenaa.E
