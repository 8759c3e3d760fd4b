/- Things of counts, packages: what they are; the program's walk. -/
import Derived.Test.YtojnkjnebejodaaS4
import Derived.Test.YtojnkjnebejodaaH2
namespace Go.Proofs.Ytojnkjnebejodaa.E
open Go
theorem thC_set {t : Th} {i v : Nat} {r : Int} (hi : i < 256) : (thC t).set (1 + i) (.int .u8 (v : Int)) = thC ⟨t.w, fun k => if k = i then v else t.f k, r⟩ := by
  unfold thC
  rw [Nat.add_comm 1 i, List.set_cons_succ]
  congr 1
  apply List.ext_getElem (by simp)
  intro k h1 h2
  simp only [List.length_set, List.length_map, List.length_range] at h1
  simp only [List.getElem_set, List.getElem_map, List.getElem_range]
  by_cases c : i = k
  · subst c; simp
  · rw [if_neg c, if_neg (fun e => c e.symm)]
theorem thC_w {c : Int} : fillC (zcOf Try.t81) [(0, 1, .int .i64 c)] = some (thC ⟨c, fun _ => 0, 0⟩) := by
  rw [zcTh]
  unfold fillC
  rw [if_pos ⟨rfl, by rw [thC_len]; omega⟩]
  rfl
theorem thC_cell {t : Th} {i : Nat} (hi : i < 256) : (thC t)[1 + i]? = some (.int .u8 ((t.f i : Nat) : Int)) := by
  unfold thC
  rw [Nat.add_comm 1 i, List.getElem?_cons_succ, List.getElem?_map, List.getElem?_range hi]; rfl
/-- a symbol with its count -/
def one (c : Int) (i : Nat) : Th := ⟨c, fun k => if k = i then 1 else 0, 256 * c - i⟩
theorem one_cr {c c' : Int} {i i' : Nat} (h : i' < i) (hi : i < 256) : Cr Th.r Th.w (one c i) (one c' i') := by
  unfold Cr one
  dsimp only
  omega
/-- the symbols with a count, the last ones first: those of the last j places -/
def thsA (cs : List Int) : Nat → List Th
  | 0 => []
  | j + 1 => thsA cs j ++ (if 0 < cs.getD (cs.length - 1 - j) 0 then [one (cs.getD (cs.length - 1 - j) 0) (cs.length - 1 - j)] else [])
theorem thsA_yes {cs : List Int} {j : Nat} (h : 0 < cs.getD (cs.length - 1 - j) 0) : thsA cs (j + 1) = thsA cs j ++ [one (cs.getD (cs.length - 1 - j) 0) (cs.length - 1 - j)] := by rw [thsA, if_pos h]
theorem thsA_no {cs : List Int} {j : Nat} (h : ¬ 0 < cs.getD (cs.length - 1 - j) 0) : thsA cs (j + 1) = thsA cs j := by rw [thsA, if_neg h, List.append_nil]
theorem thsA_len (cs : List Int) : ∀ j, (thsA cs j).length ≤ j
  | 0 => by simp [thsA]
  | j + 1 => by
    have := thsA_len cs j
    by_cases h : 0 < cs.getD (cs.length - 1 - j) 0
    · rw [thsA_yes h, List.length_append, List.length_singleton]; omega
    · rw [thsA_no h]; omega
theorem thsA_mem (cs : List Int) : ∀ j, j ≤ cs.length → ∀ t ∈ thsA cs j, ∃ i, t = one (cs.getD i 0) i ∧ cs.length - j ≤ i ∧ i < cs.length ∧ 0 < cs.getD i 0
  | 0, _, t, h => by cases h
  | j + 1, hj, t, h => by
    by_cases c : 0 < cs.getD (cs.length - 1 - j) 0
    · rw [thsA_yes c] at h
      rcases List.mem_append.1 h with h | h
      · obtain ⟨i, h1, h2, h3, h4⟩ := thsA_mem cs j (by omega) t h
        exact ⟨i, h1, by omega, h3, h4⟩
      · rw [List.mem_singleton] at h
        exact ⟨_, h, by omega, by omega, c⟩
    · rw [thsA_no c] at h
      obtain ⟨i, h1, h2, h3, h4⟩ := thsA_mem cs j (by omega) t h
      exact ⟨i, h1, by omega, h3, h4⟩
theorem thsA_pw (cs : List Int) (hl : cs.length ≤ 256) : ∀ j, j ≤ cs.length → (thsA cs j).Pairwise (fun x y => Cr Th.r Th.w x y)
  | 0, _ => by simp [thsA]
  | j + 1, hj => by
    have ih := thsA_pw cs hl j (by omega)
    by_cases c : 0 < cs.getD (cs.length - 1 - j) 0
    · rw [thsA_yes c, List.pairwise_append]
      refine ⟨ih, List.pairwise_singleton _ _, fun a ha b hb => ?_⟩
      rw [List.mem_singleton] at hb
      obtain ⟨i, rfl, h2, h3, h4⟩ := thsA_mem cs j (by omega) a ha
      rw [hb]
      exact one_cr (by omega) (by omega)
    · rw [thsA_no c]; exact ih
theorem pw_get {α : Type} {R : α → α → Prop} {l : List α} (z : α) (h : l.Pairwise R) : ∀ p q, p < q → q < l.length → R (l.getD p z) (l.getD q z) := fun p q h1 h2 => by
  have := (List.pairwise_iff_getElem.1 h) p q (by omega) h2 h1
  rw [List.getD_eq_getElem?_getD, List.getD_eq_getElem?_getD, List.getElem?_eq_getElem (by omega), List.getElem?_eq_getElem h2]
  exact this
theorem get_pw {α : Type} {R : α → α → Prop} {l : List α} (z : α) (h : ∀ p q, p < q → q < l.length → R (l.getD p z) (l.getD q z)) : l.Pairwise R := by
  rw [List.pairwise_iff_getElem]
  intro p q hp hq hpq
  have := h p q hpq hq
  rwa [List.getD_eq_getElem?_getD, List.getD_eq_getElem?_getD, List.getElem?_eq_getElem hp, List.getElem?_eq_getElem hq] at this
theorem thsA_cr {cs : List Int} (hl : cs.length ≤ 256) : ∀ p q, p < q → q < (thsA cs cs.length).length → Cr Th.r Th.w ((thsA cs cs.length).getD p th0) ((thsA cs cs.length).getD q th0) := pw_get th0 (thsA_pw cs hl _ (Nat.le_refl _))
abbrev SrtR (l : List Th) : Prop := l.Pairwise (fun a b => a.r < b.r)
def insR (x : Th) : List Th → List Th
  | [] => [x]
  | y :: r => if y.r < x.r then y :: insR x r else x :: y :: r
theorem insR_perm (x : Th) : ∀ l, (insR x l).Perm (x :: l)
  | [] => .refl _
  | y :: r => by
    unfold insR
    split
    · exact ((insR_perm x r).cons y).trans (.swap x y r)
    · exact .refl _
theorem insR_srt (x : Th) : ∀ l, SrtR l → (∀ y ∈ l, y.r ≠ x.r) → SrtR (insR x l)
  | [], _, _ => List.pairwise_singleton _ _
  | y :: r, h, hn => by
    have h1 := List.pairwise_cons.1 h
    unfold insR
    split
    · rename_i c
      refine List.pairwise_cons.2 ⟨fun z hz => ?_, insR_srt x r h1.2 fun z hz => hn z (List.mem_cons_of_mem _ hz)⟩
      rcases List.mem_cons.1 ((insR_perm x r).subset hz) with rfl | hz
      · exact c
      · exact h1.1 z hz
    · rename_i c
      have hyx := hn y List.mem_cons_self
      refine List.pairwise_cons.2 ⟨fun z hz => ?_, h⟩
      rcases List.mem_cons.1 hz with rfl | hz
      · omega
      · have := h1.1 z hz; omega
def sortR : List Th → List Th
  | [] => []
  | x :: l => insR x (sortR l)
theorem sortR_perm : ∀ l, (sortR l).Perm l
  | [] => .refl _
  | x :: l => (insR_perm x _).trans ((sortR_perm l).cons x)
theorem sortR_srt : ∀ l : List Th, l.Pairwise (fun x y => x.r ≠ y.r) → SrtR (sortR l)
  | [], _ => List.Pairwise.nil
  | x :: l, h => by
    have h1 := List.pairwise_cons.1 h
    exact insR_srt x _ (sortR_srt l h1.2) fun y hy => (h1.1 y ((sortR_perm l).subset hy)).symm
theorem srt_uniq {l m : List Th} (h1 : SrtR l) (h2 : SrtR m) (h : l.Perm m) : l = m :=
  List.Perm.eq_of_pairwise (le := fun a b : Th => a.r < b.r) (fun a b _ _ k1 k2 => by omega) h1 h2 h
/-- the things of counts -/
def thF (cs : List Int) : List Th := sortR (thsA cs cs.length)
theorem cr_ne {x y : Th} (h : Cr Th.r Th.w x y) : x.r ≠ y.r := by
  intro e
  by_cases c : y.w < x.w
  · have := h.1 c; omega
  · have := h.2 c; omega
theorem thF_perm (cs : List Int) : (thF cs).Perm (thsA cs cs.length) := sortR_perm _
theorem thF_srt {cs : List Int} (hl : cs.length ≤ 256) : SrtR (thF cs) := sortR_srt _ ((thsA_pw cs hl _ (Nat.le_refl _)).imp cr_ne)
theorem thF_eq {cs : List Int} {l : List Th} (hl : cs.length ≤ 256) (hp : l.Perm (thsA cs cs.length)) (hs : SrtR l) : l = thF cs := srt_uniq hs (thF_srt hl) (hp.trans (thF_perm cs).symm)
/-! packages -/
def bothT (a b : Th) : Th := ⟨a.w + b.w, fun k => a.f k + b.f k, 0⟩
def pairsL : List Th → List Th
  | a :: b :: r => bothT a b :: pairsL r
  | _ => []
def mergeL : List Th → List Th → List Th
  | fs, [] => fs
  | [], p :: ps => p :: ps
  | f :: fs, p :: ps => if f.w ≤ p.w then f :: mergeL fs (p :: ps) else p :: mergeL (f :: fs) ps
termination_by fs ps => fs.length + ps.length
theorem mergeL_nilR (fs : List Th) : mergeL fs [] = fs := by cases fs <;> rw [mergeL]
theorem mergeL_nilL (ps : List Th) : mergeL [] ps = ps := by cases ps <;> rw [mergeL]
theorem mergeL_le {f p : Th} {fs ps : List Th} (h : f.w ≤ p.w) : mergeL (f :: fs) (p :: ps) = f :: mergeL fs (p :: ps) := by rw [mergeL, if_pos h]
theorem mergeL_gt {f p : Th} {fs ps : List Th} (h : ¬ f.w ≤ p.w) : mergeL (f :: fs) (p :: ps) = p :: mergeL (f :: fs) ps := by rw [mergeL, if_neg h]
def tot (k : Nat) (l : List Th) : Nat := (l.map fun t => t.f k).sum
theorem tot_cons (k : Nat) (t : Th) (l : List Th) : tot k (t :: l) = t.f k + tot k l := by simp [tot]
theorem tot_append (k : Nat) (l m : List Th) : tot k (l ++ m) = tot k l + tot k m := by simp [tot]
theorem tot_perm {k : Nat} {l m : List Th} (h : l.Perm m) : tot k l = tot k m := (h.map _).sum_nat
theorem tot_mem {k : Nat} {l : List Th} {t : Th} (h : t ∈ l) : t.f k ≤ tot k l := by
  induction l with
  | nil => cases h
  | cons x l ih =>
    rw [tot_cons]
    rcases List.mem_cons.1 h with rfl | h
    · omega
    · have := ih h; omega
theorem tot_drop (k i : Nat) (l : List Th) : tot k (l.drop i) ≤ tot k l := by
  have := tot_append k (l.take i) (l.drop i)
  rw [List.take_append_drop] at this; omega
theorem tot_take (k i : Nat) (l : List Th) : tot k (l.take i) ≤ tot k l := by
  have := tot_append k (l.take i) (l.drop i)
  rw [List.take_append_drop] at this; omega
theorem tot_pairs (k : Nat) : ∀ l, tot k (pairsL l) ≤ tot k l
  | [] => by simp [pairsL]
  | [a] => by simp [pairsL, tot]
  | a :: b :: r => by
    have := tot_pairs k r
    rw [pairsL, tot_cons, tot_cons, tot_cons]
    show a.f k + b.f k + _ ≤ _
    omega
theorem mergeL_perm : ∀ (n : Nat) (fs ps : List Th), fs.length + ps.length ≤ n → (mergeL fs ps).Perm (fs ++ ps)
  | _, fs, [], _ => by rw [mergeL_nilR, List.append_nil]
  | _, [], p :: ps, _ => by rw [mergeL_nilL]; exact .refl _
  | 0, f :: fs, p :: ps, h => by simp at h
  | n + 1, f :: fs, p :: ps, h => by
    simp only [List.length_cons] at h
    by_cases c : f.w ≤ p.w
    · rw [mergeL_le c]; exact (mergeL_perm n fs (p :: ps) (by simp only [List.length_cons]; omega)).cons f
    · rw [mergeL_gt c]
      exact ((mergeL_perm n (f :: fs) ps (by simp only [List.length_cons]; omega)).cons p).trans List.perm_middle.symm
theorem merge_perm (fs ps : List Th) : (mergeL fs ps).Perm (fs ++ ps) := mergeL_perm _ fs ps (Nat.le_refl _)
theorem pairs_len : ∀ l, (pairsL l).length = l.length / 2
  | [] => rfl
  | [a] => by simp [pairsL]
  | a :: b :: r => by rw [pairsL, List.length_cons, pairs_len r]; simp only [List.length_cons]; omega
def rowF (fs : List Th) : Nat → List Th
  | 0 => fs
  | j + 1 => mergeL fs (pairsL (rowF fs j))
theorem row_len (fs : List Th) (j : Nat) : (rowF fs (j + 1)).length = fs.length + (rowF fs j).length / 2 := by
  rw [rowF, (merge_perm _ _).length_eq, List.length_append, pairs_len]
theorem row_le (fs : List Th) : ∀ j, (rowF fs j).length ≤ 2 * fs.length
  | 0 => by rw [rowF]; omega
  | j + 1 => by have := row_le fs j; rw [row_len]; omega
theorem row_tot (fs : List Th) (k : Nat) : ∀ j, tot k (rowF fs j) ≤ (j + 1) * tot k fs
  | 0 => by rw [rowF]; omega
  | j + 1 => by
    have h1 := row_tot fs k j
    have h2 := tot_pairs k (rowF fs j)
    rw [rowF, tot_perm (merge_perm _ _), tot_append, Nat.add_mul (j + 1) 1]; omega
/-- weights within bounds -/
def wB (W : Int) (l : List Th) : Prop := ∀ t ∈ l, 0 ≤ t.w ∧ t.w ≤ W
theorem wB_pairs {W : Int} : ∀ l, wB W l → wB (2 * W) (pairsL l)
  | [], _ => fun _ h => by cases h
  | [a], _ => fun _ h => by cases h
  | a :: b :: r, h => fun t ht => by
    rcases List.mem_cons.1 ht with rfl | ht
    · have h1 := h a List.mem_cons_self
      have h2 := h b (List.mem_cons_of_mem _ List.mem_cons_self)
      show 0 ≤ a.w + b.w ∧ a.w + b.w ≤ _
      omega
    · exact wB_pairs r (fun x hx => h x (List.mem_cons_of_mem _ (List.mem_cons_of_mem _ hx))) t ht
theorem wB_merge {W V : Int} {fs ps : List Th} (h1 : wB W fs) (h2 : wB V ps) (hV : W ≤ V) : wB V (mergeL fs ps) := fun t ht => by
  rcases List.mem_append.1 ((merge_perm fs ps).subset ht) with h | h
  · have := h1 t h; omega
  · exact h2 t h
theorem row_w {W : Int} {fs : List Th} (h : wB W fs) (hW : 0 ≤ W) : ∀ j, wB (2 ^ j * W) (rowF fs j)
  | 0 => by simpa [rowF] using h
  | j + 1 => by
    have := wB_pairs _ (row_w h hW j)
    rw [rowF]
    refine wB_merge h (by rw [Int.pow_succ, Int.mul_comm (2 ^ j) 2, Int.mul_assoc]; exact this) ?_
    have hp : (1 : Int) ≤ 2 ^ (j + 1) := by
      have : (1 : Nat) ≤ 2 ^ (j + 1) := Nat.one_le_two_pow
      exact_mod_cast this
    have := Int.mul_le_mul_of_nonneg_right hp hW
    omega
theorem pairs_drop {row : List Th} {i : Nat} (h : i + 1 < row.length) : pairsL (row.drop i) = bothT (row.getD i th0) (row.getD (i + 1) th0) :: pairsL (row.drop (i + 2)) := by
  rw [dropG th0 (by omega), dropG th0 (i := i + 1) (by omega), pairsL]
theorem pairs_end {row : List Th} {i : Nat} (h : row.length ≤ i + 1) : pairsL (row.drop i) = [] := by
  rcases Nat.lt_or_ge i row.length with k | k
  · rw [dropG th0 k, List.drop_eq_nil_of_le (by omega)]; rfl
  · rw [List.drop_eq_nil_of_le k]; rfl
theorem two_tot {row : List Th} {i : Nat} (h : i + 1 < row.length) (k : Nat) : (row.getD i th0).f k + (row.getD (i + 1) th0).f k ≤ tot k row := by
  have h1 := tot_drop k i row
  rw [dropG th0 (by omega), dropG th0 (i := i + 1) (by omega), tot_cons, tot_cons] at h1
  omega

set_option maxRecDepth 100000 in
/-- huff.things -/
theorem things_ok (x : Value) (cs : List Int) (w : World) (hx : RdE i64V w x cs) (hl : cs.length ≤ 256) : Calls Try.prog 52 [x].toArray w (Rt fun r w' => ∃ rs, SlS thC 257 81 r (thF cs) rs ∧ Mem w [] w' [rs]) := by
  have hM0 : Mem w [] w [] := Mem.nil w []
  refine calls_vc mixed Try.func52 rfl C52 (by simp [Try.ntmps52]) ?_
  refine seq fun K1 h1 => ?_
  refine stp (v := .slice none 0 0) (o_mv rfl) ?_
  refine h1 _ _ ?_
  clear h1
  refine seq fun K2 h2 => ?_
  refine stp (v := .slice none 0 0) (o_mv rfl) ?_
  refine h2 _ _ ?_
  clear h2
  refine seq fun K3 h3 => ?_
  refine seq fun K4 h4 => ?_
  refine stp (v := x) (o_mv rfl) ?_
  refine stp (v := .int .i64 (cs.length : Nat)) (o_lenR (hx.upd hM0.upd) rfl rfl) ?_
  refine stp (v := .int .i64 ((cs.length : Nat) - 1)) (o_bin rfl rfl (v_sub64 (by constructor <;> omega))) ?_
  refine stp (v := .int .i64 ((cs.length : Nat) - 1)) (o_mv rfl) ?_
  refine h4 _ _ ?_
  clear h4
  have hM5 : Mem w [] w [[]] := hM0.addNil
  have hs5 : SlS thC 257 81 (.slice none 0 0) [] [] := Sl.nil 257 81
  refine lp (n := fun _ _ => False) (ι := (Nat) × (Value) × (List Ent)) (fun ⟨j, y3_, r3_⟩ f w' => f 3 = y3_ ∧ f 4 = .int .i64 ((cs.length : Int) - 1 - (j : Nat)) ∧ f 0 = x ∧ Mem w [] w' [r3_] ∧ (j ≤ cs.length) ∧ ((thsA cs j).length ≤ j) ∧ (SlS thC 257 81 y3_ (thsA cs j) r3_)) (fun ⟨j, y3_, r3_⟩ => cs.length - j) (0, ((.slice none 0 0)), ([])) ?_ ?_
  · exact ⟨rfl, by first | rfl | exact v_int (by omega) | exact v_int (by simp) | exact v_int (by simp; omega), rfl, hM5, by omega, thsA_len cs 0, by first | exact hs5 | simpa using hs5⟩
  · rintro ⟨j, y3_, r3_⟩ f w6 ⟨e6_3, e6_4, e6_0, hM6, hj, hA, hy3_⟩ K7 h7
    obtain ⟨frm, rfl⟩ : ∃ frm, f = (upd (upd (upd frm 3 (y3_)) 4 (.int .i64 ((cs.length : Int) - 1 - (j : Nat)))) 0 (x)) := ⟨f, by rw [upd_self e6_3, upd_self e6_4, upd_self e6_0]⟩
    clear e6_3 e6_4 e6_0
    refine seq fun K8 h8 => ?_
    refine seq fun K9 h9 => ?_
    refine stp (v := .int .i64 ((cs.length : Int) - 1 - (j : Nat))) (o_mv rfl) ?_
    refine stp (v := .bool (decide ((0 : Int) ≤ ((cs.length : Int) - 1 - (j : Nat) : Int)))) (o_bin rfl rfl rfl) ?_
    refine h9 _ _ ?_
    clear h9
    refine cndP rfl (fun c10 => ?_) (fun c10 => ?_)
    ·
      refine h8 _ _ ?_
      clear h8
      refine seq fun K11 h11 => ?_
      refine seq fun K12 h12 => ?_
      refine stp (v := x) (o_mv rfl) ?_
      refine stp (v := .int .i64 ((cs.length : Int) - 1 - (j : Nat))) (o_mv rfl) ?_
      refine m_idxE 0 (j := (cs.length - 1 - j)) (hx.upd hM6.upd) rfl (v_int (by omega)) (by omega) fun b13 o13 hp13 => ?_
      refine ld (v := .int .i64 (cs.getD (cs.length - 1 - j) 0)) rfl (hp13) ?_
      refine stp (v := .bool (decide ((0 : Int) < (cs.getD (cs.length - 1 - j) 0)))) (o_bin rfl rfl rfl) ?_
      refine h12 _ _ ?_
      clear h12
      refine cndP rfl (fun c14 => ?_) (fun c14 => ?_)
      ·
        refine seq fun K15 h15 => ?_
        refine stp (v := x) (o_mv rfl) ?_
        refine stp (v := .int .i64 ((cs.length : Int) - 1 - (j : Nat))) (o_mv rfl) ?_
        refine m_idxE 0 (j := (cs.length - 1 - j)) (hx.upd hM6.upd) rfl (v_int (by omega)) (by omega) fun b16 o16 hp16 => ?_
        refine ld (v := .int .i64 (cs.getD (cs.length - 1 - j) 0)) rfl (hp16) ?_
        refine stp (v := .agg ((thC (⟨(cs.getD (cs.length - 1 - j) 0), fun _ => 0, 0⟩ : Th)).toArray)) (o_bld2 (vs := [(0, 1, .int .i64 (cs.getD (cs.length - 1 - j) 0))]) rfl thC_w rfl) ?_
        refine m_al hM6 fun b17 w18 (hM18 : Mem w [] w18 [r3_, [⟨b17, 81, (zcOf Try.t81)⟩]]) => ?_
        refine m_stA (l := (thC (⟨(cs.getD (cs.length - 1 - j) 0), fun _ => 0, 0⟩ : Th))) hM18 (i := 1) rfl rfl rfl (by simp) (thC_one _) (by simp) fun w19 hm19 => ?_
        have hM19 : Mem w [] w19 [r3_, [⟨b17, 81, (thC (⟨(cs.getD (cs.length - 1 - j) 0), fun _ => 0, 0⟩ : Th))⟩]] := by
          have e : splice (zcOf Try.t81) 0 (thC (⟨(cs.getD (cs.length - 1 - j) 0), fun _ => 0, 0⟩ : Th)) = (thC (⟨(cs.getD (cs.length - 1 - j) 0), fun _ => 0, 0⟩ : Th)) := splice_full (by simp; first | done | (simp) | omega)
          first | (rw [e] at hm19; exact hm19) | (rw [← e]; exact hm19)
        refine h15 _ _ ?_
        clear h15
        refine seq fun K20 h20 => ?_
        refine stp (v := .int .i64 ((cs.length : Int) - 1 - (j : Nat))) (o_mv rfl) ?_
        refine stp (v := .pointer (some ⟨b17, 1, none⟩)) (o_fa rfl rfl) ?_
        refine stp (v := .pointer (some ⟨b17, 1 + (cs.length - 1 - j), none⟩)) (o_idxa rfl rfl (by omega) (v_ptr (by first | (rw [Int.toNat_natCast, Nat.mul_one]; done) | (simp; done) | omega))) ?_
        refine m_st (v := .int .u8 1) hM19 (i := 1) rfl rfl rfl rfl (by rw [thC_len]; omega) fun w21 hm21 => ?_
        have hM21 : Mem w [] w21 [r3_, [⟨b17, 81, (thC (one (cs.getD (cs.length - 1 - j) 0) (cs.length - 1 - j)))⟩]] := by
          have e : (thC (⟨(cs.getD (cs.length - 1 - j) 0), fun _ => 0, 0⟩ : Th)).set (1 + (cs.length - 1 - j)) (.int .u8 1) = (thC (one (cs.getD (cs.length - 1 - j) 0) (cs.length - 1 - j))) := thC_set (t := ⟨(cs.getD (cs.length - 1 - j) 0), fun _ => 0, 0⟩) (by omega)
          rw [← e]; exact hm21
        refine h20 _ _ ?_
        clear h20
        refine stp (v := y3_) (o_mv rfl) ?_
        refine ldA (cs := (thC (one (cs.getD (cs.length - 1 - j) 0) (cs.length - 1 - j)))) rfl (thC_len _) (hM21.at (i := 1) (j := 0) rfl rfl).all ?_
        refine m_app1S (enc := thC) (q := (one (cs.getD (cs.length - 1 - j) 0) (cs.length - 1 - j))) hM21 (i := 0) rfl hy3_ rfl (by simp) (fill_big (zcTh_len) (thC_len _)) (zcTh_len) (by first | omega | (simp; omega)) (by omega) fun v22 w22 r22 u22 (hs22 : SlS thC 257 81 v22 ((thsA cs j) ++ [(one (cs.getD (cs.length - 1 - j) 0) (cs.length - 1 - j))]) r22) (hM22 : Mem w [] w22 [r22, [⟨b17, 81, (thC (one (cs.getD (cs.length - 1 - j) 0) (cs.length - 1 - j)))⟩]]) => ?_
        refine stp (v := v22) (o_mv rfl) ?_
        refine h11 _ _ ?_
        clear h11
        refine stp (v := .int .i64 ((cs.length : Int) - 1 - (j : Nat))) (o_mv rfl) ?_
        refine stp (v := .int .i64 (((cs.length : Int) - 1 - (j : Nat)) - 1)) (o_bin rfl rfl (v_sub64 (by constructor <;> omega))) ?_
        refine stp (v := .int .i64 (((cs.length : Int) - 1 - (j : Nat)) - 1)) (o_mv rfl) ?_
        refine h7 (j + 1, v22, r22) _ _ ⟨rfl, by first | rfl | exact v_int (by omega) | exact v_int (by simp) | exact v_int (by simp; omega), rfl, hM22.keep (by simp), by omega, thsA_len cs _, by rw [thsA_yes (by assumption)]; exact hs22⟩ (by (try dsimp only); omega)
      ·
        refine h11 _ _ ?_
        clear h11
        refine stp (v := .int .i64 ((cs.length : Int) - 1 - (j : Nat))) (o_mv rfl) ?_
        refine stp (v := .int .i64 (((cs.length : Int) - 1 - (j : Nat)) - 1)) (o_bin rfl rfl (v_sub64 (by constructor <;> omega))) ?_
        refine stp (v := .int .i64 (((cs.length : Int) - 1 - (j : Nat)) - 1)) (o_mv rfl) ?_
        refine h7 (j + 1, y3_, r3_) _ _ ⟨rfl, by first | rfl | exact v_int (by omega) | exact v_int (by simp) | exact v_int (by simp; omega), rfl, hM6, by omega, thsA_len cs _, by rw [thsA_no (by assumption)]; exact hy3_⟩ (by (try dsimp only); omega)
    ·
      refine h3 _ _ ?_
      clear h3
      refine seq fun K23 h23 => ?_
      refine stp (v := y3_) (o_mv rfl) ?_
      have hje : j = cs.length := by omega
      have hcr := thsA_cr (cs := cs) hl
      rw [← hje] at hcr
      refine m_call (sort_ok _ (thsA cs j) r3_ w6 hy3_ (hM6.res (i := 0) rfl) (by omega) hcr) rfl fun v24 w24 ⟨l24_, r'24, hpS, hqS, hs24, hm24⟩ => ?_
      have hM24 : Mem w [] w24 [r'24] := hM6.step 0 rfl hm24
      refine h23 _ _ ?_
      clear h23
      refine seq fun K25 h25 => ?_
      refine stp (v := y3_) (o_mv rfl) ?_
      refine stp (v := y3_) (o_mv rfl) ?_
      refine h25 _ _ ?_
      clear h25
      refine ⟨y3_, rfl, ?_⟩
      have e : l24_ = thF cs := thF_eq hl (by rw [hje] at hpS; exact hpS) (get_pw th0 fun p q h1 h2 => hqS p q (Nat.zero_le _) h1 (by have := hpS.length_eq; omega))
      exact ⟨_, by rw [← e]; exact hs24, hM24.keep (by simp)⟩
