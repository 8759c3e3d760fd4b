/- HuffCodes: canonical words: what they are. -/
import Derived.Test.YtojnkjnebejodaaH3
namespace Go.Proofs.Ytojnkjnebejodaa.E
open Go

def cntW (l : List Int) (n : Nat) : Nat := if n = 0 then 0 else (symN l n l.length).length
/-- the first word of length n -/
def firstW (l : List Int) : Nat → Nat
  | 0 => 0
  | n + 1 => 2 * (firstW l n + cntW l n)
theorem word_used (l : List Int) : ∀ n, n ≤ 15 → (firstW l n + cntW l n) * 2 ^ (15 - n) = usedB l n := by
  intro n
  induction n with
  | zero => intro _; simp [firstW, cntW, usedB]
  | succ n ih =>
    intro hn
    have h1 := ih (by omega)
    have h2 : 2 ^ (15 - n) = 2 * 2 ^ (15 - (n + 1)) := by
      rw [← Nat.pow_succ']; congr 1; omega
    have h3 : cntW l (n + 1) = (symN l (n + 1) l.length).length := by unfold cntW; rw [if_neg (by omega)]
    show (2 * (firstW l n + cntW l n) + cntW l (n + 1)) * 2 ^ (15 - (n + 1)) = usedB l n + (symN l (n + 1) l.length).length * 2 ^ (15 - (n + 1))
    rw [Nat.add_mul, h3, ← h1, h2, Nat.mul_comm 2, Nat.mul_assoc]
theorem word_le {l : List Int} (h : usedB l 15 ≤ 32768) {n : Nat} (hn : n ≤ 15) : firstW l n + cntW l n ≤ 32768 := by
  have h1 := word_used l n hn
  have h2 : usedB l n ≤ usedB l 15 := by
    have mono : ∀ a b, usedB l a ≤ usedB l (a + b) := by
      intro a b
      induction b with
      | zero => exact Nat.le_refl _
      | succ b ih => exact Nat.le_trans ih (Nat.le_add_right _ _)
    have := mono n (15 - n)
    rwa [show n + (15 - n) = 15 by omega] at this
  have h3 : 1 ≤ 2 ^ (15 - n) := Nat.one_le_two_pow
  have h4 : (firstW l n + cntW l n) * 1 ≤ (firstW l n + cntW l n) * 2 ^ (15 - n) := Nat.mul_le_mul_left _ h3
  omega
/-- the word of symbol i -/
def codeAt (l : List Int) (i : Nat) : Int × Int := if l.getD i 0 ≤ 0 then (0, 0) else (l.getD i 0, ((firstW l (l.getD i 0).toNat + (symN l (l.getD i 0).toNat i).length : Nat) : Int))
def codesL (l : List Int) : List (Int × Int) := (List.range l.length).map (codeAt l)
/-- the words of the lengths below n, and of length n of the first i symbols -/
def partC (l : List Int) (n i : Nat) : List (Int × Int) := (List.range l.length).map fun j => if 0 < l.getD j 0 ∧ (l.getD j 0 < n ∨ l.getD j 0 = n ∧ j < i) then codeAt l j else (0, 0)
def codeC (c : Int × Int) : List Value := [.int .i64 c.1, .int .u32 c.2]
instance : Enc codeC 2 := ⟨fun _ => rfl, by omega, fun c => by intro v hv; simp only [codeC, List.mem_cons, List.not_mem_nil, or_false] at hv; rcases hv with rfl | rfl <;> rfl⟩

/-- what Codes tells: the words, the error -/
def codes (l : List Int) : List (Int × Int) × Int := if 256 < l.length then ([], 2) else if inB 0 15 l then (if 32768 < usedB l 15 then ([], 41) else (codesL l, 0)) else ([], 3)
theorem codes_long {l : List Int} (h : 256 < l.length) : codes l = ([], 2) := by unfold codes; rw [if_pos h]
theorem codes_bad {l : List Int} (h : ¬ 256 < l.length) (hb : inB 0 15 l = false) : codes l = ([], 3) := by unfold codes; rw [if_neg h, hb]; rfl
theorem codes_much {l : List Int} (h : ¬ 256 < l.length) (hb : inB 0 15 l = true) (hk : 32768 < usedB l 15) : codes l = ([], 41) := by unfold codes; rw [if_neg h, hb, if_pos rfl, if_pos hk]
theorem codes_ok {l : List Int} (h : ¬ 256 < l.length) (hb : inB 0 15 l = true) (hk : ¬ 32768 < usedB l 15) : codes l = (codesL l, 0) := by unfold codes; rw [if_neg h, hb, if_pos rfl, if_neg hk]

theorem part_init (l : List Int) : partC l 1 0 = List.replicate l.length (0, 0) := by
  apply List.ext_getElem (by simp [partC])
  intro j h1 h2
  simp only [partC, List.getElem_map, List.getElem_range, List.getElem_replicate]
  rw [if_neg (by omega)]
theorem partC_length (l : List Int) (n i : Nat) : (partC l n i).length = l.length := by simp [partC]
theorem cntW_le (l : List Int) (n : Nat) : cntW l n ≤ l.length := by
  unfold cntW; split
  · omega
  · exact symN_le l n l.length

theorem part_set {l : List Int} {n i : Nat} (hi : i < l.length) (h : l.getD i 0 = (n : Int)) (hn : 1 ≤ n) : (partC l n i).set i (codeAt l i) = partC l n (i + 1) := by
  apply List.ext_getElem (by simp [partC])
  intro j h1 h2
  rw [List.getElem_set]
  simp only [partC, List.getElem_map, List.getElem_range]
  by_cases e : i = j
  · subst e; rw [if_pos rfl, if_pos (by omega)]
  · rw [if_neg e]
    by_cases c : 0 < l.getD j 0 ∧ (l.getD j 0 < n ∨ l.getD j 0 = n ∧ j < i)
    · rw [if_pos c, if_pos (by omega)]
    · rw [if_neg c, if_neg (by omega)]
theorem part_skip {l : List Int} {n i : Nat} (h : ¬ l.getD i 0 = (n : Int)) : partC l n (i + 1) = partC l n i := by
  unfold partC
  apply List.map_congr_left
  intro j _
  by_cases c : 0 < l.getD j 0 ∧ (l.getD j 0 < n ∨ l.getD j 0 = n ∧ j < i)
  · rw [if_pos c, if_pos (by omega)]
  · rw [if_neg c, if_neg (by
      intro k; apply c
      by_cases e : j = i
      · subst e; omega
      · omega)]
theorem part_next (l : List Int) (n : Nat) : partC l (n + 1) 0 = partC l n l.length := by
  unfold partC
  apply List.map_congr_left
  intro j hj
  have := List.mem_range.1 hj
  by_cases c : 0 < l.getD j 0 ∧ (l.getD j 0 < n ∨ l.getD j 0 = n ∧ j < l.length)
  · rw [if_pos c, if_pos (by omega)]
  · rw [if_neg c, if_neg (by omega)]
theorem part_end {l : List Int} (h : inB 0 15 l = true) : partC l 16 0 = codesL l := by
  unfold partC codesL
  apply List.map_congr_left
  intro j hj
  have := inB_iff.1 h j (List.mem_range.1 hj)
  by_cases c : 0 < l.getD j 0
  · rw [if_pos (by omega)]
  · rw [if_neg (by omega)]; unfold codeAt; rw [if_pos (by omega)]

theorem first_mul {l : List Int} {n : Nat} (h1 : 1 ≤ n) (h2 : n ≤ 15) (h : usedB l 15 ≤ 32768) : binI .mul .u32 ((firstW l (n - 1) + cntW l (n - 1) : Nat) : Int) 2 = .int .u32 ((firstW l n : Nat) : Int) := by
  obtain ⟨k, rfl⟩ : ∃ k, n = k + 1 := ⟨n - 1, by omega⟩
  have := word_le h (n := k) (by omega)
  show Value.int .u32 (IntKind.u32.wrap _) = .int .u32 ((2 * (firstW l k + cntW l k) : Nat) : Int)
  rw [Nat.add_sub_cancel]
  exact (v_same (by simp only [inK]; omega)).trans (v_int (by omega))
theorem code_cells {l : List Int} {n i : Nat} (h : l.getD i 0 = (n : Int)) (hn : 1 ≤ n) : (.agg [.int .i64 (n : Int), .int .u32 ((firstW l n + (symN l n i).length : Nat) : Int)].toArray : Value) = .agg (codeC (codeAt l i)).toArray := by
  unfold codeAt
  rw [if_neg (by omega), h, Int.toNat_natCast]; rfl
theorem word_add {l : List Int} {n i : Nat} (h : l.getD i 0 = (n : Int)) (hn : n ≤ 15) (hu : usedB l 15 ≤ 32768) (hi : i ≤ 256) : binI .add .u32 ((firstW l n + (symN l n i).length : Nat) : Int) 1 = .int .u32 ((firstW l n + (symN l n (i + 1)).length : Nat) : Int) := by
  have h1 := word_le hu hn
  have h2 := symN_le l n i
  rw [symN_yes h, List.length_append, List.length_singleton]
  exact (v_same (by simp only [inK]; omega)).trans (v_int (by omega))

/-- winnowref4.Codes -/
theorem refCodes_ok (x : Value) (l : List Int) (w : World) (hx : RdE i64V w x l) (hl : l.length ≤ 1152921504606846976) : Calls Try.prog 21 [x].toArray w (Rt fun r w' => ∃ v rs, r = .tuple [v, .int .i64 (codes l).2].toArray ∧ SlS codeC 2 37 v (codes l).1 rs ∧ Mem w [] w' [rs]) := by
  have hM0 : Mem w [] w [] := Mem.nil w []
  refine calls_vc mixed Try.func21 rfl C21 (by simp [Try.ntmps21]) ?_
  refine seq fun K1 h1 => ?_
  refine stp (v := .slice none 0 0) (o_mv rfl) ?_
  refine stp (v := .int .i64 0) (o_mv rfl) ?_
  refine h1 _ _ ?_
  clear h1
  refine seq fun K2 h2 => ?_
  refine seq fun K3 h3 => ?_
  refine stp (v := x) (o_mv rfl) ?_
  refine stp (v := .int .i64 (l.length : Nat)) (o_lenR (hx.upd hM0.upd) rfl rfl) ?_
  refine stp (v := .bool (decide ((256 : Int) < ((l.length : Nat) : Int)))) (o_bin rfl rfl rfl) ?_
  refine h3 _ _ ?_
  clear h3
  refine cndP rfl (fun c4 => ?_) (fun c4 => ?_)
  ·
    refine seq fun K5 h5 => ?_
    refine stp (v := .slice none 0 0) (o_mv rfl) ?_
    refine stp (v := .int .i64 2) (o_mv rfl) ?_
    refine h5 _ _ ?_
    clear h5
    refine ⟨(.tuple [.slice none 0 0, .int .i64 2].toArray), rfl, ?_⟩
    exact ⟨.slice none 0 0, [], by rw [codes_long (by omega)], by rw [codes_long (by omega)]; exact Sl.nil 2 37, hM0.addNil⟩
  ·
    refine h2 _ _ ?_
    clear h2
    refine seq fun K6 h6 => ?_
    refine seq fun K7 h7 => ?_
    refine stp (v := .int .i64 0) (o_mv rfl) ?_
    refine h7 _ _ ?_
    clear h7
    refine lp (n := fun _ _ => False) (ι := (Nat)) (fun i f w' => f 0 = x ∧ f 4 = .int .i64 (i : Nat) ∧ Mem w [] w' [] ∧ (i ≤ l.length) ∧ (∀ j, j < i → 0 ≤ l.getD j 0 ∧ l.getD j 0 ≤ 15)) (fun i => l.length - i) (0) ?_ ?_
    · exact ⟨rfl, by first | rfl | exact v_int (by omega) | exact v_int (by simp) | exact v_int (by simp; omega), hM0, by omega, by omega⟩
    · rintro i f w8 ⟨e8_0, e8_4, hM8, hi, hp⟩ K9 h9
      obtain ⟨frm, rfl⟩ : ∃ frm, f = (upd (upd frm 0 (x)) 4 (.int .i64 (i : Nat))) := ⟨f, by rw [upd_self e8_0, upd_self e8_4]⟩
      clear e8_0 e8_4
      refine seq fun K10 h10 => ?_
      refine seq fun K11 h11 => ?_
      refine stp (v := .int .i64 (i : Nat)) (o_mv rfl) ?_
      refine stp (v := x) (o_mv rfl) ?_
      refine stp (v := .int .i64 (l.length : Nat)) (o_lenR (hx.upd hM8.upd) rfl rfl) ?_
      refine stp (v := .bool (decide (((i : Nat) : Int) < (l.length : Nat)))) (o_bin rfl rfl rfl) ?_
      refine h11 _ _ ?_
      clear h11
      refine cndP rfl (fun c12 => ?_) (fun c12 => ?_)
      ·
        refine h10 _ _ ?_
        clear h10
        refine seq fun K13 h13 => ?_
        refine seq fun K14 h14 => ?_
        refine stp (v := x) (o_mv rfl) ?_
        refine stp (v := .int .i64 (i : Nat)) (o_mv rfl) ?_
        refine m_idxE 0 (j := i) (hx.upd hM8.upd) rfl rfl (by omega) fun b15 o15 hp15 => ?_
        refine ld (v := .int .i64 (l.getD i 0)) rfl (hp15) ?_
        refine stp (v := .bool (decide ((l.getD i 0) < 0))) (o_bin rfl rfl rfl) ?_
        refine stp (v := .bool (decide ((l.getD i 0) < 0))) (o_mv rfl) ?_
        refine splitP rfl (fun c16 => ?_) (fun c16 => ?_)
        ·
          refine gno rfl (by simp) ?_
          refine gno rfl (by simp) ?_
          refine gno rfl (by simp) ?_
          refine gnol rfl (by simp) ?_
          refine gno rfl (by simp) ?_
          refine stp (v := .bool true) (o_pickT rfl rfl) ?_
          refine h14 _ _ ?_
          clear h14
          refine cndT rfl ?_
          refine seq fun K17 h17 => ?_
          refine stp (v := .slice none 0 0) (o_mv rfl) ?_
          refine stp (v := .int .i64 3) (o_mv rfl) ?_
          refine h17 _ _ ?_
          clear h17
          refine ⟨(.tuple [.slice none 0 0, .int .i64 3].toArray), rfl, ?_⟩
          exact ⟨.slice none 0 0, [], by rw [codes_bad (by omega) (inB_no (i := i) (by omega) (by omega))], by rw [codes_bad (by omega) (inB_no (i := i) (by omega) (by omega))]; exact Sl.nil 2 37, hM8.addNil⟩
        ·
          refine stg rfl (v := x) (o_mv rfl) ?_
          refine stg rfl (v := .int .i64 (i : Nat)) (o_mv rfl) ?_
          refine gyes rfl rfl (m_idxE 0 (j := i) (hx.upd hM8.upd) rfl rfl (by omega) fun b18 o18 hp18 => ?_)
          refine gyesl rfl ?_
          refine ld (v := .int .i64 (l.getD i 0)) rfl (hp18) ?_
          refine stg rfl (v := .bool (decide ((15 : Int) < (l.getD i 0)))) (o_bin rfl rfl rfl) ?_
          refine stp (v := .bool (decide ((15 : Int) < (l.getD i 0)))) (o_pickF rfl rfl) ?_
          refine h14 _ _ ?_
          clear h14
          refine cndP rfl (fun c19 => ?_) (fun c19 => ?_)
          ·
            refine seq fun K20 h20 => ?_
            refine stp (v := .slice none 0 0) (o_mv rfl) ?_
            refine stp (v := .int .i64 3) (o_mv rfl) ?_
            refine h20 _ _ ?_
            clear h20
            refine ⟨(.tuple [.slice none 0 0, .int .i64 3].toArray), rfl, ?_⟩
            exact ⟨.slice none 0 0, [], by rw [codes_bad (by omega) (inB_no (i := i) (by omega) (by omega))], by rw [codes_bad (by omega) (inB_no (i := i) (by omega) (by omega))]; exact Sl.nil 2 37, hM8.addNil⟩
          ·
            refine h13 _ _ ?_
            clear h13
            refine stp (v := .int .i64 (i : Nat)) (o_mv rfl) ?_
            refine stp (v := .int .i64 ((i : Nat) + 1)) (o_bin rfl rfl (v_add64 (by constructor <;> omega))) ?_
            refine stp (v := .int .i64 ((i : Nat) + 1)) (o_mv rfl) ?_
            refine h9 (i + 1) _ _ ⟨rfl, by first | rfl | exact v_int (by omega) | exact v_int (by simp) | exact v_int (by simp; omega), hM8, by omega, all_succ hp (by omega)⟩ (by (try dsimp only); omega)
      ·
        refine h6 _ _ ?_
        clear h6
        refine seq fun K21 h21 => ?_
        refine seq fun K22 h22 => ?_
        have k2 : inB 0 15 l = true := inB_iff.2 (fun j hj => hp j (by omega))
        have kk := kr_used k2
        refine stp (v := x) (o_mv rfl) ?_
        refine m_call (Kraft_ok _ l w8 (hx.upd hM8.upd) (by assumption) (by first | omega | (simp; done) | (simp; omega))) rfl fun v23 w23 ⟨hr23, hu23⟩ => ?_
        have hM23 : Mem w [] w23 [] := hM8.pure hu23
        subst hr23
        refine stp (v := .bool (decide ((32768 : Int) < ((kr l l.length : Nat) : Int)))) (o_bin rfl rfl rfl) ?_
        refine h22 _ _ ?_
        clear h22
        refine cndP rfl (fun c24 => ?_) (fun c24 => ?_)
        ·
          refine seq fun K25 h25 => ?_
          refine stp (v := .slice none 0 0) (o_mv rfl) ?_
          refine stp (v := .int .i64 41) (o_mv rfl) ?_
          refine h25 _ _ ?_
          clear h25
          refine ⟨(.tuple [.slice none 0 0, .int .i64 41].toArray), rfl, ?_⟩
          exact ⟨.slice none 0 0, [], by rw [codes_much (by omega) k2 (by omega)], by rw [codes_much (by omega) k2 (by omega)]; exact Sl.nil 2 37, hM23.addNil⟩
        ·
          refine h21 _ _ ?_
          clear h21
          refine seq fun K26 h26 => ?_
          refine stp (v := x) (o_mv rfl) ?_
          refine stp (v := .int .i64 (l.length : Nat)) (o_lenR (hx.upd hM23.upd) rfl rfl) ?_
          refine m_mksS (enc := codeC) (z := ((0, 0) : Int × Int)) (n := l.length) (c := l.length) (rfl) hM23 rfl rfl (by omega) (by omega) (by omega) fun v27 w27 r27 hs27 (hM27 : Mem w [] w27 [r27]) => ?_
          refine stp (v := v27) (o_mv rfl) ?_
          refine h26 _ _ ?_
          clear h26
          refine seq fun K28 h28 => ?_
          refine stp (v := .int .u32 0) (o_mv rfl) ?_
          refine h28 _ _ ?_
          clear h28
          refine seq fun K29 h29 => ?_
          refine seq fun K30 h30 => ?_
          refine stp (v := .int .i64 1) (o_mv rfl) ?_
          refine h30 _ _ ?_
          clear h30
          refine lp (n := fun _ _ => False) (ι := (Nat) × (Value) × (List Ent)) (fun ⟨n, y, r⟩ f w' => f 0 = x ∧ f 5 = y ∧ f 6 = .int .u32 (firstW l (n - 1) + cntW l (n - 1) : Nat) ∧ f 7 = .int .i64 (n : Nat) ∧ Mem w [] w' [r] ∧ (SlS codeC 2 37 y (partC l n 0) r) ∧ (1 ≤ n ∧ n ≤ 16)) (fun ⟨n, y, r⟩ => 16 - n) (1, v27, r27) ?_ ?_
          · exact ⟨rfl, rfl, rfl, by first | rfl | exact v_int (by omega) | exact v_int (by simp) | exact v_int (by simp; omega), hM27, by rw [part_init]; exact hs27, by omega⟩
          · rintro ⟨n, y, r⟩ f w31 ⟨e31_0, e31_5, e31_6, e31_7, hM31, hs, hn⟩ K32 h32
            obtain ⟨frm, rfl⟩ : ∃ frm, f = (upd (upd (upd (upd frm 0 (x)) 5 (y)) 6 (.int .u32 (firstW l (n - 1) + cntW l (n - 1) : Nat))) 7 (.int .i64 (n : Nat))) := ⟨f, by rw [upd_self e31_0, upd_self e31_5, upd_self e31_6, upd_self e31_7]⟩
            clear e31_0 e31_5 e31_6 e31_7
            refine seq fun K33 h33 => ?_
            refine seq fun K34 h34 => ?_
            refine stp (v := .int .i64 (n : Nat)) (o_mv rfl) ?_
            refine stp (v := .bool (decide (((n : Nat) : Int) ≤ 15))) (o_bin rfl rfl rfl) ?_
            refine h34 _ _ ?_
            clear h34
            refine cndP rfl (fun c35 => ?_) (fun c35 => ?_)
            ·
              refine h33 _ _ ?_
              clear h33
              refine seq fun K36 h36 => ?_
              refine seq fun K37 h37 => ?_
              refine stp (v := .int .u32 (firstW l (n - 1) + cntW l (n - 1) : Nat)) (o_mv rfl) ?_
              refine stp (v := .int .u32 (firstW l n : Nat)) (o_bin rfl rfl (first_mul (by omega) (by omega) (by omega))) ?_
              refine stp (v := .int .u32 (firstW l n : Nat)) (o_mv rfl) ?_
              refine h37 _ _ ?_
              clear h37
              refine seq fun K38 h38 => ?_
              refine stp (v := .int .i64 0) (o_mv rfl) ?_
              refine h38 _ _ ?_
              clear h38
              refine lp (n := fun _ _ => False) (ι := (Nat) × (Value) × (List Ent)) (fun ⟨i, y, r⟩ f w' => f 0 = x ∧ f 5 = y ∧ f 6 = .int .u32 (firstW l n + (symN l n i).length : Nat) ∧ f 7 = .int .i64 (n : Nat) ∧ f 8 = .int .i64 (i : Nat) ∧ Mem w [] w' [r] ∧ (SlS codeC 2 37 y (partC l n i) r) ∧ (i ≤ l.length)) (fun ⟨i, y, r⟩ => l.length - i) (0, y, r) ?_ ?_
              · exact ⟨rfl, rfl, rfl, by first | rfl | exact v_int (by omega) | exact v_int (by simp) | exact v_int (by simp; omega), by first | rfl | exact v_int (by omega) | exact v_int (by simp) | exact v_int (by simp; omega), hM31, hs, by omega⟩
              · rintro ⟨i, y, r⟩ f w39 ⟨e39_0, e39_5, e39_6, e39_7, e39_8, hM39, hs2, hi⟩ K40 h40
                obtain ⟨frm, rfl⟩ : ∃ frm, f = (upd (upd (upd (upd (upd frm 0 (x)) 5 (y)) 6 (.int .u32 (firstW l n + (symN l n i).length : Nat))) 7 (.int .i64 (n : Nat))) 8 (.int .i64 (i : Nat))) := ⟨f, by rw [upd_self e39_0, upd_self e39_5, upd_self e39_6, upd_self e39_7, upd_self e39_8]⟩
                clear e39_0 e39_5 e39_6 e39_7 e39_8
                refine seq fun K41 h41 => ?_
                refine seq fun K42 h42 => ?_
                refine stp (v := .int .i64 (i : Nat)) (o_mv rfl) ?_
                refine stp (v := x) (o_mv rfl) ?_
                refine stp (v := .int .i64 (l.length : Nat)) (o_lenR (hx.upd hM39.upd) rfl rfl) ?_
                refine stp (v := .bool (decide (((i : Nat) : Int) < (l.length : Nat)))) (o_bin rfl rfl rfl) ?_
                refine h42 _ _ ?_
                clear h42
                refine cndP rfl (fun c43 => ?_) (fun c43 => ?_)
                ·
                  refine h41 _ _ ?_
                  clear h41
                  refine seq fun K44 h44 => ?_
                  refine seq fun K45 h45 => ?_
                  refine stp (v := x) (o_mv rfl) ?_
                  refine stp (v := .int .i64 (i : Nat)) (o_mv rfl) ?_
                  refine m_idxE 0 (j := i) (hx.upd hM39.upd) rfl rfl (by omega) fun b46 o46 hp46 => ?_
                  refine ld (v := .int .i64 (l.getD i 0)) rfl (hp46) ?_
                  refine stp (v := .int .i64 (n : Nat)) (o_mv rfl) ?_
                  refine stp (v := .bool (decide ((l.getD i 0) = (n : Nat)))) (o_bin rfl rfl rfl) ?_
                  refine h45 _ _ ?_
                  clear h45
                  refine cndP rfl (fun c47 => ?_) (fun c47 => ?_)
                  ·
                    refine seq fun K48 h48 => ?_
                    refine stp (v := y) (o_mv rfl) ?_
                    refine stp (v := .int .i64 (i : Nat)) (o_mv rfl) ?_
                    refine stp (v := .int .i64 (n : Nat)) (o_mv rfl) ?_
                    refine stp (v := .int .u32 (firstW l n + (symN l n i).length : Nat)) (o_mv rfl) ?_
                    refine stp (v := .agg ([.int .i64 (n : Nat), .int .u32 (firstW l n + (symN l n i).length : Nat)] : List Value).toArray) (o_bld rfl rfl) ?_
                    refine m_setS (enc := codeC) ((0, 0) : Int × Int) (q := codeAt l i) (j := i) hM39 (i := 0) rfl hs2 rfl rfl (by rw [partC_length]; omega) (by simp) (code_cells (by assumption) (by omega)) fun w49 r49 u49 he49 hs49 (hM49 : Mem w [] w49 [r49]) => ?_
                    refine h48 _ _ ?_
                    clear h48
                    refine stp (v := .int .u32 (firstW l n + (symN l n i).length : Nat)) (o_mv rfl) ?_
                    refine stp (v := .int .u32 (firstW l n + (symN l n (i + 1)).length : Nat)) (o_bin rfl rfl (word_add (by assumption) (by omega) (by omega) (by omega))) ?_
                    refine stp (v := .int .u32 (firstW l n + (symN l n (i + 1)).length : Nat)) (o_mv rfl) ?_
                    refine h44 _ _ ?_
                    clear h44
                    refine stp (v := .int .i64 (i : Nat)) (o_mv rfl) ?_
                    refine stp (v := .int .i64 ((i : Nat) + 1)) (o_bin rfl rfl (v_add64 (by constructor <;> omega))) ?_
                    refine stp (v := .int .i64 ((i : Nat) + 1)) (o_mv rfl) ?_
                    refine h40 (i + 1, y, r49) _ _ ⟨rfl, rfl, by first | rfl | exact v_int (by rw [symN_no (by assumption)]), by first | rfl | exact v_int (by omega) | exact v_int (by simp) | exact v_int (by simp; omega), by first | rfl | exact v_int (by omega) | exact v_int (by simp) | exact v_int (by simp; omega), hM49, by rw [← part_set (by omega) (by assumption) (by omega)]; exact hs49, by omega⟩ (by (try dsimp only); omega)
                  ·
                    refine h44 _ _ ?_
                    clear h44
                    refine stp (v := .int .i64 (i : Nat)) (o_mv rfl) ?_
                    refine stp (v := .int .i64 ((i : Nat) + 1)) (o_bin rfl rfl (v_add64 (by constructor <;> omega))) ?_
                    refine stp (v := .int .i64 ((i : Nat) + 1)) (o_mv rfl) ?_
                    refine h40 (i + 1, y, r) _ _ ⟨rfl, rfl, by first | rfl | exact v_int (by rw [symN_no (by assumption)]), by first | rfl | exact v_int (by omega) | exact v_int (by simp) | exact v_int (by simp; omega), by first | rfl | exact v_int (by omega) | exact v_int (by simp) | exact v_int (by simp; omega), hM39, by rw [part_skip (by assumption)]; exact hs2, by omega⟩ (by (try dsimp only); omega)
                ·
                  refine h36 _ _ ?_
                  clear h36
                  refine stp (v := .int .i64 (n : Nat)) (o_mv rfl) ?_
                  refine stp (v := .int .i64 ((n : Nat) + 1)) (o_bin rfl rfl (v_add64 (by constructor <;> omega))) ?_
                  refine stp (v := .int .i64 ((n : Nat) + 1)) (o_mv rfl) ?_
                  refine h32 (n + 1, y, r) _ _ ⟨rfl, rfl, v_int (by (obtain rfl : i = l.length := by omega); show _ = ((firstW l n + cntW l n : Nat) : Int); unfold cntW; rw [if_neg (by omega)]), by first | rfl | exact v_int (by omega) | exact v_int (by simp) | exact v_int (by simp; omega), hM39, by (obtain rfl : i = l.length := by omega); rw [part_next]; exact hs2, by omega⟩ (by (try dsimp only); omega)
            ·
              refine h29 _ _ ?_
              clear h29
              refine seq fun K50 h50 => ?_
              refine stp (v := y) (o_mv rfl) ?_
              refine stp (v := y) (o_mv rfl) ?_
              refine stp (v := .int .i64 0) (o_mv rfl) ?_
              refine h50 _ _ ?_
              clear h50
              refine ⟨(.tuple [y, .int .i64 0].toArray), rfl, ?_⟩
              have e : n = 16 := by omega
              subst e
              exact ⟨_, _, by rw [codes_ok (by omega) k2 (by omega)], by rw [codes_ok (by omega) k2 (by omega), ← part_end k2]; exact hs, hM31⟩
