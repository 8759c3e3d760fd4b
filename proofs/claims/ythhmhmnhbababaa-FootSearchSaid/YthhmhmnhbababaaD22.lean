/- Footers: nothing is lost by Find. -/
import Derived.Test.YthhmhmnhbababaaD21
namespace Go.Proofs.Ythhmhmnhbababaa.E
open Go
/-- a list of texts, as it lies in a list -/
structure Sb where
  ad : Option Addr
  ln : Nat
  cp : Nat
  l : List (List UInt8)
abbrev Sb.v (s : Sb) : Value := .slice s.ad s.ln s.cp
def sbC (s : Sb) : List Value := [.slice s.ad s.ln s.cp]
instance : Enc sbC 1 := ⟨fun _ => rfl, by omega, fun c => by intro v hv; simp only [sbC, List.mem_cons, List.not_mem_nil, or_false] at hv; rcases hv with rfl; rfl⟩
def sb0 : Sb := ⟨none, 0, 0, []⟩
structure Sb.ok (s : Sb) (w : World) : Prop where
  rd : RdE strV w s.v s.l
  hl : s.l.length ≤ 8796093022207
  hk : ∀ k ∈ s.l, k.length ≤ 140737488351232
theorem cmp_self (a : List UInt8) : cmp a a = 0 := (cmp_zero a a).2 rfl
theorem cmp_take (n : Nat) : ∀ {a b : List UInt8}, cmp a b ≤ 0 → cmp (a.take n) (b.take n) ≤ 0 := by
  induction n with
  | zero => intro a b _; simp [cmp]
  | succ n ih =>
    intro a b h
    cases a with
    | nil => cases b <;> simp [cmp]
    | cons x a =>
      cases b with
      | nil => simp [cmp] at h
      | cons y b =>
        rw [List.take_succ_cons, List.take_succ_cons, cmp]
        rw [cmp] at h
        split
        · omega
        · rename_i h1
          rw [if_neg h1] at h
          split
          · rename_i h2; rw [if_pos h2] at h; omega
          · rename_i h2; rw [if_neg h2] at h; exact ih h
def fB (k : List UInt8) : Bi := ⟨9, 9, 1, k.take 64⟩
/-- keys in order, none above last -/
def SrtF (F : List (List UInt8)) (last : List UInt8) : Prop := (∀ j, j < F.length → cmp (F.getD j []) last ≤ 0) ∧ ∀ a b, a ≤ b → b < F.length → cmp (F.getD a []) (F.getD b []) ≤ 0
theorem getD_snoc {α : Type} (l : List α) (x z : α) (j : Nat) : (l ++ [x]).getD j z = if j < l.length then l.getD j z else if j = l.length then x else z := by
  rw [List.getD_eq_getElem?_getD, List.getD_eq_getElem?_getD]
  split
  · rename_i h; rw [List.getElem?_append_left h]
  · rename_i h
    rw [List.getElem?_append_right (by omega)]
    split
    · rename_i h2; rw [h2]; simp
    · rename_i h2
      rw [List.getElem?_eq_none (by simp; omega)]; rfl
theorem cmp_tr {a b c : List UInt8} (h1 : cmp a b ≤ 0) (h2 : cmp b c ≤ 0) : cmp a c ≤ 0 := (cmp_trans a b c).1 h1 h2
theorem SrtF.step {F : List (List UInt8)} {last k m : List UInt8} (h : SrtF F last) (h1 : cmp last k ≤ 0) (h2 : cmp k m ≤ 0) : SrtF (F ++ [k]) m := by
  refine ⟨fun j hj => ?_, fun a b hab hb => ?_⟩
  · rw [List.length_append, List.length_singleton] at hj
    rw [getD_snoc]
    split
    · rename_i hl; exact cmp_tr (cmp_tr (h.1 j hl) h1) h2
    · rw [if_pos (by omega)]; exact h2
  · rw [List.length_append, List.length_singleton] at hb
    rw [getD_snoc, getD_snoc]
    by_cases c : b < F.length
    · rw [if_pos (by omega), if_pos c]; exact h.2 a b hab c
    · rw [if_neg (show ¬ b < F.length from c), if_pos (show b = F.length by omega)]
      split
      · rename_i hl; exact cmp_tr (h.1 a hl) h1
      · rw [if_pos (by omega), cmp_self]; omega
theorem fB_get (F : List (List UInt8)) (j : Nat) : ((F.map fB).getD j bz).cut = (F.getD j []).take 64 := by
  rw [List.getD_eq_getElem?_getD, List.getD_eq_getElem?_getD, List.getElem?_map]
  cases F[j]? <;> simp [fB, bz]
theorem SrtF.srt {F : List (List UInt8)} {last : List UInt8} (h : SrtF F last) : Srt (F.map fB) := fun a b hab hb => by
  rw [fB_get, fB_get]
  exact cmp_take 64 (h.2 a b hab (by simpa using hb))
theorem bls_of : ∀ (bl : List Bi) (last : List UInt8), (∀ b ∈ bl, blkOk b) → (∀ j, j < bl.length → cmp last (bl.getD j bz).cut ≤ 0) → Srt bl → blsOk last bl
  | [], _, _, _, _ => trivial
  | b :: bl, last, hk, h0, hs => by
    have h00 := h0 0 (by simp)
    have ha := cmp_anti last b.cut
    refine ⟨⟨hk b (by simp), ?_⟩, bls_of bl b.cut (fun c hc => hk c (by simp [hc])) (fun j hj => ?_) (fun p q hpq hq => ?_)⟩
    · have : cmp last b.cut ≤ 0 := h00
      omega
    · exact hs 0 (j + 1) (by omega) (by simpa using hj)
    · exact hs (p + 1) (q + 1) (by omega) (by simpa using hq)
theorem srt_bls {F : List (List UInt8)} {last : List UInt8} (h : SrtF F last) : blsOk [] (F.map fB) := by
  refine bls_of _ _ (fun b hb => ?_) (fun j hj => ?_) h.srt
  · obtain ⟨k, -, rfl⟩ := List.mem_map.1 hb
    unfold blkOk fB
    dsimp only
    refine ⟨by omega, by omega, by omega, by omega, by omega, ?_⟩
    rw [List.length_take]; omega
  · have h1 := cmp_nil ((F.map fB).getD j bz).cut
    have h2 := cmp_anti ((F.map fB).getD j bz).cut []
    omega
theorem cmp_take_lt {a b : List UInt8} (h : cmp (a.take 64) (b.take 64) < 0) : cmp a b < 0 := by
  apply Decidable.byContradiction; intro k
  have h1 := cmp_anti b a
  have h2 := cmp_take 64 (a := b) (b := a) (by omega)
  have h3 := cmp_anti (b.take 64) (a.take 64)
  omega
theorem fB_ok (F : List (List UInt8)) : ∀ b ∈ F.map fB, b.ok := fun b hb => by
  obtain ⟨k, -, rfl⟩ := List.mem_map.1 hb
  refine ⟨by simp only [inK, fB]; omega, by simp only [inK, fB]; omega, by simp only [inK, fB]; omega, ?_⟩
  show (k.take 64).length ≤ _
  rw [List.length_take]; omega
theorem fB_cut {k : List UInt8} (h : k.length ≤ 64) : fB k = ⟨9, 9, 1, k⟩ := by unfold fB; rw [List.take_of_length_le h]
theorem find3 {key : List UInt8} {p : Pr} {i k : Int} (h : FindS 3 key [p] i k) (hp : p.part = 3) : i = 0 ∧ ∃ lo : Nat, FindAt (key.take 64) p.bl lo ∧ k = max ((lo : Nat) - 1 : Int) 0 := by
  rcases h with ⟨n, lo, h1, h2, h3, h4, h5, h6⟩ | ⟨h1, h2, h3⟩
  · have hn : n = 0 := by simp at h2; exact h2
    subst hn
    exact ⟨by omega, lo, h5, h6⟩
  · exact absurd hp (h3 0 (by simp))
theorem find4 {key : List UInt8} {p : Pr} {i k part : Int} (h : FindS part key [p] i k) (hp : ¬ p.part = part) : i = -1 ∧ k = 0 := by
  rcases h with ⟨n, lo, h1, h2, h3, h4, h5, h6⟩ | ⟨h1, h2, h3⟩
  · have hn : n = 0 := by simp at h2; exact h2
    subst hn
    exact absurd h3 hp
  · exact ⟨h1, h2⟩
theorem ft_search {F : List (List UInt8)} {last : List UInt8} (h : SrtF F last) (h0 : ¬ F.length = 0) (hl : F.length ≤ 262144) : chkF 9 [⟨3, F.map fB, true, 0, []⟩] = 0 := by
  refine chkF_0 ⟨by omega, ⟨⟨by dsimp only; omega, by dsimp only; omega, ?_, ?_, srt_bls h⟩, ?_⟩, trivial⟩
  · show ¬ (F.map fB).length = 0
    rw [List.length_map]; exact h0
  · show ¬ fk true 0 [] = 0
    decide
  · show 0 + (F.map fB).length ≤ 262144
    rw [List.length_map]; omega

set_option maxRecDepth 100000 in
/-- winnowlaw8.FootSearch -/
theorem FootSearch_ok (x : Value) (bs : List Sb) (key : List UInt8) (hkl : key.length ≤ 140737488351232) (w : World) (hx : RdS sbC w x bs) (hbs : ∀ s ∈ bs, s.ok w) (hl : bs.length * 24 ≤ 140737488351232) : Calls Try.prog 10 [x, .string (str key)].toArray w (Rt fun r w' => r = .bool true ∧ Upd [] w w') := by
  have hM0 : Mem w [] w [] := Mem.nil w []
  refine calls_vc mixed Try.func10 rfl C10 (by simp [Try.ntmps10]) ?_
  refine seq fun K1 h1 => ?_
  refine stp (v := .bool false) (o_mv rfl) ?_
  refine h1 _ _ ?_
  clear h1
  refine seq fun K2 h2 => ?_
  refine m_al hM0 fun b3 w4 (hM4 : Mem w [] w4 [[⟨b3, 71, [.int .i64 0, .slice none 0 0, .bool false, .int .i64 0, .slice none 0 0]⟩]]) => ?_
  refine h2 _ _ ?_
  clear h2
  refine seq fun K5 h5 => ?_
  refine stp (v := .pointer (some ⟨b3, 0, none⟩)) (o_fa rfl rfl) ?_
  refine m_st (v := .int .i64 3) hM4 (i := 0) rfl rfl rfl rfl (by simp) fun w6 (hM6 : Mem w [] w6 [[⟨b3, 71, [.int .i64 3, .slice none 0 0, .bool false, .int .i64 0, .slice none 0 0]⟩]]) => ?_
  refine h5 _ _ ?_
  clear h5
  refine seq fun K7 h7 => ?_
  refine stp (v := .pointer (some ⟨b3, 2, none⟩)) (o_fa rfl rfl) ?_
  refine stp (v := .pointer (some ⟨b3, 2, none⟩)) (o_fa rfl rfl) ?_
  refine m_st (v := .bool true) hM6 (i := 0) rfl rfl rfl rfl (by simp) fun w8 (hM8 : Mem w [] w8 [[⟨b3, 71, [.int .i64 3, .slice none 0 0, .bool true, .int .i64 0, .slice none 0 0]⟩]]) => ?_
  refine h7 _ _ ?_
  clear h7
  refine seq fun K9 h9 => ?_
  refine stp (v := .string (str ([]))) (o_mv rfl) ?_
  refine h9 _ _ ?_
  clear h9
  refine seq fun K10 h10 => ?_
  refine stp (v := .slice none 0 0) (o_mv rfl) ?_
  refine h10 _ _ ?_
  clear h10
  refine seq fun K11 h11 => ?_
  refine seq fun K12 h12 => ?_
  refine stp (v := .int .i64 0) (o_mv rfl) ?_
  refine h12 _ _ ?_
  clear h12
  refine lp (n := fun _ _ => False) (ι := (Nat) × (List UInt8) × (List (List UInt8)) × (Option Addr) × (Nat) × (Nat) × (List Ent) × (Value) × (List Ent)) (fun ⟨i, last, F, ab, nb, cb, rb, vf, rf⟩ f w' => f 8 = .int .i64 (i : Nat) ∧ f 6 = .string (str last) ∧ f 7 = vf ∧ f 0 = x ∧ f 1 = .string (str key) ∧ f 5 = .pointer (some ⟨b3, 0, none⟩) ∧ Mem w [] w' [[⟨b3, 71, [.int .i64 3, (.slice ab nb cb), .bool true, .int .i64 0, .slice none 0 0]⟩], rb, rf] ∧ (SlS biC 4 74 (.slice ab nb cb) (F.map fB) rb) ∧ (SlE strV 9 vf F rf) ∧ (i ≤ bs.length) ∧ (F.length ≤ i ∧ F.length ≤ 262144) ∧ (SrtF F last) ∧ (last.length ≤ 140737488351232)) (fun ⟨i, last, F, ab, nb, cb, rb, vf, rf⟩ => bs.length - i) (0, [], [], none, 0, 0, [], .slice none 0 0, []) ?_ ?_
  · exact ⟨by first | rfl | exact v_int (by omega) | exact v_int (by simp) | exact v_int (by simp; omega), by first | rfl | simp [upd], rfl, rfl, by first | rfl | simp [upd], rfl, (hM8.addNil.addNil).keep (by simp), Sl.nil 4 74, Sl.nil 1 9, by omega, by simp, ⟨fun j hj => by simp at hj, fun a b _ hb => by simp at hb⟩, by simp⟩
  · rintro ⟨i, last, F, ab, nb, cb, rb, vf, rf⟩ f w13 ⟨e13_8, e13_6, e13_7, e13_0, e13_1, e13_5, hM13, hvb, hvf, hi, hFi, hS, hlk⟩ K14 h14
    obtain ⟨frm, rfl⟩ : ∃ frm, f = (upd (upd (upd (upd (upd (upd frm 8 (.int .i64 (i : Nat))) 6 (.string (str last))) 7 (vf)) 0 (x)) 1 (.string (str key))) 5 (.pointer (some ⟨b3, 0, none⟩))) := ⟨f, by rw [upd_self e13_8, upd_self e13_6, upd_self e13_7, upd_self e13_0, upd_self e13_1, upd_self e13_5]⟩
    clear e13_8 e13_6 e13_7 e13_0 e13_1 e13_5
    refine seq fun K15 h15 => ?_
    refine seq fun K16 h16 => ?_
    refine stp (v := .int .i64 (i : Nat)) (o_mv rfl) ?_
    refine stp (v := x) (o_mv rfl) ?_
    refine stp (v := .int .i64 (bs.length : Nat)) (o_lenR (hx.upd hM13.upd) rfl rfl) ?_
    refine stp (v := .bool (decide (((i : Nat) : Int) < (bs.length : Nat)))) (o_bin rfl rfl rfl) ?_
    refine stp (v := .bool (decide (((i : Nat) : Int) < (bs.length : Nat)))) (o_mv rfl) ?_
    refine splitP rfl (fun c17 => ?_) (fun c17 => ?_)
    ·
      refine stg rfl (v := .int .i64 (i : Nat)) (o_mv rfl) ?_
      refine stg rfl (v := .bool (decide (((i : Nat) : Int) < 262144))) (o_bin rfl rfl rfl) ?_
      refine stp (v := .bool (decide (((i : Nat) : Int) < 262144))) (o_pickT rfl rfl) ?_
      refine h16 _ _ ?_
      clear h16
      refine cndP rfl (fun c18 => ?_) (fun c18 => ?_)
      ·
        refine h15 _ _ ?_
        clear h15
        refine seq fun K19 h19 => ?_
        refine seq fun K20 h20 => ?_
        refine seq fun K21 h21 => ?_
        refine stp (v := x) (o_mv rfl) ?_
        refine stp (v := .int .i64 (i : Nat)) (o_mv rfl) ?_
        refine m_idxS sb0 (j := i) (hx.upd hM13.upd) rfl rfl (by omega) fun b22 o22 hp22 => ?_
        refine ld (v := (bs.getD i sb0).v) rfl (hp22.get 0 rfl) ?_
        refine stp (v := .int .i64 (((bs.getD i sb0).l).length : Nat)) (o_lenR ((hbs _ (getD_memG sb0 (l := bs) (i := i) (by omega))).rd.upd hM13.upd) rfl rfl) ?_
        refine stp (v := .bool (decide (((((bs.getD i sb0).l).length : Nat) : Int) = 0))) (o_bin rfl rfl rfl) ?_
        refine h21 _ _ ?_
        clear h21
        refine cndP rfl (fun c23 => ?_) (fun c23 => ?_)
        ·
          refine h19 _ _ ?_
          clear h19
          refine stp (v := .int .i64 (i : Nat)) (o_mv rfl) ?_
          refine stp (v := .int .i64 ((i : Nat) + 1)) (o_bin rfl rfl (v_add64 (by constructor <;> omega))) ?_
          refine stp (v := .int .i64 ((i : Nat) + 1)) (o_mv rfl) ?_
          refine h14 (i + 1, last, F, ab, nb, cb, rb, vf, rf) _ _ ⟨by first | rfl | exact v_int (by omega) | exact v_int (by simp) | exact v_int (by simp; omega), by first | rfl | simp [upd], rfl, rfl, by first | rfl | simp [upd], rfl, hM13, hvb, hvf, by omega, by omega, hS, hlk⟩ (by (try dsimp only); omega)
        ·
          refine h20 _ _ ?_
          clear h20
          refine seq fun K24 h24 => ?_
          refine stp (v := x) (o_mv rfl) ?_
          refine stp (v := .int .i64 (i : Nat)) (o_mv rfl) ?_
          refine m_idxS sb0 (j := i) (hx.upd hM13.upd) rfl rfl (by omega) fun b25 o25 hp25 => ?_
          refine ld (v := (bs.getD i sb0).v) rfl (hp25.get 0 rfl) ?_
          refine m_idxE [] (j := 0) ((hbs _ (getD_memG sb0 (l := bs) (i := i) (by omega))).rd.upd hM13.upd) rfl rfl (by omega) fun b26 o26 hp26 => ?_
          refine ld (v := .string (str (((bs.getD i sb0).l).getD 0 []))) rfl (hp26) ?_
          refine stp (v := .string (str (((bs.getD i sb0).l).getD 0 []))) (o_mv rfl) ?_
          refine h24 _ _ ?_
          clear h24
          refine seq fun K27 h27 => ?_
          refine seq fun K28 h28 => ?_
          have hsi := hbs _ (getD_memG sb0 (l := bs) (i := i) (by omega))
          have hsl := hsi.hl
          have hk0 := hsi.hk _ (getD_memG [] (l := (bs.getD i sb0).l) (i := 0) (by omega))
          refine stp (v := .string (str (((bs.getD i sb0).l).getD 0 []))) (o_mv rfl) ?_
          refine stp (v := .string (str last)) (o_mv rfl) ?_
          refine stp (v := .bool (Op.bytesLess (((bs.getD i sb0).l).getD 0 []) last)) (o_slss rfl rfl rfl) ?_
          refine h28 _ _ ?_
          clear h28
          refine cnd rfl (fun hkT => ?_) (fun hkF => ?_)
          ·
            refine stp (v := .string (str last)) (o_mv rfl) ?_
            refine stp (v := .string (str last)) (o_mv rfl) ?_
            refine h27 _ _ ?_
            clear h27
            refine seq fun K30 h30 => ?_
            refine stp (v := .string (str last)) (o_mv rfl) ?_
            refine stp (v := .string (str last)) (o_mv rfl) ?_
            refine h30 _ _ ?_
            clear h30
            refine seq fun K31 h31 => ?_
            refine seq fun K32 h32 => ?_
            refine stp (v := .string (str last)) (o_mv rfl) ?_
            refine stp (v := .int .i64 (last.length : Nat)) (o_lens rfl rfl) ?_
            refine stp (v := .bool (decide ((64 : Int) < ((last.length : Nat) : Int)))) (o_bin rfl rfl rfl) ?_
            refine h32 _ _ ?_
            clear h32
            refine cndP rfl (fun c33 => ?_) (fun c33 => ?_)
            ·
              refine stp (v := .string (str last)) (o_mv rfl) ?_
              refine stp (v := .string (str ((last.take 64).drop 0))) (o_slcs (a := 0) (b := 64) rfl (by omega) ⟨_, rfl⟩ rfl rfl) ?_
              refine stp (v := .string (str ((last.take 64).drop 0))) (o_mv rfl) ?_
              refine h31 _ _ ?_
              clear h31
              refine seq fun K34 h34 => ?_
              refine stp (v := .pointer (some ⟨b3, 1, none⟩)) (o_fa rfl rfl) ?_
              refine m_ld (v := (.slice ab nb cb)) hM13 (i := 0) (j := 0) rfl rfl rfl rfl ?_
              refine stp (v := .string (str ((last.take 64).drop 0))) (o_mv rfl) ?_
              refine stp (v := .agg ([.int .i64 9, .int .i64 9, .int .i64 1, .string (str ((last.take 64).drop 0))] : List Value).toArray) (o_bld rfl rfl) ?_
              refine m_app1S (enc := biC) (q := (⟨9, 9, 1, (last.take 64).drop 0⟩ : Bi)) hM13 (i := 1) rfl hvb rfl (by simp) (rfl) rfl (by first | omega | (simp; omega)) (by omega) fun v35 w35 r35 u35 (hs35 : SlS biC 4 74 v35 ((F.map fB) ++ [(⟨9, 9, 1, (last.take 64).drop 0⟩ : Bi)]) r35) (hM35 : Mem w [] w35 [[⟨b3, 71, [.int .i64 3, (.slice ab nb cb), .bool true, .int .i64 0, .slice none 0 0]⟩], r35, rf]) => ?_
              obtain ⟨ab9, nb9, cb9, he9⟩ := hs35.isSlice
              refine stp (v := .pointer (some ⟨b3, 1, none⟩)) (o_fa rfl rfl) ?_
              refine m_st (v := v35) hM35 (i := 0) rfl rfl rfl (Sl.one hs35) (by simp) fun w36 (hM36 : Mem w [] w36 [[⟨b3, 71, [.int .i64 3, v35, .bool true, .int .i64 0, .slice none 0 0]⟩], r35, rf]) => ?_
              refine h34 _ _ ?_
              clear h34
              refine seq fun K37 h37 => ?_
              refine stp (v := vf) (o_mv rfl) ?_
              refine stp (v := .string (str last)) (o_mv rfl) ?_
              refine m_app1 (E := strV) (q := last) hM36 (i := 2) rfl hvf rfl (by simp) (rfl) (by omega) (by omega) fun v38 w38 r38 u38 (hs38 : SlE strV 9 v38 (F ++ [last]) r38) (hM38 : Mem w [] w38 [[⟨b3, 71, [.int .i64 3, v35, .bool true, .int .i64 0, .slice none 0 0]⟩], r35, r38]) => ?_
              refine stp (v := v38) (o_mv rfl) ?_
              refine h37 _ _ ?_
              clear h37
              refine seq fun K39 h39 => ?_
              refine seq fun K40 h40 => ?_
              refine stp (v := .int .i64 0) (o_mv rfl) ?_
              refine h40 _ _ ?_
              clear h40
              refine lp (n := fun _ _ => False) (ι := (Nat) × (List UInt8)) (fun ⟨j, m⟩ f w' => f 11 = .int .i64 (j : Nat) ∧ f 6 = .string (str m) ∧ f 0 = x ∧ f 1 = .string (str key) ∧ f 5 = .pointer (some ⟨b3, 0, none⟩) ∧ f 7 = v38 ∧ f 8 = .int .i64 (i : Nat) ∧ f 9 = .string (str last) ∧ Mem w [] w' [[⟨b3, 71, [.int .i64 3, v35, .bool true, .int .i64 0, .slice none 0 0]⟩], r35, r38] ∧ (j ≤ (bs.getD i sb0).l.length) ∧ (cmp last m ≤ 0) ∧ (m.length ≤ 140737488351232)) (fun ⟨j, m⟩ => (bs.getD i sb0).l.length - j) (0, last) ?_ ?_
              · exact ⟨by first | rfl | exact v_int (by omega) | exact v_int (by simp) | exact v_int (by simp; omega), by first | rfl | simp [upd], rfl, by first | rfl | simp [upd], rfl, rfl, by first | rfl | exact v_int (by omega) | exact v_int (by simp) | exact v_int (by simp; omega), by first | rfl | simp [upd], hM38, by omega, by rw [cmp_self]; omega, hlk⟩
              · rintro ⟨j, m⟩ f w41 ⟨e41_11, e41_6, e41_0, e41_1, e41_5, e41_7, e41_8, e41_9, hM41, hj, hlm, hmk⟩ K42 h42
                obtain ⟨frm, rfl⟩ : ∃ frm, f = (upd (upd (upd (upd (upd (upd (upd (upd frm 11 (.int .i64 (j : Nat))) 6 (.string (str m))) 0 (x)) 1 (.string (str key))) 5 (.pointer (some ⟨b3, 0, none⟩))) 7 (v38)) 8 (.int .i64 (i : Nat))) 9 (.string (str last))) := ⟨f, by rw [upd_self e41_11, upd_self e41_6, upd_self e41_0, upd_self e41_1, upd_self e41_5, upd_self e41_7, upd_self e41_8, upd_self e41_9]⟩
                clear e41_11 e41_6 e41_0 e41_1 e41_5 e41_7 e41_8 e41_9
                refine seq fun K43 h43 => ?_
                refine seq fun K44 h44 => ?_
                refine stp (v := .int .i64 (j : Nat)) (o_mv rfl) ?_
                refine stp (v := x) (o_mv rfl) ?_
                refine stp (v := .int .i64 (i : Nat)) (o_mv rfl) ?_
                refine m_idxS sb0 (j := i) (hx.upd hM41.upd) rfl rfl (by omega) fun b45 o45 hp45 => ?_
                refine ld (v := (bs.getD i sb0).v) rfl (hp45.get 0 rfl) ?_
                refine stp (v := .int .i64 (((bs.getD i sb0).l).length : Nat)) (o_lenR ((hbs _ (getD_memG sb0 (l := bs) (i := i) (by omega))).rd.upd hM41.upd) rfl rfl) ?_
                refine stp (v := .bool (decide (((j : Nat) : Int) < (((bs.getD i sb0).l).length : Nat)))) (o_bin rfl rfl rfl) ?_
                refine h44 _ _ ?_
                clear h44
                refine cndP rfl (fun c46 => ?_) (fun c46 => ?_)
                ·
                  refine h43 _ _ ?_
                  clear h43
                  refine seq fun K47 h47 => ?_
                  refine seq fun K48 h48 => ?_
                  refine stp (v := x) (o_mv rfl) ?_
                  refine stp (v := .int .i64 (i : Nat)) (o_mv rfl) ?_
                  refine m_idxS sb0 (j := i) (hx.upd hM41.upd) rfl rfl (by omega) fun b49 o49 hp49 => ?_
                  refine ld (v := (bs.getD i sb0).v) rfl (hp49.get 0 rfl) ?_
                  refine stp (v := .int .i64 (j : Nat)) (o_mv rfl) ?_
                  refine m_idxE [] (j := j) ((hbs _ (getD_memG sb0 (l := bs) (i := i) (by omega))).rd.upd hM41.upd) rfl rfl (by omega) fun b50 o50 hp50 => ?_
                  refine ld (v := .string (str (((bs.getD i sb0).l).getD j []))) rfl (hp50) ?_
                  refine stp (v := .string (str m)) (o_mv rfl) ?_
                  refine stp (v := .bool (Op.bytesLess m (((bs.getD i sb0).l).getD j []))) (o_sgtr rfl rfl rfl) ?_
                  refine h48 _ _ ?_
                  clear h48
                  refine cnd rfl (fun hmT => ?_) (fun hmF => ?_)
                  ·
                    refine stp (v := x) (o_mv rfl) ?_
                    refine stp (v := .int .i64 (i : Nat)) (o_mv rfl) ?_
                    refine m_idxS sb0 (j := i) (hx.upd hM41.upd) rfl rfl (by omega) fun b52 o52 hp52 => ?_
                    refine ld (v := (bs.getD i sb0).v) rfl (hp52.get 0 rfl) ?_
                    refine stp (v := .int .i64 (j : Nat)) (o_mv rfl) ?_
                    refine m_idxE [] (j := j) ((hbs _ (getD_memG sb0 (l := bs) (i := i) (by omega))).rd.upd hM41.upd) rfl rfl (by omega) fun b53 o53 hp53 => ?_
                    refine ld (v := .string (str (((bs.getD i sb0).l).getD j []))) rfl (hp53) ?_
                    refine stp (v := .string (str (((bs.getD i sb0).l).getD j []))) (o_mv rfl) ?_
                    refine h47 _ _ ?_
                    clear h47
                    refine stp (v := .int .i64 (j : Nat)) (o_mv rfl) ?_
                    refine stp (v := .int .i64 ((j : Nat) + 1)) (o_bin rfl rfl (v_add64 (by constructor <;> omega))) ?_
                    refine stp (v := .int .i64 ((j : Nat) + 1)) (o_mv rfl) ?_
                    refine h42 (j + 1, (bs.getD i sb0).l.getD j []) _ _ ⟨by first | rfl | exact v_int (by omega) | exact v_int (by simp) | exact v_int (by simp; omega), by first | rfl | simp [upd], rfl, by first | rfl | simp [upd], rfl, rfl, by first | rfl | exact v_int (by omega) | exact v_int (by simp) | exact v_int (by simp; omega), by first | rfl | simp [upd], hM41, by omega, by rw [less_cmp, decide_eq_true_iff] at hmT; exact cmp_tr hlm (by omega), hsi.hk _ (getD_memG [] (l := (bs.getD i sb0).l) (i := j) (by omega))⟩ (by (try dsimp only); omega)
                  ·
                    refine h47 _ _ ?_
                    clear h47
                    refine stp (v := .int .i64 (j : Nat)) (o_mv rfl) ?_
                    refine stp (v := .int .i64 ((j : Nat) + 1)) (o_bin rfl rfl (v_add64 (by constructor <;> omega))) ?_
                    refine stp (v := .int .i64 ((j : Nat) + 1)) (o_mv rfl) ?_
                    refine h42 (j + 1, m) _ _ ⟨by first | rfl | exact v_int (by omega) | exact v_int (by simp) | exact v_int (by simp; omega), by first | rfl | simp [upd], rfl, by first | rfl | simp [upd], rfl, rfl, by first | rfl | exact v_int (by omega) | exact v_int (by simp) | exact v_int (by simp; omega), by first | rfl | simp [upd], hM41, by omega, hlm, hmk⟩ (by (try dsimp only); omega)
                ·
                  refine h39 _ _ ?_
                  clear h39
                  refine seq fun K54 h54 => ?_
                  refine stp (v := .string (str last)) (o_mv rfl) ?_
                  refine stp (v := .string (str m)) (o_mv rfl) ?_
                  refine stp (v := .bool (Op.bytesLess m last)) (o_sgtr rfl rfl rfl) ?_
                  refine h54 _ _ ?_
                  clear h54
                  refine cnd rfl (fun hqT => ?_) (fun hqF => ?_)
                  ·
                    refine stp (v := .string (str last)) (o_mv rfl) ?_
                    refine stp (v := .string (str last)) (o_mv rfl) ?_
                    refine h19 _ _ ?_
                    clear h19
                    refine stp (v := .int .i64 (i : Nat)) (o_mv rfl) ?_
                    refine stp (v := .int .i64 ((i : Nat) + 1)) (o_bin rfl rfl (v_add64 (by constructor <;> omega))) ?_
                    refine stp (v := .int .i64 ((i : Nat) + 1)) (o_mv rfl) ?_
                    refine h14 (i + 1, last, F ++ [last], ab9, nb9, cb9, r35, v38, r38) _ _ ⟨by first | rfl | exact v_int (by omega) | exact v_int (by simp) | exact v_int (by simp; omega), by first | rfl | simp [upd], rfl, rfl, by first | rfl | simp [upd], rfl, (by rw [← he9]; exact hM41.keep (by simp)), by rw [← he9]; exact SlS.eqL hs35 (by rw [List.map_append, List.map_singleton]; first | rfl | rw [fB_cut (by omega)]), hs38, by omega, by rw [List.length_append, List.length_singleton]; omega, hS.step (by rw [cmp_self]; omega) (by rw [cmp_self]; omega), hlk⟩ (by (try dsimp only); omega)
                  ·
                    refine h19 _ _ ?_
                    clear h19
                    refine stp (v := .int .i64 (i : Nat)) (o_mv rfl) ?_
                    refine stp (v := .int .i64 ((i : Nat) + 1)) (o_bin rfl rfl (v_add64 (by constructor <;> omega))) ?_
                    refine stp (v := .int .i64 ((i : Nat) + 1)) (o_mv rfl) ?_
                    refine h14 (i + 1, m, F ++ [last], ab9, nb9, cb9, r35, v38, r38) _ _ ⟨by first | rfl | exact v_int (by omega) | exact v_int (by simp) | exact v_int (by simp; omega), by first | rfl | simp [upd], rfl, rfl, by first | rfl | simp [upd], rfl, (by rw [← he9]; exact hM41.keep (by simp)), by rw [← he9]; exact SlS.eqL hs35 (by rw [List.map_append, List.map_singleton]; first | rfl | rw [fB_cut (by omega)]), hs38, by omega, by rw [List.length_append, List.length_singleton]; omega, hS.step (by rw [cmp_self]; omega) (by rw [less_cmp, decide_eq_false_iff_not] at hqF; have := cmp_anti last m; omega), hmk⟩ (by (try dsimp only); omega)
            ·
              refine h31 _ _ ?_
              clear h31
              refine seq fun K56 h56 => ?_
              refine stp (v := .pointer (some ⟨b3, 1, none⟩)) (o_fa rfl rfl) ?_
              refine m_ld (v := (.slice ab nb cb)) hM13 (i := 0) (j := 0) rfl rfl rfl rfl ?_
              refine stp (v := .string (str last)) (o_mv rfl) ?_
              refine stp (v := .agg ([.int .i64 9, .int .i64 9, .int .i64 1, .string (str last)] : List Value).toArray) (o_bld rfl rfl) ?_
              refine m_app1S (enc := biC) (q := (⟨9, 9, 1, last⟩ : Bi)) hM13 (i := 1) rfl hvb rfl (by simp) (rfl) rfl (by first | omega | (simp; omega)) (by omega) fun v57 w57 r57 u57 (hs57 : SlS biC 4 74 v57 ((F.map fB) ++ [(⟨9, 9, 1, last⟩ : Bi)]) r57) (hM57 : Mem w [] w57 [[⟨b3, 71, [.int .i64 3, (.slice ab nb cb), .bool true, .int .i64 0, .slice none 0 0]⟩], r57, rf]) => ?_
              obtain ⟨ab9, nb9, cb9, he9⟩ := hs57.isSlice
              refine stp (v := .pointer (some ⟨b3, 1, none⟩)) (o_fa rfl rfl) ?_
              refine m_st (v := v57) hM57 (i := 0) rfl rfl rfl (Sl.one hs57) (by simp) fun w58 (hM58 : Mem w [] w58 [[⟨b3, 71, [.int .i64 3, v57, .bool true, .int .i64 0, .slice none 0 0]⟩], r57, rf]) => ?_
              refine h56 _ _ ?_
              clear h56
              refine seq fun K59 h59 => ?_
              refine stp (v := vf) (o_mv rfl) ?_
              refine stp (v := .string (str last)) (o_mv rfl) ?_
              refine m_app1 (E := strV) (q := last) hM58 (i := 2) rfl hvf rfl (by simp) (rfl) (by omega) (by omega) fun v60 w60 r60 u60 (hs60 : SlE strV 9 v60 (F ++ [last]) r60) (hM60 : Mem w [] w60 [[⟨b3, 71, [.int .i64 3, v57, .bool true, .int .i64 0, .slice none 0 0]⟩], r57, r60]) => ?_
              refine stp (v := v60) (o_mv rfl) ?_
              refine h59 _ _ ?_
              clear h59
              refine seq fun K61 h61 => ?_
              refine seq fun K62 h62 => ?_
              refine stp (v := .int .i64 0) (o_mv rfl) ?_
              refine h62 _ _ ?_
              clear h62
              refine lp (n := fun _ _ => False) (ι := (Nat) × (List UInt8)) (fun ⟨j, m⟩ f w' => f 11 = .int .i64 (j : Nat) ∧ f 6 = .string (str m) ∧ f 0 = x ∧ f 1 = .string (str key) ∧ f 5 = .pointer (some ⟨b3, 0, none⟩) ∧ f 7 = v60 ∧ f 8 = .int .i64 (i : Nat) ∧ f 9 = .string (str last) ∧ Mem w [] w' [[⟨b3, 71, [.int .i64 3, v57, .bool true, .int .i64 0, .slice none 0 0]⟩], r57, r60] ∧ (j ≤ (bs.getD i sb0).l.length) ∧ (cmp last m ≤ 0) ∧ (m.length ≤ 140737488351232)) (fun ⟨j, m⟩ => (bs.getD i sb0).l.length - j) (0, last) ?_ ?_
              · exact ⟨by first | rfl | exact v_int (by omega) | exact v_int (by simp) | exact v_int (by simp; omega), by first | rfl | simp [upd], rfl, by first | rfl | simp [upd], rfl, rfl, by first | rfl | exact v_int (by omega) | exact v_int (by simp) | exact v_int (by simp; omega), by first | rfl | simp [upd], hM60, by omega, by rw [cmp_self]; omega, hlk⟩
              · rintro ⟨j, m⟩ f w63 ⟨e63_11, e63_6, e63_0, e63_1, e63_5, e63_7, e63_8, e63_9, hM63, hj, hlm, hmk⟩ K64 h64
                obtain ⟨frm, rfl⟩ : ∃ frm, f = (upd (upd (upd (upd (upd (upd (upd (upd frm 11 (.int .i64 (j : Nat))) 6 (.string (str m))) 0 (x)) 1 (.string (str key))) 5 (.pointer (some ⟨b3, 0, none⟩))) 7 (v60)) 8 (.int .i64 (i : Nat))) 9 (.string (str last))) := ⟨f, by rw [upd_self e63_11, upd_self e63_6, upd_self e63_0, upd_self e63_1, upd_self e63_5, upd_self e63_7, upd_self e63_8, upd_self e63_9]⟩
                clear e63_11 e63_6 e63_0 e63_1 e63_5 e63_7 e63_8 e63_9
                refine seq fun K65 h65 => ?_
                refine seq fun K66 h66 => ?_
                refine stp (v := .int .i64 (j : Nat)) (o_mv rfl) ?_
                refine stp (v := x) (o_mv rfl) ?_
                refine stp (v := .int .i64 (i : Nat)) (o_mv rfl) ?_
                refine m_idxS sb0 (j := i) (hx.upd hM63.upd) rfl rfl (by omega) fun b67 o67 hp67 => ?_
                refine ld (v := (bs.getD i sb0).v) rfl (hp67.get 0 rfl) ?_
                refine stp (v := .int .i64 (((bs.getD i sb0).l).length : Nat)) (o_lenR ((hbs _ (getD_memG sb0 (l := bs) (i := i) (by omega))).rd.upd hM63.upd) rfl rfl) ?_
                refine stp (v := .bool (decide (((j : Nat) : Int) < (((bs.getD i sb0).l).length : Nat)))) (o_bin rfl rfl rfl) ?_
                refine h66 _ _ ?_
                clear h66
                refine cndP rfl (fun c68 => ?_) (fun c68 => ?_)
                ·
                  refine h65 _ _ ?_
                  clear h65
                  refine seq fun K69 h69 => ?_
                  refine seq fun K70 h70 => ?_
                  refine stp (v := x) (o_mv rfl) ?_
                  refine stp (v := .int .i64 (i : Nat)) (o_mv rfl) ?_
                  refine m_idxS sb0 (j := i) (hx.upd hM63.upd) rfl rfl (by omega) fun b71 o71 hp71 => ?_
                  refine ld (v := (bs.getD i sb0).v) rfl (hp71.get 0 rfl) ?_
                  refine stp (v := .int .i64 (j : Nat)) (o_mv rfl) ?_
                  refine m_idxE [] (j := j) ((hbs _ (getD_memG sb0 (l := bs) (i := i) (by omega))).rd.upd hM63.upd) rfl rfl (by omega) fun b72 o72 hp72 => ?_
                  refine ld (v := .string (str (((bs.getD i sb0).l).getD j []))) rfl (hp72) ?_
                  refine stp (v := .string (str m)) (o_mv rfl) ?_
                  refine stp (v := .bool (Op.bytesLess m (((bs.getD i sb0).l).getD j []))) (o_sgtr rfl rfl rfl) ?_
                  refine h70 _ _ ?_
                  clear h70
                  refine cnd rfl (fun hmT => ?_) (fun hmF => ?_)
                  ·
                    refine stp (v := x) (o_mv rfl) ?_
                    refine stp (v := .int .i64 (i : Nat)) (o_mv rfl) ?_
                    refine m_idxS sb0 (j := i) (hx.upd hM63.upd) rfl rfl (by omega) fun b74 o74 hp74 => ?_
                    refine ld (v := (bs.getD i sb0).v) rfl (hp74.get 0 rfl) ?_
                    refine stp (v := .int .i64 (j : Nat)) (o_mv rfl) ?_
                    refine m_idxE [] (j := j) ((hbs _ (getD_memG sb0 (l := bs) (i := i) (by omega))).rd.upd hM63.upd) rfl rfl (by omega) fun b75 o75 hp75 => ?_
                    refine ld (v := .string (str (((bs.getD i sb0).l).getD j []))) rfl (hp75) ?_
                    refine stp (v := .string (str (((bs.getD i sb0).l).getD j []))) (o_mv rfl) ?_
                    refine h69 _ _ ?_
                    clear h69
                    refine stp (v := .int .i64 (j : Nat)) (o_mv rfl) ?_
                    refine stp (v := .int .i64 ((j : Nat) + 1)) (o_bin rfl rfl (v_add64 (by constructor <;> omega))) ?_
                    refine stp (v := .int .i64 ((j : Nat) + 1)) (o_mv rfl) ?_
                    refine h64 (j + 1, (bs.getD i sb0).l.getD j []) _ _ ⟨by first | rfl | exact v_int (by omega) | exact v_int (by simp) | exact v_int (by simp; omega), by first | rfl | simp [upd], rfl, by first | rfl | simp [upd], rfl, rfl, by first | rfl | exact v_int (by omega) | exact v_int (by simp) | exact v_int (by simp; omega), by first | rfl | simp [upd], hM63, by omega, by rw [less_cmp, decide_eq_true_iff] at hmT; exact cmp_tr hlm (by omega), hsi.hk _ (getD_memG [] (l := (bs.getD i sb0).l) (i := j) (by omega))⟩ (by (try dsimp only); omega)
                  ·
                    refine h69 _ _ ?_
                    clear h69
                    refine stp (v := .int .i64 (j : Nat)) (o_mv rfl) ?_
                    refine stp (v := .int .i64 ((j : Nat) + 1)) (o_bin rfl rfl (v_add64 (by constructor <;> omega))) ?_
                    refine stp (v := .int .i64 ((j : Nat) + 1)) (o_mv rfl) ?_
                    refine h64 (j + 1, m) _ _ ⟨by first | rfl | exact v_int (by omega) | exact v_int (by simp) | exact v_int (by simp; omega), by first | rfl | simp [upd], rfl, by first | rfl | simp [upd], rfl, rfl, by first | rfl | exact v_int (by omega) | exact v_int (by simp) | exact v_int (by simp; omega), by first | rfl | simp [upd], hM63, by omega, hlm, hmk⟩ (by (try dsimp only); omega)
                ·
                  refine h61 _ _ ?_
                  clear h61
                  refine seq fun K76 h76 => ?_
                  refine stp (v := .string (str last)) (o_mv rfl) ?_
                  refine stp (v := .string (str m)) (o_mv rfl) ?_
                  refine stp (v := .bool (Op.bytesLess m last)) (o_sgtr rfl rfl rfl) ?_
                  refine h76 _ _ ?_
                  clear h76
                  refine cnd rfl (fun hqT => ?_) (fun hqF => ?_)
                  ·
                    refine stp (v := .string (str last)) (o_mv rfl) ?_
                    refine stp (v := .string (str last)) (o_mv rfl) ?_
                    refine h19 _ _ ?_
                    clear h19
                    refine stp (v := .int .i64 (i : Nat)) (o_mv rfl) ?_
                    refine stp (v := .int .i64 ((i : Nat) + 1)) (o_bin rfl rfl (v_add64 (by constructor <;> omega))) ?_
                    refine stp (v := .int .i64 ((i : Nat) + 1)) (o_mv rfl) ?_
                    refine h14 (i + 1, last, F ++ [last], ab9, nb9, cb9, r57, v60, r60) _ _ ⟨by first | rfl | exact v_int (by omega) | exact v_int (by simp) | exact v_int (by simp; omega), by first | rfl | simp [upd], rfl, rfl, by first | rfl | simp [upd], rfl, (by rw [← he9]; exact hM63.keep (by simp)), by rw [← he9]; exact SlS.eqL hs57 (by rw [List.map_append, List.map_singleton]; first | rfl | rw [fB_cut (by omega)]), hs60, by omega, by rw [List.length_append, List.length_singleton]; omega, hS.step (by rw [cmp_self]; omega) (by rw [cmp_self]; omega), hlk⟩ (by (try dsimp only); omega)
                  ·
                    refine h19 _ _ ?_
                    clear h19
                    refine stp (v := .int .i64 (i : Nat)) (o_mv rfl) ?_
                    refine stp (v := .int .i64 ((i : Nat) + 1)) (o_bin rfl rfl (v_add64 (by constructor <;> omega))) ?_
                    refine stp (v := .int .i64 ((i : Nat) + 1)) (o_mv rfl) ?_
                    refine h14 (i + 1, m, F ++ [last], ab9, nb9, cb9, r57, v60, r60) _ _ ⟨by first | rfl | exact v_int (by omega) | exact v_int (by simp) | exact v_int (by simp; omega), by first | rfl | simp [upd], rfl, rfl, by first | rfl | simp [upd], rfl, (by rw [← he9]; exact hM63.keep (by simp)), by rw [← he9]; exact SlS.eqL hs57 (by rw [List.map_append, List.map_singleton]; first | rfl | rw [fB_cut (by omega)]), hs60, by omega, by rw [List.length_append, List.length_singleton]; omega, hS.step (by rw [cmp_self]; omega) (by rw [less_cmp, decide_eq_false_iff_not] at hqF; have := cmp_anti last m; omega), hmk⟩ (by (try dsimp only); omega)
          ·
            refine h27 _ _ ?_
            clear h27
            refine seq fun K78 h78 => ?_
            refine stp (v := .string (str (((bs.getD i sb0).l).getD 0 []))) (o_mv rfl) ?_
            refine stp (v := .string (str (((bs.getD i sb0).l).getD 0 []))) (o_mv rfl) ?_
            refine h78 _ _ ?_
            clear h78
            refine seq fun K79 h79 => ?_
            refine seq fun K80 h80 => ?_
            refine stp (v := .string (str (((bs.getD i sb0).l).getD 0 []))) (o_mv rfl) ?_
            refine stp (v := .int .i64 ((((bs.getD i sb0).l).getD 0 []).length : Nat)) (o_lens rfl rfl) ?_
            refine stp (v := .bool (decide ((64 : Int) < (((((bs.getD i sb0).l).getD 0 []).length : Nat) : Int)))) (o_bin rfl rfl rfl) ?_
            refine h80 _ _ ?_
            clear h80
            refine cndP rfl (fun c81 => ?_) (fun c81 => ?_)
            ·
              refine stp (v := .string (str (((bs.getD i sb0).l).getD 0 []))) (o_mv rfl) ?_
              refine stp (v := .string (str (((((bs.getD i sb0).l).getD 0 []).take 64).drop 0))) (o_slcs (a := 0) (b := 64) rfl (by omega) ⟨_, rfl⟩ rfl rfl) ?_
              refine stp (v := .string (str (((((bs.getD i sb0).l).getD 0 []).take 64).drop 0))) (o_mv rfl) ?_
              refine h79 _ _ ?_
              clear h79
              refine seq fun K82 h82 => ?_
              refine stp (v := .pointer (some ⟨b3, 1, none⟩)) (o_fa rfl rfl) ?_
              refine m_ld (v := (.slice ab nb cb)) hM13 (i := 0) (j := 0) rfl rfl rfl rfl ?_
              refine stp (v := .string (str (((((bs.getD i sb0).l).getD 0 []).take 64).drop 0))) (o_mv rfl) ?_
              refine stp (v := .agg ([.int .i64 9, .int .i64 9, .int .i64 1, .string (str (((((bs.getD i sb0).l).getD 0 []).take 64).drop 0))] : List Value).toArray) (o_bld rfl rfl) ?_
              refine m_app1S (enc := biC) (q := (⟨9, 9, 1, ((((bs.getD i sb0).l).getD 0 []).take 64).drop 0⟩ : Bi)) hM13 (i := 1) rfl hvb rfl (by simp) (rfl) rfl (by first | omega | (simp; omega)) (by omega) fun v83 w83 r83 u83 (hs83 : SlS biC 4 74 v83 ((F.map fB) ++ [(⟨9, 9, 1, ((((bs.getD i sb0).l).getD 0 []).take 64).drop 0⟩ : Bi)]) r83) (hM83 : Mem w [] w83 [[⟨b3, 71, [.int .i64 3, (.slice ab nb cb), .bool true, .int .i64 0, .slice none 0 0]⟩], r83, rf]) => ?_
              obtain ⟨ab9, nb9, cb9, he9⟩ := hs83.isSlice
              refine stp (v := .pointer (some ⟨b3, 1, none⟩)) (o_fa rfl rfl) ?_
              refine m_st (v := v83) hM83 (i := 0) rfl rfl rfl (Sl.one hs83) (by simp) fun w84 (hM84 : Mem w [] w84 [[⟨b3, 71, [.int .i64 3, v83, .bool true, .int .i64 0, .slice none 0 0]⟩], r83, rf]) => ?_
              refine h82 _ _ ?_
              clear h82
              refine seq fun K85 h85 => ?_
              refine stp (v := vf) (o_mv rfl) ?_
              refine stp (v := .string (str (((bs.getD i sb0).l).getD 0 []))) (o_mv rfl) ?_
              refine m_app1 (E := strV) (q := ((bs.getD i sb0).l).getD 0 []) hM84 (i := 2) rfl hvf rfl (by simp) (rfl) (by omega) (by omega) fun v86 w86 r86 u86 (hs86 : SlE strV 9 v86 (F ++ [((bs.getD i sb0).l).getD 0 []]) r86) (hM86 : Mem w [] w86 [[⟨b3, 71, [.int .i64 3, v83, .bool true, .int .i64 0, .slice none 0 0]⟩], r83, r86]) => ?_
              refine stp (v := v86) (o_mv rfl) ?_
              refine h85 _ _ ?_
              clear h85
              refine seq fun K87 h87 => ?_
              refine seq fun K88 h88 => ?_
              refine stp (v := .int .i64 0) (o_mv rfl) ?_
              refine h88 _ _ ?_
              clear h88
              refine lp (n := fun _ _ => False) (ι := (Nat) × (List UInt8)) (fun ⟨j, m⟩ f w' => f 11 = .int .i64 (j : Nat) ∧ f 6 = .string (str m) ∧ f 0 = x ∧ f 1 = .string (str key) ∧ f 5 = .pointer (some ⟨b3, 0, none⟩) ∧ f 7 = v86 ∧ f 8 = .int .i64 (i : Nat) ∧ f 9 = .string (str (((bs.getD i sb0).l).getD 0 [])) ∧ Mem w [] w' [[⟨b3, 71, [.int .i64 3, v83, .bool true, .int .i64 0, .slice none 0 0]⟩], r83, r86] ∧ (j ≤ (bs.getD i sb0).l.length) ∧ (cmp last m ≤ 0) ∧ (m.length ≤ 140737488351232)) (fun ⟨j, m⟩ => (bs.getD i sb0).l.length - j) (0, last) ?_ ?_
              · exact ⟨by first | rfl | exact v_int (by omega) | exact v_int (by simp) | exact v_int (by simp; omega), by first | rfl | simp [upd], rfl, by first | rfl | simp [upd], rfl, rfl, by first | rfl | exact v_int (by omega) | exact v_int (by simp) | exact v_int (by simp; omega), by first | rfl | simp [upd], hM86, by omega, by rw [cmp_self]; omega, hlk⟩
              · rintro ⟨j, m⟩ f w89 ⟨e89_11, e89_6, e89_0, e89_1, e89_5, e89_7, e89_8, e89_9, hM89, hj, hlm, hmk⟩ K90 h90
                obtain ⟨frm, rfl⟩ : ∃ frm, f = (upd (upd (upd (upd (upd (upd (upd (upd frm 11 (.int .i64 (j : Nat))) 6 (.string (str m))) 0 (x)) 1 (.string (str key))) 5 (.pointer (some ⟨b3, 0, none⟩))) 7 (v86)) 8 (.int .i64 (i : Nat))) 9 (.string (str (((bs.getD i sb0).l).getD 0 [])))) := ⟨f, by rw [upd_self e89_11, upd_self e89_6, upd_self e89_0, upd_self e89_1, upd_self e89_5, upd_self e89_7, upd_self e89_8, upd_self e89_9]⟩
                clear e89_11 e89_6 e89_0 e89_1 e89_5 e89_7 e89_8 e89_9
                refine seq fun K91 h91 => ?_
                refine seq fun K92 h92 => ?_
                refine stp (v := .int .i64 (j : Nat)) (o_mv rfl) ?_
                refine stp (v := x) (o_mv rfl) ?_
                refine stp (v := .int .i64 (i : Nat)) (o_mv rfl) ?_
                refine m_idxS sb0 (j := i) (hx.upd hM89.upd) rfl rfl (by omega) fun b93 o93 hp93 => ?_
                refine ld (v := (bs.getD i sb0).v) rfl (hp93.get 0 rfl) ?_
                refine stp (v := .int .i64 (((bs.getD i sb0).l).length : Nat)) (o_lenR ((hbs _ (getD_memG sb0 (l := bs) (i := i) (by omega))).rd.upd hM89.upd) rfl rfl) ?_
                refine stp (v := .bool (decide (((j : Nat) : Int) < (((bs.getD i sb0).l).length : Nat)))) (o_bin rfl rfl rfl) ?_
                refine h92 _ _ ?_
                clear h92
                refine cndP rfl (fun c94 => ?_) (fun c94 => ?_)
                ·
                  refine h91 _ _ ?_
                  clear h91
                  refine seq fun K95 h95 => ?_
                  refine seq fun K96 h96 => ?_
                  refine stp (v := x) (o_mv rfl) ?_
                  refine stp (v := .int .i64 (i : Nat)) (o_mv rfl) ?_
                  refine m_idxS sb0 (j := i) (hx.upd hM89.upd) rfl rfl (by omega) fun b97 o97 hp97 => ?_
                  refine ld (v := (bs.getD i sb0).v) rfl (hp97.get 0 rfl) ?_
                  refine stp (v := .int .i64 (j : Nat)) (o_mv rfl) ?_
                  refine m_idxE [] (j := j) ((hbs _ (getD_memG sb0 (l := bs) (i := i) (by omega))).rd.upd hM89.upd) rfl rfl (by omega) fun b98 o98 hp98 => ?_
                  refine ld (v := .string (str (((bs.getD i sb0).l).getD j []))) rfl (hp98) ?_
                  refine stp (v := .string (str m)) (o_mv rfl) ?_
                  refine stp (v := .bool (Op.bytesLess m (((bs.getD i sb0).l).getD j []))) (o_sgtr rfl rfl rfl) ?_
                  refine h96 _ _ ?_
                  clear h96
                  refine cnd rfl (fun hmT => ?_) (fun hmF => ?_)
                  ·
                    refine stp (v := x) (o_mv rfl) ?_
                    refine stp (v := .int .i64 (i : Nat)) (o_mv rfl) ?_
                    refine m_idxS sb0 (j := i) (hx.upd hM89.upd) rfl rfl (by omega) fun b100 o100 hp100 => ?_
                    refine ld (v := (bs.getD i sb0).v) rfl (hp100.get 0 rfl) ?_
                    refine stp (v := .int .i64 (j : Nat)) (o_mv rfl) ?_
                    refine m_idxE [] (j := j) ((hbs _ (getD_memG sb0 (l := bs) (i := i) (by omega))).rd.upd hM89.upd) rfl rfl (by omega) fun b101 o101 hp101 => ?_
                    refine ld (v := .string (str (((bs.getD i sb0).l).getD j []))) rfl (hp101) ?_
                    refine stp (v := .string (str (((bs.getD i sb0).l).getD j []))) (o_mv rfl) ?_
                    refine h95 _ _ ?_
                    clear h95
                    refine stp (v := .int .i64 (j : Nat)) (o_mv rfl) ?_
                    refine stp (v := .int .i64 ((j : Nat) + 1)) (o_bin rfl rfl (v_add64 (by constructor <;> omega))) ?_
                    refine stp (v := .int .i64 ((j : Nat) + 1)) (o_mv rfl) ?_
                    refine h90 (j + 1, (bs.getD i sb0).l.getD j []) _ _ ⟨by first | rfl | exact v_int (by omega) | exact v_int (by simp) | exact v_int (by simp; omega), by first | rfl | simp [upd], rfl, by first | rfl | simp [upd], rfl, rfl, by first | rfl | exact v_int (by omega) | exact v_int (by simp) | exact v_int (by simp; omega), by first | rfl | simp [upd], hM89, by omega, by rw [less_cmp, decide_eq_true_iff] at hmT; exact cmp_tr hlm (by omega), hsi.hk _ (getD_memG [] (l := (bs.getD i sb0).l) (i := j) (by omega))⟩ (by (try dsimp only); omega)
                  ·
                    refine h95 _ _ ?_
                    clear h95
                    refine stp (v := .int .i64 (j : Nat)) (o_mv rfl) ?_
                    refine stp (v := .int .i64 ((j : Nat) + 1)) (o_bin rfl rfl (v_add64 (by constructor <;> omega))) ?_
                    refine stp (v := .int .i64 ((j : Nat) + 1)) (o_mv rfl) ?_
                    refine h90 (j + 1, m) _ _ ⟨by first | rfl | exact v_int (by omega) | exact v_int (by simp) | exact v_int (by simp; omega), by first | rfl | simp [upd], rfl, by first | rfl | simp [upd], rfl, rfl, by first | rfl | exact v_int (by omega) | exact v_int (by simp) | exact v_int (by simp; omega), by first | rfl | simp [upd], hM89, by omega, hlm, hmk⟩ (by (try dsimp only); omega)
                ·
                  refine h87 _ _ ?_
                  clear h87
                  refine seq fun K102 h102 => ?_
                  refine stp (v := .string (str (((bs.getD i sb0).l).getD 0 []))) (o_mv rfl) ?_
                  refine stp (v := .string (str m)) (o_mv rfl) ?_
                  refine stp (v := .bool (Op.bytesLess m (((bs.getD i sb0).l).getD 0 []))) (o_sgtr rfl rfl rfl) ?_
                  refine h102 _ _ ?_
                  clear h102
                  refine cnd rfl (fun hqT => ?_) (fun hqF => ?_)
                  ·
                    refine stp (v := .string (str (((bs.getD i sb0).l).getD 0 []))) (o_mv rfl) ?_
                    refine stp (v := .string (str (((bs.getD i sb0).l).getD 0 []))) (o_mv rfl) ?_
                    refine h19 _ _ ?_
                    clear h19
                    refine stp (v := .int .i64 (i : Nat)) (o_mv rfl) ?_
                    refine stp (v := .int .i64 ((i : Nat) + 1)) (o_bin rfl rfl (v_add64 (by constructor <;> omega))) ?_
                    refine stp (v := .int .i64 ((i : Nat) + 1)) (o_mv rfl) ?_
                    refine h14 (i + 1, ((bs.getD i sb0).l.getD 0 []), F ++ [((bs.getD i sb0).l.getD 0 [])], ab9, nb9, cb9, r83, v86, r86) _ _ ⟨by first | rfl | exact v_int (by omega) | exact v_int (by simp) | exact v_int (by simp; omega), by first | rfl | simp [upd], rfl, rfl, by first | rfl | simp [upd], rfl, (by rw [← he9]; exact hM89.keep (by simp)), by rw [← he9]; exact SlS.eqL hs83 (by rw [List.map_append, List.map_singleton]; first | rfl | rw [fB_cut (by omega)]), hs86, by omega, by rw [List.length_append, List.length_singleton]; omega, hS.step (by rw [less_cmp, decide_eq_false_iff_not] at hkF; have := cmp_anti ((bs.getD i sb0).l.getD 0 []) last; omega) (by rw [cmp_self]; omega), hk0⟩ (by (try dsimp only); omega)
                  ·
                    refine h19 _ _ ?_
                    clear h19
                    refine stp (v := .int .i64 (i : Nat)) (o_mv rfl) ?_
                    refine stp (v := .int .i64 ((i : Nat) + 1)) (o_bin rfl rfl (v_add64 (by constructor <;> omega))) ?_
                    refine stp (v := .int .i64 ((i : Nat) + 1)) (o_mv rfl) ?_
                    refine h14 (i + 1, m, F ++ [((bs.getD i sb0).l.getD 0 [])], ab9, nb9, cb9, r83, v86, r86) _ _ ⟨by first | rfl | exact v_int (by omega) | exact v_int (by simp) | exact v_int (by simp; omega), by first | rfl | simp [upd], rfl, rfl, by first | rfl | simp [upd], rfl, (by rw [← he9]; exact hM89.keep (by simp)), by rw [← he9]; exact SlS.eqL hs83 (by rw [List.map_append, List.map_singleton]; first | rfl | rw [fB_cut (by omega)]), hs86, by omega, by rw [List.length_append, List.length_singleton]; omega, hS.step (by rw [less_cmp, decide_eq_false_iff_not] at hkF; have := cmp_anti ((bs.getD i sb0).l.getD 0 []) last; omega) (by rw [less_cmp, decide_eq_false_iff_not] at hqF; have := cmp_anti ((bs.getD i sb0).l.getD 0 []) m; omega), hmk⟩ (by (try dsimp only); omega)
            ·
              refine h79 _ _ ?_
              clear h79
              refine seq fun K104 h104 => ?_
              refine stp (v := .pointer (some ⟨b3, 1, none⟩)) (o_fa rfl rfl) ?_
              refine m_ld (v := (.slice ab nb cb)) hM13 (i := 0) (j := 0) rfl rfl rfl rfl ?_
              refine stp (v := .string (str (((bs.getD i sb0).l).getD 0 []))) (o_mv rfl) ?_
              refine stp (v := .agg ([.int .i64 9, .int .i64 9, .int .i64 1, .string (str (((bs.getD i sb0).l).getD 0 []))] : List Value).toArray) (o_bld rfl rfl) ?_
              refine m_app1S (enc := biC) (q := (⟨9, 9, 1, ((bs.getD i sb0).l).getD 0 []⟩ : Bi)) hM13 (i := 1) rfl hvb rfl (by simp) (rfl) rfl (by first | omega | (simp; omega)) (by omega) fun v105 w105 r105 u105 (hs105 : SlS biC 4 74 v105 ((F.map fB) ++ [(⟨9, 9, 1, ((bs.getD i sb0).l).getD 0 []⟩ : Bi)]) r105) (hM105 : Mem w [] w105 [[⟨b3, 71, [.int .i64 3, (.slice ab nb cb), .bool true, .int .i64 0, .slice none 0 0]⟩], r105, rf]) => ?_
              obtain ⟨ab9, nb9, cb9, he9⟩ := hs105.isSlice
              refine stp (v := .pointer (some ⟨b3, 1, none⟩)) (o_fa rfl rfl) ?_
              refine m_st (v := v105) hM105 (i := 0) rfl rfl rfl (Sl.one hs105) (by simp) fun w106 (hM106 : Mem w [] w106 [[⟨b3, 71, [.int .i64 3, v105, .bool true, .int .i64 0, .slice none 0 0]⟩], r105, rf]) => ?_
              refine h104 _ _ ?_
              clear h104
              refine seq fun K107 h107 => ?_
              refine stp (v := vf) (o_mv rfl) ?_
              refine stp (v := .string (str (((bs.getD i sb0).l).getD 0 []))) (o_mv rfl) ?_
              refine m_app1 (E := strV) (q := ((bs.getD i sb0).l).getD 0 []) hM106 (i := 2) rfl hvf rfl (by simp) (rfl) (by omega) (by omega) fun v108 w108 r108 u108 (hs108 : SlE strV 9 v108 (F ++ [((bs.getD i sb0).l).getD 0 []]) r108) (hM108 : Mem w [] w108 [[⟨b3, 71, [.int .i64 3, v105, .bool true, .int .i64 0, .slice none 0 0]⟩], r105, r108]) => ?_
              refine stp (v := v108) (o_mv rfl) ?_
              refine h107 _ _ ?_
              clear h107
              refine seq fun K109 h109 => ?_
              refine seq fun K110 h110 => ?_
              refine stp (v := .int .i64 0) (o_mv rfl) ?_
              refine h110 _ _ ?_
              clear h110
              refine lp (n := fun _ _ => False) (ι := (Nat) × (List UInt8)) (fun ⟨j, m⟩ f w' => f 11 = .int .i64 (j : Nat) ∧ f 6 = .string (str m) ∧ f 0 = x ∧ f 1 = .string (str key) ∧ f 5 = .pointer (some ⟨b3, 0, none⟩) ∧ f 7 = v108 ∧ f 8 = .int .i64 (i : Nat) ∧ f 9 = .string (str (((bs.getD i sb0).l).getD 0 [])) ∧ Mem w [] w' [[⟨b3, 71, [.int .i64 3, v105, .bool true, .int .i64 0, .slice none 0 0]⟩], r105, r108] ∧ (j ≤ (bs.getD i sb0).l.length) ∧ (cmp last m ≤ 0) ∧ (m.length ≤ 140737488351232)) (fun ⟨j, m⟩ => (bs.getD i sb0).l.length - j) (0, last) ?_ ?_
              · exact ⟨by first | rfl | exact v_int (by omega) | exact v_int (by simp) | exact v_int (by simp; omega), by first | rfl | simp [upd], rfl, by first | rfl | simp [upd], rfl, rfl, by first | rfl | exact v_int (by omega) | exact v_int (by simp) | exact v_int (by simp; omega), by first | rfl | simp [upd], hM108, by omega, by rw [cmp_self]; omega, hlk⟩
              · rintro ⟨j, m⟩ f w111 ⟨e111_11, e111_6, e111_0, e111_1, e111_5, e111_7, e111_8, e111_9, hM111, hj, hlm, hmk⟩ K112 h112
                obtain ⟨frm, rfl⟩ : ∃ frm, f = (upd (upd (upd (upd (upd (upd (upd (upd frm 11 (.int .i64 (j : Nat))) 6 (.string (str m))) 0 (x)) 1 (.string (str key))) 5 (.pointer (some ⟨b3, 0, none⟩))) 7 (v108)) 8 (.int .i64 (i : Nat))) 9 (.string (str (((bs.getD i sb0).l).getD 0 [])))) := ⟨f, by rw [upd_self e111_11, upd_self e111_6, upd_self e111_0, upd_self e111_1, upd_self e111_5, upd_self e111_7, upd_self e111_8, upd_self e111_9]⟩
                clear e111_11 e111_6 e111_0 e111_1 e111_5 e111_7 e111_8 e111_9
                refine seq fun K113 h113 => ?_
                refine seq fun K114 h114 => ?_
                refine stp (v := .int .i64 (j : Nat)) (o_mv rfl) ?_
                refine stp (v := x) (o_mv rfl) ?_
                refine stp (v := .int .i64 (i : Nat)) (o_mv rfl) ?_
                refine m_idxS sb0 (j := i) (hx.upd hM111.upd) rfl rfl (by omega) fun b115 o115 hp115 => ?_
                refine ld (v := (bs.getD i sb0).v) rfl (hp115.get 0 rfl) ?_
                refine stp (v := .int .i64 (((bs.getD i sb0).l).length : Nat)) (o_lenR ((hbs _ (getD_memG sb0 (l := bs) (i := i) (by omega))).rd.upd hM111.upd) rfl rfl) ?_
                refine stp (v := .bool (decide (((j : Nat) : Int) < (((bs.getD i sb0).l).length : Nat)))) (o_bin rfl rfl rfl) ?_
                refine h114 _ _ ?_
                clear h114
                refine cndP rfl (fun c116 => ?_) (fun c116 => ?_)
                ·
                  refine h113 _ _ ?_
                  clear h113
                  refine seq fun K117 h117 => ?_
                  refine seq fun K118 h118 => ?_
                  refine stp (v := x) (o_mv rfl) ?_
                  refine stp (v := .int .i64 (i : Nat)) (o_mv rfl) ?_
                  refine m_idxS sb0 (j := i) (hx.upd hM111.upd) rfl rfl (by omega) fun b119 o119 hp119 => ?_
                  refine ld (v := (bs.getD i sb0).v) rfl (hp119.get 0 rfl) ?_
                  refine stp (v := .int .i64 (j : Nat)) (o_mv rfl) ?_
                  refine m_idxE [] (j := j) ((hbs _ (getD_memG sb0 (l := bs) (i := i) (by omega))).rd.upd hM111.upd) rfl rfl (by omega) fun b120 o120 hp120 => ?_
                  refine ld (v := .string (str (((bs.getD i sb0).l).getD j []))) rfl (hp120) ?_
                  refine stp (v := .string (str m)) (o_mv rfl) ?_
                  refine stp (v := .bool (Op.bytesLess m (((bs.getD i sb0).l).getD j []))) (o_sgtr rfl rfl rfl) ?_
                  refine h118 _ _ ?_
                  clear h118
                  refine cnd rfl (fun hmT => ?_) (fun hmF => ?_)
                  ·
                    refine stp (v := x) (o_mv rfl) ?_
                    refine stp (v := .int .i64 (i : Nat)) (o_mv rfl) ?_
                    refine m_idxS sb0 (j := i) (hx.upd hM111.upd) rfl rfl (by omega) fun b122 o122 hp122 => ?_
                    refine ld (v := (bs.getD i sb0).v) rfl (hp122.get 0 rfl) ?_
                    refine stp (v := .int .i64 (j : Nat)) (o_mv rfl) ?_
                    refine m_idxE [] (j := j) ((hbs _ (getD_memG sb0 (l := bs) (i := i) (by omega))).rd.upd hM111.upd) rfl rfl (by omega) fun b123 o123 hp123 => ?_
                    refine ld (v := .string (str (((bs.getD i sb0).l).getD j []))) rfl (hp123) ?_
                    refine stp (v := .string (str (((bs.getD i sb0).l).getD j []))) (o_mv rfl) ?_
                    refine h117 _ _ ?_
                    clear h117
                    refine stp (v := .int .i64 (j : Nat)) (o_mv rfl) ?_
                    refine stp (v := .int .i64 ((j : Nat) + 1)) (o_bin rfl rfl (v_add64 (by constructor <;> omega))) ?_
                    refine stp (v := .int .i64 ((j : Nat) + 1)) (o_mv rfl) ?_
                    refine h112 (j + 1, (bs.getD i sb0).l.getD j []) _ _ ⟨by first | rfl | exact v_int (by omega) | exact v_int (by simp) | exact v_int (by simp; omega), by first | rfl | simp [upd], rfl, by first | rfl | simp [upd], rfl, rfl, by first | rfl | exact v_int (by omega) | exact v_int (by simp) | exact v_int (by simp; omega), by first | rfl | simp [upd], hM111, by omega, by rw [less_cmp, decide_eq_true_iff] at hmT; exact cmp_tr hlm (by omega), hsi.hk _ (getD_memG [] (l := (bs.getD i sb0).l) (i := j) (by omega))⟩ (by (try dsimp only); omega)
                  ·
                    refine h117 _ _ ?_
                    clear h117
                    refine stp (v := .int .i64 (j : Nat)) (o_mv rfl) ?_
                    refine stp (v := .int .i64 ((j : Nat) + 1)) (o_bin rfl rfl (v_add64 (by constructor <;> omega))) ?_
                    refine stp (v := .int .i64 ((j : Nat) + 1)) (o_mv rfl) ?_
                    refine h112 (j + 1, m) _ _ ⟨by first | rfl | exact v_int (by omega) | exact v_int (by simp) | exact v_int (by simp; omega), by first | rfl | simp [upd], rfl, by first | rfl | simp [upd], rfl, rfl, by first | rfl | exact v_int (by omega) | exact v_int (by simp) | exact v_int (by simp; omega), by first | rfl | simp [upd], hM111, by omega, hlm, hmk⟩ (by (try dsimp only); omega)
                ·
                  refine h109 _ _ ?_
                  clear h109
                  refine seq fun K124 h124 => ?_
                  refine stp (v := .string (str (((bs.getD i sb0).l).getD 0 []))) (o_mv rfl) ?_
                  refine stp (v := .string (str m)) (o_mv rfl) ?_
                  refine stp (v := .bool (Op.bytesLess m (((bs.getD i sb0).l).getD 0 []))) (o_sgtr rfl rfl rfl) ?_
                  refine h124 _ _ ?_
                  clear h124
                  refine cnd rfl (fun hqT => ?_) (fun hqF => ?_)
                  ·
                    refine stp (v := .string (str (((bs.getD i sb0).l).getD 0 []))) (o_mv rfl) ?_
                    refine stp (v := .string (str (((bs.getD i sb0).l).getD 0 []))) (o_mv rfl) ?_
                    refine h19 _ _ ?_
                    clear h19
                    refine stp (v := .int .i64 (i : Nat)) (o_mv rfl) ?_
                    refine stp (v := .int .i64 ((i : Nat) + 1)) (o_bin rfl rfl (v_add64 (by constructor <;> omega))) ?_
                    refine stp (v := .int .i64 ((i : Nat) + 1)) (o_mv rfl) ?_
                    refine h14 (i + 1, ((bs.getD i sb0).l.getD 0 []), F ++ [((bs.getD i sb0).l.getD 0 [])], ab9, nb9, cb9, r105, v108, r108) _ _ ⟨by first | rfl | exact v_int (by omega) | exact v_int (by simp) | exact v_int (by simp; omega), by first | rfl | simp [upd], rfl, rfl, by first | rfl | simp [upd], rfl, (by rw [← he9]; exact hM111.keep (by simp)), by rw [← he9]; exact SlS.eqL hs105 (by rw [List.map_append, List.map_singleton]; first | rfl | rw [fB_cut (by omega)]), hs108, by omega, by rw [List.length_append, List.length_singleton]; omega, hS.step (by rw [less_cmp, decide_eq_false_iff_not] at hkF; have := cmp_anti ((bs.getD i sb0).l.getD 0 []) last; omega) (by rw [cmp_self]; omega), hk0⟩ (by (try dsimp only); omega)
                  ·
                    refine h19 _ _ ?_
                    clear h19
                    refine stp (v := .int .i64 (i : Nat)) (o_mv rfl) ?_
                    refine stp (v := .int .i64 ((i : Nat) + 1)) (o_bin rfl rfl (v_add64 (by constructor <;> omega))) ?_
                    refine stp (v := .int .i64 ((i : Nat) + 1)) (o_mv rfl) ?_
                    refine h14 (i + 1, m, F ++ [((bs.getD i sb0).l.getD 0 [])], ab9, nb9, cb9, r105, v108, r108) _ _ ⟨by first | rfl | exact v_int (by omega) | exact v_int (by simp) | exact v_int (by simp; omega), by first | rfl | simp [upd], rfl, rfl, by first | rfl | simp [upd], rfl, (by rw [← he9]; exact hM111.keep (by simp)), by rw [← he9]; exact SlS.eqL hs105 (by rw [List.map_append, List.map_singleton]; first | rfl | rw [fB_cut (by omega)]), hs108, by omega, by rw [List.length_append, List.length_singleton]; omega, hS.step (by rw [less_cmp, decide_eq_false_iff_not] at hkF; have := cmp_anti ((bs.getD i sb0).l.getD 0 []) last; omega) (by rw [less_cmp, decide_eq_false_iff_not] at hqF; have := cmp_anti ((bs.getD i sb0).l.getD 0 []) m; omega), hmk⟩ (by (try dsimp only); omega)
      ·
        refine h11 _ _ ?_
        clear h11
        refine seq fun K126 h126 => ?_
        refine seq fun K127 h127 => ?_
        refine stp (v := .pointer (some ⟨b3, 1, none⟩)) (o_fa rfl rfl) ?_
        refine m_ld (v := (.slice ab nb cb)) hM13 (i := 0) (j := 0) rfl rfl rfl rfl ?_
        refine stp (v := .int .i64 ((F.map fB).length : Nat)) (o_lenR (hvb.rd hM13 (i := 1) rfl) rfl rfl) ?_
        refine stp (v := .bool (decide ((((F.map fB).length : Nat) : Int) = 0))) (o_bin rfl rfl rfl) ?_
        refine h127 _ _ ?_
        clear h127
        refine cndP rfl (fun c128 => ?_) (fun c128 => ?_)
        ·
          refine seq fun K129 h129 => ?_
          refine m_call (head_ok w13) rfl fun v130 w130 ⟨hr130, hu130⟩ => ?_
          have hM130 : Mem w [] w130 [[⟨b3, 71, [.int .i64 3, (.slice ab nb cb), .bool true, .int .i64 0, .slice none 0 0]⟩], rb, rf] := hM13.pure hu130
          subst hr130
          refine stp (v := .bool true) (o_mv rfl) ?_
          refine h129 _ _ ?_
          clear h129
          refine ⟨(.bool true), rfl, ?_⟩
          exact ⟨rfl, hM130.upd⟩
        ·
          refine h126 _ _ ?_
          clear h126
          refine seq fun K131 h131 => ?_
          refine m_ldA (l := [.int .i64 3, (.slice ab nb cb), .bool true, .int .i64 0, .slice none 0 0]) hM13 (i := 0) (j := 0) rfl rfl rfl rfl rfl ?_
          refine m_bs hM13 rfl fun b132 w133 (hM133 : Mem w [] w133 [[⟨b3, 71, [.int .i64 3, (.slice ab nb cb), .bool true, .int .i64 0, .slice none 0 0]⟩], rb, rf, [⟨b132, 71, [.int .i64 3, (.slice ab nb cb), .bool true, .int .i64 0, .slice none 0 0]⟩]]) => ?_
          refine stp (v := .agg ([.int .i64 9, .slice (some ⟨b132, 0, none⟩) 1 1] : List Value).toArray) (o_bld rfl rfl) ?_
          refine m_al hM133 fun b134 w135 (hM135 : Mem w [] w135 [[⟨b3, 71, [.int .i64 3, (.slice ab nb cb), .bool true, .int .i64 0, .slice none 0 0]⟩], rb, rf, [⟨b132, 71, [.int .i64 3, (.slice ab nb cb), .bool true, .int .i64 0, .slice none 0 0]⟩], [⟨b134, 24, [.int .i64 0, .slice none 0 0]⟩]]) => ?_
          refine m_stA (l := [.int .i64 9, .slice (some ⟨b132, 0, none⟩) 1 1]) hM135 (i := 4) rfl rfl rfl rfl (by simp [oneCells, Value.oneCell', byteV]) (by simp) fun w136 (hM136 : Mem w [] w136 [[⟨b3, 71, [.int .i64 3, (.slice ab nb cb), .bool true, .int .i64 0, .slice none 0 0]⟩], rb, rf, [⟨b132, 71, [.int .i64 3, (.slice ab nb cb), .bool true, .int .i64 0, .slice none 0 0]⟩], [⟨b134, 24, [.int .i64 9, .slice (some ⟨b132, 0, none⟩) 1 1]⟩]]) => ?_
          refine h131 _ _ ?_
          clear h131
          refine seq fun K137 h137 => ?_
          refine m_ldA (l := [.int .i64 9, .slice (some ⟨b132, 0, none⟩) 1 1]) hM136 (i := 4) (j := 0) rfl rfl rfl rfl rfl ?_
          refine stp (v := .string (str key)) (o_mv rfl) ?_
          refine m_call (Find_ok 9 _ ([(⟨3, ab, nb, cb, F.map fB, true, 0, none, 0, 0, []⟩ : Pr)]) w136 (own_rdS (enc := prC) (l := [(⟨3, ab, nb, cb, F.map fB, true, 0, none, 0, 0, []⟩ : Pr)]) (hM136.at (i := 3) (j := 0) rfl rfl) rfl) (fun p hp => by obtain rfl := List.mem_singleton.1 hp; exact ⟨Sl.rdOwn hvb (hM136.res (i := 1) rfl).1, Sl.rdOwn (Sl.nil 1 5) (by simp), by simp only [inK]; omega, by simp only [inK]; omega, by simp, by dsimp only; rw [List.length_map]; omega, fB_ok F⟩) (by simp) (by simp only [inK]; omega) 3 (by simp only [inK]; omega) key hkl (fun p hp => by obtain rfl := List.mem_singleton.1 hp; exact hS.srt)) rfl fun v138 w138 ⟨i138, k138, hr138, hf138, hu138⟩ => ?_
          have hM138 : Mem w [] w138 [[⟨b3, 71, [.int .i64 3, (.slice ab nb cb), .bool true, .int .i64 0, .slice none 0 0]⟩], rb, rf, [⟨b132, 71, [.int .i64 3, (.slice ab nb cb), .bool true, .int .i64 0, .slice none 0 0]⟩], [⟨b134, 24, [.int .i64 9, .slice (some ⟨b132, 0, none⟩) 1 1]⟩]] := hM136.pure hu138
          obtain ⟨hi138, lo9, hfa9, hk9⟩ := find3 hf138 rfl
          subst hi138
          obtain ⟨n9, hn9⟩ : ∃ n : Nat, k138 = n := ⟨k138.toNat, by omega⟩
          subst hn9
          subst hr138
          have hml9 : (F.map fB).length = F.length := List.length_map ..
          have hfl9 := hfa9.1
          dsimp only at hfl9 hfa9
          refine stp (v := .tuple [.int .i64 0, .int .i64 (n9 : Nat)].toArray) (o_mv rfl) ?_
          refine stp (v := .int .i64 0) (o_ext rfl rfl) ?_
          refine stp (v := .int .i64 (n9 : Nat)) (o_ext rfl rfl) ?_
          refine stp (v := .int .i64 0) (o_mv rfl) ?_
          refine stp (v := .int .i64 (n9 : Nat)) (o_mv rfl) ?_
          refine h137 _ _ ?_
          clear h137
          refine seq fun K139 h139 => ?_
          refine m_ldA (l := [.int .i64 9, .slice (some ⟨b132, 0, none⟩) 1 1]) hM138 (i := 4) (j := 0) rfl rfl rfl rfl rfl ?_
          refine stp (v := .string (str key)) (o_mv rfl) ?_
          refine m_call (Find_ok 9 _ ([(⟨3, ab, nb, cb, F.map fB, true, 0, none, 0, 0, []⟩ : Pr)]) w138 (own_rdS (enc := prC) (l := [(⟨3, ab, nb, cb, F.map fB, true, 0, none, 0, 0, []⟩ : Pr)]) (hM138.at (i := 3) (j := 0) rfl rfl) rfl) (fun p hp => by obtain rfl := List.mem_singleton.1 hp; exact ⟨Sl.rdOwn hvb (hM138.res (i := 1) rfl).1, Sl.rdOwn (Sl.nil 1 5) (by simp), by simp only [inK]; omega, by simp only [inK]; omega, by simp, by dsimp only; rw [List.length_map]; omega, fB_ok F⟩) (by simp) (by simp only [inK]; omega) 4 (by simp only [inK]; omega) key hkl (fun p hp => by obtain rfl := List.mem_singleton.1 hp; exact hS.srt)) rfl fun v140 w140 ⟨i140, k140, hr140, hf140, hu140⟩ => ?_
          have hM140 : Mem w [] w140 [[⟨b3, 71, [.int .i64 3, (.slice ab nb cb), .bool true, .int .i64 0, .slice none 0 0]⟩], rb, rf, [⟨b132, 71, [.int .i64 3, (.slice ab nb cb), .bool true, .int .i64 0, .slice none 0 0]⟩], [⟨b134, 24, [.int .i64 9, .slice (some ⟨b132, 0, none⟩) 1 1]⟩]] := hM138.pure hu140
          obtain ⟨hi140, hk140⟩ := find4 hf140 (by dsimp only; omega)
          subst hi140 hk140 hr140
          refine stp (v := .tuple [.int .i64 (-1), .int .i64 0].toArray) (o_mv rfl) ?_
          refine stp (v := .int .i64 (-1)) (o_ext rfl rfl) ?_
          refine stp (v := .int .i64 0) (o_ext rfl rfl) ?_
          refine stp (v := .int .i64 (-1)) (o_mv rfl) ?_
          refine stp (v := .int .i64 0) (o_mv rfl) ?_
          refine h139 _ _ ?_
          clear h139
          refine seq fun K141 h141 => ?_
          refine seq fun K142 h142 => ?_
          refine m_ldA (l := [.int .i64 9, .slice (some ⟨b132, 0, none⟩) 1 1]) hM140 (i := 4) (j := 0) rfl rfl rfl rfl rfl ?_
          refine m_call (Check_ok 9 _ ([(⟨3, ab, nb, cb, F.map fB, true, 0, none, 0, 0, []⟩ : Pr)]) w140 (own_rdS (enc := prC) (l := [(⟨3, ab, nb, cb, F.map fB, true, 0, none, 0, 0, []⟩ : Pr)]) (hM140.at (i := 3) (j := 0) rfl rfl) rfl) (fun p hp => by obtain rfl := List.mem_singleton.1 hp; exact ⟨Sl.rdOwn hvb (hM140.res (i := 1) rfl).1, Sl.rdOwn (Sl.nil 1 5) (by simp), by simp only [inK]; omega, by simp only [inK]; omega, by simp, by dsimp only; rw [List.length_map]; omega, fB_ok F⟩) (by simp) (by simp only [inK]; omega)) rfl fun v143 w143 ⟨hr143, hu143⟩ => ?_
          have hM143 : Mem w [] w143 [[⟨b3, 71, [.int .i64 3, (.slice ab nb cb), .bool true, .int .i64 0, .slice none 0 0]⟩], rb, rf, [⟨b132, 71, [.int .i64 3, (.slice ab nb cb), .bool true, .int .i64 0, .slice none 0 0]⟩], [⟨b134, 24, [.int .i64 9, .slice (some ⟨b132, 0, none⟩) 1 1]⟩]] := hM140.pure hu143
          rw [show chkF 9 (List.map Pr.p [(⟨3, ab, nb, cb, F.map fB, true, 0, none, 0, 0, []⟩ : Pr)]) = 0 from ft_search hS (by omega) (by omega)] at hr143
          subst hr143
          refine stp (v := .bool false) (o_bin rfl rfl v_neF) ?_
          refine stp (v := .bool false) (o_mv rfl) ?_
          refine splitF rfl ?_
          refine stg rfl (v := .int .i64 0) (o_mv rfl) ?_
          refine stg rfl (v := .bool false) (o_bin rfl rfl v_neF) ?_
          refine stp (v := .bool false) (o_pickF rfl rfl) ?_
          refine stp (v := .bool false) (o_mv rfl) ?_
          refine splitF rfl ?_
          refine stg rfl (v := .int .i64 (n9 : Nat)) (o_mv rfl) ?_
          refine stg rfl (v := .bool (decide (((n9 : Nat) : Int) < 0))) (o_bin rfl rfl rfl) ?_
          refine stp (v := .bool (decide (((n9 : Nat) : Int) < 0))) (o_pickF rfl rfl) ?_
          refine stp (v := .bool (decide (((n9 : Nat) : Int) < 0))) (o_mv rfl) ?_
          refine splitP rfl (fun c144 => absurd c144 (by omega)) (fun c144 => ?_)
          refine stg rfl (v := .int .i64 (n9 : Nat)) (o_mv rfl) ?_
          refine stg rfl (v := .pointer (some ⟨b3, 1, none⟩)) (o_fa rfl rfl) ?_
          refine gyesl rfl ?_
          refine m_ld (v := (.slice ab nb cb)) hM143 (i := 0) (j := 0) rfl rfl rfl rfl ?_
          refine stg rfl (v := .int .i64 ((F.map fB).length : Nat)) (o_lenR (hvb.rd hM143 (i := 1) rfl) rfl rfl) ?_
          refine stg rfl (v := .bool (decide ((((F.map fB).length : Nat) : Int) ≤ ((n9 : Nat) : Int)))) (o_bin rfl rfl rfl) ?_
          refine stp (v := .bool (decide ((((F.map fB).length : Nat) : Int) ≤ ((n9 : Nat) : Int)))) (o_pickF rfl rfl) ?_
          refine stp (v := .bool (decide ((((F.map fB).length : Nat) : Int) ≤ ((n9 : Nat) : Int)))) (o_mv rfl) ?_
          refine splitP rfl (fun c145 => absurd c145 (by omega)) (fun c145 => ?_)
          refine stg rfl (v := .int .i64 (-1)) (o_mv rfl) ?_
          refine stg rfl (v := .bool false) (o_bin rfl rfl v_neF) ?_
          refine stp (v := .bool false) (o_pickF rfl rfl) ?_
          refine stp (v := .bool false) (o_mv rfl) ?_
          refine splitF rfl ?_
          refine stg rfl (v := .int .i64 0) (o_mv rfl) ?_
          refine stg rfl (v := .bool false) (o_bin rfl rfl v_neF) ?_
          refine stp (v := .bool false) (o_pickF rfl rfl) ?_
          refine h142 _ _ ?_
          clear h142
          refine cndF rfl ?_
          refine h141 _ _ ?_
          clear h141
          refine seq fun K146 h146 => ?_
          refine seq fun K147 h147 => ?_
          refine stp (v := .int .i64 (n9 : Nat)) (o_mv rfl) ?_
          refine stp (v := .bool (decide ((0 : Int) < ((n9 : Nat) : Int)))) (o_bin rfl rfl rfl) ?_
          refine stp (v := .bool (decide ((0 : Int) < ((n9 : Nat) : Int)))) (o_mv rfl) ?_
          refine splitP rfl (fun c148 => ?_) (fun c148 => ?_)
          ·
            refine stg rfl (v := vf) (o_mv rfl) ?_
            refine stg rfl (v := .int .i64 (n9 : Nat)) (o_mv rfl) ?_
            refine gyes rfl rfl (m_idxE [] (j := n9) (hvf.rd hM143 (i := 2) rfl) rfl rfl (by omega) fun b149 o149 hp149 => ?_)
            refine gyesl rfl ?_
            refine ld (v := .string (str (F.getD n9 []))) rfl (hp149) ?_
            refine stg rfl (v := .string (str key)) (o_mv rfl) ?_
            refine stg rfl (v := .bool (!Op.bytesLess (F.getD n9 []) key)) (o_sgeq rfl rfl rfl) ?_
            refine stp (v := .bool (!Op.bytesLess (F.getD n9 []) key)) (o_pickT rfl rfl) ?_
            refine h147 _ _ ?_
            clear h147
            refine cnd rfl (fun c150 => absurd c150 (show ¬ (!Op.bytesLess (F.getD n9 []) key) = true from (by have h9 := hfa9.2.1 n9 (by omega); rw [fB_get] at h9; have h8 := cmp_take_lt h9; rw [less_cmp, decide_eq_true h8]; simp))) (fun c150 => ?_)
            refine h146 _ _ ?_
            clear h146
            refine seq fun K151 h151 => ?_
            refine seq fun K152 h152 => ?_
            refine stp (v := .int .i64 (n9 : Nat)) (o_mv rfl) ?_
            refine stp (v := .int .i64 ((n9 : Nat) + 1)) (o_bin rfl rfl (v_add64 (by constructor <;> omega))) ?_
            refine stp (v := .int .i64 ((n9 : Nat) + 1)) (o_mv rfl) ?_
            refine h152 _ _ ?_
            clear h152
            refine lp (n := fun _ _ => False) (ι := (Nat)) (fun q f w' => f 17 = .int .i64 (q : Nat) ∧ f 1 = .string (str key) ∧ f 7 = vf ∧ Mem w [] w' [[⟨b3, 71, [.int .i64 3, (.slice ab nb cb), .bool true, .int .i64 0, .slice none 0 0]⟩], rb, rf, [⟨b132, 71, [.int .i64 3, (.slice ab nb cb), .bool true, .int .i64 0, .slice none 0 0]⟩], [⟨b134, 24, [.int .i64 9, .slice (some ⟨b132, 0, none⟩) 1 1]⟩]] ∧ (lo9 ≤ q)) (fun q => F.length - q) (n9 + 1) ?_ ?_
            · exact ⟨by first | rfl | exact v_int (by omega) | exact v_int (by simp) | exact v_int (by simp; omega), by first | rfl | simp [upd], rfl, hM143, by omega⟩
            · rintro q f w153 ⟨e153_17, e153_1, e153_7, hM153, hq⟩ K154 h154
              obtain ⟨frm, rfl⟩ : ∃ frm, f = (upd (upd (upd frm 17 (.int .i64 (q : Nat))) 1 (.string (str key))) 7 (vf)) := ⟨f, by rw [upd_self e153_17, upd_self e153_1, upd_self e153_7]⟩
              clear e153_17 e153_1 e153_7
              refine seq fun K155 h155 => ?_
              refine seq fun K156 h156 => ?_
              refine stp (v := .int .i64 (q : Nat)) (o_mv rfl) ?_
              refine stp (v := vf) (o_mv rfl) ?_
              refine stp (v := .int .i64 (F.length : Nat)) (o_lenR (hvf.rd hM153 (i := 2) rfl) rfl rfl) ?_
              refine stp (v := .bool (decide (((q : Nat) : Int) < (F.length : Nat)))) (o_bin rfl rfl rfl) ?_
              refine h156 _ _ ?_
              clear h156
              refine cndP rfl (fun c157 => ?_) (fun c157 => ?_)
              ·
                refine h155 _ _ ?_
                clear h155
                refine seq fun K158 h158 => ?_
                refine seq fun K159 h159 => ?_
                refine stp (v := vf) (o_mv rfl) ?_
                refine stp (v := .int .i64 (q : Nat)) (o_mv rfl) ?_
                refine m_idxE [] (j := q) (hvf.rd hM153 (i := 2) rfl) rfl rfl (by omega) fun b160 o160 hp160 => ?_
                refine ld (v := .string (str (F.getD q []))) rfl (hp160) ?_
                refine stp (v := .int .i64 ((F.getD q []).length : Nat)) (o_lens rfl rfl) ?_
                refine stp (v := .bool (decide ((((F.getD q []).length : Nat) : Int) ≤ 64))) (o_bin rfl rfl rfl) ?_
                refine stp (v := .bool (decide ((((F.getD q []).length : Nat) : Int) ≤ 64))) (o_mv rfl) ?_
                refine splitP rfl (fun c161 => ?_) (fun c161 => ?_)
                ·
                  refine stg rfl (v := vf) (o_mv rfl) ?_
                  refine stg rfl (v := .int .i64 (q : Nat)) (o_mv rfl) ?_
                  refine gyes rfl rfl (m_idxE [] (j := q) (hvf.rd hM153 (i := 2) rfl) rfl rfl (by omega) fun b162 o162 hp162 => ?_)
                  refine gyesl rfl ?_
                  refine ld (v := .string (str (F.getD q []))) rfl (hp162) ?_
                  refine stg rfl (v := .string (str key)) (o_mv rfl) ?_
                  refine stg rfl (v := .bool (Op.bytesLess (F.getD q []) key)) (o_slss rfl rfl rfl) ?_
                  refine stp (v := .bool (Op.bytesLess (F.getD q []) key)) (o_pickT rfl rfl) ?_
                  refine stp (v := .bool (Op.bytesLess (F.getD q []) key)) (o_mv rfl) ?_
                  refine split rfl (fun hzT => ?_) (fun hzF => ?_)
                  ·
                    refine stg rfl (v := .string (str key)) (o_mv rfl) ?_
                    refine stg rfl (v := .int .i64 (key.length : Nat)) (o_lens rfl rfl) ?_
                    refine stg rfl (v := .bool (decide (((key.length : Nat) : Int) ≤ 64))) (o_bin rfl rfl rfl) ?_
                    refine stp (v := .bool (decide (((key.length : Nat) : Int) ≤ 64))) (o_pickT rfl rfl) ?_
                    refine h159 _ _ ?_
                    clear h159
                    refine cndP rfl (fun c164 => absurd c164 (by intro hk8; rw [less_cmp, decide_eq_true_iff] at hzT; have h9 := hfa9.2.2 q hq (by omega); rw [fB_get, List.take_of_length_le (by omega), List.take_of_length_le (l := key) (by omega)] at h9; omega)) (fun c164 => ?_)
                    refine h158 _ _ ?_
                    clear h158
                    refine stp (v := .int .i64 (q : Nat)) (o_mv rfl) ?_
                    refine stp (v := .int .i64 ((q : Nat) + 1)) (o_bin rfl rfl (v_add64 (by constructor <;> omega))) ?_
                    refine stp (v := .int .i64 ((q : Nat) + 1)) (o_mv rfl) ?_
                    refine h154 (q + 1) _ _ ⟨by first | rfl | exact v_int (by omega) | exact v_int (by simp) | exact v_int (by simp; omega), by first | rfl | simp [upd], rfl, hM153, by omega⟩ (by (try dsimp only); omega)
                  ·
                    refine gno rfl (by simp) ?_
                    refine gno rfl (by simp) ?_
                    refine gno rfl (by simp) ?_
                    refine stp (v := .bool false) (o_pickF rfl rfl) ?_
                    refine h159 _ _ ?_
                    clear h159
                    refine cndF rfl ?_
                    refine h158 _ _ ?_
                    clear h158
                    refine stp (v := .int .i64 (q : Nat)) (o_mv rfl) ?_
                    refine stp (v := .int .i64 ((q : Nat) + 1)) (o_bin rfl rfl (v_add64 (by constructor <;> omega))) ?_
                    refine stp (v := .int .i64 ((q : Nat) + 1)) (o_mv rfl) ?_
                    refine h154 (q + 1) _ _ ⟨by first | rfl | exact v_int (by omega) | exact v_int (by simp) | exact v_int (by simp; omega), by first | rfl | simp [upd], rfl, hM153, by omega⟩ (by (try dsimp only); omega)
                ·
                  refine gno rfl (by simp) ?_
                  refine gno rfl (by simp) ?_
                  refine gno rfl (by simp) ?_
                  refine gnol rfl (by simp) ?_
                  refine gno rfl (by simp) ?_
                  refine gno rfl (by simp) ?_
                  refine stp (v := .bool false) (o_pickF rfl rfl) ?_
                  refine stp (v := .bool false) (o_mv rfl) ?_
                  refine splitF rfl ?_
                  refine gno rfl (by simp) ?_
                  refine gno rfl (by simp) ?_
                  refine gno rfl (by simp) ?_
                  refine stp (v := .bool false) (o_pickF rfl rfl) ?_
                  refine h159 _ _ ?_
                  clear h159
                  refine cndF rfl ?_
                  refine h158 _ _ ?_
                  clear h158
                  refine stp (v := .int .i64 (q : Nat)) (o_mv rfl) ?_
                  refine stp (v := .int .i64 ((q : Nat) + 1)) (o_bin rfl rfl (v_add64 (by constructor <;> omega))) ?_
                  refine stp (v := .int .i64 ((q : Nat) + 1)) (o_mv rfl) ?_
                  refine h154 (q + 1) _ _ ⟨by first | rfl | exact v_int (by omega) | exact v_int (by simp) | exact v_int (by simp; omega), by first | rfl | simp [upd], rfl, hM153, by omega⟩ (by (try dsimp only); omega)
              ·
                refine h151 _ _ ?_
                clear h151
                refine seq fun K165 h165 => ?_
                refine m_call (head_ok w153) rfl fun v166 w166 ⟨hr166, hu166⟩ => ?_
                have hM166 : Mem w [] w166 [[⟨b3, 71, [.int .i64 3, (.slice ab nb cb), .bool true, .int .i64 0, .slice none 0 0]⟩], rb, rf, [⟨b132, 71, [.int .i64 3, (.slice ab nb cb), .bool true, .int .i64 0, .slice none 0 0]⟩], [⟨b134, 24, [.int .i64 9, .slice (some ⟨b132, 0, none⟩) 1 1]⟩]] := hM153.pure hu166
                subst hr166
                refine stp (v := .bool true) (o_mv rfl) ?_
                refine h165 _ _ ?_
                clear h165
                refine ⟨(.bool true), rfl, ?_⟩
                exact ⟨rfl, hM166.upd⟩
          ·
            refine gno rfl (by simp) ?_
            refine gno rfl (by simp) ?_
            refine gno rfl (by simp) ?_
            refine gnol rfl (by simp) ?_
            refine gno rfl (by simp) ?_
            refine gno rfl (by simp) ?_
            refine stp (v := .bool false) (o_pickF rfl rfl) ?_
            refine h147 _ _ ?_
            clear h147
            refine cndF rfl ?_
            refine h146 _ _ ?_
            clear h146
            refine seq fun K167 h167 => ?_
            refine seq fun K168 h168 => ?_
            refine stp (v := .int .i64 (n9 : Nat)) (o_mv rfl) ?_
            refine stp (v := .int .i64 ((n9 : Nat) + 1)) (o_bin rfl rfl (v_add64 (by constructor <;> omega))) ?_
            refine stp (v := .int .i64 ((n9 : Nat) + 1)) (o_mv rfl) ?_
            refine h168 _ _ ?_
            clear h168
            refine lp (n := fun _ _ => False) (ι := (Nat)) (fun q f w' => f 17 = .int .i64 (q : Nat) ∧ f 1 = .string (str key) ∧ f 7 = vf ∧ Mem w [] w' [[⟨b3, 71, [.int .i64 3, (.slice ab nb cb), .bool true, .int .i64 0, .slice none 0 0]⟩], rb, rf, [⟨b132, 71, [.int .i64 3, (.slice ab nb cb), .bool true, .int .i64 0, .slice none 0 0]⟩], [⟨b134, 24, [.int .i64 9, .slice (some ⟨b132, 0, none⟩) 1 1]⟩]] ∧ (lo9 ≤ q)) (fun q => F.length - q) (n9 + 1) ?_ ?_
            · exact ⟨by first | rfl | exact v_int (by omega) | exact v_int (by simp) | exact v_int (by simp; omega), by first | rfl | simp [upd], rfl, hM143, by omega⟩
            · rintro q f w169 ⟨e169_17, e169_1, e169_7, hM169, hq⟩ K170 h170
              obtain ⟨frm, rfl⟩ : ∃ frm, f = (upd (upd (upd frm 17 (.int .i64 (q : Nat))) 1 (.string (str key))) 7 (vf)) := ⟨f, by rw [upd_self e169_17, upd_self e169_1, upd_self e169_7]⟩
              clear e169_17 e169_1 e169_7
              refine seq fun K171 h171 => ?_
              refine seq fun K172 h172 => ?_
              refine stp (v := .int .i64 (q : Nat)) (o_mv rfl) ?_
              refine stp (v := vf) (o_mv rfl) ?_
              refine stp (v := .int .i64 (F.length : Nat)) (o_lenR (hvf.rd hM169 (i := 2) rfl) rfl rfl) ?_
              refine stp (v := .bool (decide (((q : Nat) : Int) < (F.length : Nat)))) (o_bin rfl rfl rfl) ?_
              refine h172 _ _ ?_
              clear h172
              refine cndP rfl (fun c173 => ?_) (fun c173 => ?_)
              ·
                refine h171 _ _ ?_
                clear h171
                refine seq fun K174 h174 => ?_
                refine seq fun K175 h175 => ?_
                refine stp (v := vf) (o_mv rfl) ?_
                refine stp (v := .int .i64 (q : Nat)) (o_mv rfl) ?_
                refine m_idxE [] (j := q) (hvf.rd hM169 (i := 2) rfl) rfl rfl (by omega) fun b176 o176 hp176 => ?_
                refine ld (v := .string (str (F.getD q []))) rfl (hp176) ?_
                refine stp (v := .int .i64 ((F.getD q []).length : Nat)) (o_lens rfl rfl) ?_
                refine stp (v := .bool (decide ((((F.getD q []).length : Nat) : Int) ≤ 64))) (o_bin rfl rfl rfl) ?_
                refine stp (v := .bool (decide ((((F.getD q []).length : Nat) : Int) ≤ 64))) (o_mv rfl) ?_
                refine splitP rfl (fun c177 => ?_) (fun c177 => ?_)
                ·
                  refine stg rfl (v := vf) (o_mv rfl) ?_
                  refine stg rfl (v := .int .i64 (q : Nat)) (o_mv rfl) ?_
                  refine gyes rfl rfl (m_idxE [] (j := q) (hvf.rd hM169 (i := 2) rfl) rfl rfl (by omega) fun b178 o178 hp178 => ?_)
                  refine gyesl rfl ?_
                  refine ld (v := .string (str (F.getD q []))) rfl (hp178) ?_
                  refine stg rfl (v := .string (str key)) (o_mv rfl) ?_
                  refine stg rfl (v := .bool (Op.bytesLess (F.getD q []) key)) (o_slss rfl rfl rfl) ?_
                  refine stp (v := .bool (Op.bytesLess (F.getD q []) key)) (o_pickT rfl rfl) ?_
                  refine stp (v := .bool (Op.bytesLess (F.getD q []) key)) (o_mv rfl) ?_
                  refine split rfl (fun hzT => ?_) (fun hzF => ?_)
                  ·
                    refine stg rfl (v := .string (str key)) (o_mv rfl) ?_
                    refine stg rfl (v := .int .i64 (key.length : Nat)) (o_lens rfl rfl) ?_
                    refine stg rfl (v := .bool (decide (((key.length : Nat) : Int) ≤ 64))) (o_bin rfl rfl rfl) ?_
                    refine stp (v := .bool (decide (((key.length : Nat) : Int) ≤ 64))) (o_pickT rfl rfl) ?_
                    refine h175 _ _ ?_
                    clear h175
                    refine cndP rfl (fun c180 => absurd c180 (by intro hk8; rw [less_cmp, decide_eq_true_iff] at hzT; have h9 := hfa9.2.2 q hq (by omega); rw [fB_get, List.take_of_length_le (by omega), List.take_of_length_le (l := key) (by omega)] at h9; omega)) (fun c180 => ?_)
                    refine h174 _ _ ?_
                    clear h174
                    refine stp (v := .int .i64 (q : Nat)) (o_mv rfl) ?_
                    refine stp (v := .int .i64 ((q : Nat) + 1)) (o_bin rfl rfl (v_add64 (by constructor <;> omega))) ?_
                    refine stp (v := .int .i64 ((q : Nat) + 1)) (o_mv rfl) ?_
                    refine h170 (q + 1) _ _ ⟨by first | rfl | exact v_int (by omega) | exact v_int (by simp) | exact v_int (by simp; omega), by first | rfl | simp [upd], rfl, hM169, by omega⟩ (by (try dsimp only); omega)
                  ·
                    refine gno rfl (by simp) ?_
                    refine gno rfl (by simp) ?_
                    refine gno rfl (by simp) ?_
                    refine stp (v := .bool false) (o_pickF rfl rfl) ?_
                    refine h175 _ _ ?_
                    clear h175
                    refine cndF rfl ?_
                    refine h174 _ _ ?_
                    clear h174
                    refine stp (v := .int .i64 (q : Nat)) (o_mv rfl) ?_
                    refine stp (v := .int .i64 ((q : Nat) + 1)) (o_bin rfl rfl (v_add64 (by constructor <;> omega))) ?_
                    refine stp (v := .int .i64 ((q : Nat) + 1)) (o_mv rfl) ?_
                    refine h170 (q + 1) _ _ ⟨by first | rfl | exact v_int (by omega) | exact v_int (by simp) | exact v_int (by simp; omega), by first | rfl | simp [upd], rfl, hM169, by omega⟩ (by (try dsimp only); omega)
                ·
                  refine gno rfl (by simp) ?_
                  refine gno rfl (by simp) ?_
                  refine gno rfl (by simp) ?_
                  refine gnol rfl (by simp) ?_
                  refine gno rfl (by simp) ?_
                  refine gno rfl (by simp) ?_
                  refine stp (v := .bool false) (o_pickF rfl rfl) ?_
                  refine stp (v := .bool false) (o_mv rfl) ?_
                  refine splitF rfl ?_
                  refine gno rfl (by simp) ?_
                  refine gno rfl (by simp) ?_
                  refine gno rfl (by simp) ?_
                  refine stp (v := .bool false) (o_pickF rfl rfl) ?_
                  refine h175 _ _ ?_
                  clear h175
                  refine cndF rfl ?_
                  refine h174 _ _ ?_
                  clear h174
                  refine stp (v := .int .i64 (q : Nat)) (o_mv rfl) ?_
                  refine stp (v := .int .i64 ((q : Nat) + 1)) (o_bin rfl rfl (v_add64 (by constructor <;> omega))) ?_
                  refine stp (v := .int .i64 ((q : Nat) + 1)) (o_mv rfl) ?_
                  refine h170 (q + 1) _ _ ⟨by first | rfl | exact v_int (by omega) | exact v_int (by simp) | exact v_int (by simp; omega), by first | rfl | simp [upd], rfl, hM169, by omega⟩ (by (try dsimp only); omega)
              ·
                refine h167 _ _ ?_
                clear h167
                refine seq fun K181 h181 => ?_
                refine m_call (head_ok w169) rfl fun v182 w182 ⟨hr182, hu182⟩ => ?_
                have hM182 : Mem w [] w182 [[⟨b3, 71, [.int .i64 3, (.slice ab nb cb), .bool true, .int .i64 0, .slice none 0 0]⟩], rb, rf, [⟨b132, 71, [.int .i64 3, (.slice ab nb cb), .bool true, .int .i64 0, .slice none 0 0]⟩], [⟨b134, 24, [.int .i64 9, .slice (some ⟨b132, 0, none⟩) 1 1]⟩]] := hM169.pure hu182
                subst hr182
                refine stp (v := .bool true) (o_mv rfl) ?_
                refine h181 _ _ ?_
                clear h181
                refine ⟨(.bool true), rfl, ?_⟩
                exact ⟨rfl, hM182.upd⟩
    ·
      refine gno rfl (by simp) ?_
      refine gno rfl (by simp) ?_
      refine stp (v := .bool false) (o_pickF rfl rfl) ?_
      refine h16 _ _ ?_
      clear h16
      refine cndF rfl ?_
      refine h11 _ _ ?_
      clear h11
      refine seq fun K183 h183 => ?_
      refine seq fun K184 h184 => ?_
      refine stp (v := .pointer (some ⟨b3, 1, none⟩)) (o_fa rfl rfl) ?_
      refine m_ld (v := (.slice ab nb cb)) hM13 (i := 0) (j := 0) rfl rfl rfl rfl ?_
      refine stp (v := .int .i64 ((F.map fB).length : Nat)) (o_lenR (hvb.rd hM13 (i := 1) rfl) rfl rfl) ?_
      refine stp (v := .bool (decide ((((F.map fB).length : Nat) : Int) = 0))) (o_bin rfl rfl rfl) ?_
      refine h184 _ _ ?_
      clear h184
      refine cndP rfl (fun c185 => ?_) (fun c185 => ?_)
      ·
        refine seq fun K186 h186 => ?_
        refine m_call (head_ok w13) rfl fun v187 w187 ⟨hr187, hu187⟩ => ?_
        have hM187 : Mem w [] w187 [[⟨b3, 71, [.int .i64 3, (.slice ab nb cb), .bool true, .int .i64 0, .slice none 0 0]⟩], rb, rf] := hM13.pure hu187
        subst hr187
        refine stp (v := .bool true) (o_mv rfl) ?_
        refine h186 _ _ ?_
        clear h186
        refine ⟨(.bool true), rfl, ?_⟩
        exact ⟨rfl, hM187.upd⟩
      ·
        refine h183 _ _ ?_
        clear h183
        refine seq fun K188 h188 => ?_
        refine m_ldA (l := [.int .i64 3, (.slice ab nb cb), .bool true, .int .i64 0, .slice none 0 0]) hM13 (i := 0) (j := 0) rfl rfl rfl rfl rfl ?_
        refine m_bs hM13 rfl fun b189 w190 (hM190 : Mem w [] w190 [[⟨b3, 71, [.int .i64 3, (.slice ab nb cb), .bool true, .int .i64 0, .slice none 0 0]⟩], rb, rf, [⟨b189, 71, [.int .i64 3, (.slice ab nb cb), .bool true, .int .i64 0, .slice none 0 0]⟩]]) => ?_
        refine stp (v := .agg ([.int .i64 9, .slice (some ⟨b189, 0, none⟩) 1 1] : List Value).toArray) (o_bld rfl rfl) ?_
        refine m_al hM190 fun b191 w192 (hM192 : Mem w [] w192 [[⟨b3, 71, [.int .i64 3, (.slice ab nb cb), .bool true, .int .i64 0, .slice none 0 0]⟩], rb, rf, [⟨b189, 71, [.int .i64 3, (.slice ab nb cb), .bool true, .int .i64 0, .slice none 0 0]⟩], [⟨b191, 24, [.int .i64 0, .slice none 0 0]⟩]]) => ?_
        refine m_stA (l := [.int .i64 9, .slice (some ⟨b189, 0, none⟩) 1 1]) hM192 (i := 4) rfl rfl rfl rfl (by simp [oneCells, Value.oneCell', byteV]) (by simp) fun w193 (hM193 : Mem w [] w193 [[⟨b3, 71, [.int .i64 3, (.slice ab nb cb), .bool true, .int .i64 0, .slice none 0 0]⟩], rb, rf, [⟨b189, 71, [.int .i64 3, (.slice ab nb cb), .bool true, .int .i64 0, .slice none 0 0]⟩], [⟨b191, 24, [.int .i64 9, .slice (some ⟨b189, 0, none⟩) 1 1]⟩]]) => ?_
        refine h188 _ _ ?_
        clear h188
        refine seq fun K194 h194 => ?_
        refine m_ldA (l := [.int .i64 9, .slice (some ⟨b189, 0, none⟩) 1 1]) hM193 (i := 4) (j := 0) rfl rfl rfl rfl rfl ?_
        refine stp (v := .string (str key)) (o_mv rfl) ?_
        refine m_call (Find_ok 9 _ ([(⟨3, ab, nb, cb, F.map fB, true, 0, none, 0, 0, []⟩ : Pr)]) w193 (own_rdS (enc := prC) (l := [(⟨3, ab, nb, cb, F.map fB, true, 0, none, 0, 0, []⟩ : Pr)]) (hM193.at (i := 3) (j := 0) rfl rfl) rfl) (fun p hp => by obtain rfl := List.mem_singleton.1 hp; exact ⟨Sl.rdOwn hvb (hM193.res (i := 1) rfl).1, Sl.rdOwn (Sl.nil 1 5) (by simp), by simp only [inK]; omega, by simp only [inK]; omega, by simp, by dsimp only; rw [List.length_map]; omega, fB_ok F⟩) (by simp) (by simp only [inK]; omega) 3 (by simp only [inK]; omega) key hkl (fun p hp => by obtain rfl := List.mem_singleton.1 hp; exact hS.srt)) rfl fun v195 w195 ⟨i195, k195, hr195, hf195, hu195⟩ => ?_
        have hM195 : Mem w [] w195 [[⟨b3, 71, [.int .i64 3, (.slice ab nb cb), .bool true, .int .i64 0, .slice none 0 0]⟩], rb, rf, [⟨b189, 71, [.int .i64 3, (.slice ab nb cb), .bool true, .int .i64 0, .slice none 0 0]⟩], [⟨b191, 24, [.int .i64 9, .slice (some ⟨b189, 0, none⟩) 1 1]⟩]] := hM193.pure hu195
        obtain ⟨hi195, lo9, hfa9, hk9⟩ := find3 hf195 rfl
        subst hi195
        obtain ⟨n9, hn9⟩ : ∃ n : Nat, k195 = n := ⟨k195.toNat, by omega⟩
        subst hn9
        subst hr195
        have hml9 : (F.map fB).length = F.length := List.length_map ..
        have hfl9 := hfa9.1
        dsimp only at hfl9 hfa9
        refine stp (v := .tuple [.int .i64 0, .int .i64 (n9 : Nat)].toArray) (o_mv rfl) ?_
        refine stp (v := .int .i64 0) (o_ext rfl rfl) ?_
        refine stp (v := .int .i64 (n9 : Nat)) (o_ext rfl rfl) ?_
        refine stp (v := .int .i64 0) (o_mv rfl) ?_
        refine stp (v := .int .i64 (n9 : Nat)) (o_mv rfl) ?_
        refine h194 _ _ ?_
        clear h194
        refine seq fun K196 h196 => ?_
        refine m_ldA (l := [.int .i64 9, .slice (some ⟨b189, 0, none⟩) 1 1]) hM195 (i := 4) (j := 0) rfl rfl rfl rfl rfl ?_
        refine stp (v := .string (str key)) (o_mv rfl) ?_
        refine m_call (Find_ok 9 _ ([(⟨3, ab, nb, cb, F.map fB, true, 0, none, 0, 0, []⟩ : Pr)]) w195 (own_rdS (enc := prC) (l := [(⟨3, ab, nb, cb, F.map fB, true, 0, none, 0, 0, []⟩ : Pr)]) (hM195.at (i := 3) (j := 0) rfl rfl) rfl) (fun p hp => by obtain rfl := List.mem_singleton.1 hp; exact ⟨Sl.rdOwn hvb (hM195.res (i := 1) rfl).1, Sl.rdOwn (Sl.nil 1 5) (by simp), by simp only [inK]; omega, by simp only [inK]; omega, by simp, by dsimp only; rw [List.length_map]; omega, fB_ok F⟩) (by simp) (by simp only [inK]; omega) 4 (by simp only [inK]; omega) key hkl (fun p hp => by obtain rfl := List.mem_singleton.1 hp; exact hS.srt)) rfl fun v197 w197 ⟨i197, k197, hr197, hf197, hu197⟩ => ?_
        have hM197 : Mem w [] w197 [[⟨b3, 71, [.int .i64 3, (.slice ab nb cb), .bool true, .int .i64 0, .slice none 0 0]⟩], rb, rf, [⟨b189, 71, [.int .i64 3, (.slice ab nb cb), .bool true, .int .i64 0, .slice none 0 0]⟩], [⟨b191, 24, [.int .i64 9, .slice (some ⟨b189, 0, none⟩) 1 1]⟩]] := hM195.pure hu197
        obtain ⟨hi197, hk197⟩ := find4 hf197 (by dsimp only; omega)
        subst hi197 hk197 hr197
        refine stp (v := .tuple [.int .i64 (-1), .int .i64 0].toArray) (o_mv rfl) ?_
        refine stp (v := .int .i64 (-1)) (o_ext rfl rfl) ?_
        refine stp (v := .int .i64 0) (o_ext rfl rfl) ?_
        refine stp (v := .int .i64 (-1)) (o_mv rfl) ?_
        refine stp (v := .int .i64 0) (o_mv rfl) ?_
        refine h196 _ _ ?_
        clear h196
        refine seq fun K198 h198 => ?_
        refine seq fun K199 h199 => ?_
        refine m_ldA (l := [.int .i64 9, .slice (some ⟨b189, 0, none⟩) 1 1]) hM197 (i := 4) (j := 0) rfl rfl rfl rfl rfl ?_
        refine m_call (Check_ok 9 _ ([(⟨3, ab, nb, cb, F.map fB, true, 0, none, 0, 0, []⟩ : Pr)]) w197 (own_rdS (enc := prC) (l := [(⟨3, ab, nb, cb, F.map fB, true, 0, none, 0, 0, []⟩ : Pr)]) (hM197.at (i := 3) (j := 0) rfl rfl) rfl) (fun p hp => by obtain rfl := List.mem_singleton.1 hp; exact ⟨Sl.rdOwn hvb (hM197.res (i := 1) rfl).1, Sl.rdOwn (Sl.nil 1 5) (by simp), by simp only [inK]; omega, by simp only [inK]; omega, by simp, by dsimp only; rw [List.length_map]; omega, fB_ok F⟩) (by simp) (by simp only [inK]; omega)) rfl fun v200 w200 ⟨hr200, hu200⟩ => ?_
        have hM200 : Mem w [] w200 [[⟨b3, 71, [.int .i64 3, (.slice ab nb cb), .bool true, .int .i64 0, .slice none 0 0]⟩], rb, rf, [⟨b189, 71, [.int .i64 3, (.slice ab nb cb), .bool true, .int .i64 0, .slice none 0 0]⟩], [⟨b191, 24, [.int .i64 9, .slice (some ⟨b189, 0, none⟩) 1 1]⟩]] := hM197.pure hu200
        rw [show chkF 9 (List.map Pr.p [(⟨3, ab, nb, cb, F.map fB, true, 0, none, 0, 0, []⟩ : Pr)]) = 0 from ft_search hS (by omega) (by omega)] at hr200
        subst hr200
        refine stp (v := .bool false) (o_bin rfl rfl v_neF) ?_
        refine stp (v := .bool false) (o_mv rfl) ?_
        refine splitF rfl ?_
        refine stg rfl (v := .int .i64 0) (o_mv rfl) ?_
        refine stg rfl (v := .bool false) (o_bin rfl rfl v_neF) ?_
        refine stp (v := .bool false) (o_pickF rfl rfl) ?_
        refine stp (v := .bool false) (o_mv rfl) ?_
        refine splitF rfl ?_
        refine stg rfl (v := .int .i64 (n9 : Nat)) (o_mv rfl) ?_
        refine stg rfl (v := .bool (decide (((n9 : Nat) : Int) < 0))) (o_bin rfl rfl rfl) ?_
        refine stp (v := .bool (decide (((n9 : Nat) : Int) < 0))) (o_pickF rfl rfl) ?_
        refine stp (v := .bool (decide (((n9 : Nat) : Int) < 0))) (o_mv rfl) ?_
        refine splitP rfl (fun c201 => absurd c201 (by omega)) (fun c201 => ?_)
        refine stg rfl (v := .int .i64 (n9 : Nat)) (o_mv rfl) ?_
        refine stg rfl (v := .pointer (some ⟨b3, 1, none⟩)) (o_fa rfl rfl) ?_
        refine gyesl rfl ?_
        refine m_ld (v := (.slice ab nb cb)) hM200 (i := 0) (j := 0) rfl rfl rfl rfl ?_
        refine stg rfl (v := .int .i64 ((F.map fB).length : Nat)) (o_lenR (hvb.rd hM200 (i := 1) rfl) rfl rfl) ?_
        refine stg rfl (v := .bool (decide ((((F.map fB).length : Nat) : Int) ≤ ((n9 : Nat) : Int)))) (o_bin rfl rfl rfl) ?_
        refine stp (v := .bool (decide ((((F.map fB).length : Nat) : Int) ≤ ((n9 : Nat) : Int)))) (o_pickF rfl rfl) ?_
        refine stp (v := .bool (decide ((((F.map fB).length : Nat) : Int) ≤ ((n9 : Nat) : Int)))) (o_mv rfl) ?_
        refine splitP rfl (fun c202 => absurd c202 (by omega)) (fun c202 => ?_)
        refine stg rfl (v := .int .i64 (-1)) (o_mv rfl) ?_
        refine stg rfl (v := .bool false) (o_bin rfl rfl v_neF) ?_
        refine stp (v := .bool false) (o_pickF rfl rfl) ?_
        refine stp (v := .bool false) (o_mv rfl) ?_
        refine splitF rfl ?_
        refine stg rfl (v := .int .i64 0) (o_mv rfl) ?_
        refine stg rfl (v := .bool false) (o_bin rfl rfl v_neF) ?_
        refine stp (v := .bool false) (o_pickF rfl rfl) ?_
        refine h199 _ _ ?_
        clear h199
        refine cndF rfl ?_
        refine h198 _ _ ?_
        clear h198
        refine seq fun K203 h203 => ?_
        refine seq fun K204 h204 => ?_
        refine stp (v := .int .i64 (n9 : Nat)) (o_mv rfl) ?_
        refine stp (v := .bool (decide ((0 : Int) < ((n9 : Nat) : Int)))) (o_bin rfl rfl rfl) ?_
        refine stp (v := .bool (decide ((0 : Int) < ((n9 : Nat) : Int)))) (o_mv rfl) ?_
        refine splitP rfl (fun c205 => ?_) (fun c205 => ?_)
        ·
          refine stg rfl (v := vf) (o_mv rfl) ?_
          refine stg rfl (v := .int .i64 (n9 : Nat)) (o_mv rfl) ?_
          refine gyes rfl rfl (m_idxE [] (j := n9) (hvf.rd hM200 (i := 2) rfl) rfl rfl (by omega) fun b206 o206 hp206 => ?_)
          refine gyesl rfl ?_
          refine ld (v := .string (str (F.getD n9 []))) rfl (hp206) ?_
          refine stg rfl (v := .string (str key)) (o_mv rfl) ?_
          refine stg rfl (v := .bool (!Op.bytesLess (F.getD n9 []) key)) (o_sgeq rfl rfl rfl) ?_
          refine stp (v := .bool (!Op.bytesLess (F.getD n9 []) key)) (o_pickT rfl rfl) ?_
          refine h204 _ _ ?_
          clear h204
          refine cnd rfl (fun c207 => absurd c207 (show ¬ (!Op.bytesLess (F.getD n9 []) key) = true from (by have h9 := hfa9.2.1 n9 (by omega); rw [fB_get] at h9; have h8 := cmp_take_lt h9; rw [less_cmp, decide_eq_true h8]; simp))) (fun c207 => ?_)
          refine h203 _ _ ?_
          clear h203
          refine seq fun K208 h208 => ?_
          refine seq fun K209 h209 => ?_
          refine stp (v := .int .i64 (n9 : Nat)) (o_mv rfl) ?_
          refine stp (v := .int .i64 ((n9 : Nat) + 1)) (o_bin rfl rfl (v_add64 (by constructor <;> omega))) ?_
          refine stp (v := .int .i64 ((n9 : Nat) + 1)) (o_mv rfl) ?_
          refine h209 _ _ ?_
          clear h209
          refine lp (n := fun _ _ => False) (ι := (Nat)) (fun q f w' => f 17 = .int .i64 (q : Nat) ∧ f 1 = .string (str key) ∧ f 7 = vf ∧ Mem w [] w' [[⟨b3, 71, [.int .i64 3, (.slice ab nb cb), .bool true, .int .i64 0, .slice none 0 0]⟩], rb, rf, [⟨b189, 71, [.int .i64 3, (.slice ab nb cb), .bool true, .int .i64 0, .slice none 0 0]⟩], [⟨b191, 24, [.int .i64 9, .slice (some ⟨b189, 0, none⟩) 1 1]⟩]] ∧ (lo9 ≤ q)) (fun q => F.length - q) (n9 + 1) ?_ ?_
          · exact ⟨by first | rfl | exact v_int (by omega) | exact v_int (by simp) | exact v_int (by simp; omega), by first | rfl | simp [upd], rfl, hM200, by omega⟩
          · rintro q f w210 ⟨e210_17, e210_1, e210_7, hM210, hq⟩ K211 h211
            obtain ⟨frm, rfl⟩ : ∃ frm, f = (upd (upd (upd frm 17 (.int .i64 (q : Nat))) 1 (.string (str key))) 7 (vf)) := ⟨f, by rw [upd_self e210_17, upd_self e210_1, upd_self e210_7]⟩
            clear e210_17 e210_1 e210_7
            refine seq fun K212 h212 => ?_
            refine seq fun K213 h213 => ?_
            refine stp (v := .int .i64 (q : Nat)) (o_mv rfl) ?_
            refine stp (v := vf) (o_mv rfl) ?_
            refine stp (v := .int .i64 (F.length : Nat)) (o_lenR (hvf.rd hM210 (i := 2) rfl) rfl rfl) ?_
            refine stp (v := .bool (decide (((q : Nat) : Int) < (F.length : Nat)))) (o_bin rfl rfl rfl) ?_
            refine h213 _ _ ?_
            clear h213
            refine cndP rfl (fun c214 => ?_) (fun c214 => ?_)
            ·
              refine h212 _ _ ?_
              clear h212
              refine seq fun K215 h215 => ?_
              refine seq fun K216 h216 => ?_
              refine stp (v := vf) (o_mv rfl) ?_
              refine stp (v := .int .i64 (q : Nat)) (o_mv rfl) ?_
              refine m_idxE [] (j := q) (hvf.rd hM210 (i := 2) rfl) rfl rfl (by omega) fun b217 o217 hp217 => ?_
              refine ld (v := .string (str (F.getD q []))) rfl (hp217) ?_
              refine stp (v := .int .i64 ((F.getD q []).length : Nat)) (o_lens rfl rfl) ?_
              refine stp (v := .bool (decide ((((F.getD q []).length : Nat) : Int) ≤ 64))) (o_bin rfl rfl rfl) ?_
              refine stp (v := .bool (decide ((((F.getD q []).length : Nat) : Int) ≤ 64))) (o_mv rfl) ?_
              refine splitP rfl (fun c218 => ?_) (fun c218 => ?_)
              ·
                refine stg rfl (v := vf) (o_mv rfl) ?_
                refine stg rfl (v := .int .i64 (q : Nat)) (o_mv rfl) ?_
                refine gyes rfl rfl (m_idxE [] (j := q) (hvf.rd hM210 (i := 2) rfl) rfl rfl (by omega) fun b219 o219 hp219 => ?_)
                refine gyesl rfl ?_
                refine ld (v := .string (str (F.getD q []))) rfl (hp219) ?_
                refine stg rfl (v := .string (str key)) (o_mv rfl) ?_
                refine stg rfl (v := .bool (Op.bytesLess (F.getD q []) key)) (o_slss rfl rfl rfl) ?_
                refine stp (v := .bool (Op.bytesLess (F.getD q []) key)) (o_pickT rfl rfl) ?_
                refine stp (v := .bool (Op.bytesLess (F.getD q []) key)) (o_mv rfl) ?_
                refine split rfl (fun hzT => ?_) (fun hzF => ?_)
                ·
                  refine stg rfl (v := .string (str key)) (o_mv rfl) ?_
                  refine stg rfl (v := .int .i64 (key.length : Nat)) (o_lens rfl rfl) ?_
                  refine stg rfl (v := .bool (decide (((key.length : Nat) : Int) ≤ 64))) (o_bin rfl rfl rfl) ?_
                  refine stp (v := .bool (decide (((key.length : Nat) : Int) ≤ 64))) (o_pickT rfl rfl) ?_
                  refine h216 _ _ ?_
                  clear h216
                  refine cndP rfl (fun c221 => absurd c221 (by intro hk8; rw [less_cmp, decide_eq_true_iff] at hzT; have h9 := hfa9.2.2 q hq (by omega); rw [fB_get, List.take_of_length_le (by omega), List.take_of_length_le (l := key) (by omega)] at h9; omega)) (fun c221 => ?_)
                  refine h215 _ _ ?_
                  clear h215
                  refine stp (v := .int .i64 (q : Nat)) (o_mv rfl) ?_
                  refine stp (v := .int .i64 ((q : Nat) + 1)) (o_bin rfl rfl (v_add64 (by constructor <;> omega))) ?_
                  refine stp (v := .int .i64 ((q : Nat) + 1)) (o_mv rfl) ?_
                  refine h211 (q + 1) _ _ ⟨by first | rfl | exact v_int (by omega) | exact v_int (by simp) | exact v_int (by simp; omega), by first | rfl | simp [upd], rfl, hM210, by omega⟩ (by (try dsimp only); omega)
                ·
                  refine gno rfl (by simp) ?_
                  refine gno rfl (by simp) ?_
                  refine gno rfl (by simp) ?_
                  refine stp (v := .bool false) (o_pickF rfl rfl) ?_
                  refine h216 _ _ ?_
                  clear h216
                  refine cndF rfl ?_
                  refine h215 _ _ ?_
                  clear h215
                  refine stp (v := .int .i64 (q : Nat)) (o_mv rfl) ?_
                  refine stp (v := .int .i64 ((q : Nat) + 1)) (o_bin rfl rfl (v_add64 (by constructor <;> omega))) ?_
                  refine stp (v := .int .i64 ((q : Nat) + 1)) (o_mv rfl) ?_
                  refine h211 (q + 1) _ _ ⟨by first | rfl | exact v_int (by omega) | exact v_int (by simp) | exact v_int (by simp; omega), by first | rfl | simp [upd], rfl, hM210, by omega⟩ (by (try dsimp only); omega)
              ·
                refine gno rfl (by simp) ?_
                refine gno rfl (by simp) ?_
                refine gno rfl (by simp) ?_
                refine gnol rfl (by simp) ?_
                refine gno rfl (by simp) ?_
                refine gno rfl (by simp) ?_
                refine stp (v := .bool false) (o_pickF rfl rfl) ?_
                refine stp (v := .bool false) (o_mv rfl) ?_
                refine splitF rfl ?_
                refine gno rfl (by simp) ?_
                refine gno rfl (by simp) ?_
                refine gno rfl (by simp) ?_
                refine stp (v := .bool false) (o_pickF rfl rfl) ?_
                refine h216 _ _ ?_
                clear h216
                refine cndF rfl ?_
                refine h215 _ _ ?_
                clear h215
                refine stp (v := .int .i64 (q : Nat)) (o_mv rfl) ?_
                refine stp (v := .int .i64 ((q : Nat) + 1)) (o_bin rfl rfl (v_add64 (by constructor <;> omega))) ?_
                refine stp (v := .int .i64 ((q : Nat) + 1)) (o_mv rfl) ?_
                refine h211 (q + 1) _ _ ⟨by first | rfl | exact v_int (by omega) | exact v_int (by simp) | exact v_int (by simp; omega), by first | rfl | simp [upd], rfl, hM210, by omega⟩ (by (try dsimp only); omega)
            ·
              refine h208 _ _ ?_
              clear h208
              refine seq fun K222 h222 => ?_
              refine m_call (head_ok w210) rfl fun v223 w223 ⟨hr223, hu223⟩ => ?_
              have hM223 : Mem w [] w223 [[⟨b3, 71, [.int .i64 3, (.slice ab nb cb), .bool true, .int .i64 0, .slice none 0 0]⟩], rb, rf, [⟨b189, 71, [.int .i64 3, (.slice ab nb cb), .bool true, .int .i64 0, .slice none 0 0]⟩], [⟨b191, 24, [.int .i64 9, .slice (some ⟨b189, 0, none⟩) 1 1]⟩]] := hM210.pure hu223
              subst hr223
              refine stp (v := .bool true) (o_mv rfl) ?_
              refine h222 _ _ ?_
              clear h222
              refine ⟨(.bool true), rfl, ?_⟩
              exact ⟨rfl, hM223.upd⟩
        ·
          refine gno rfl (by simp) ?_
          refine gno rfl (by simp) ?_
          refine gno rfl (by simp) ?_
          refine gnol rfl (by simp) ?_
          refine gno rfl (by simp) ?_
          refine gno rfl (by simp) ?_
          refine stp (v := .bool false) (o_pickF rfl rfl) ?_
          refine h204 _ _ ?_
          clear h204
          refine cndF rfl ?_
          refine h203 _ _ ?_
          clear h203
          refine seq fun K224 h224 => ?_
          refine seq fun K225 h225 => ?_
          refine stp (v := .int .i64 (n9 : Nat)) (o_mv rfl) ?_
          refine stp (v := .int .i64 ((n9 : Nat) + 1)) (o_bin rfl rfl (v_add64 (by constructor <;> omega))) ?_
          refine stp (v := .int .i64 ((n9 : Nat) + 1)) (o_mv rfl) ?_
          refine h225 _ _ ?_
          clear h225
          refine lp (n := fun _ _ => False) (ι := (Nat)) (fun q f w' => f 17 = .int .i64 (q : Nat) ∧ f 1 = .string (str key) ∧ f 7 = vf ∧ Mem w [] w' [[⟨b3, 71, [.int .i64 3, (.slice ab nb cb), .bool true, .int .i64 0, .slice none 0 0]⟩], rb, rf, [⟨b189, 71, [.int .i64 3, (.slice ab nb cb), .bool true, .int .i64 0, .slice none 0 0]⟩], [⟨b191, 24, [.int .i64 9, .slice (some ⟨b189, 0, none⟩) 1 1]⟩]] ∧ (lo9 ≤ q)) (fun q => F.length - q) (n9 + 1) ?_ ?_
          · exact ⟨by first | rfl | exact v_int (by omega) | exact v_int (by simp) | exact v_int (by simp; omega), by first | rfl | simp [upd], rfl, hM200, by omega⟩
          · rintro q f w226 ⟨e226_17, e226_1, e226_7, hM226, hq⟩ K227 h227
            obtain ⟨frm, rfl⟩ : ∃ frm, f = (upd (upd (upd frm 17 (.int .i64 (q : Nat))) 1 (.string (str key))) 7 (vf)) := ⟨f, by rw [upd_self e226_17, upd_self e226_1, upd_self e226_7]⟩
            clear e226_17 e226_1 e226_7
            refine seq fun K228 h228 => ?_
            refine seq fun K229 h229 => ?_
            refine stp (v := .int .i64 (q : Nat)) (o_mv rfl) ?_
            refine stp (v := vf) (o_mv rfl) ?_
            refine stp (v := .int .i64 (F.length : Nat)) (o_lenR (hvf.rd hM226 (i := 2) rfl) rfl rfl) ?_
            refine stp (v := .bool (decide (((q : Nat) : Int) < (F.length : Nat)))) (o_bin rfl rfl rfl) ?_
            refine h229 _ _ ?_
            clear h229
            refine cndP rfl (fun c230 => ?_) (fun c230 => ?_)
            ·
              refine h228 _ _ ?_
              clear h228
              refine seq fun K231 h231 => ?_
              refine seq fun K232 h232 => ?_
              refine stp (v := vf) (o_mv rfl) ?_
              refine stp (v := .int .i64 (q : Nat)) (o_mv rfl) ?_
              refine m_idxE [] (j := q) (hvf.rd hM226 (i := 2) rfl) rfl rfl (by omega) fun b233 o233 hp233 => ?_
              refine ld (v := .string (str (F.getD q []))) rfl (hp233) ?_
              refine stp (v := .int .i64 ((F.getD q []).length : Nat)) (o_lens rfl rfl) ?_
              refine stp (v := .bool (decide ((((F.getD q []).length : Nat) : Int) ≤ 64))) (o_bin rfl rfl rfl) ?_
              refine stp (v := .bool (decide ((((F.getD q []).length : Nat) : Int) ≤ 64))) (o_mv rfl) ?_
              refine splitP rfl (fun c234 => ?_) (fun c234 => ?_)
              ·
                refine stg rfl (v := vf) (o_mv rfl) ?_
                refine stg rfl (v := .int .i64 (q : Nat)) (o_mv rfl) ?_
                refine gyes rfl rfl (m_idxE [] (j := q) (hvf.rd hM226 (i := 2) rfl) rfl rfl (by omega) fun b235 o235 hp235 => ?_)
                refine gyesl rfl ?_
                refine ld (v := .string (str (F.getD q []))) rfl (hp235) ?_
                refine stg rfl (v := .string (str key)) (o_mv rfl) ?_
                refine stg rfl (v := .bool (Op.bytesLess (F.getD q []) key)) (o_slss rfl rfl rfl) ?_
                refine stp (v := .bool (Op.bytesLess (F.getD q []) key)) (o_pickT rfl rfl) ?_
                refine stp (v := .bool (Op.bytesLess (F.getD q []) key)) (o_mv rfl) ?_
                refine split rfl (fun hzT => ?_) (fun hzF => ?_)
                ·
                  refine stg rfl (v := .string (str key)) (o_mv rfl) ?_
                  refine stg rfl (v := .int .i64 (key.length : Nat)) (o_lens rfl rfl) ?_
                  refine stg rfl (v := .bool (decide (((key.length : Nat) : Int) ≤ 64))) (o_bin rfl rfl rfl) ?_
                  refine stp (v := .bool (decide (((key.length : Nat) : Int) ≤ 64))) (o_pickT rfl rfl) ?_
                  refine h232 _ _ ?_
                  clear h232
                  refine cndP rfl (fun c237 => absurd c237 (by intro hk8; rw [less_cmp, decide_eq_true_iff] at hzT; have h9 := hfa9.2.2 q hq (by omega); rw [fB_get, List.take_of_length_le (by omega), List.take_of_length_le (l := key) (by omega)] at h9; omega)) (fun c237 => ?_)
                  refine h231 _ _ ?_
                  clear h231
                  refine stp (v := .int .i64 (q : Nat)) (o_mv rfl) ?_
                  refine stp (v := .int .i64 ((q : Nat) + 1)) (o_bin rfl rfl (v_add64 (by constructor <;> omega))) ?_
                  refine stp (v := .int .i64 ((q : Nat) + 1)) (o_mv rfl) ?_
                  refine h227 (q + 1) _ _ ⟨by first | rfl | exact v_int (by omega) | exact v_int (by simp) | exact v_int (by simp; omega), by first | rfl | simp [upd], rfl, hM226, by omega⟩ (by (try dsimp only); omega)
                ·
                  refine gno rfl (by simp) ?_
                  refine gno rfl (by simp) ?_
                  refine gno rfl (by simp) ?_
                  refine stp (v := .bool false) (o_pickF rfl rfl) ?_
                  refine h232 _ _ ?_
                  clear h232
                  refine cndF rfl ?_
                  refine h231 _ _ ?_
                  clear h231
                  refine stp (v := .int .i64 (q : Nat)) (o_mv rfl) ?_
                  refine stp (v := .int .i64 ((q : Nat) + 1)) (o_bin rfl rfl (v_add64 (by constructor <;> omega))) ?_
                  refine stp (v := .int .i64 ((q : Nat) + 1)) (o_mv rfl) ?_
                  refine h227 (q + 1) _ _ ⟨by first | rfl | exact v_int (by omega) | exact v_int (by simp) | exact v_int (by simp; omega), by first | rfl | simp [upd], rfl, hM226, by omega⟩ (by (try dsimp only); omega)
              ·
                refine gno rfl (by simp) ?_
                refine gno rfl (by simp) ?_
                refine gno rfl (by simp) ?_
                refine gnol rfl (by simp) ?_
                refine gno rfl (by simp) ?_
                refine gno rfl (by simp) ?_
                refine stp (v := .bool false) (o_pickF rfl rfl) ?_
                refine stp (v := .bool false) (o_mv rfl) ?_
                refine splitF rfl ?_
                refine gno rfl (by simp) ?_
                refine gno rfl (by simp) ?_
                refine gno rfl (by simp) ?_
                refine stp (v := .bool false) (o_pickF rfl rfl) ?_
                refine h232 _ _ ?_
                clear h232
                refine cndF rfl ?_
                refine h231 _ _ ?_
                clear h231
                refine stp (v := .int .i64 (q : Nat)) (o_mv rfl) ?_
                refine stp (v := .int .i64 ((q : Nat) + 1)) (o_bin rfl rfl (v_add64 (by constructor <;> omega))) ?_
                refine stp (v := .int .i64 ((q : Nat) + 1)) (o_mv rfl) ?_
                refine h227 (q + 1) _ _ ⟨by first | rfl | exact v_int (by omega) | exact v_int (by simp) | exact v_int (by simp; omega), by first | rfl | simp [upd], rfl, hM226, by omega⟩ (by (try dsimp only); omega)
            ·
              refine h224 _ _ ?_
              clear h224
              refine seq fun K238 h238 => ?_
              refine m_call (head_ok w226) rfl fun v239 w239 ⟨hr239, hu239⟩ => ?_
              have hM239 : Mem w [] w239 [[⟨b3, 71, [.int .i64 3, (.slice ab nb cb), .bool true, .int .i64 0, .slice none 0 0]⟩], rb, rf, [⟨b189, 71, [.int .i64 3, (.slice ab nb cb), .bool true, .int .i64 0, .slice none 0 0]⟩], [⟨b191, 24, [.int .i64 9, .slice (some ⟨b189, 0, none⟩) 1 1]⟩]] := hM226.pure hu239
              subst hr239
              refine stp (v := .bool true) (o_mv rfl) ?_
              refine h238 _ _ ?_
              clear h238
              refine ⟨(.bool true), rfl, ?_⟩
              exact ⟨rfl, hM239.upd⟩

theorem open_sb {W : World} {cs : List Value} (h : Arg Try.prog W 72 cs) : ∃ s : Sb, cs = sbC s ∧ s.ok W := by
  obtain ⟨v, l, e, k1, k2, k3⟩ := h.strs Try.underlying72 Try.underlying9 (by kernel_rfl)
  obtain ⟨a, n, c, rfl⟩ := k1.isSlice
  exact ⟨⟨a, n, c, l⟩, e, k1, by dsimp only; omega, k2⟩
theorem open_sbs {W : World} {cs : List Value} (h : Arg Try.prog W 66 cs) : ∃ (v : Value) (l : List Sb), cs = [v] ∧ RdS sbC W v l ∧ (∀ x ∈ l, x.ok W) ∧ l.length * 24 ≤ 140737488351232 := by
  have := h.slices Try.underlying66 (fun c hc _ => open_sb hc)
  rwa [show Try.prog.bytesOf 72 = 24 by kernel_rfl] at this
theorem FootSearch_row (x : Value) (bs : List Sb) (key : List UInt8) (hkl : key.length ≤ 140737488351232) (w : World) (hx : RdS sbC w x bs) (hbs : ∀ s ∈ bs, s.ok w) (hl : bs.length * 24 ≤ 140737488351232) : Calls Try.prog 10 [x, .string (str key)].toArray w (Rt fun r w' => r = .bool true ∧ Upd [] w w') :=
  FootSearch_ok x bs key hkl w hx hbs hl
