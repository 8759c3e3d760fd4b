/- Decoding: the header. -/
import Derived.Test.YtojnkjnebejodaaH7
namespace Go.Proofs.Ytojnkjnebejodaa.E
open Go
theorem ifc {α : Type} {p q : Prop} [Decidable p] [Decidable q] {x y : α} (h : p ↔ q) : (if p then x else y) = (if q then x else y) := by
  by_cases c : p
  · rw [if_pos c, if_pos (h.1 c)]
  · rw [if_neg c, if_neg (fun k => c (h.2 k))]
theorem get_err (b : List UInt8) : ¬ (get b).2.2 = 22 := by
  have h : (get b).2.2 = 0 ∨ (get b).2.2 = 20 ∨ (get b).2.2 = 21 := (getA_err b 0 0).1
  omega
theorem get_nilE : get [] = (0, 0, 20) := rfl
def hdI (b : List UInt8) (a : Nat) (e : Int) (L : List Int) : Prop := (e = 0 ∧ hdr b 0 [] = hdr b a L) ∨ (¬ e = 0 ∧ ¬ e = 22 ∧ hdr b 0 [] = none ∧ lastI L = 0)
theorem hd_num {b : List UInt8} {a : Nat} {e : Int} {L : List Int} (h : hdI b a e L) (hn : ¬ cNum b a e 256 = 0) : e = 0 ∧ hdr b 0 [] = hdr b a L ∧ (get (b.drop a)).2.2 = 0 ∧ (get (b.drop a)).1 ≤ 256 ∧ cNum b a e 256 = ((get (b.drop a)).1 : Nat) ∧ cNumA b a e 256 = a + (get (b.drop a)).2.1 ∧ cNumE b a e 256 = 0 ∧ a < b.length ∧ ¬ b.getD a 0 = 0 ∧ a + (get (b.drop a)).2.1 ≤ b.length := by
  have he : e = 0 := by
    apply Decidable.byContradiction; intro c
    exact hn (by unfold cNum; rw [if_neg c])
  subst he
  have hE : (get (b.drop a)).2.2 = 0 := by
    apply Decidable.byContradiction; intro c
    exact hn (by unfold cNum; rw [if_pos rfl, (num_bad c).2])
  have hM : ¬ (256 : Int) < ((get (b.drop a)).1 : Nat) := by
    intro c; exact hn (by unfold cNum; rw [if_pos rfl, (num_much hE c).2])
  have hf := num_fine hE hM
  have hg := get_ok hE
  rw [List.length_drop] at hg
  have ha : a < b.length := by omega
  refine ⟨rfl, ?_, hE, by omega, by unfold cNum; rw [if_pos rfl, hf.2], by unfold cNumA; rw [if_pos ⟨rfl, by rw [hf.1, hE]⟩], by unfold cNumE; rw [if_pos rfl, hf.1, hE], ha, ?_, by omega⟩
  · rcases h with h | h
    · exact h.2
    · exact absurd rfl h.1
  · intro h0
    have := get_z ha h0
    exact hn (by unfold cNum; rw [if_pos rfl, hf.2, this]; rfl)
theorem word_1 (x : UInt8) : word [x] = x.toNat := by
  have := x.toNat_lt
  simp [word, le]
theorem fix_1 {b : List UInt8} {A : Nat} : (A < b.length → cFix b A 0 1 = (b.getD A 0).toNat ∧ cFixA b A 0 1 = A + 1 ∧ cFixE b A 0 1 = 0) ∧ (¬ A < b.length → cFix b A 0 1 = 0 ∧ cFixA b A 0 1 = A ∧ cFixE b A 0 1 = 20) := by
  constructor
  · intro h
    have hf := fix_fine (l := b.drop A) (n := 1) (by omega) (by rw [List.length_drop]; omega)
    refine ⟨?_, ?_, ?_⟩
    · unfold cFix; rw [if_pos rfl, hf.2, dropG 0 h]; simp [word_1]
    · unfold cFixA fixN; rw [if_pos ⟨rfl, hf.1⟩, if_pos hf.1]; rfl
    · unfold cFixE; rw [if_pos rfl, hf.1]
  · intro h
    have hf := fix_short (l := b.drop A) (n := 1) (by omega) (by rw [List.length_drop]; omega)
    refine ⟨?_, ?_, ?_⟩
    · unfold cFix; rw [if_pos rfl, hf.2]
    · unfold cFixA; rw [if_neg (by rw [hf.1]; omega)]
    · unfold cFixE; rw [if_pos rfl, hf.1]
theorem fix1_le (b : List UInt8) (A : Nat) (E : Int) : cFix b A E 1 ≤ 255 := by
  by_cases c : E = 0
  · subst c
    by_cases h : A < b.length
    · rw [(fix_1.1 h).1]; have := (b.getD A 0).toNat_lt; omega
    · rw [(fix_1.2 h).1]; omega
  · unfold cFix; rw [if_neg c]; omega
theorem cNum_bd {b : List UInt8} {a : Nat} {e : Int} {L : List Int} (h : hdI b a e L) : 0 ≤ cNum b a e 256 ∧ cNum b a e 256 ≤ 256 := by
  by_cases c : cNum b a e 256 = 0
  · omega
  · obtain ⟨_, _, _, h4, h5, _⟩ := hd_num h c; omega
theorem hd_stop {b : List UInt8} {a : Nat} {e : Int} {L : List Int} (h : hdI b a e L) (hn : cNum b a e 256 = 0) :
    hdr b 0 [] = (if ¬ lastI L = 0 ∧ (endE b (cNumA b a e 256) (cNumE b a e 256) = 0 ∨ endE b (cNumA b a e 256) (cNumE b a e 256) = 22) then some (L, cNumA b a e 256) else none) ∧ ((endE b (cNumA b a e 256) (cNumE b a e 256) = 0 ∨ endE b (cNumA b a e 256) (cNumE b a e 256) = 22) → cNumE b a e 256 = 0) := by
  have nope : ∀ E : Int, ¬ E = 0 → ¬ E = 22 → cNumE b a e 256 = E → hdr b 0 [] = none → hdr b 0 [] = (if ¬ lastI L = 0 ∧ (endE b (cNumA b a e 256) (cNumE b a e 256) = 0 ∨ endE b (cNumA b a e 256) (cNumE b a e 256) = 22) then some (L, cNumA b a e 256) else none) ∧ ((endE b (cNumA b a e 256) (cNumE b a e 256) = 0 ∨ endE b (cNumA b a e 256) (cNumE b a e 256) = 22) → cNumE b a e 256 = 0) := by
    intro E h0 h22 hE hno
    have : endE b (cNumA b a e 256) (cNumE b a e 256) = E := by unfold endE; rw [hE, if_pos h0]
    rw [this, hno, if_neg (by omega)]
    exact ⟨rfl, by omega⟩
  rcases h with ⟨he, h⟩ | ⟨he, h22, h, hl⟩
  · subst he
    by_cases hE : (get (b.drop a)).2.2 = 0
    · have hg := get_ok hE
      rw [List.length_drop] at hg
      have ha : a < b.length := by omega
      by_cases hM : (256 : Int) < ((get (b.drop a)).1 : Nat)
      · have hf := num_much hE hM
        refine nope 23 (by omega) (by omega) (by unfold cNumE; rw [if_pos rfl, hf.1]) ?_
        have h0 : ¬ b.getD a 0 = 0 := by
          intro h0; rw [get_z ha h0] at hM; simp at hM
        rw [h, hdr_no ha h0]
        rintro ⟨_, p, _⟩; omega
      · have hf := num_fine hE hM
        have hz : (get (b.drop a)).1 = 0 := by
          unfold cNum at hn; rw [if_pos rfl, hf.2] at hn; omega
        have h0 : b.getD a 0 = 0 := by
          apply Decidable.byContradiction; intro c
          have := get_nz ha c hE; omega
        have hA : cNumA b a 0 256 = a + 1 := by unfold cNumA; rw [if_pos ⟨rfl, by rw [hf.1, hE]⟩, get_z ha h0]
        have hC : cNumE b a 0 256 = 0 := by unfold cNumE; rw [if_pos rfl, hf.1, hE]
        have hX : endE b (a + 1) 0 = 0 ∨ endE b (a + 1) 0 = 22 := by
          unfold endE; rw [if_neg (by omega)]; split
          · exact .inr rfl
          · exact .inl rfl
        rw [hA, hC, h]
        refine ⟨?_, fun _ => rfl⟩
        by_cases c : lastI L = 0
        · rw [hdr_z0 ha h0 c, if_neg (fun h => h.1 c)]
        · rw [hdr_z1 ha h0 c, if_pos ⟨c, hX⟩]
    · have hf := num_bad (m := 256) hE
      refine nope _ hE (get_err _) (by unfold cNumE; rw [if_pos rfl, hf.1]) ?_
      rw [h]
      by_cases ha : a < b.length
      · have h0 : ¬ b.getD a 0 = 0 := by
          intro h0; rw [get_z ha h0] at hE; exact hE rfl
        rw [hdr_no ha h0]
        exact fun p => hE p.1
      · exact hdr_end ha
  · exact nope e he h22 (by unfold cNumE; rw [if_neg he]) h
abbrev xF (b : List UInt8) (a : Nat) (e : Int) : Int := ((cFix b (cNumA b a e 256) (cNumE b a e 256) 1 : Nat) : Int)
theorem hd_bad {b : List UInt8} {a : Nat} {e : Int} {L : List Int} (h : hdI b a e L) (hn : ¬ cNum b a e 256 = 0) (hx : 15 < xF b a e ∨ xF b a e = lastI L ∨ 256 < ((L.length : Nat) : Int) + cNum b a e 256) : hdr b 0 [] = none := by
  obtain ⟨he, h1, h2, h3, h4, h5, h6, h7, h8, h9⟩ := hd_num h hn
  subst he
  unfold xF at hx
  rw [h1, hdr_no h7 h8]
  rintro ⟨_, p2, p3, p4, p5⟩
  rw [h5, h6, (fix_1.1 p3).1] at hx
  rw [h4] at hx
  rcases hx with hx | hx | hx
  · omega
  · exact p5 hx.symm
  · omega
theorem hd_go {b : List UInt8} {a : Nat} {e : Int} {L : List Int} (h : hdI b a e L) (hn : ¬ cNum b a e 256 = 0) (hx : ¬ 15 < xF b a e) (hx2 : ¬ xF b a e = lastI L) (hx3 : ¬ 256 < ((L.length : Nat) : Int) + cNum b a e 256) :
    hdI b (cFixA b (cNumA b a e 256) (cNumE b a e 256) 1) (cFixE b (cNumA b a e 256) (cNumE b a e 256) 1) (L ++ List.replicate (cNum b a e 256).toNat (xF b a e)) ∧ lastI (L ++ List.replicate (cNum b a e 256).toNat (xF b a e)) = xF b a e := by
  obtain ⟨he, h1, h2, h3, h4, h5, h6, h7, h8, h9⟩ := hd_num h hn
  subst he
  have hl : lastI (L ++ List.replicate (cNum b a 0 256).toNat (xF b a 0)) = xF b a 0 := lastI_app (by omega)
  refine ⟨?_, hl⟩
  unfold xF at hx hx2 hl ⊢
  rw [h5, h6] at hx hx2 hl ⊢
  by_cases p3 : a + (get (b.drop a)).2.1 < b.length
  · have hf := fix_1.1 p3
    rw [hf.1] at hx hx2 hl ⊢
    rw [hf.2.1, hf.2.2, h4]
    refine .inl ⟨rfl, ?_⟩
    rw [h1, hdr_more h7 h8 ⟨h2, by omega, p3, by omega, fun k => hx2 k.symm⟩]
    rw [Int.toNat_natCast]; rfl
  · have hf := fix_1.2 p3
    rw [hf.1] at hx hx2 hl ⊢
    rw [hf.2.1, hf.2.2]
    refine .inr ⟨by omega, by omega, ?_, hl⟩
    rw [h1, hdr_no h7 h8]
    rintro ⟨_, _, p, _⟩; exact p3 p
theorem hdI_init (b : List UInt8) : hdI b 0 0 [] := .inl ⟨rfl, rfl⟩

/-- huff.lengths -/
theorem lengths_ok (bc : Nat) (b : List UInt8) (r0 : List Ent) (w : World) (hc : CurS bc b 0 0 r0) (hr : Res w r0) (hl : b.length ≤ 140737488355328) : Calls Try.prog 45 [.pointer (some ⟨bc, 0, none⟩)].toArray w (Rt fun r w' => ∃ v ok L a' e' r' rs, r = .tuple [v, .bool ok].toArray ∧ SlE i64V 3 v L rs ∧ CurS bc b a' e' r' ∧ (if ok then some (L, a') else none) = hdr b 0 [] ∧ (ok = true → e' = 0) ∧ Mem w (ids r0) w' [r', rs]) := by
  have hM0 : Mem w (ids r0) w [r0] := Mem.start hr
  refine calls_vc mixed Try.func45 rfl C45 (by simp [Try.ntmps45]) ?_
  refine seq fun K1 h1 => ?_
  refine stp (v := .slice none 0 0) (o_mv rfl) ?_
  refine stp (v := .bool false) (o_mv rfl) ?_
  refine h1 _ _ ?_
  clear h1
  refine seq fun K2 h2 => ?_
  refine stp (v := .slice none 0 0) (o_mv rfl) ?_
  refine h2 _ _ ?_
  clear h2
  refine seq fun K3 h3 => ?_
  refine stp (v := .int .i64 (-1)) (o_mv rfl) ?_
  refine h3 _ _ ?_
  clear h3
  refine seq fun K4 h4 => ?_
  have hM5 : Mem w (ids r0) w [r0, []] := hM0.addNil
  have hs5 : SlE i64V 3 (.slice none 0 0) [] [] := Sl.nil 1 3
  refine lp (n := fun _ _ => False) (ι := (List Int) × (Nat) × (Int) × (List Ent) × (Value) × (List Ent)) (fun ⟨L, a, e, rc, y4_, r4_⟩ f w' => f 0 = .pointer (some ⟨bc, 0, none⟩) ∧ f 4 = y4_ ∧ f 5 = .int .i64 (lastI L) ∧ Mem w (ids r0) w' [rc, r4_] ∧ (CurS bc b a e rc) ∧ (hdI b a e L) ∧ (L.length ≤ 256) ∧ (SlE i64V 3 y4_ (L) r4_)) (fun ⟨L, a, e, rc, y4_, r4_⟩ => 256 - L.length) ([], 0, 0, r0, ((.slice none 0 0)), ([])) ?_ ?_
  · exact ⟨rfl, rfl, by first | rfl | exact v_int (by omega) | exact v_int (by simp) | exact v_int (by simp; omega), hM5, hc, hdI_init b, by simp, by first | exact hs5 | simpa using hs5⟩
  · rintro ⟨L, a, e, rc, y4_, r4_⟩ f w6 ⟨e6_0, e6_4, e6_5, hM6, hcl, hI, hL, hy4_⟩ K7 h7
    obtain ⟨frm, rfl⟩ : ∃ frm, f = (upd (upd (upd frm 0 (.pointer (some ⟨bc, 0, none⟩))) 4 (y4_)) 5 (.int .i64 (lastI L))) := ⟨f, by rw [upd_self e6_0, upd_self e6_4, upd_self e6_5]⟩
    clear e6_0 e6_4 e6_5
    refine seq fun K8 h8 => ?_
    refine stp (v := .pointer (some ⟨bc, 0, none⟩)) (o_mv rfl) ?_
    have hcb := cNum_bd hI
    refine m_call (Num_ok _ b a e 256 rc w6 hcl (hM6.res (i := 0) rfl) (by first | omega | (simp; done) | (simp; omega))) rfl fun v9 w9 ⟨hr9, r'9, hc9, hm9⟩ => ?_
    have hM9 : Mem w (ids r0) w9 [r'9, r4_] := hM6.step 0 rfl hm9
    subst hr9
    refine stp (v := .int .i64 (cNum b a e 256)) (o_mv rfl) ?_
    refine h8 _ _ ?_
    clear h8
    refine seq fun K10 h10 => ?_
    refine seq fun K11 h11 => ?_
    refine stp (v := .int .i64 (cNum b a e 256)) (o_mv rfl) ?_
    refine stp (v := .bool (decide ((cNum b a e 256) = 0))) (o_bin rfl rfl rfl) ?_
    refine h11 _ _ ?_
    clear h11
    refine cndP rfl (fun c12 => ?_) (fun c12 => ?_)
    ·
      refine h4 _ _ ?_
      clear h4
      refine seq fun K13 h13 => ?_
      refine stp (v := .pointer (some ⟨bc, 0, none⟩)) (o_mv rfl) ?_
      refine m_call (End_ok _ b (cNumA b a e 256) (cNumE b a e 256) r'9 w9 hc9 (hM9.res (i := 0) rfl)) rfl fun v14 w14 ⟨hr14, hm14⟩ => ?_
      have hM14 : Mem w (ids r0) w14 [r'9, r4_] := hM9.step 0 rfl hm14
      subst hr14
      refine stp (v := .int .i64 (endE b (cNumA b a e 256) (cNumE b a e 256))) (o_fld rfl rfl) ?_
      refine stp (v := .int .i64 (endE b (cNumA b a e 256) (cNumE b a e 256))) (o_mv rfl) ?_
      refine h13 _ _ ?_
      clear h13
      refine seq fun K15 h15 => ?_
      refine stp (v := y4_) (o_mv rfl) ?_
      refine stp (v := .int .i64 (lastI L)) (o_mv rfl) ?_
      refine stp (v := .bool (decide (¬ (lastI L) = 0))) (o_bin rfl rfl v_neq) ?_
      refine stp (v := .bool (decide (¬ (lastI L) = 0))) (o_mv rfl) ?_
      refine splitP rfl (fun c16 => ?_) (fun c16 => ?_)
      ·
        refine stg rfl (v := .int .i64 (endE b (cNumA b a e 256) (cNumE b a e 256))) (o_mv rfl) ?_
        refine stg rfl (v := .bool (decide ((endE b (cNumA b a e 256) (cNumE b a e 256)) = 0))) (o_bin rfl rfl rfl) ?_
        refine stg rfl (v := .bool (decide ((endE b (cNumA b a e 256) (cNumE b a e 256)) = 0))) (o_mv rfl) ?_
        refine splitP rfl (fun c17 => ?_) (fun c17 => ?_)
        ·
          refine gno rfl (by simp) ?_
          refine gno rfl (by simp) ?_
          refine stg rfl (v := .bool true) (o_pickT rfl rfl) ?_
          refine stp (v := .bool true) (o_pickT rfl rfl) ?_
          refine stp (v := y4_) (o_mv rfl) ?_
          refine stp (v := .bool true) (o_mv rfl) ?_
          refine h15 _ _ ?_
          clear h15
          refine ⟨(.tuple [y4_, .bool true].toArray), rfl, ?_⟩
          have hs := hd_stop hI (by omega)
          exact ⟨_, _, _, _, _, _, _, rfl, hy4_, hc9, by rw [hs.1]; exact ifc (by constructor <;> intro h <;> first | omega | (have := of_decide_eq_true h; omega) | (exact decide_eq_true (by omega)) | rfl | cases h), fun h => hs.2 (by first | omega | (have := of_decide_eq_true h; omega) | cases h), hM14⟩
        ·
          refine stg rfl (v := .int .i64 (endE b (cNumA b a e 256) (cNumE b a e 256))) (o_mv rfl) ?_
          refine stg rfl (v := .bool (decide ((endE b (cNumA b a e 256) (cNumE b a e 256)) = 22))) (o_bin rfl rfl rfl) ?_
          refine stg rfl (v := .bool (decide ((endE b (cNumA b a e 256) (cNumE b a e 256)) = 22))) (o_pickF rfl rfl) ?_
          refine stp (v := .bool (decide ((endE b (cNumA b a e 256) (cNumE b a e 256)) = 22))) (o_pickT rfl rfl) ?_
          refine stp (v := y4_) (o_mv rfl) ?_
          refine stp (v := .bool (decide ((endE b (cNumA b a e 256) (cNumE b a e 256)) = 22))) (o_mv rfl) ?_
          refine h15 _ _ ?_
          clear h15
          refine ⟨(.tuple [y4_, .bool (decide ((endE b (cNumA b a e 256) (cNumE b a e 256)) = 22))].toArray), rfl, ?_⟩
          have hs := hd_stop hI (by omega)
          exact ⟨_, _, _, _, _, _, _, rfl, hy4_, hc9, by rw [hs.1]; exact ifc (by constructor <;> intro h <;> first | omega | (have := of_decide_eq_true h; omega) | (exact decide_eq_true (by omega)) | rfl | cases h), fun h => hs.2 (by first | omega | (have := of_decide_eq_true h; omega) | cases h), hM14⟩
      ·
        refine gno rfl (by simp) ?_
        refine gno rfl (by simp) ?_
        refine gno rfl (by simp) ?_
        refine splitU rfl ?_
        refine gnou rfl ?_
        refine gnou rfl ?_
        refine gno rfl (by simp) ?_
        refine stp (v := .bool false) (o_pickF rfl rfl) ?_
        refine stp (v := y4_) (o_mv rfl) ?_
        refine stp (v := .bool false) (o_mv rfl) ?_
        refine h15 _ _ ?_
        clear h15
        refine ⟨(.tuple [y4_, .bool false].toArray), rfl, ?_⟩
        have hs := hd_stop hI (by omega)
        exact ⟨_, _, _, _, _, _, _, rfl, hy4_, hc9, by rw [hs.1]; exact ifc (by constructor <;> intro h <;> first | omega | (have := of_decide_eq_true h; omega) | (exact decide_eq_true (by omega)) | rfl | cases h), fun h => hs.2 (by first | omega | (have := of_decide_eq_true h; omega) | cases h), hM14⟩
    ·
      refine h10 _ _ ?_
      clear h10
      refine seq fun K18 h18 => ?_
      refine stp (v := .pointer (some ⟨bc, 0, none⟩)) (o_mv rfl) ?_
      have hfb := fix1_le b (cNumA b a e 256) (cNumE b a e 256)
      refine m_call (cFixed_ok _ b (cNumA b a e 256) (cNumE b a e 256) 1 r'9 w9 hc9 (hM9.res (i := 0) rfl) (by first | omega | (simp; done) | (simp; omega))) rfl fun v19 w19 ⟨hr19, r'19, hc19, hm19⟩ => ?_
      have hM19 : Mem w (ids r0) w19 [r'19, r4_] := hM9.step 0 rfl hm19
      subst hr19
      refine stp (v := .int .i64 (cFix b (cNumA b a e 256) (cNumE b a e 256) 1 : Nat)) (o_conv rfl (v_same (by simp only [inK]; omega))) ?_
      refine stp (v := .int .i64 (cFix b (cNumA b a e 256) (cNumE b a e 256) 1 : Nat)) (o_mv rfl) ?_
      refine h18 _ _ ?_
      clear h18
      refine seq fun K20 h20 => ?_
      refine seq fun K21 h21 => ?_
      refine stp (v := .int .i64 (cFix b (cNumA b a e 256) (cNumE b a e 256) 1 : Nat)) (o_mv rfl) ?_
      refine stp (v := .bool (decide ((15 : Int) < ((cFix b (cNumA b a e 256) (cNumE b a e 256) 1 : Nat) : Int)))) (o_bin rfl rfl rfl) ?_
      refine stp (v := .bool (decide ((15 : Int) < ((cFix b (cNumA b a e 256) (cNumE b a e 256) 1 : Nat) : Int)))) (o_mv rfl) ?_
      refine splitP rfl (fun c22 => ?_) (fun c22 => ?_)
      ·
        refine gno rfl (by simp) ?_
        refine gno rfl (by simp) ?_
        refine gno rfl (by simp) ?_
        refine stp (v := .bool true) (o_pickT rfl rfl) ?_
        refine stp (v := .bool true) (o_mv rfl) ?_
        refine splitT rfl ?_
        refine gno rfl (by simp) ?_
        refine gno rfl (by simp) ?_
        refine gno rfl (by simp) ?_
        refine gno rfl (by simp) ?_
        refine gno rfl (by simp) ?_
        refine stp (v := .bool true) (o_pickT rfl rfl) ?_
        refine h21 _ _ ?_
        clear h21
        refine cndT rfl ?_
        refine seq fun K23 h23 => ?_
        refine stp (v := .slice none 0 0) (o_mv rfl) ?_
        refine stp (v := .bool false) (o_mv rfl) ?_
        refine h23 _ _ ?_
        clear h23
        refine ⟨(.tuple [.slice none 0 0, .bool false].toArray), rfl, ?_⟩
        have hb := hd_bad hI (by omega) (by first | exact .inl (by omega) | exact .inr (.inl (by omega)) | exact .inr (.inr (by omega)))
        exact ⟨_, _, [], _, _, _, _, rfl, (Sl.nil 1 3 : SlE i64V 3 _ [] []), hc19, by rw [hb]; rfl, (fun h => by cases h), (hM19.drop 1).keep (by simp)⟩
      ·
        refine stg rfl (v := .int .i64 (cFix b (cNumA b a e 256) (cNumE b a e 256) 1 : Nat)) (o_mv rfl) ?_
        refine stg rfl (v := .int .i64 (lastI L)) (o_mv rfl) ?_
        refine stg rfl (v := .bool (decide (((cFix b (cNumA b a e 256) (cNumE b a e 256) 1 : Nat) : Int) = (lastI L)))) (o_bin rfl rfl rfl) ?_
        refine stp (v := .bool (decide (((cFix b (cNumA b a e 256) (cNumE b a e 256) 1 : Nat) : Int) = (lastI L)))) (o_pickF rfl rfl) ?_
        refine stp (v := .bool (decide (((cFix b (cNumA b a e 256) (cNumE b a e 256) 1 : Nat) : Int) = (lastI L)))) (o_mv rfl) ?_
        refine splitP rfl (fun c24 => ?_) (fun c24 => ?_)
        ·
          refine gno rfl (by simp) ?_
          refine gno rfl (by simp) ?_
          refine gno rfl (by simp) ?_
          refine gno rfl (by simp) ?_
          refine gno rfl (by simp) ?_
          refine stp (v := .bool true) (o_pickT rfl rfl) ?_
          refine h21 _ _ ?_
          clear h21
          refine cndT rfl ?_
          refine seq fun K25 h25 => ?_
          refine stp (v := .slice none 0 0) (o_mv rfl) ?_
          refine stp (v := .bool false) (o_mv rfl) ?_
          refine h25 _ _ ?_
          clear h25
          refine ⟨(.tuple [.slice none 0 0, .bool false].toArray), rfl, ?_⟩
          have hb := hd_bad hI (by omega) (by first | exact .inl (by omega) | exact .inr (.inl (by omega)) | exact .inr (.inr (by omega)))
          exact ⟨_, _, [], _, _, _, _, rfl, (Sl.nil 1 3 : SlE i64V 3 _ [] []), hc19, by rw [hb]; rfl, (fun h => by cases h), (hM19.drop 1).keep (by simp)⟩
        ·
          refine stg rfl (v := y4_) (o_mv rfl) ?_
          refine stg rfl (v := .int .i64 (L.length : Nat)) (o_lenR (hy4_.rd hM19 (i := 1) rfl) rfl rfl) ?_
          refine stg rfl (v := .int .i64 (cNum b a e 256)) (o_mv rfl) ?_
          refine stg rfl (v := .int .i64 ((L.length : Nat) + (cNum b a e 256))) (o_bin rfl rfl (v_add64 (by constructor <;> omega))) ?_
          refine stg rfl (v := .bool (decide ((256 : Int) < ((L.length : Nat) + (cNum b a e 256) : Int)))) (o_bin rfl rfl rfl) ?_
          refine stp (v := .bool (decide ((256 : Int) < ((L.length : Nat) + (cNum b a e 256) : Int)))) (o_pickF rfl rfl) ?_
          refine h21 _ _ ?_
          clear h21
          refine cndP rfl (fun c26 => ?_) (fun c26 => ?_)
          ·
            refine seq fun K27 h27 => ?_
            refine stp (v := .slice none 0 0) (o_mv rfl) ?_
            refine stp (v := .bool false) (o_mv rfl) ?_
            refine h27 _ _ ?_
            clear h27
            refine ⟨(.tuple [.slice none 0 0, .bool false].toArray), rfl, ?_⟩
            have hb := hd_bad hI (by omega) (by first | exact .inl (by omega) | exact .inr (.inl (by omega)) | exact .inr (.inr (by omega)))
            exact ⟨_, _, [], _, _, _, _, rfl, (Sl.nil 1 3 : SlE i64V 3 _ [] []), hc19, by rw [hb]; rfl, (fun h => by cases h), (hM19.drop 1).keep (by simp)⟩
          ·
            refine h20 _ _ ?_
            clear h20
            refine seq fun K28 h28 => ?_
            refine seq fun K29 h29 => ?_
            refine stp (v := .int .i64 (cNum b a e 256)) (o_mv rfl) ?_
            refine stp (v := .int .i64 0) (o_mv rfl) ?_
            refine h29 _ _ ?_
            clear h29
            refine lp (n := fun _ _ => False) (ι := (Nat) × (Value) × (List Ent)) (fun ⟨k, y4_, r4_⟩ f w' => f 4 = y4_ ∧ f 31 = .int .i64 (k : Nat) ∧ f 0 = .pointer (some ⟨bc, 0, none⟩) ∧ f 7 = .int .i64 (cFix b (cNumA b a e 256) (cNumE b a e 256) 1 : Nat) ∧ f 30 = .int .i64 (cNum b a e 256) ∧ Mem w (ids r0) w' [r'19, r4_] ∧ ((k : Int) ≤ cNum b a e 256) ∧ (SlE i64V 3 y4_ (L ++ List.replicate k (xF b a e)) r4_)) (fun ⟨k, y4_, r4_⟩ => (cNum b a e 256).toNat - k) (0, y4_, r4_) ?_ ?_
            · exact ⟨rfl, by first | rfl | exact v_int (by omega) | exact v_int (by simp) | exact v_int (by simp; omega), rfl, by first | rfl | exact v_int (by omega) | exact v_int (by simp) | exact v_int (by simp; omega), by first | rfl | exact v_int (by omega) | exact v_int (by simp) | exact v_int (by simp; omega), hM19, by omega, by first | exact hy4_ | simpa using hy4_⟩
            · rintro ⟨k, y4_, r4_⟩ f w30 ⟨e30_4, e30_31, e30_0, e30_7, e30_30, hM30, hk, hy4_⟩ K31 h31
              obtain ⟨frm, rfl⟩ : ∃ frm, f = (upd (upd (upd (upd (upd frm 4 (y4_)) 31 (.int .i64 (k : Nat))) 0 (.pointer (some ⟨bc, 0, none⟩))) 7 (.int .i64 (cFix b (cNumA b a e 256) (cNumE b a e 256) 1 : Nat))) 30 (.int .i64 (cNum b a e 256))) := ⟨f, by rw [upd_self e30_4, upd_self e30_31, upd_self e30_0, upd_self e30_7, upd_self e30_30]⟩
              clear e30_4 e30_31 e30_0 e30_7 e30_30
              refine seq fun K32 h32 => ?_
              refine stp (v := .bool (decide (((k : Nat) : Int) < (cNum b a e 256)))) (o_bin rfl rfl rfl) ?_
              refine h32 _ _ ?_
              clear h32
              refine seq fun K33 h33 => ?_
              refine cndP rfl (fun c34 => ?_) (fun c34 => ?_)
              ·
                refine h33 _ _ ?_
                clear h33
                refine seq fun K35 h35 => ?_
                refine stp (v := y4_) (o_mv rfl) ?_
                refine stp (v := .int .i64 (cFix b (cNumA b a e 256) (cNumE b a e 256) 1 : Nat)) (o_mv rfl) ?_
                refine m_app1 (E := i64V) (q := (xF b a e)) hM30 (i := 1) rfl hy4_ rfl (by simp) (rfl) (by rw [List.length_append, List.length_replicate]; omega) (by omega) fun v36 w36 r36 u36 (hs36 : SlE i64V 3 v36 ((L ++ List.replicate k (xF b a e)) ++ [(xF b a e)]) r36) (hM36 : Mem w (ids r0) w36 [r'19, r36]) => ?_
                refine stp (v := v36) (o_mv rfl) ?_
                refine h35 _ _ ?_
                clear h35
                refine stp (v := .int .i64 ((k : Nat) + 1)) (o_bin rfl rfl (v_add64 (by constructor <;> omega))) ?_
                refine stp (v := .int .i64 ((k : Nat) + 1)) (o_mv rfl) ?_
                refine h31 (k + 1, v36, r36) _ _ ⟨rfl, by first | rfl | exact v_int (by omega) | exact v_int (by simp) | exact v_int (by simp; omega), rfl, by first | rfl | exact v_int (by omega) | exact v_int (by simp) | exact v_int (by simp; omega), by first | rfl | exact v_int (by omega) | exact v_int (by simp) | exact v_int (by simp; omega), hM36, by omega, by rw [List.replicate_succ', ← List.append_assoc]; exact hs36⟩ (by (try dsimp only); omega)
              ·
                refine h28 _ _ ?_
                clear h28
                have hkk : k = (cNum b a e 256).toNat := by omega
                have hgo := hd_go hI (by omega) (by omega) (by omega) (by omega)
                refine stp (v := .int .i64 (cFix b (cNumA b a e 256) (cNumE b a e 256) 1 : Nat)) (o_mv rfl) ?_
                refine stp (v := .int .i64 (cFix b (cNumA b a e 256) (cNumE b a e 256) 1 : Nat)) (o_mv rfl) ?_
                refine h7 (L ++ List.replicate (cNum b a e 256).toNat (xF b a e), cFixA b (cNumA b a e 256) (cNumE b a e 256) 1, cFixE b (cNumA b a e 256) (cNumE b a e 256) 1, r'19, y4_, r4_) _ _ ⟨rfl, rfl, v_int hgo.2.symm, hM30, hc19, hgo.1, by rw [List.length_append, List.length_replicate]; omega, by rw [← hkk]; exact hy4_⟩ (by dsimp only; rw [List.length_append, List.length_replicate]; omega)
