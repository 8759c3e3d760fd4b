/- Tokens out of bytes: the program's walk. -/
import Derived.Test.YteanplpnhlgjeaaT4
import Derived.Test.YteanplpnhlgjeaaT3
namespace Go.Proofs.Yteanplpnhlgjeaa.E
open Go
theorem rest_pos {b : List UInt8} {a : Nat} {e : Int} (h : 0 < restV b a e) : e = 0 ∧ a < b.length := by
  unfold restV at h
  by_cases c : e = 0
  · rw [if_pos c] at h; exact ⟨c, by omega⟩
  · rw [if_neg c] at h; omega
theorem rest_0 {b : List UInt8} {a : Nat} {e : Int} (h : ¬ 0 < restV b a e) : restV b a e = 0 := by
  unfold restV at h ⊢
  by_cases c : e = 0
  · rw [if_pos c] at h ⊢; omega
  · rw [if_neg c]
theorem rest_zero {b : List UInt8} {a : Nat} {e : Int} (h : ¬ 0 < restV b a e) : ¬ e = 0 ∨ b.length ≤ a := by
  unfold restV at h
  by_cases c : e = 0
  · rw [if_pos c] at h; exact .inr (by omega)
  · exact .inl c
theorem end_z {b : List UInt8} {A : Nat} {E : Int} (h22 : ¬ E = 22) (h : endE b A E = 0 ∨ endE b A E = 22) : E = 0 := by
  unfold endE at h
  by_cases c : E = 0
  · exact c
  · rw [if_pos c] at h; omega
theorem end_nz {b : List UInt8} {A : Nat} {E : Int} (h : ¬ endE b A E = 0) (h2 : ¬ endE b A E = 22) : ¬ E = 0 := by
  intro c
  subst c
  unfold endE at h h2
  rw [if_neg (by omega)] at h h2
  split at h
  · omega
  · exact h rfl
theorem St2.n22 {b : List UInt8} {a left A2 : Nat} {lt : List UInt8} {E2 : Int} (h : St2 b a left lt A2 E2) : ¬ E2 = 22 := by
  rcases h with h | h
  · omega
  · exact h.2.1
theorem St4.n22 {b : List UInt8} {a2 mx A4 : Nat} {v3 v4 E4 : Int} (h : St4 b a2 mx v3 v4 A4 E4) : ¬ E4 = 22 := by
  rcases h with h | h
  · omega
  · exact h.2.1
theorem St2.len {b : List UInt8} {a left A2 : Nat} {lt : List UInt8} {E2 : Int} (h : St2 b a left lt A2 E2) : lt.length ≤ left := by
  rcases h with h | h
  · omega
  · rw [h.2.2.2]; simp
section
variable {b : List UInt8} {n k a made A2 A4 : Nat} {toks : List Pk} {lt : List UInt8} {E2 E4 V3 V4 : Int}
theorem St2.fine (h : St2 b a (n - made) lt A2 E2) (he : E2 = 0) : nE b a = 0 ∧ nV b a ≤ n - made ∧ aM b a ≤ b.length ∧ A2 = aM b a ∧ lt = litT b a ∧ lt.length = nV b a := by
  rcases h with h | h
  · exact h.2
  · exact absurd he h.1
theorem St4.fine {mx : Nat} (h : St4 b A2 mx V3 V4 A4 E4) (he : E4 = 0) : nE b A2 = 0 ∧ nE b (A2 + nK b A2) = 0 ∧ nV b A2 ≤ 255 ∧ nV b (A2 + nK b A2) ≤ mx ∧ V3 = (nV b A2 : Nat) ∧ V4 = (nV b (A2 + nK b A2) : Nat) ∧ A4 = A2 + nK b A2 + nK b (A2 + nK b A2) := by
  rcases h with h | h
  · exact h.2
  · exact absurd he h.1
theorem lf_end0 (hI : RdI b n toks k a made) (ha : a < b.length) (h2 : St2 b a (n - made) lt A2 E2) (hE : ¬ E2 = 0) : rdF b n = none := by
  rcases h2 with h2 | h2
  · exact absurd h2.1 hE
  · exact hI.nohd ha h2.2.2.1
theorem lf_bad0 (hI : RdI b n toks k a made) (ha : a < b.length) (h2 : St2 b a (n - made) lt A2 E2) (hE : E2 = 0) (hz : b.length ≤ A2) (hx : lt.length = 0 ∨ ¬ made + lt.length = n) : rdF b n = none := by
  obtain ⟨q1, q2, q3, q4, q5, q6⟩ := h2.fine hE
  exact hI.bad ha (by omega) (by omega)
theorem lf_go0 (hI : RdI b n toks k a made) (ha : a < b.length) (h2 : St2 b a (n - made) lt A2 E2) (hE : E2 = 0) (hz : b.length ≤ A2) (h0 : 0 < lt.length) (hn : made + lt.length = n) : RdI b n (toks ++ [(lt, 0, 0)]) 1 A2 n := by
  obtain ⟨q1, q2, q3, q4, q5, q6⟩ := h2.fine hE
  have := hI.last ha q1 (by omega) (by omega) (by omega)
  rw [show A2 = b.length by omega, q5]; exact this
theorem lf_end4 (hI : RdI b n toks k a made) (ha : a < b.length) (h2 : St2 b a (n - made) lt A2 E2) (hr : E2 = 0 ∧ A2 < b.length) (h4 : St4 b A2 (min 32768 (made + lt.length)) V3 V4 A4 E4) (hE : ¬ E4 = 0) : rdF b n = none := by
  obtain ⟨q1, q2, q3, q4, q5, q6⟩ := h2.fine hr.1
  subst q4
  rcases h4 with h4 | h4
  · exact absurd h4.1 hE
  · refine hI.nomt ha hr.2 fun p => h4.2.2 ?_
    obtain ⟨p1, p2, p3, p4, p5, p6, p7⟩ := p
    unfold aD at p2 p5 p6 p7
    exact ⟨p1, p2, p3, by omega⟩
theorem lf_bad4 (hI : RdI b n toks k a made) (ha : a < b.length) (h2 : St2 b a (n - made) lt A2 E2) (hr : E2 = 0 ∧ A2 < b.length) (h4 : St4 b A2 (min 32768 (made + lt.length)) V3 V4 A4 E4) (hE : E4 = 0) (hx : ¬ 1 ≤ V4 ∨ (n : Int) < (made : Int) + (lt.length : Nat) + (V3 + 4)) : rdF b n = none := by
  obtain ⟨q1, q2, q3, q4, q5, q6⟩ := h2.fine hr.1
  obtain ⟨p1, p2, p3, p4, p5, p6, p7⟩ := h4.fine hE
  subst q4
  refine hI.nomt ha hr.2 fun p => ?_
  obtain ⟨_, _, _, r4, r5, _, _⟩ := p
  unfold aD at r5
  omega
theorem lf_go4 (hI : RdI b n toks k a made) (h2 : St2 b a (n - made) lt A2 E2) (hr : E2 = 0 ∧ A2 < b.length) (h4 : St4 b A2 (min 32768 (made + lt.length)) V3 V4 A4 E4) (hE : E4 = 0) (h1 : 1 ≤ V4) (hn : (made : Int) + (lt.length : Nat) + (V3 + 4) ≤ (n : Int)) : RdI b n (toks ++ [(lt, V4, V3 + 4)]) (k - 1) A4 (made + lt.length + (V3 + 4).toNat) := by
  obtain ⟨q1, q2, q3, q4, q5, q6⟩ := h2.fine hr.1
  obtain ⟨p1, p2, p3, p4, p5, p6, p7⟩ := h4.fine hE
  subst q4
  have := hI.go q1 (by omega) ⟨p1, p2, p3, by omega, by unfold aD; omega, by unfold aD; omega, by unfold aD; omega⟩
  have e1 : mtP b a = (lt, V4, V3 + 4) := by unfold mtP aD; rw [q5, p5, p6]
  have e2 : aZ b a = A4 := by unfold aZ aD; omega
  rw [e1, e2] at this
  rw [show made + lt.length + (V3 + 4).toNat = made + nV b a + nV b (aM b a) + 4 by omega]
  exact this
theorem lf_len {t : Pk} (h : made = lenP toks) : made + t.1.length + t.2.2.toNat = lenP (toks ++ [t]) := by rw [lenP_app]; omega
end

/-- lz.read -/
theorem read_ok (x : Value) (b : List UInt8) (n : Nat) (g : FuncId) (caps : List Value) (T : List Pk → List Ent → Prop) (rv0 : List Ent) (w : World) (hx : RdE byteV w x b) (hl : b.length ≤ 140737488355328) (hn : n ≤ 65536) (hr : Res w rv0) (hT0 : T [] rv0) (ho : okFn Try.prog g = true) (hq : ∀ (wc : World) (t : Tk) (toks : List Pk) (rv rl : List Ent), T toks rv → SlE byteV 5 t.lit t.bs rl → Res wc (rv ++ rl) → ∀ {made : Nat}, made = lenP toks → (0 ≤ t.n ∧ t.n ≤ 259 ∧ 0 ≤ t.d ∧ t.d ≤ 32768 ∧ (0 < t.n → 1 ≤ t.d ∧ t.d ≤ (made : Int) + (t.bs.length : Nat)) ∧ (made : Int) + (t.bs.length : Nat) + t.n ≤ 65536 ∧ 1 ≤ ((t.bs.length : Nat) : Int) + t.n) → Calls Try.prog g (Value.agg (tokC t).toArray :: caps).toArray wc (Rt fun _ w' => ∃ rv', T (toks ++ [t.p]) rv' ∧ Mem wc (ids (rv ++ rl)) w' [rv'])) : Calls Try.prog 42 [x, .int .i64 ((n : Nat) : Int), .func (.func g) #[] caps.toArray].toArray w (Rt fun r w' => ∃ ok toks rv', r = .bool ok ∧ T toks rv' ∧ (if ok then some toks else none) = rdF b n ∧ Mem w (ids rv0) w' [rv']) := by
  have hM0 : Mem w (ids rv0) w [rv0] := Mem.start hr
  refine calls_vc mixed Try.func42 rfl C42 (by simp [Try.ntmps42]) ?_
  refine seq fun K1 h1 => ?_
  refine stp (v := .bool false) (o_mv rfl) ?_
  refine h1 _ _ ?_
  clear h1
  refine seq fun K2 h2 => ?_
  refine stp (v := x) (o_mv rfl) ?_
  refine m_call (NewCursor_ok _ b w (hx) (by first | omega | (simp; done) | (simp; omega))) rfl fun v3 w3 ⟨bc3, rs3, hr3, hc3, hm3⟩ => ?_
  have hM3 : Mem w (ids rv0) w3 [rv0, rs3] := hM0.add hm3
  subst hr3
  refine stp (v := .pointer (some ⟨bc3, 0, none⟩)) (o_mv rfl) ?_
  refine h2 _ _ ?_
  clear h2
  refine seq fun K4 h4 => ?_
  refine stp (v := .int .i64 0) (o_mv rfl) ?_
  refine h4 _ _ ?_
  clear h4
  refine seq fun K5 h5 => ?_
  refine lp (n := fun _ _ => False) (ι := (List Pk) × (Nat) × (Nat) × (Nat) × (List Ent) × (List Ent)) (fun ⟨toks, k, a, made, rv, rc⟩ f w' => f 7 = .pointer (some ⟨bc3, 0, none⟩) ∧ f 8 = .int .i64 (made : Nat) ∧ f 1 = .int .i64 (n : Nat) ∧ f 2 = .func (.func g) #[] caps.toArray ∧ Mem w (ids rv0) w' [rv, rc] ∧ (CurS bc3 b a 0 rc) ∧ (RdI b n toks k a made) ∧ (T toks rv) ∧ (made = lenP toks)) (fun ⟨toks, k, a, made, rv, rc⟩ => n - made) ([], n + 1, 0, 0, rv0, rs3) ?_ ?_
  · exact ⟨rfl, by first | rfl | exact v_int (by omega) | exact v_int (by simp) | exact v_int (by simp; omega), by first | rfl | exact v_int (by omega) | exact v_int (by simp) | exact v_int (by simp; omega), rfl, hM3, hc3, RdI.init b n, hT0, rfl⟩
  · rintro ⟨toks, k, a, made, rv, rc⟩ f w6 ⟨e6_7, e6_8, e6_1, e6_2, hM6, hcl, hI, hT, hlen⟩ K7 h7
    obtain ⟨frm, rfl⟩ : ∃ frm, f = (upd (upd (upd (upd frm 7 (.pointer (some ⟨bc3, 0, none⟩))) 8 (.int .i64 (made : Nat))) 1 (.int .i64 (n : Nat))) 2 (.func (.func g) #[] caps.toArray)) := ⟨f, by rw [upd_self e6_7, upd_self e6_8, upd_self e6_1, upd_self e6_2]⟩
    clear e6_7 e6_8 e6_1 e6_2
    refine seq fun K8 h8 => ?_
    refine seq fun K9 h9 => ?_
    refine stp (v := .pointer (some ⟨bc3, 0, none⟩)) (o_mv rfl) ?_
    refine m_call (Rest_ok _ b a 0 rc w6 hcl (hM6.res (i := 1) rfl) (by first | omega | (simp; done) | (simp; omega))) rfl fun v10 w10 ⟨hr10, hm10⟩ => ?_
    have hM10 : Mem w (ids rv0) w10 [rv, rc] := hM6.step 1 rfl hm10
    subst hr10
    refine stp (v := .bool (decide ((0 : Int) < (restV b a 0)))) (o_bin rfl rfl rfl) ?_
    refine h9 _ _ ?_
    clear h9
    refine cndP rfl (fun c11 => ?_) (fun c11 => ?_)
    ·
      refine h8 _ _ ?_
      clear h8
      refine seq fun K12 h12 => ?_
      have hap := rest_pos (b := b) (a := a) (e := 0) (by assumption)
      have hml := hI.m
      refine stp (v := .int .i64 (n : Nat)) (o_mv rfl) ?_
      refine stp (v := .int .i64 (made : Nat)) (o_mv rfl) ?_
      refine stp (v := .int .i64 (n - made : Nat)) (o_bin rfl rfl ((v_sub64 (by omega)).trans (v_int (by omega)))) ?_
      refine stp (v := .int .i64 (n - made : Nat)) (o_mv rfl) ?_
      refine h12 _ _ ?_
      clear h12
      refine seq fun K13 h13 => ?_
      refine stp (v := .pointer (some ⟨bc3, 0, none⟩)) (o_mv rfl) ?_
      refine stp (v := .int .i64 (n - made : Nat)) (o_mv rfl) ?_
      refine m_call (Num_ok _ b a 0 ((n - made : Nat) : Int) rc w10 hcl (hM10.res (i := 1) rfl) (by first | omega | (simp; done) | (simp; omega))) rfl fun v14 w14 ⟨hr14, r'14, hc14, hm14⟩ => ?_
      have hM14 : Mem w (ids rv0) w14 [rv, r'14] := hM10.step 1 rfl hm14
      obtain ⟨V1, hV1⟩ : ∃ z, z = cNum b a 0 ((n - made : Nat) : Int) := ⟨_, rfl⟩
      obtain ⟨A1, hA1⟩ : ∃ z, z = cNumA b a 0 ((n - made : Nat) : Int) := ⟨_, rfl⟩
      obtain ⟨E1, hE1⟩ : ∃ z, z = cNumE b a 0 ((n - made : Nat) : Int) := ⟨_, rfl⟩
      rw [← hV1] at hr14
      rw [← hA1, ← hE1] at hc14
      subst hr14
      have hbV1 : 0 ≤ V1 ∧ V1 ≤ ((n - made : Nat) : Int) := by rw [hV1]; exact cNum_le (m := n - made)
      refine stp (v := .int .i64 V1) (o_mv rfl) ?_
      refine h13 _ _ ?_
      clear h13
      refine seq fun K15 h15 => ?_
      refine stp (v := .pointer (some ⟨bc3, 0, none⟩)) (o_mv rfl) ?_
      refine stp (v := .int .i64 V1) (o_mv rfl) ?_
      refine m_call (Take_ok _ b A1 E1 V1 r'14 w14 hc14 (hM14.res (i := 1) rfl) (by first | omega | (simp; done) | (simp; omega))) rfl fun v16 w16 ⟨r'16, rs16, hc16, hs16, hm16⟩ => ?_
      have hM16 : Mem w (ids rv0) w16 [rv, r'16, rs16] := hM14.stepAdd 1 rfl hm16
      obtain ⟨lt, hlt⟩ : ∃ z, z = cTk b A1 E1 V1 := ⟨_, rfl⟩
      obtain ⟨A2, hA2⟩ : ∃ z, z = cTkA b A1 E1 V1 := ⟨_, rfl⟩
      obtain ⟨E2, hE2⟩ : ∃ z, z = cTkE b A1 E1 V1 := ⟨_, rfl⟩
      rw [← hlt] at hs16
      rw [← hA2, ← hE2] at hc16
      have h2 := st2_of hV1 hA1 hE1 hlt hA2 hE2 hI.a
      have hl2 := h2.len
      have hle2 := hc16.le
      obtain ⟨a17_, n17_, c17_, rfl⟩ := Sl.isSlice hs16
      refine stp (v := .agg ([(.slice a17_ n17_ c17_), .int .i64 0, .int .i64 0] : List Value).toArray) (o_bld rfl rfl) ?_
      refine m_al hM16 fun b18 w19 (hM19 : Mem w (ids rv0) w19 [rv, r'16, rs16, [⟨b18, 31, [.slice none 0 0, .int .i64 0, .int .i64 0]⟩]]) => ?_
      refine m_stA (l := [(.slice a17_ n17_ c17_), .int .i64 0, .int .i64 0]) hM19 (i := 3) rfl rfl rfl rfl (by simp [oneCells, Value.oneCell', byteV]) (by simp) fun w20 (hM20 : Mem w (ids rv0) w20 [rv, r'16, rs16, [⟨b18, 31, [(.slice a17_ n17_ c17_), .int .i64 0, .int .i64 0]⟩]]) => ?_
      refine h15 _ _ ?_
      clear h15
      refine seq fun K21 h21 => ?_
      refine stp (v := .int .i64 (made : Nat)) (o_mv rfl) ?_
      refine stp (v := .pointer (some ⟨b18, 0, none⟩)) (o_fa rfl rfl) ?_
      refine m_ld (v := (.slice a17_ n17_ c17_)) hM20 (i := 3) (j := 0) rfl rfl rfl rfl ?_
      refine stp (v := .int .i64 (lt.length : Nat)) (o_lenR (hs16.rd hM20 (i := 2) rfl) rfl rfl) ?_
      refine stp (v := .int .i64 (made + lt.length : Nat)) (o_bin rfl rfl ((v_add64 (by omega)).trans (v_int (by omega)))) ?_
      refine stp (v := .int .i64 (made + lt.length : Nat)) (o_mv rfl) ?_
      refine h21 _ _ ?_
      clear h21
      refine seq fun K22 h22 => ?_
      refine seq fun K23 h23 => ?_
      refine stp (v := .pointer (some ⟨bc3, 0, none⟩)) (o_mv rfl) ?_
      refine m_call (Rest_ok _ b A2 E2 r'16 w20 hc16 (hM20.res (i := 1) rfl) (by first | omega | (simp; done) | (simp; omega))) rfl fun v24 w24 ⟨hr24, hm24⟩ => ?_
      have hM24 : Mem w (ids rv0) w24 [rv, r'16, rs16, [⟨b18, 31, [(.slice a17_ n17_ c17_), .int .i64 0, .int .i64 0]⟩]] := hM20.step 1 rfl hm24
      subst hr24
      refine stp (v := .bool (decide ((0 : Int) < (restV b A2 E2)))) (o_bin rfl rfl rfl) ?_
      refine h23 _ _ ?_
      clear h23
      refine cndP rfl (fun c25 => ?_) (fun c25 => ?_)
      ·
        refine seq fun K26 h26 => ?_
        have hr2 := rest_pos (b := b) (a := A2) (e := E2) (by assumption)
        refine stp (v := .pointer (some ⟨bc3, 0, none⟩)) (o_mv rfl) ?_
        refine m_call (Num_ok _ b A2 E2 255 r'16 w24 hc16 (hM24.res (i := 1) rfl) (by first | omega | (simp; done) | (simp; omega))) rfl fun v27 w27 ⟨hr27, r'27, hc27, hm27⟩ => ?_
        have hM27 : Mem w (ids rv0) w27 [rv, r'27, rs16, [⟨b18, 31, [(.slice a17_ n17_ c17_), .int .i64 0, .int .i64 0]⟩]] := hM24.step 1 rfl hm27
        obtain ⟨V3, hV3⟩ : ∃ z, z = cNum b A2 E2 255 := ⟨_, rfl⟩
        obtain ⟨A3, hA3⟩ : ∃ z, z = cNumA b A2 E2 255 := ⟨_, rfl⟩
        obtain ⟨E3, hE3⟩ : ∃ z, z = cNumE b A2 E2 255 := ⟨_, rfl⟩
        rw [← hV3] at hr27
        rw [← hA3, ← hE3] at hc27
        subst hr27
        have hbV3 : 0 ≤ V3 ∧ V3 ≤ 255 := by rw [hV3]; exact cNum_le (m := 255)
        refine stp (v := .int .i64 (V3 + 4)) (o_bin rfl rfl (v_add64 (by constructor <;> omega))) ?_
        refine stp (v := .pointer (some ⟨b18, 2, none⟩)) (o_fa rfl rfl) ?_
        refine m_st (v := .int .i64 (V3 + 4)) hM27 (i := 3) rfl rfl rfl rfl (by simp) fun w28 (hM28 : Mem w (ids rv0) w28 [rv, r'27, rs16, [⟨b18, 31, [(.slice a17_ n17_ c17_), .int .i64 0, .int .i64 (V3 + 4)]⟩]]) => ?_
        refine h26 _ _ ?_
        clear h26
        refine stp (v := .pointer (some ⟨bc3, 0, none⟩)) (o_mv rfl) ?_
        refine stp (v := .int .i64 (made + lt.length : Nat)) (o_mv rfl) ?_
        refine stp (v := .int .i64 (min 32768 (made + lt.length) : Nat)) (o_mm rfl rfl (by show Value.int .i64 (min _ _) = _; exact v_int (by omega))) ?_
        refine m_call (Num_ok _ b A3 E3 ((min 32768 (made + lt.length) : Nat) : Int) r'27 w28 hc27 (hM28.res (i := 1) rfl) (by first | omega | (simp; done) | (simp; omega))) rfl fun v29 w29 ⟨hr29, r'29, hc29, hm29⟩ => ?_
        have hM29 : Mem w (ids rv0) w29 [rv, r'29, rs16, [⟨b18, 31, [(.slice a17_ n17_ c17_), .int .i64 0, .int .i64 (V3 + 4)]⟩]] := hM28.step 1 rfl hm29
        obtain ⟨V4, hV4⟩ : ∃ z, z = cNum b A3 E3 ((min 32768 (made + lt.length) : Nat) : Int) := ⟨_, rfl⟩
        obtain ⟨A4, hA4⟩ : ∃ z, z = cNumA b A3 E3 ((min 32768 (made + lt.length) : Nat) : Int) := ⟨_, rfl⟩
        obtain ⟨E4, hE4⟩ : ∃ z, z = cNumE b A3 E3 ((min 32768 (made + lt.length) : Nat) : Int) := ⟨_, rfl⟩
        rw [← hV4] at hr29
        rw [← hA4, ← hE4] at hc29
        subst hr29
        have hbV4 : 0 ≤ V4 ∧ V4 ≤ ((min 32768 (made + lt.length) : Nat) : Int) := by rw [hV4]; exact cNum_le (m := min 32768 (made + lt.length))
        rw [hr2.1] at hV3 hA3 hE3
        have h4 := st4_of hV3 hA3 hE3 hV4 hA4 hE4
        refine stp (v := .pointer (some ⟨b18, 1, none⟩)) (o_fa rfl rfl) ?_
        refine m_st (v := .int .i64 V4) hM29 (i := 3) rfl rfl rfl rfl (by simp) fun w30 (hM30 : Mem w (ids rv0) w30 [rv, r'29, rs16, [⟨b18, 31, [(.slice a17_ n17_ c17_), .int .i64 V4, .int .i64 (V3 + 4)]⟩]]) => ?_
        refine h22 _ _ ?_
        clear h22
        refine seq fun K31 h31 => ?_
        refine seq fun K32 h32 => ?_
        refine stp (v := .pointer (some ⟨bc3, 0, none⟩)) (o_mv rfl) ?_
        refine m_call (End_ok _ b A4 E4 r'29 w30 hc29 (hM30.res (i := 1) rfl)) rfl fun v33 w33 ⟨hr33, hm33⟩ => ?_
        have hM33 : Mem w (ids rv0) w33 [rv, r'29, rs16, [⟨b18, 31, [(.slice a17_ n17_ c17_), .int .i64 V4, .int .i64 (V3 + 4)]⟩]] := hM30.step 1 rfl hm33
        subst hr33
        refine m_al hM33 fun b34 w35 (hM35 : Mem w (ids rv0) w35 [rv, r'29, rs16, [⟨b18, 31, [(.slice a17_ n17_ c17_), .int .i64 V4, .int .i64 (V3 + 4)]⟩], [⟨b34, 75, [.int .i64 0, .int .i64 0]⟩]]) => ?_
        refine m_stA (l := [.int .i64 (endE b A4 E4), .int .i64 (endA b A4 E4 : Nat)]) hM35 (i := 4) rfl rfl rfl rfl (by simp [oneCells, Value.oneCell', byteV]) (by simp) fun w36 (hM36 : Mem w (ids rv0) w36 [rv, r'29, rs16, [⟨b18, 31, [(.slice a17_ n17_ c17_), .int .i64 V4, .int .i64 (V3 + 4)]⟩], [⟨b34, 75, [.int .i64 (endE b A4 E4), .int .i64 (endA b A4 E4 : Nat)]⟩]]) => ?_
        refine h32 _ _ ?_
        clear h32
        refine seq fun K37 h37 => ?_
        refine stp (v := .pointer (some ⟨b34, 0, none⟩)) (o_fa rfl rfl) ?_
        refine m_ld (v := .int .i64 (endE b A4 E4)) hM36 (i := 4) (j := 0) rfl rfl rfl rfl ?_
        refine stp (v := .bool (decide (¬ (endE b A4 E4) = 0))) (o_bin rfl rfl v_neq) ?_
        refine stp (v := .bool (decide (¬ (endE b A4 E4) = 0))) (o_mv rfl) ?_
        refine splitP rfl (fun c38 => ?_) (fun c38 => ?_)
        ·
          refine stg rfl (v := .pointer (some ⟨b34, 0, none⟩)) (o_fa rfl rfl) ?_
          refine gyesl rfl ?_
          refine m_ld (v := .int .i64 (endE b A4 E4)) hM36 (i := 4) (j := 0) rfl rfl rfl rfl ?_
          refine stg rfl (v := .bool (decide (¬ (endE b A4 E4) = 22))) (o_bin rfl rfl v_neq) ?_
          refine stp (v := .bool (decide (¬ (endE b A4 E4) = 22))) (o_pickT rfl rfl) ?_
          refine h37 _ _ ?_
          clear h37
          refine cndP rfl (fun c39 => ?_) (fun c39 => ?_)
          ·
            refine seq fun K40 h40 => ?_
            refine stp (v := .bool false) (o_mv rfl) ?_
            refine h40 _ _ ?_
            clear h40
            refine ⟨(.bool false), rfl, ?_⟩
            exact ⟨false, toks, _, rfl, hT, by rw [lf_end4 hI hap.2 h2 hr2 h4 (end_nz (b := b) (A := A4) (by omega) (by omega))]; rfl, hM36.keep (by simp)⟩
          ·
            refine h31 _ _ ?_
            clear h31
            refine seq fun K41 h41 => ?_
            refine seq fun K42 h42 => ?_
            intro wd e1 e2 e3 e4
            have hd := Upd.same e1 e2 e3 e4 []
            have hM43 := hM36.pure hd
            clear e1 e2 e3 e4
            refine ⟨(some [b18]), ?_⟩
            show vd _ _ _ _ _ _ _
            refine dq (v := .int .i64 (made + lt.length : Nat)) (o_mv rfl) ?_
            refine dq (v := .pointer (some ⟨bc3, 0, none⟩)) (o_mv rfl) ?_
            refine dqldA (cs := [(.slice a17_ n17_ c17_), .int .i64 V4, .int .i64 (V3 + 4)]) rfl (by simp [isHeld]) rfl ((hM43.at (i := 3) (j := 0) rfl rfl).agg rfl rfl) ?_
            refine dl (m_call (Rest_ok _ b A4 E4 r'29 wd hc29 (hM43.res (i := 1) rfl) (by first | omega | (simp; done) | (simp; omega))) rfl fun v44 w44 ⟨hr44, hm44⟩ => ?_)
            have hM44 : Mem w (ids rv0) w44 [rv, r'29, rs16, [⟨b18, 31, [(.slice a17_ n17_ c17_), .int .i64 V4, .int .i64 (V3 + 4)]⟩], [⟨b34, 75, [.int .i64 (endE b A4 E4), .int .i64 (endA b A4 E4 : Nat)]⟩]] := hM43.step 1 rfl hm44
            subst hr44
            have hh44 := held_upd (wr := wd) (bs := [b18]) hm44.upd (fun b hb => by
              simp only [List.mem_cons, List.not_mem_nil, or_false] at hb
              rw [hb]; exact ⟨(hM43.at (i := 3) (j := 0) rfl rfl).lt, hM43.apart (i := 3) (j := 0) (k := 1) rfl rfl rfl (by decide)⟩) (fun b hb => rfl)
            refine ⟨hh44, ?_⟩
            refine dq (v := .bool (decide ((restV b A4 E4) = 0))) (o_bin rfl rfl rfl) ?_
            refine dl (m_call (right_ok (⟨a17_, n17_, c17_, lt, V4, V3 + 4⟩ : Tk) (made + lt.length : Nat) (decide ((restV b A4 E4) = 0)) w44 (hs16.rd hM44 (i := 2) rfl) (by omega)) rfl fun v45 w45 ⟨hr45, hu45⟩ => ?_)
            have hM45 : Mem w (ids rv0) w45 [rv, r'29, rs16, [⟨b18, 31, [(.slice a17_ n17_ c17_), .int .i64 V4, .int .i64 (V3 + 4)]⟩], [⟨b34, 75, [.int .i64 (endE b A4 E4), .int .i64 (endA b A4 E4 : Nat)]⟩]] := hM44.pure hu45
            subst hr45
            have hh45 := held_upd (wr := wd) (bs := [b18]) hu45 (fun b hb => by
              simp only [List.mem_cons, List.not_mem_nil, or_false] at hb
              rw [hb]; exact ⟨(hM44.at (i := 3) (j := 0) rfl rfl).lt, by simp⟩) hh44
            refine ⟨hh45, ?_⟩
            refine dq (v := .bool (decide (¬ (okT (⟨a17_, n17_, c17_, lt, V4, V3 + 4⟩ : Tk).p (made + lt.length : Nat) (decide ((restV b A4 E4) = 0)))))) (o_not rfl v_not) ?_
            refine dq (v := .bool (decide (¬ (okT (⟨a17_, n17_, c17_, lt, V4, V3 + 4⟩ : Tk).p (made + lt.length : Nat) (decide ((restV b A4 E4) = 0)))))) (o_mv rfl) ?_
            refine dsplitP rfl (fun c46 => ?_) (fun c46 => ?_)
            ·
              refine dgno rfl (by simp) ?_
              refine dgno rfl (by simp) ?_
              refine dgno rfl (by simp) ?_
              refine dgnol rfl (by simp) ?_
              refine dgno rfl (by simp) ?_
              refine dgno rfl (by simp) ?_
              refine dq (v := .bool true) (o_pickT rfl rfl) ?_
              refine dq (v := .bool true) (o_mv rfl) ?_
              refine dsplitT rfl ?_
              refine dgnol rfl (by simp) ?_
              refine dgnol rfl (by simp) ?_
              refine dgno rfl (by simp) ?_
              refine dsplitU rfl ?_
              refine dgnou rfl ?_
              refine dgnou rfl ?_
              refine dgnou rfl ?_
              refine dgno rfl (by simp) ?_
              refine dq (v := .bool true) (o_pickT rfl rfl) ?_
              refine h42 _ _ ?_
              clear h42
              refine cndT rfl ?_
              refine seq fun K47 h47 => ?_
              refine stp (v := .bool false) (o_mv rfl) ?_
              refine h47 _ _ ?_
              clear h47
              refine ⟨(.bool false), rfl, ?_⟩
              have hx : ¬ 1 ≤ V4 := fun h1 => ‹¬ okT _ _ _› ((okK_some (fun hn => by have h9 := (noneK.1 hn).2; dsimp only at h9; omega)).2 (by dsimp only; omega))
              exact ⟨false, toks, _, rfl, hT, by rw [lf_bad4 hI hap.2 h2 hr2 h4 (end_z (b := b) (A := A4) h4.n22 (by omega)) (.inl hx)]; rfl, hM45.keep (by simp)⟩
            ·
              refine dqg rfl (v := .int .i64 (made + lt.length : Nat)) (o_mv rfl) ?_
              refine dqg rfl (v := .pointer (some ⟨b18, 2, none⟩)) (o_fa rfl rfl) ?_
              refine dqg rfl (v := .int .i64 (n : Nat)) (o_mv rfl) ?_
              refine dgyesl rfl ?_
              refine dl (m_ld (v := .int .i64 (V3 + 4)) hM45 (i := 3) (j := 0) rfl rfl rfl rfl ?_)
              refine ⟨hh45, ?_⟩
              refine dqg rfl (v := .int .i64 ((made + lt.length : Nat) + (V3 + 4))) (o_bin rfl rfl (v_add64 (by constructor <;> omega))) ?_
              refine dqg rfl (v := .bool (decide ((n : Nat) < ((made + lt.length : Nat) + (V3 + 4) : Int)))) (o_bin rfl rfl rfl) ?_
              refine dq (v := .bool (decide ((n : Nat) < ((made + lt.length : Nat) + (V3 + 4) : Int)))) (o_pickF rfl rfl) ?_
              refine dq (v := .bool (decide ((n : Nat) < ((made + lt.length : Nat) + (V3 + 4) : Int)))) (o_mv rfl) ?_
              refine dsplitP rfl (fun c48 => ?_) (fun c48 => ?_)
              ·
                refine dgnol rfl (by simp) ?_
                refine dgnol rfl (by simp) ?_
                refine dgno rfl (by simp) ?_
                refine dsplitU rfl ?_
                refine dgnou rfl ?_
                refine dgnou rfl ?_
                refine dgnou rfl ?_
                refine dgno rfl (by simp) ?_
                refine dq (v := .bool true) (o_pickT rfl rfl) ?_
                refine h42 _ _ ?_
                clear h42
                refine cndT rfl ?_
                refine seq fun K49 h49 => ?_
                refine stp (v := .bool false) (o_mv rfl) ?_
                refine h49 _ _ ?_
                clear h49
                refine ⟨(.bool false), rfl, ?_⟩
                exact ⟨false, toks, _, rfl, hT, by rw [lf_bad4 hI hap.2 h2 hr2 h4 (end_z (b := b) (A := A4) h4.n22 (by omega)) (.inr (by omega))]; rfl, hM45.keep (by simp)⟩
              ·
                refine dgyesl rfl ?_
                refine dl (m_ldA (l := [(.slice a17_ n17_ c17_), .int .i64 V4, .int .i64 (V3 + 4)]) hM45 (i := 3) (j := 0) rfl rfl rfl rfl rfl ?_)
                refine ⟨hh45, ?_⟩
                refine dgyesl rfl ?_
                refine dl (m_call (none_ok (⟨a17_, n17_, c17_, lt, V4, V3 + 4⟩ : Tk) w45) rfl fun v50 w50 ⟨hr50, hu50⟩ => ?_)
                have hM50 : Mem w (ids rv0) w50 [rv, r'29, rs16, [⟨b18, 31, [(.slice a17_ n17_ c17_), .int .i64 V4, .int .i64 (V3 + 4)]⟩], [⟨b34, 75, [.int .i64 (endE b A4 E4), .int .i64 (endA b A4 E4 : Nat)]⟩]] := hM45.pure hu50
                subst hr50
                have hh50 := held_upd (wr := wd) (bs := [b18]) hu50 (fun b hb => by
                  simp only [List.mem_cons, List.not_mem_nil, or_false] at hb
                  rw [hb]; exact ⟨(hM45.at (i := 3) (j := 0) rfl rfl).lt, by simp⟩) hh45
                refine ⟨hh50, ?_⟩
                refine dqg rfl (v := .bool (decide (noneT (⟨a17_, n17_, c17_, lt, V4, V3 + 4⟩ : Tk).p))) (o_mv rfl) ?_
                refine dsplitP rfl (fun c51 => ?_) (fun c51 => ?_)
                ·
                  refine dqg rfl (v := .int .i64 (made + lt.length : Nat)) (o_mv rfl) ?_
                  refine dqg rfl (v := .int .i64 (n : Nat)) (o_mv rfl) ?_
                  refine dqg rfl (v := .bool (decide (¬ ((made + lt.length : Nat) : Int) = (n : Nat)))) (o_bin rfl rfl v_neq) ?_
                  refine dqg rfl (v := .bool (decide (¬ ((made + lt.length : Nat) : Int) = (n : Nat)))) (o_pickT rfl rfl) ?_
                  refine dq (v := .bool (decide (¬ ((made + lt.length : Nat) : Int) = (n : Nat)))) (o_pickF rfl rfl) ?_
                  refine h42 _ _ ?_
                  clear h42
                  refine cndP rfl (fun c52 => ?_) (fun c52 => ?_)
                  ·
                    refine seq fun K53 h53 => ?_
                    refine stp (v := .bool false) (o_mv rfl) ?_
                    refine h53 _ _ ?_
                    clear h53
                    refine ⟨(.bool false), rfl, ?_⟩
                    exact absurd (noneK.1 ‹noneT _›).2 (by dsimp only; omega)
                  ·
                    refine h41 _ _ ?_
                    clear h41
                    refine seq fun K54 h54 => ?_
                    exact absurd (noneK.1 ‹noneT _›).2 (by dsimp only; omega)
                ·
                  refine dgno rfl (by simp) ?_
                  refine dgno rfl (by simp) ?_
                  refine dgno rfl (by simp) ?_
                  refine dqg rfl (v := .bool false) (o_pickF rfl rfl) ?_
                  refine dq (v := .bool false) (o_pickF rfl rfl) ?_
                  refine h42 _ _ ?_
                  clear h42
                  refine cndF rfl ?_
                  refine h41 _ _ ?_
                  clear h41
                  refine seq fun K55 h55 => ?_
                  have hok4 := Decidable.not_not.1 ‹¬ ¬ okT _ _ _›
                  have hob := okK_bd hok4
                  dsimp only at hob
                  refine stp (v := .int .i64 (made + lt.length : Nat)) (o_mv rfl) ?_
                  refine stp (v := .pointer (some ⟨b18, 2, none⟩)) (o_fa rfl rfl) ?_
                  refine m_ld (v := .int .i64 (V3 + 4)) hM50 (i := 3) (j := 0) rfl rfl rfl rfl ?_
                  refine stp (v := .int .i64 ((made + lt.length : Nat) + (V3 + 4))) (o_bin rfl rfl (v_add64 (by constructor <;> omega))) ?_
                  refine stp (v := .int .i64 ((made + lt.length : Nat) + (V3 + 4))) (o_mv rfl) ?_
                  refine h55 _ _ ?_
                  clear h55
                  refine stp (v := .func (.func g) #[] caps.toArray) (o_mv rfl) ?_
                  refine m_ldA (l := [(.slice a17_ n17_ c17_), .int .i64 V4, .int .i64 (V3 + 4)]) hM50 (i := 3) (j := 0) rfl rfl rfl rfl rfl ?_
                  refine m_callv rfl (by assumption) (hq w50 (⟨a17_, n17_, c17_, lt, V4, V3 + 4⟩ : Tk) toks rv rs16 hT hs16 (hM50.res2 0 2 rfl rfl (by decide)) hlen (by dsimp only; omega)) rfl fun v56 w56 ⟨rv56, hTn, hm56⟩ => ?_
                  have hM56 : Mem w (ids rv0) w56 [rv56, r'29, [], [⟨b18, 31, [(.slice a17_ n17_ c17_), .int .i64 V4, .int .i64 (V3 + 4)]⟩], [⟨b34, 75, [.int .i64 (endE b A4 E4), .int .i64 (endA b A4 E4 : Nat)]⟩]] := hM50.step2 0 2 rfl rfl (by decide) hm56.addNil
                  refine h7 (toks ++ [(lt, V4, V3 + 4)], k - 1, A4, made + lt.length + (V3 + 4).toNat, rv56, r'29) _ _ ⟨rfl, by first | rfl | exact v_int (by omega) | exact v_int (by simp) | exact v_int (by simp; omega), by first | rfl | exact v_int (by omega) | exact v_int (by simp) | exact v_int (by simp; omega), rfl, hM56.keep (by simp), by have h9 := hc29; rw [(end_z (b := b) (A := A4) h4.n22 (by omega))] at h9; exact h9, lf_go4 hI h2 hr2 h4 (end_z (b := b) (A := A4) h4.n22 (by omega)) (by omega) (by omega), hTn, lf_len (t := (lt, V4, V3 + 4)) hlen⟩ (by dsimp only; omega)
        ·
          refine gno rfl (by simp) ?_
          refine gnol rfl (by simp) ?_
          refine gno rfl (by simp) ?_
          refine stp (v := .bool false) (o_pickF rfl rfl) ?_
          refine h37 _ _ ?_
          clear h37
          refine cndF rfl ?_
          refine h31 _ _ ?_
          clear h31
          refine seq fun K57 h57 => ?_
          refine seq fun K58 h58 => ?_
          intro wd e1 e2 e3 e4
          have hd := Upd.same e1 e2 e3 e4 []
          have hM59 := hM36.pure hd
          clear e1 e2 e3 e4
          refine ⟨(some [b18]), ?_⟩
          show vd _ _ _ _ _ _ _
          refine dq (v := .int .i64 (made + lt.length : Nat)) (o_mv rfl) ?_
          refine dq (v := .pointer (some ⟨bc3, 0, none⟩)) (o_mv rfl) ?_
          refine dqldA (cs := [(.slice a17_ n17_ c17_), .int .i64 V4, .int .i64 (V3 + 4)]) rfl (by simp [isHeld]) rfl ((hM59.at (i := 3) (j := 0) rfl rfl).agg rfl rfl) ?_
          refine dl (m_call (Rest_ok _ b A4 E4 r'29 wd hc29 (hM59.res (i := 1) rfl) (by first | omega | (simp; done) | (simp; omega))) rfl fun v60 w60 ⟨hr60, hm60⟩ => ?_)
          have hM60 : Mem w (ids rv0) w60 [rv, r'29, rs16, [⟨b18, 31, [(.slice a17_ n17_ c17_), .int .i64 V4, .int .i64 (V3 + 4)]⟩], [⟨b34, 75, [.int .i64 (endE b A4 E4), .int .i64 (endA b A4 E4 : Nat)]⟩]] := hM59.step 1 rfl hm60
          subst hr60
          have hh60 := held_upd (wr := wd) (bs := [b18]) hm60.upd (fun b hb => by
            simp only [List.mem_cons, List.not_mem_nil, or_false] at hb
            rw [hb]; exact ⟨(hM59.at (i := 3) (j := 0) rfl rfl).lt, hM59.apart (i := 3) (j := 0) (k := 1) rfl rfl rfl (by decide)⟩) (fun b hb => rfl)
          refine ⟨hh60, ?_⟩
          refine dq (v := .bool (decide ((restV b A4 E4) = 0))) (o_bin rfl rfl rfl) ?_
          refine dl (m_call (right_ok (⟨a17_, n17_, c17_, lt, V4, V3 + 4⟩ : Tk) (made + lt.length : Nat) (decide ((restV b A4 E4) = 0)) w60 (hs16.rd hM60 (i := 2) rfl) (by omega)) rfl fun v61 w61 ⟨hr61, hu61⟩ => ?_)
          have hM61 : Mem w (ids rv0) w61 [rv, r'29, rs16, [⟨b18, 31, [(.slice a17_ n17_ c17_), .int .i64 V4, .int .i64 (V3 + 4)]⟩], [⟨b34, 75, [.int .i64 (endE b A4 E4), .int .i64 (endA b A4 E4 : Nat)]⟩]] := hM60.pure hu61
          subst hr61
          have hh61 := held_upd (wr := wd) (bs := [b18]) hu61 (fun b hb => by
            simp only [List.mem_cons, List.not_mem_nil, or_false] at hb
            rw [hb]; exact ⟨(hM60.at (i := 3) (j := 0) rfl rfl).lt, by simp⟩) hh60
          refine ⟨hh61, ?_⟩
          refine dq (v := .bool (decide (¬ (okT (⟨a17_, n17_, c17_, lt, V4, V3 + 4⟩ : Tk).p (made + lt.length : Nat) (decide ((restV b A4 E4) = 0)))))) (o_not rfl v_not) ?_
          refine dq (v := .bool (decide (¬ (okT (⟨a17_, n17_, c17_, lt, V4, V3 + 4⟩ : Tk).p (made + lt.length : Nat) (decide ((restV b A4 E4) = 0)))))) (o_mv rfl) ?_
          refine dsplitP rfl (fun c62 => ?_) (fun c62 => ?_)
          ·
            refine dgno rfl (by simp) ?_
            refine dgno rfl (by simp) ?_
            refine dgno rfl (by simp) ?_
            refine dgnol rfl (by simp) ?_
            refine dgno rfl (by simp) ?_
            refine dgno rfl (by simp) ?_
            refine dq (v := .bool true) (o_pickT rfl rfl) ?_
            refine dq (v := .bool true) (o_mv rfl) ?_
            refine dsplitT rfl ?_
            refine dgnol rfl (by simp) ?_
            refine dgnol rfl (by simp) ?_
            refine dgno rfl (by simp) ?_
            refine dsplitU rfl ?_
            refine dgnou rfl ?_
            refine dgnou rfl ?_
            refine dgnou rfl ?_
            refine dgno rfl (by simp) ?_
            refine dq (v := .bool true) (o_pickT rfl rfl) ?_
            refine h58 _ _ ?_
            clear h58
            refine cndT rfl ?_
            refine seq fun K63 h63 => ?_
            refine stp (v := .bool false) (o_mv rfl) ?_
            refine h63 _ _ ?_
            clear h63
            refine ⟨(.bool false), rfl, ?_⟩
            have hx : ¬ 1 ≤ V4 := fun h1 => ‹¬ okT _ _ _› ((okK_some (fun hn => by have h9 := (noneK.1 hn).2; dsimp only at h9; omega)).2 (by dsimp only; omega))
            exact ⟨false, toks, _, rfl, hT, by rw [lf_bad4 hI hap.2 h2 hr2 h4 (end_z (b := b) (A := A4) h4.n22 (by omega)) (.inl hx)]; rfl, hM61.keep (by simp)⟩
          ·
            refine dqg rfl (v := .int .i64 (made + lt.length : Nat)) (o_mv rfl) ?_
            refine dqg rfl (v := .pointer (some ⟨b18, 2, none⟩)) (o_fa rfl rfl) ?_
            refine dqg rfl (v := .int .i64 (n : Nat)) (o_mv rfl) ?_
            refine dgyesl rfl ?_
            refine dl (m_ld (v := .int .i64 (V3 + 4)) hM61 (i := 3) (j := 0) rfl rfl rfl rfl ?_)
            refine ⟨hh61, ?_⟩
            refine dqg rfl (v := .int .i64 ((made + lt.length : Nat) + (V3 + 4))) (o_bin rfl rfl (v_add64 (by constructor <;> omega))) ?_
            refine dqg rfl (v := .bool (decide ((n : Nat) < ((made + lt.length : Nat) + (V3 + 4) : Int)))) (o_bin rfl rfl rfl) ?_
            refine dq (v := .bool (decide ((n : Nat) < ((made + lt.length : Nat) + (V3 + 4) : Int)))) (o_pickF rfl rfl) ?_
            refine dq (v := .bool (decide ((n : Nat) < ((made + lt.length : Nat) + (V3 + 4) : Int)))) (o_mv rfl) ?_
            refine dsplitP rfl (fun c64 => ?_) (fun c64 => ?_)
            ·
              refine dgnol rfl (by simp) ?_
              refine dgnol rfl (by simp) ?_
              refine dgno rfl (by simp) ?_
              refine dsplitU rfl ?_
              refine dgnou rfl ?_
              refine dgnou rfl ?_
              refine dgnou rfl ?_
              refine dgno rfl (by simp) ?_
              refine dq (v := .bool true) (o_pickT rfl rfl) ?_
              refine h58 _ _ ?_
              clear h58
              refine cndT rfl ?_
              refine seq fun K65 h65 => ?_
              refine stp (v := .bool false) (o_mv rfl) ?_
              refine h65 _ _ ?_
              clear h65
              refine ⟨(.bool false), rfl, ?_⟩
              exact ⟨false, toks, _, rfl, hT, by rw [lf_bad4 hI hap.2 h2 hr2 h4 (end_z (b := b) (A := A4) h4.n22 (by omega)) (.inr (by omega))]; rfl, hM61.keep (by simp)⟩
            ·
              refine dgyesl rfl ?_
              refine dl (m_ldA (l := [(.slice a17_ n17_ c17_), .int .i64 V4, .int .i64 (V3 + 4)]) hM61 (i := 3) (j := 0) rfl rfl rfl rfl rfl ?_)
              refine ⟨hh61, ?_⟩
              refine dgyesl rfl ?_
              refine dl (m_call (none_ok (⟨a17_, n17_, c17_, lt, V4, V3 + 4⟩ : Tk) w61) rfl fun v66 w66 ⟨hr66, hu66⟩ => ?_)
              have hM66 : Mem w (ids rv0) w66 [rv, r'29, rs16, [⟨b18, 31, [(.slice a17_ n17_ c17_), .int .i64 V4, .int .i64 (V3 + 4)]⟩], [⟨b34, 75, [.int .i64 (endE b A4 E4), .int .i64 (endA b A4 E4 : Nat)]⟩]] := hM61.pure hu66
              subst hr66
              have hh66 := held_upd (wr := wd) (bs := [b18]) hu66 (fun b hb => by
                simp only [List.mem_cons, List.not_mem_nil, or_false] at hb
                rw [hb]; exact ⟨(hM61.at (i := 3) (j := 0) rfl rfl).lt, by simp⟩) hh61
              refine ⟨hh66, ?_⟩
              refine dqg rfl (v := .bool (decide (noneT (⟨a17_, n17_, c17_, lt, V4, V3 + 4⟩ : Tk).p))) (o_mv rfl) ?_
              refine dsplitP rfl (fun c67 => ?_) (fun c67 => ?_)
              ·
                refine dqg rfl (v := .int .i64 (made + lt.length : Nat)) (o_mv rfl) ?_
                refine dqg rfl (v := .int .i64 (n : Nat)) (o_mv rfl) ?_
                refine dqg rfl (v := .bool (decide (¬ ((made + lt.length : Nat) : Int) = (n : Nat)))) (o_bin rfl rfl v_neq) ?_
                refine dqg rfl (v := .bool (decide (¬ ((made + lt.length : Nat) : Int) = (n : Nat)))) (o_pickT rfl rfl) ?_
                refine dq (v := .bool (decide (¬ ((made + lt.length : Nat) : Int) = (n : Nat)))) (o_pickF rfl rfl) ?_
                refine h58 _ _ ?_
                clear h58
                refine cndP rfl (fun c68 => ?_) (fun c68 => ?_)
                ·
                  refine seq fun K69 h69 => ?_
                  refine stp (v := .bool false) (o_mv rfl) ?_
                  refine h69 _ _ ?_
                  clear h69
                  refine ⟨(.bool false), rfl, ?_⟩
                  exact absurd (noneK.1 ‹noneT _›).2 (by dsimp only; omega)
                ·
                  refine h57 _ _ ?_
                  clear h57
                  refine seq fun K70 h70 => ?_
                  exact absurd (noneK.1 ‹noneT _›).2 (by dsimp only; omega)
              ·
                refine dgno rfl (by simp) ?_
                refine dgno rfl (by simp) ?_
                refine dgno rfl (by simp) ?_
                refine dqg rfl (v := .bool false) (o_pickF rfl rfl) ?_
                refine dq (v := .bool false) (o_pickF rfl rfl) ?_
                refine h58 _ _ ?_
                clear h58
                refine cndF rfl ?_
                refine h57 _ _ ?_
                clear h57
                refine seq fun K71 h71 => ?_
                have hok4 := Decidable.not_not.1 ‹¬ ¬ okT _ _ _›
                have hob := okK_bd hok4
                dsimp only at hob
                refine stp (v := .int .i64 (made + lt.length : Nat)) (o_mv rfl) ?_
                refine stp (v := .pointer (some ⟨b18, 2, none⟩)) (o_fa rfl rfl) ?_
                refine m_ld (v := .int .i64 (V3 + 4)) hM66 (i := 3) (j := 0) rfl rfl rfl rfl ?_
                refine stp (v := .int .i64 ((made + lt.length : Nat) + (V3 + 4))) (o_bin rfl rfl (v_add64 (by constructor <;> omega))) ?_
                refine stp (v := .int .i64 ((made + lt.length : Nat) + (V3 + 4))) (o_mv rfl) ?_
                refine h71 _ _ ?_
                clear h71
                refine stp (v := .func (.func g) #[] caps.toArray) (o_mv rfl) ?_
                refine m_ldA (l := [(.slice a17_ n17_ c17_), .int .i64 V4, .int .i64 (V3 + 4)]) hM66 (i := 3) (j := 0) rfl rfl rfl rfl rfl ?_
                refine m_callv rfl (by assumption) (hq w66 (⟨a17_, n17_, c17_, lt, V4, V3 + 4⟩ : Tk) toks rv rs16 hT hs16 (hM66.res2 0 2 rfl rfl (by decide)) hlen (by dsimp only; omega)) rfl fun v72 w72 ⟨rv72, hTn, hm72⟩ => ?_
                have hM72 : Mem w (ids rv0) w72 [rv72, r'29, [], [⟨b18, 31, [(.slice a17_ n17_ c17_), .int .i64 V4, .int .i64 (V3 + 4)]⟩], [⟨b34, 75, [.int .i64 (endE b A4 E4), .int .i64 (endA b A4 E4 : Nat)]⟩]] := hM66.step2 0 2 rfl rfl (by decide) hm72.addNil
                refine h7 (toks ++ [(lt, V4, V3 + 4)], k - 1, A4, made + lt.length + (V3 + 4).toNat, rv72, r'29) _ _ ⟨rfl, by first | rfl | exact v_int (by omega) | exact v_int (by simp) | exact v_int (by simp; omega), by first | rfl | exact v_int (by omega) | exact v_int (by simp) | exact v_int (by simp; omega), rfl, hM72.keep (by simp), by have h9 := hc29; rw [(end_z (b := b) (A := A4) h4.n22 (by omega))] at h9; exact h9, lf_go4 hI h2 hr2 h4 (end_z (b := b) (A := A4) h4.n22 (by omega)) (by omega) (by omega), hTn, lf_len (t := (lt, V4, V3 + 4)) hlen⟩ (by dsimp only; omega)
      ·
        refine h22 _ _ ?_
        clear h22
        refine seq fun K73 h73 => ?_
        refine seq fun K74 h74 => ?_
        refine stp (v := .pointer (some ⟨bc3, 0, none⟩)) (o_mv rfl) ?_
        refine m_call (End_ok _ b A2 E2 r'16 w24 hc16 (hM24.res (i := 1) rfl)) rfl fun v75 w75 ⟨hr75, hm75⟩ => ?_
        have hM75 : Mem w (ids rv0) w75 [rv, r'16, rs16, [⟨b18, 31, [(.slice a17_ n17_ c17_), .int .i64 0, .int .i64 0]⟩]] := hM24.step 1 rfl hm75
        subst hr75
        refine m_al hM75 fun b76 w77 (hM77 : Mem w (ids rv0) w77 [rv, r'16, rs16, [⟨b18, 31, [(.slice a17_ n17_ c17_), .int .i64 0, .int .i64 0]⟩], [⟨b76, 75, [.int .i64 0, .int .i64 0]⟩]]) => ?_
        refine m_stA (l := [.int .i64 (endE b A2 E2), .int .i64 (endA b A2 E2 : Nat)]) hM77 (i := 4) rfl rfl rfl rfl (by simp [oneCells, Value.oneCell', byteV]) (by simp) fun w78 (hM78 : Mem w (ids rv0) w78 [rv, r'16, rs16, [⟨b18, 31, [(.slice a17_ n17_ c17_), .int .i64 0, .int .i64 0]⟩], [⟨b76, 75, [.int .i64 (endE b A2 E2), .int .i64 (endA b A2 E2 : Nat)]⟩]]) => ?_
        refine h74 _ _ ?_
        clear h74
        refine seq fun K79 h79 => ?_
        refine stp (v := .pointer (some ⟨b76, 0, none⟩)) (o_fa rfl rfl) ?_
        refine m_ld (v := .int .i64 (endE b A2 E2)) hM78 (i := 4) (j := 0) rfl rfl rfl rfl ?_
        refine stp (v := .bool (decide (¬ (endE b A2 E2) = 0))) (o_bin rfl rfl v_neq) ?_
        refine stp (v := .bool (decide (¬ (endE b A2 E2) = 0))) (o_mv rfl) ?_
        refine splitP rfl (fun c80 => ?_) (fun c80 => ?_)
        ·
          refine stg rfl (v := .pointer (some ⟨b76, 0, none⟩)) (o_fa rfl rfl) ?_
          refine gyesl rfl ?_
          refine m_ld (v := .int .i64 (endE b A2 E2)) hM78 (i := 4) (j := 0) rfl rfl rfl rfl ?_
          refine stg rfl (v := .bool (decide (¬ (endE b A2 E2) = 22))) (o_bin rfl rfl v_neq) ?_
          refine stp (v := .bool (decide (¬ (endE b A2 E2) = 22))) (o_pickT rfl rfl) ?_
          refine h79 _ _ ?_
          clear h79
          refine cndP rfl (fun c81 => ?_) (fun c81 => ?_)
          ·
            refine seq fun K82 h82 => ?_
            refine stp (v := .bool false) (o_mv rfl) ?_
            refine h82 _ _ ?_
            clear h82
            refine ⟨(.bool false), rfl, ?_⟩
            exact ⟨false, toks, _, rfl, hT, by rw [lf_end0 hI hap.2 h2 (end_nz (b := b) (A := A2) (by omega) (by omega))]; rfl, hM78.keep (by simp)⟩
          ·
            refine h73 _ _ ?_
            clear h73
            refine seq fun K83 h83 => ?_
            refine seq fun K84 h84 => ?_
            intro wd e1 e2 e3 e4
            have hd := Upd.same e1 e2 e3 e4 []
            have hM85 := hM78.pure hd
            clear e1 e2 e3 e4
            refine ⟨(some [b18]), ?_⟩
            show vd _ _ _ _ _ _ _
            refine dq (v := .int .i64 (made + lt.length : Nat)) (o_mv rfl) ?_
            refine dq (v := .pointer (some ⟨bc3, 0, none⟩)) (o_mv rfl) ?_
            refine dqldA (cs := [(.slice a17_ n17_ c17_), .int .i64 0, .int .i64 0]) rfl (by simp [isHeld]) rfl ((hM85.at (i := 3) (j := 0) rfl rfl).agg rfl rfl) ?_
            refine dl (m_call (Rest_ok _ b A2 E2 r'16 wd hc16 (hM85.res (i := 1) rfl) (by first | omega | (simp; done) | (simp; omega))) rfl fun v86 w86 ⟨hr86, hm86⟩ => ?_)
            have hM86 : Mem w (ids rv0) w86 [rv, r'16, rs16, [⟨b18, 31, [(.slice a17_ n17_ c17_), .int .i64 0, .int .i64 0]⟩], [⟨b76, 75, [.int .i64 (endE b A2 E2), .int .i64 (endA b A2 E2 : Nat)]⟩]] := hM85.step 1 rfl hm86
            subst hr86
            have hh86 := held_upd (wr := wd) (bs := [b18]) hm86.upd (fun b hb => by
              simp only [List.mem_cons, List.not_mem_nil, or_false] at hb
              rw [hb]; exact ⟨(hM85.at (i := 3) (j := 0) rfl rfl).lt, hM85.apart (i := 3) (j := 0) (k := 1) rfl rfl rfl (by decide)⟩) (fun b hb => rfl)
            refine ⟨hh86, ?_⟩
            refine dq (v := .bool (decide ((restV b A2 E2) = 0))) (o_bin rfl rfl rfl) ?_
            refine dl (m_call (right_ok (⟨a17_, n17_, c17_, lt, 0, 0⟩ : Tk) (made + lt.length : Nat) (decide ((restV b A2 E2) = 0)) w86 (hs16.rd hM86 (i := 2) rfl) (by omega)) rfl fun v87 w87 ⟨hr87, hu87⟩ => ?_)
            have hM87 : Mem w (ids rv0) w87 [rv, r'16, rs16, [⟨b18, 31, [(.slice a17_ n17_ c17_), .int .i64 0, .int .i64 0]⟩], [⟨b76, 75, [.int .i64 (endE b A2 E2), .int .i64 (endA b A2 E2 : Nat)]⟩]] := hM86.pure hu87
            subst hr87
            have hh87 := held_upd (wr := wd) (bs := [b18]) hu87 (fun b hb => by
              simp only [List.mem_cons, List.not_mem_nil, or_false] at hb
              rw [hb]; exact ⟨(hM86.at (i := 3) (j := 0) rfl rfl).lt, by simp⟩) hh86
            refine ⟨hh87, ?_⟩
            refine dq (v := .bool (decide (¬ (okT (⟨a17_, n17_, c17_, lt, 0, 0⟩ : Tk).p (made + lt.length : Nat) (decide ((restV b A2 E2) = 0)))))) (o_not rfl v_not) ?_
            refine dq (v := .bool (decide (¬ (okT (⟨a17_, n17_, c17_, lt, 0, 0⟩ : Tk).p (made + lt.length : Nat) (decide ((restV b A2 E2) = 0)))))) (o_mv rfl) ?_
            refine dsplitP rfl (fun c88 => ?_) (fun c88 => ?_)
            ·
              refine dgno rfl (by simp) ?_
              refine dgno rfl (by simp) ?_
              refine dgno rfl (by simp) ?_
              refine dgnol rfl (by simp) ?_
              refine dgno rfl (by simp) ?_
              refine dgno rfl (by simp) ?_
              refine dq (v := .bool true) (o_pickT rfl rfl) ?_
              refine dq (v := .bool true) (o_mv rfl) ?_
              refine dsplitT rfl ?_
              refine dgnol rfl (by simp) ?_
              refine dgnol rfl (by simp) ?_
              refine dgno rfl (by simp) ?_
              refine dsplitU rfl ?_
              refine dgnou rfl ?_
              refine dgnou rfl ?_
              refine dgnou rfl ?_
              refine dgno rfl (by simp) ?_
              refine dq (v := .bool true) (o_pickT rfl rfl) ?_
              refine h84 _ _ ?_
              clear h84
              refine cndT rfl ?_
              refine seq fun K89 h89 => ?_
              refine stp (v := .bool false) (o_mv rfl) ?_
              refine h89 _ _ ?_
              clear h89
              refine ⟨(.bool false), rfl, ?_⟩
              have hx : lt.length = 0 := Decidable.byContradiction fun h => ‹¬ okT _ _ _› ((okK_none (noneK.2 ⟨rfl, rfl⟩)).2 ⟨decide_eq_true (rest_0 (by assumption)), by dsimp only; omega⟩)
              exact ⟨false, toks, _, rfl, hT, by rw [lf_bad0 hI hap.2 h2 (end_z (b := b) (A := A2) h2.n22 (by omega)) (by have := rest_zero (b := b) (a := A2) (e := E2) (by assumption); have := (end_z (b := b) (A := A2) h2.n22 (by omega)); omega) (.inl hx)]; rfl, hM87.keep (by simp)⟩
            ·
              refine dqg rfl (v := .int .i64 (made + lt.length : Nat)) (o_mv rfl) ?_
              refine dqg rfl (v := .pointer (some ⟨b18, 2, none⟩)) (o_fa rfl rfl) ?_
              refine dqg rfl (v := .int .i64 (n : Nat)) (o_mv rfl) ?_
              refine dgyesl rfl ?_
              refine dl (m_ld (v := .int .i64 0) hM87 (i := 3) (j := 0) rfl rfl rfl rfl ?_)
              refine ⟨hh87, ?_⟩
              refine dqg rfl (v := .int .i64 ((made + lt.length : Nat) + 0)) (o_bin rfl rfl (v_add64 (by constructor <;> omega))) ?_
              refine dqg rfl (v := .bool (decide ((n : Nat) < ((made + lt.length : Nat) + 0 : Int)))) (o_bin rfl rfl rfl) ?_
              refine dq (v := .bool (decide ((n : Nat) < ((made + lt.length : Nat) + 0 : Int)))) (o_pickF rfl rfl) ?_
              refine dq (v := .bool (decide ((n : Nat) < ((made + lt.length : Nat) + 0 : Int)))) (o_mv rfl) ?_
              refine dsplitP rfl (fun c90 => ?_) (fun c90 => ?_)
              ·
                refine dgnol rfl (by simp) ?_
                refine dgnol rfl (by simp) ?_
                refine dgno rfl (by simp) ?_
                refine dsplitU rfl ?_
                refine dgnou rfl ?_
                refine dgnou rfl ?_
                refine dgnou rfl ?_
                refine dgno rfl (by simp) ?_
                refine dq (v := .bool true) (o_pickT rfl rfl) ?_
                refine h84 _ _ ?_
                clear h84
                refine cndT rfl ?_
                refine seq fun K91 h91 => ?_
                refine stp (v := .bool false) (o_mv rfl) ?_
                refine h91 _ _ ?_
                clear h91
                refine ⟨(.bool false), rfl, ?_⟩
                exfalso
                omega
              ·
                refine dgyesl rfl ?_
                refine dl (m_ldA (l := [(.slice a17_ n17_ c17_), .int .i64 0, .int .i64 0]) hM87 (i := 3) (j := 0) rfl rfl rfl rfl rfl ?_)
                refine ⟨hh87, ?_⟩
                refine dgyesl rfl ?_
                refine dl (m_call (none_ok (⟨a17_, n17_, c17_, lt, 0, 0⟩ : Tk) w87) rfl fun v92 w92 ⟨hr92, hu92⟩ => ?_)
                have hM92 : Mem w (ids rv0) w92 [rv, r'16, rs16, [⟨b18, 31, [(.slice a17_ n17_ c17_), .int .i64 0, .int .i64 0]⟩], [⟨b76, 75, [.int .i64 (endE b A2 E2), .int .i64 (endA b A2 E2 : Nat)]⟩]] := hM87.pure hu92
                subst hr92
                have hh92 := held_upd (wr := wd) (bs := [b18]) hu92 (fun b hb => by
                  simp only [List.mem_cons, List.not_mem_nil, or_false] at hb
                  rw [hb]; exact ⟨(hM87.at (i := 3) (j := 0) rfl rfl).lt, by simp⟩) hh87
                refine ⟨hh92, ?_⟩
                refine dqg rfl (v := .bool (decide (noneT (⟨a17_, n17_, c17_, lt, 0, 0⟩ : Tk).p))) (o_mv rfl) ?_
                refine dsplitP rfl (fun c93 => ?_) (fun c93 => ?_)
                ·
                  refine dqg rfl (v := .int .i64 (made + lt.length : Nat)) (o_mv rfl) ?_
                  refine dqg rfl (v := .int .i64 (n : Nat)) (o_mv rfl) ?_
                  refine dqg rfl (v := .bool (decide (¬ ((made + lt.length : Nat) : Int) = (n : Nat)))) (o_bin rfl rfl v_neq) ?_
                  refine dqg rfl (v := .bool (decide (¬ ((made + lt.length : Nat) : Int) = (n : Nat)))) (o_pickT rfl rfl) ?_
                  refine dq (v := .bool (decide (¬ ((made + lt.length : Nat) : Int) = (n : Nat)))) (o_pickF rfl rfl) ?_
                  refine h84 _ _ ?_
                  clear h84
                  refine cndP rfl (fun c94 => ?_) (fun c94 => ?_)
                  ·
                    refine seq fun K95 h95 => ?_
                    refine stp (v := .bool false) (o_mv rfl) ?_
                    refine h95 _ _ ?_
                    clear h95
                    refine ⟨(.bool false), rfl, ?_⟩
                    exact ⟨false, toks, _, rfl, hT, by rw [lf_bad0 hI hap.2 h2 (end_z (b := b) (A := A2) h2.n22 (by omega)) (by have := rest_zero (b := b) (a := A2) (e := E2) (by assumption); have := (end_z (b := b) (A := A2) h2.n22 (by omega)); omega) (.inr (by omega))]; rfl, hM92.keep (by simp)⟩
                  ·
                    refine h83 _ _ ?_
                    clear h83
                    refine seq fun K96 h96 => ?_
                    have hok4 := Decidable.not_not.1 ‹¬ ¬ okT _ _ _›
                    have hob := okK_bd hok4
                    dsimp only at hob
                    refine stp (v := .int .i64 (made + lt.length : Nat)) (o_mv rfl) ?_
                    refine stp (v := .pointer (some ⟨b18, 2, none⟩)) (o_fa rfl rfl) ?_
                    refine m_ld (v := .int .i64 0) hM92 (i := 3) (j := 0) rfl rfl rfl rfl ?_
                    refine stp (v := .int .i64 ((made + lt.length : Nat) + 0)) (o_bin rfl rfl (v_add64 (by constructor <;> omega))) ?_
                    refine stp (v := .int .i64 ((made + lt.length : Nat) + 0)) (o_mv rfl) ?_
                    refine h96 _ _ ?_
                    clear h96
                    refine stp (v := .func (.func g) #[] caps.toArray) (o_mv rfl) ?_
                    refine m_ldA (l := [(.slice a17_ n17_ c17_), .int .i64 0, .int .i64 0]) hM92 (i := 3) (j := 0) rfl rfl rfl rfl rfl ?_
                    refine m_callv rfl (by assumption) (hq w92 (⟨a17_, n17_, c17_, lt, 0, 0⟩ : Tk) toks rv rs16 hT hs16 (hM92.res2 0 2 rfl rfl (by decide)) hlen (by dsimp only; omega)) rfl fun v97 w97 ⟨rv97, hTn, hm97⟩ => ?_
                    have hM97 : Mem w (ids rv0) w97 [rv97, r'16, [], [⟨b18, 31, [(.slice a17_ n17_ c17_), .int .i64 0, .int .i64 0]⟩], [⟨b76, 75, [.int .i64 (endE b A2 E2), .int .i64 (endA b A2 E2 : Nat)]⟩]] := hM92.step2 0 2 rfl rfl (by decide) hm97.addNil
                    refine h7 (toks ++ [(lt, 0, 0)], 1, A2, n, rv97, r'16) _ _ ⟨rfl, by first | rfl | exact v_int (by omega) | exact v_int (by simp) | exact v_int (by simp; omega), by first | rfl | exact v_int (by omega) | exact v_int (by simp) | exact v_int (by simp; omega), rfl, hM97.keep (by simp), by have h9 := hc16; rw [(end_z (b := b) (A := A2) h2.n22 (by omega))] at h9; exact h9, lf_go0 hI hap.2 h2 (end_z (b := b) (A := A2) h2.n22 (by omega)) (by have := rest_zero (b := b) (a := A2) (e := E2) (by assumption); have := (end_z (b := b) (A := A2) h2.n22 (by omega)); omega) (by omega) (by omega), hTn, by have := lf_len (t := (lt, 0, 0)) hlen; dsimp only at this; omega⟩ (by dsimp only; omega)
                ·
                  refine dgno rfl (by simp) ?_
                  refine dgno rfl (by simp) ?_
                  refine dgno rfl (by simp) ?_
                  refine dqg rfl (v := .bool false) (o_pickF rfl rfl) ?_
                  refine dq (v := .bool false) (o_pickF rfl rfl) ?_
                  refine h84 _ _ ?_
                  clear h84
                  refine cndF rfl ?_
                  refine h83 _ _ ?_
                  clear h83
                  refine seq fun K98 h98 => ?_
                  exact absurd (noneK.2 ⟨rfl, rfl⟩) ‹¬ noneT _›
        ·
          refine gno rfl (by simp) ?_
          refine gnol rfl (by simp) ?_
          refine gno rfl (by simp) ?_
          refine stp (v := .bool false) (o_pickF rfl rfl) ?_
          refine h79 _ _ ?_
          clear h79
          refine cndF rfl ?_
          refine h73 _ _ ?_
          clear h73
          refine seq fun K99 h99 => ?_
          refine seq fun K100 h100 => ?_
          intro wd e1 e2 e3 e4
          have hd := Upd.same e1 e2 e3 e4 []
          have hM101 := hM78.pure hd
          clear e1 e2 e3 e4
          refine ⟨(some [b18]), ?_⟩
          show vd _ _ _ _ _ _ _
          refine dq (v := .int .i64 (made + lt.length : Nat)) (o_mv rfl) ?_
          refine dq (v := .pointer (some ⟨bc3, 0, none⟩)) (o_mv rfl) ?_
          refine dqldA (cs := [(.slice a17_ n17_ c17_), .int .i64 0, .int .i64 0]) rfl (by simp [isHeld]) rfl ((hM101.at (i := 3) (j := 0) rfl rfl).agg rfl rfl) ?_
          refine dl (m_call (Rest_ok _ b A2 E2 r'16 wd hc16 (hM101.res (i := 1) rfl) (by first | omega | (simp; done) | (simp; omega))) rfl fun v102 w102 ⟨hr102, hm102⟩ => ?_)
          have hM102 : Mem w (ids rv0) w102 [rv, r'16, rs16, [⟨b18, 31, [(.slice a17_ n17_ c17_), .int .i64 0, .int .i64 0]⟩], [⟨b76, 75, [.int .i64 (endE b A2 E2), .int .i64 (endA b A2 E2 : Nat)]⟩]] := hM101.step 1 rfl hm102
          subst hr102
          have hh102 := held_upd (wr := wd) (bs := [b18]) hm102.upd (fun b hb => by
            simp only [List.mem_cons, List.not_mem_nil, or_false] at hb
            rw [hb]; exact ⟨(hM101.at (i := 3) (j := 0) rfl rfl).lt, hM101.apart (i := 3) (j := 0) (k := 1) rfl rfl rfl (by decide)⟩) (fun b hb => rfl)
          refine ⟨hh102, ?_⟩
          refine dq (v := .bool (decide ((restV b A2 E2) = 0))) (o_bin rfl rfl rfl) ?_
          refine dl (m_call (right_ok (⟨a17_, n17_, c17_, lt, 0, 0⟩ : Tk) (made + lt.length : Nat) (decide ((restV b A2 E2) = 0)) w102 (hs16.rd hM102 (i := 2) rfl) (by omega)) rfl fun v103 w103 ⟨hr103, hu103⟩ => ?_)
          have hM103 : Mem w (ids rv0) w103 [rv, r'16, rs16, [⟨b18, 31, [(.slice a17_ n17_ c17_), .int .i64 0, .int .i64 0]⟩], [⟨b76, 75, [.int .i64 (endE b A2 E2), .int .i64 (endA b A2 E2 : Nat)]⟩]] := hM102.pure hu103
          subst hr103
          have hh103 := held_upd (wr := wd) (bs := [b18]) hu103 (fun b hb => by
            simp only [List.mem_cons, List.not_mem_nil, or_false] at hb
            rw [hb]; exact ⟨(hM102.at (i := 3) (j := 0) rfl rfl).lt, by simp⟩) hh102
          refine ⟨hh103, ?_⟩
          refine dq (v := .bool (decide (¬ (okT (⟨a17_, n17_, c17_, lt, 0, 0⟩ : Tk).p (made + lt.length : Nat) (decide ((restV b A2 E2) = 0)))))) (o_not rfl v_not) ?_
          refine dq (v := .bool (decide (¬ (okT (⟨a17_, n17_, c17_, lt, 0, 0⟩ : Tk).p (made + lt.length : Nat) (decide ((restV b A2 E2) = 0)))))) (o_mv rfl) ?_
          refine dsplitP rfl (fun c104 => ?_) (fun c104 => ?_)
          ·
            refine dgno rfl (by simp) ?_
            refine dgno rfl (by simp) ?_
            refine dgno rfl (by simp) ?_
            refine dgnol rfl (by simp) ?_
            refine dgno rfl (by simp) ?_
            refine dgno rfl (by simp) ?_
            refine dq (v := .bool true) (o_pickT rfl rfl) ?_
            refine dq (v := .bool true) (o_mv rfl) ?_
            refine dsplitT rfl ?_
            refine dgnol rfl (by simp) ?_
            refine dgnol rfl (by simp) ?_
            refine dgno rfl (by simp) ?_
            refine dsplitU rfl ?_
            refine dgnou rfl ?_
            refine dgnou rfl ?_
            refine dgnou rfl ?_
            refine dgno rfl (by simp) ?_
            refine dq (v := .bool true) (o_pickT rfl rfl) ?_
            refine h100 _ _ ?_
            clear h100
            refine cndT rfl ?_
            refine seq fun K105 h105 => ?_
            refine stp (v := .bool false) (o_mv rfl) ?_
            refine h105 _ _ ?_
            clear h105
            refine ⟨(.bool false), rfl, ?_⟩
            have hx : lt.length = 0 := Decidable.byContradiction fun h => ‹¬ okT _ _ _› ((okK_none (noneK.2 ⟨rfl, rfl⟩)).2 ⟨decide_eq_true (rest_0 (by assumption)), by dsimp only; omega⟩)
            exact ⟨false, toks, _, rfl, hT, by rw [lf_bad0 hI hap.2 h2 (end_z (b := b) (A := A2) h2.n22 (by omega)) (by have := rest_zero (b := b) (a := A2) (e := E2) (by assumption); have := (end_z (b := b) (A := A2) h2.n22 (by omega)); omega) (.inl hx)]; rfl, hM103.keep (by simp)⟩
          ·
            refine dqg rfl (v := .int .i64 (made + lt.length : Nat)) (o_mv rfl) ?_
            refine dqg rfl (v := .pointer (some ⟨b18, 2, none⟩)) (o_fa rfl rfl) ?_
            refine dqg rfl (v := .int .i64 (n : Nat)) (o_mv rfl) ?_
            refine dgyesl rfl ?_
            refine dl (m_ld (v := .int .i64 0) hM103 (i := 3) (j := 0) rfl rfl rfl rfl ?_)
            refine ⟨hh103, ?_⟩
            refine dqg rfl (v := .int .i64 ((made + lt.length : Nat) + 0)) (o_bin rfl rfl (v_add64 (by constructor <;> omega))) ?_
            refine dqg rfl (v := .bool (decide ((n : Nat) < ((made + lt.length : Nat) + 0 : Int)))) (o_bin rfl rfl rfl) ?_
            refine dq (v := .bool (decide ((n : Nat) < ((made + lt.length : Nat) + 0 : Int)))) (o_pickF rfl rfl) ?_
            refine dq (v := .bool (decide ((n : Nat) < ((made + lt.length : Nat) + 0 : Int)))) (o_mv rfl) ?_
            refine dsplitP rfl (fun c106 => ?_) (fun c106 => ?_)
            ·
              refine dgnol rfl (by simp) ?_
              refine dgnol rfl (by simp) ?_
              refine dgno rfl (by simp) ?_
              refine dsplitU rfl ?_
              refine dgnou rfl ?_
              refine dgnou rfl ?_
              refine dgnou rfl ?_
              refine dgno rfl (by simp) ?_
              refine dq (v := .bool true) (o_pickT rfl rfl) ?_
              refine h100 _ _ ?_
              clear h100
              refine cndT rfl ?_
              refine seq fun K107 h107 => ?_
              refine stp (v := .bool false) (o_mv rfl) ?_
              refine h107 _ _ ?_
              clear h107
              refine ⟨(.bool false), rfl, ?_⟩
              exfalso
              omega
            ·
              refine dgyesl rfl ?_
              refine dl (m_ldA (l := [(.slice a17_ n17_ c17_), .int .i64 0, .int .i64 0]) hM103 (i := 3) (j := 0) rfl rfl rfl rfl rfl ?_)
              refine ⟨hh103, ?_⟩
              refine dgyesl rfl ?_
              refine dl (m_call (none_ok (⟨a17_, n17_, c17_, lt, 0, 0⟩ : Tk) w103) rfl fun v108 w108 ⟨hr108, hu108⟩ => ?_)
              have hM108 : Mem w (ids rv0) w108 [rv, r'16, rs16, [⟨b18, 31, [(.slice a17_ n17_ c17_), .int .i64 0, .int .i64 0]⟩], [⟨b76, 75, [.int .i64 (endE b A2 E2), .int .i64 (endA b A2 E2 : Nat)]⟩]] := hM103.pure hu108
              subst hr108
              have hh108 := held_upd (wr := wd) (bs := [b18]) hu108 (fun b hb => by
                simp only [List.mem_cons, List.not_mem_nil, or_false] at hb
                rw [hb]; exact ⟨(hM103.at (i := 3) (j := 0) rfl rfl).lt, by simp⟩) hh103
              refine ⟨hh108, ?_⟩
              refine dqg rfl (v := .bool (decide (noneT (⟨a17_, n17_, c17_, lt, 0, 0⟩ : Tk).p))) (o_mv rfl) ?_
              refine dsplitP rfl (fun c109 => ?_) (fun c109 => ?_)
              ·
                refine dqg rfl (v := .int .i64 (made + lt.length : Nat)) (o_mv rfl) ?_
                refine dqg rfl (v := .int .i64 (n : Nat)) (o_mv rfl) ?_
                refine dqg rfl (v := .bool (decide (¬ ((made + lt.length : Nat) : Int) = (n : Nat)))) (o_bin rfl rfl v_neq) ?_
                refine dqg rfl (v := .bool (decide (¬ ((made + lt.length : Nat) : Int) = (n : Nat)))) (o_pickT rfl rfl) ?_
                refine dq (v := .bool (decide (¬ ((made + lt.length : Nat) : Int) = (n : Nat)))) (o_pickF rfl rfl) ?_
                refine h100 _ _ ?_
                clear h100
                refine cndP rfl (fun c110 => ?_) (fun c110 => ?_)
                ·
                  refine seq fun K111 h111 => ?_
                  refine stp (v := .bool false) (o_mv rfl) ?_
                  refine h111 _ _ ?_
                  clear h111
                  refine ⟨(.bool false), rfl, ?_⟩
                  exact ⟨false, toks, _, rfl, hT, by rw [lf_bad0 hI hap.2 h2 (end_z (b := b) (A := A2) h2.n22 (by omega)) (by have := rest_zero (b := b) (a := A2) (e := E2) (by assumption); have := (end_z (b := b) (A := A2) h2.n22 (by omega)); omega) (.inr (by omega))]; rfl, hM108.keep (by simp)⟩
                ·
                  refine h99 _ _ ?_
                  clear h99
                  refine seq fun K112 h112 => ?_
                  have hok4 := Decidable.not_not.1 ‹¬ ¬ okT _ _ _›
                  have hob := okK_bd hok4
                  dsimp only at hob
                  refine stp (v := .int .i64 (made + lt.length : Nat)) (o_mv rfl) ?_
                  refine stp (v := .pointer (some ⟨b18, 2, none⟩)) (o_fa rfl rfl) ?_
                  refine m_ld (v := .int .i64 0) hM108 (i := 3) (j := 0) rfl rfl rfl rfl ?_
                  refine stp (v := .int .i64 ((made + lt.length : Nat) + 0)) (o_bin rfl rfl (v_add64 (by constructor <;> omega))) ?_
                  refine stp (v := .int .i64 ((made + lt.length : Nat) + 0)) (o_mv rfl) ?_
                  refine h112 _ _ ?_
                  clear h112
                  refine stp (v := .func (.func g) #[] caps.toArray) (o_mv rfl) ?_
                  refine m_ldA (l := [(.slice a17_ n17_ c17_), .int .i64 0, .int .i64 0]) hM108 (i := 3) (j := 0) rfl rfl rfl rfl rfl ?_
                  refine m_callv rfl (by assumption) (hq w108 (⟨a17_, n17_, c17_, lt, 0, 0⟩ : Tk) toks rv rs16 hT hs16 (hM108.res2 0 2 rfl rfl (by decide)) hlen (by dsimp only; omega)) rfl fun v113 w113 ⟨rv113, hTn, hm113⟩ => ?_
                  have hM113 : Mem w (ids rv0) w113 [rv113, r'16, [], [⟨b18, 31, [(.slice a17_ n17_ c17_), .int .i64 0, .int .i64 0]⟩], [⟨b76, 75, [.int .i64 (endE b A2 E2), .int .i64 (endA b A2 E2 : Nat)]⟩]] := hM108.step2 0 2 rfl rfl (by decide) hm113.addNil
                  refine h7 (toks ++ [(lt, 0, 0)], 1, A2, n, rv113, r'16) _ _ ⟨rfl, by first | rfl | exact v_int (by omega) | exact v_int (by simp) | exact v_int (by simp; omega), by first | rfl | exact v_int (by omega) | exact v_int (by simp) | exact v_int (by simp; omega), rfl, hM113.keep (by simp), by have h9 := hc16; rw [(end_z (b := b) (A := A2) h2.n22 (by omega))] at h9; exact h9, lf_go0 hI hap.2 h2 (end_z (b := b) (A := A2) h2.n22 (by omega)) (by have := rest_zero (b := b) (a := A2) (e := E2) (by assumption); have := (end_z (b := b) (A := A2) h2.n22 (by omega)); omega) (by omega) (by omega), hTn, by have := lf_len (t := (lt, 0, 0)) hlen; dsimp only at this; omega⟩ (by dsimp only; omega)
              ·
                refine dgno rfl (by simp) ?_
                refine dgno rfl (by simp) ?_
                refine dgno rfl (by simp) ?_
                refine dqg rfl (v := .bool false) (o_pickF rfl rfl) ?_
                refine dq (v := .bool false) (o_pickF rfl rfl) ?_
                refine h100 _ _ ?_
                clear h100
                refine cndF rfl ?_
                refine h99 _ _ ?_
                clear h99
                refine seq fun K114 h114 => ?_
                exact absurd (noneK.2 ⟨rfl, rfl⟩) ‹¬ noneT _›
    ·
      refine h5 _ _ ?_
      clear h5
      refine seq fun K115 h115 => ?_
      refine stp (v := .int .i64 (made : Nat)) (o_mv rfl) ?_
      refine stp (v := .int .i64 (n : Nat)) (o_mv rfl) ?_
      refine stp (v := .bool (decide (((made : Nat) : Int) = (n : Nat)))) (o_bin rfl rfl rfl) ?_
      refine stp (v := .bool (decide (((made : Nat) : Int) = (n : Nat)))) (o_mv rfl) ?_
      refine splitP rfl (fun c116 => ?_) (fun c116 => ?_)
      ·
        refine stg rfl (v := .pointer (some ⟨bc3, 0, none⟩)) (o_mv rfl) ?_
        refine gyesl rfl ?_
        refine m_call (End_ok _ b a 0 rc w10 hcl (hM10.res (i := 1) rfl)) rfl fun v117 w117 ⟨hr117, hm117⟩ => ?_
        have hM117 : Mem w (ids rv0) w117 [rv, rc] := hM10.step 1 rfl hm117
        subst hr117
        refine stg rfl (v := .int .i64 (endE b a 0)) (o_fld rfl rfl) ?_
        refine stg rfl (v := .bool (decide ((endE b a 0) = 0))) (o_bin rfl rfl rfl) ?_
        refine stp (v := .bool (decide ((endE b a 0) = 0))) (o_pickT rfl rfl) ?_
        refine stp (v := .bool (decide ((endE b a 0) = 0))) (o_mv rfl) ?_
        refine h115 _ _ ?_
        clear h115
        refine ⟨(.bool (decide ((endE b a 0) = 0))), rfl, ?_⟩
        have hz := rest_zero (b := b) (a := a) (e := 0) (by assumption)
        have hia := hI.a
        obtain rfl : a = b.length := by omega
        obtain rfl : made = n := by omega
        have he0 : endE b b.length 0 = 0 := by unfold endE; rw [if_neg (by omega), if_neg (by omega)]
        exact ⟨true, toks, _, by rw [decide_eq_true he0], hT, by rw [hI.done]; rfl, hM117.keep (by simp)⟩
      ·
        refine gno rfl (by simp) ?_
        refine gnol rfl (by simp) ?_
        refine gno rfl (by simp) ?_
        refine gno rfl (by simp) ?_
        refine stp (v := .bool false) (o_pickF rfl rfl) ?_
        refine stp (v := .bool false) (o_mv rfl) ?_
        refine h115 _ _ ?_
        clear h115
        refine ⟨(.bool false), rfl, ?_⟩
        have hz := rest_zero (b := b) (a := a) (e := 0) (by assumption)
        have hia := hI.a
        obtain rfl : a = b.length := by omega
        exact ⟨false, toks, _, rfl, hT, by rw [hI.short (by omega)]; rfl, hM10.keep (by simp)⟩
