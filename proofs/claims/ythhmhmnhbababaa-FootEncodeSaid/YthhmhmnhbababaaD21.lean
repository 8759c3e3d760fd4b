/- Footers: where a search begins. -/
import Derived.Test.YthhmhmnhbababaaD17
namespace Go.Proofs.Ythhmhmnhbababaa.E
open Go
theorem sgt_eq (a b : List UInt8) : (!(Op.bytesLess a b || decide (a = b))) = Op.bytesLess b a := by
  have hz := cmp_zero a b
  rw [less_cmp, less_cmp, cmp_anti a b]
  by_cases h1 : cmp a b < 0
  · rw [decide_eq_true h1, decide_eq_false (show ¬ -cmp a b < 0 by omega)]; rfl
  · by_cases h2 : a = b
    · have h3 := hz.2 h2
      rw [decide_eq_false h1, decide_eq_true h2, decide_eq_false (show ¬ -cmp a b < 0 by omega)]; rfl
    · have h3 : cmp a b ≠ 0 := fun k => h2 (hz.1 k)
      rw [decide_eq_false h1, decide_eq_false h2, decide_eq_true (show -cmp a b < 0 by omega)]; rfl
theorem o_sgtr {f : Fr} {x y : Operand} {a b : List UInt8} {v : Value} (hx : ev f x = .string (str a)) (hy : ev f y = .string (str b)) (hv : Value.bool (Op.bytesLess b a) = v) : PeV (.sbin .gtr x y) f v := fun K h => by
  show kstr (ev f x) _; rw [hx]; show kstr (ev f y) _; rw [hy]; show K _; rw [toList_str, toList_str, sgt_eq, hv]; exact h
theorem o_sgeq {f : Fr} {x y : Operand} {a b : List UInt8} {v : Value} (hx : ev f x = .string (str a)) (hy : ev f y = .string (str b)) (hv : Value.bool (!Op.bytesLess a b) = v) : PeV (.sbin .geq x y) f v := fun K h => by
  show kstr (ev f x) _; rw [hx]; show kstr (ev f y) _; rw [hy]; show K _; rw [toList_str, toList_str, hv]; exact h
/-- cuts in order -/
def Srt (bl : List Bi) : Prop := ∀ a b, a ≤ b → b < bl.length → cmp (bl.getD a bz).cut (bl.getD b bz).cut ≤ 0
def FindAt (cut : List UInt8) (bl : List Bi) (lo : Nat) : Prop := lo ≤ bl.length ∧ (∀ j, j < lo → cmp (bl.getD j bz).cut cut < 0) ∧ ∀ j, lo ≤ j → j < bl.length → 0 ≤ cmp (bl.getD j bz).cut cut
def FindS (part : Int) (key : List UInt8) (ps : List Pr) (i k : Int) : Prop := (∃ n lo : Nat, i = n ∧ n < ps.length ∧ (ps.getD n pz).part = part ∧ (∀ m, m < n → ¬ (ps.getD m pz).part = part) ∧ FindAt (key.take 64) (ps.getD n pz).bl lo ∧ k = max ((lo : Nat) - 1 : Int) 0) ∨ (i = -1 ∧ k = 0 ∧ ∀ m, m < ps.length → ¬ (ps.getD m pz).part = part)
theorem cmp_le_lt {a b c : List UInt8} (h1 : cmp a b ≤ 0) (h2 : cmp b c < 0) : cmp a c < 0 := by
  by_cases h : cmp a b = 0
  · rw [(cmp_zero a b).1 h]; exact h2
  · exact (cmp_trans a b c).2 (by omega) (by omega)
theorem srt_lo {bl : List Bi} {cut : List UInt8} {m : Nat} (hs : Srt bl) (hm : m < bl.length) (h : cmp (bl.getD m bz).cut cut < 0) (j : Nat) (hj : j < m + 1) : cmp (bl.getD j bz).cut cut < 0 := by
  have := hs j m (by omega) hm
  exact cmp_le_lt this h
theorem srt_hi {bl : List Bi} {cut : List UInt8} {m : Nat} (hs : Srt bl) (h : ¬ cmp (bl.getD m bz).cut cut < 0) (j : Nat) (hj : m ≤ j) (hj2 : j < bl.length) : 0 ≤ cmp (bl.getD j bz).cut cut := by
  apply Decidable.byContradiction; intro k
  exact h (cmp_le_lt (hs m j hj hj2) (by omega))

/-- foot.Find -/
theorem Find_ok (parts : Int) (x : Value) (ps : List Pr) (w : World) (hx : RdS prC w x ps) (hok : ∀ p ∈ ps, p.ok w) (hl : ps.length ≤ 1954687338211) (hp : inK .i64 parts) (part : Int) (hpt : inK .i64 part) (key : List UInt8) (hkl : key.length ≤ 140737488351232) (hsr : ∀ p ∈ ps, Srt p.bl) : Calls Try.prog 16 [.agg [.int .i64 parts, x].toArray, .int .i64 part, .string (str key)].toArray w (Rt fun r w' => ∃ i k, r = .tuple #[.int .i64 i, .int .i64 k] ∧ FindS part key ps i k ∧ Upd [] w w') := by
  have hM0 : Mem w [] w [] := Mem.nil w []
  refine calls_vc mixed Try.func16 rfl C16 (by simp [Try.ntmps16]) ?_
  refine seq fun K1 h1 => ?_
  refine m_bx (v := .agg ([.int .i64 parts, x] : List Value).toArray) hM0 rfl rfl fun b2 w3 (hM3 : Mem w [] w3 [[⟨b2, 24, [.int .i64 parts, x]⟩]]) => ?_
  refine stp (v := .int .i64 0) (o_mv rfl) ?_
  refine stp (v := .int .i64 0) (o_mv rfl) ?_
  refine h1 _ _ ?_
  clear h1
  refine seq fun K4 h4 => ?_
  refine stp (v := .string (str key)) (o_mv rfl) ?_
  refine stp (v := .string (str key)) (o_mv rfl) ?_
  refine stp (v := .int .i64 (key.length : Nat)) (o_lens rfl rfl) ?_
  refine stp (v := .int .i64 (min ((key.length : Nat) : Int) (64 : Int))) (o_mm rfl rfl rfl) ?_
  refine stp (v := .string (str ((key.take (min key.length 64)).drop 0))) (o_slcs (a := 0) (b := (min key.length 64)) rfl (by omega) ⟨_, v_int (by omega)⟩ rfl rfl) ?_
  refine stp (v := .string (str ((key.take (min key.length 64)).drop 0))) (o_mv rfl) ?_
  refine h4 _ _ ?_
  clear h4
  refine seq fun K5 h5 => ?_
  refine seq fun K6 h6 => ?_
  refine stp (v := .pointer (some ⟨b2, 1, none⟩)) (o_fa rfl rfl) ?_
  refine m_ld (v := x) hM3 (i := 0) (j := 0) rfl rfl rfl rfl ?_
  refine stp (v := .int .i64 (ps.length : Nat)) (o_lenR (hx.upd hM3.upd) rfl rfl) ?_
  refine stp (v := .int .i64 0) (o_mv rfl) ?_
  refine h6 _ _ ?_
  clear h6
  refine lp (n := fun _ _ => False) (ι := (Nat)) (fun i f w' => f 22 = .int .i64 (i : Nat) ∧ f 1 = .int .i64 part ∧ f 8 = .string (str ((key.take (min key.length 64)).drop 0)) ∧ f 20 = x ∧ f 21 = .int .i64 (ps.length : Nat) ∧ Mem w [] w' [[⟨b2, 24, [.int .i64 parts, x]⟩]] ∧ (i ≤ ps.length) ∧ (∀ m, m < i → ¬ (ps.getD m pz).part = part)) (fun i => ps.length - i) (0) ?_ ?_
  · exact ⟨by first | rfl | exact v_int (by omega) | exact v_int (by simp) | exact v_int (by simp; omega), by first | rfl | exact v_int (by omega) | exact v_int (by simp) | exact v_int (by simp; omega), by first | rfl | simp [upd], rfl, by first | rfl | exact v_int (by omega) | exact v_int (by simp) | exact v_int (by simp; omega), hM3, by omega, fun m hm => by omega⟩
  · rintro i f w7 ⟨e7_22, e7_1, e7_8, e7_20, e7_21, hM7, hi, hno⟩ K8 h8
    obtain ⟨frm, rfl⟩ : ∃ frm, f = (upd (upd (upd (upd (upd frm 22 (.int .i64 (i : Nat))) 1 (.int .i64 part)) 8 (.string (str ((key.take (min key.length 64)).drop 0)))) 20 (x)) 21 (.int .i64 (ps.length : Nat))) := ⟨f, by rw [upd_self e7_22, upd_self e7_1, upd_self e7_8, upd_self e7_20, upd_self e7_21]⟩
    clear e7_22 e7_1 e7_8 e7_20 e7_21
    refine seq fun K9 h9 => ?_
    refine stp (v := .bool (decide (((i : Nat) : Int) < (ps.length : Nat)))) (o_bin rfl rfl rfl) ?_
    refine h9 _ _ ?_
    clear h9
    refine seq fun K10 h10 => ?_
    refine cndP rfl (fun c11 => ?_) (fun c11 => ?_)
    ·
      refine h10 _ _ ?_
      clear h10
      refine seq fun K12 h12 => ?_
      refine seq fun K13 h13 => ?_
      have hpi := hok _ (getD_memG pz (l := ps) (i := i) (by omega))
      have hsi := hsr _ (getD_memG pz (l := ps) (i := i) (by omega))
      have hil := hpi.lb
      refine stp (v := .int .i64 (i : Nat)) (o_mv rfl) ?_
      refine m_idxS pz (j := i) (hx.upd hM7.upd) rfl rfl (by omega) fun b14 o14 hp14 => ?_
      refine ldA (cs := [.int .i64 ((ps.getD i pz).part), (ps.getD i pz).bv, .bool ((ps.getD i pz).a), .int .i64 ((ps.getD i pz).h), (ps.getD i pz).dv]) rfl rfl (hp14.row (k := 0) rfl rfl) ?_
      refine m_al hM7 fun b15 w16 (hM16 : Mem w [] w16 [[⟨b2, 24, [.int .i64 parts, x]⟩], [⟨b15, 71, [.int .i64 0, .slice none 0 0, .bool false, .int .i64 0, .slice none 0 0]⟩]]) => ?_
      refine stp (v := .int .i64 (i : Nat)) (o_mv rfl) ?_
      refine m_stA (l := [.int .i64 ((ps.getD i pz).part), (ps.getD i pz).bv, .bool ((ps.getD i pz).a), .int .i64 ((ps.getD i pz).h), (ps.getD i pz).dv]) hM16 (i := 1) rfl rfl rfl rfl (by simp [oneCells, Value.oneCell', byteV]) (by simp) fun w17 (hM17 : Mem w [] w17 [[⟨b2, 24, [.int .i64 parts, x]⟩], [⟨b15, 71, [.int .i64 ((ps.getD i pz).part), (ps.getD i pz).bv, .bool ((ps.getD i pz).a), .int .i64 ((ps.getD i pz).h), (ps.getD i pz).dv]⟩]]) => ?_
      refine h13 _ _ ?_
      clear h13
      refine seq fun K18 h18 => ?_
      refine seq fun K19 h19 => ?_
      refine stp (v := .pointer (some ⟨b15, 0, none⟩)) (o_fa rfl rfl) ?_
      refine m_ld (v := .int .i64 ((ps.getD i pz).part)) hM17 (i := 1) (j := 0) rfl rfl rfl rfl ?_
      refine stp (v := .int .i64 part) (o_mv rfl) ?_
      refine stp (v := .bool (decide (¬ ((ps.getD i pz).part) = part))) (o_bin rfl rfl v_neq) ?_
      refine h19 _ _ ?_
      clear h19
      refine cndP rfl (fun c20 => ?_) (fun c20 => ?_)
      ·
        refine h12 _ _ ?_
        clear h12
        refine stp (v := .int .i64 ((i : Nat) + 1)) (o_bin rfl rfl (v_add64 (by constructor <;> omega))) ?_
        refine stp (v := .int .i64 ((i : Nat) + 1)) (o_mv rfl) ?_
        refine h8 (i + 1) _ _ ⟨by first | rfl | exact v_int (by omega) | exact v_int (by simp) | exact v_int (by simp; omega), by first | rfl | exact v_int (by omega) | exact v_int (by simp) | exact v_int (by simp; omega), by first | rfl | simp [upd], rfl, by first | rfl | exact v_int (by omega) | exact v_int (by simp) | exact v_int (by simp; omega), hM17.keep (by simp), by omega, fun m hm => by
              rcases Nat.lt_or_ge m i with h | h
              · exact hno m h
              · obtain rfl : m = i := by omega
                assumption⟩ (by (try dsimp only); omega)
      ·
        refine h18 _ _ ?_
        clear h18
        refine seq fun K21 h21 => ?_
        intro wd e1 e2 e3 e4
        have hd := Upd.same e1 e2 e3 e4 []
        have hM22 := hM17.pure hd
        clear e1 e2 e3 e4
        refine ⟨none, ?_⟩
        show vd _ _ _ _ _ _ _
        refine dq (v := .pointer (some ⟨b15, 1, none⟩)) (o_fa rfl rfl) ?_
        refine dq (v := .int .i64 0) (o_mv rfl) ?_
        refine dl (m_ld (v := (ps.getD i pz).bv) hM22 (i := 1) (j := 0) rfl rfl rfl rfl ?_)
        refine ⟨rfl, ?_⟩
        refine dq (v := .int .i64 (((ps.getD i pz).bl).length : Nat)) (o_lenR (((fun p hp => (hok p hp).upd hM22.upd) _ (getD_memG pz (by omega))).rb) rfl rfl) ?_
        refine dq (v := .int .i64 (((ps.getD i pz).bl).length : Nat)) (o_mv rfl) ?_
        refine h21 _ _ ?_
        clear h21
        refine seq fun K23 h23 => ?_
        refine lp (n := fun _ _ => False) (ι := (Nat) × (Nat)) (fun ⟨lo, hi2⟩ f w' => f 11 = .int .i64 (lo : Nat) ∧ f 12 = .int .i64 (hi2 : Nat) ∧ f 8 = .string (str ((key.take (min key.length 64)).drop 0)) ∧ f 9 = .int .i64 (i : Nat) ∧ f 10 = .pointer (some ⟨b15, 0, none⟩) ∧ Mem w [] w' [[⟨b2, 24, [.int .i64 parts, x]⟩], [⟨b15, 71, [.int .i64 ((ps.getD i pz).part), (ps.getD i pz).bv, .bool ((ps.getD i pz).a), .int .i64 ((ps.getD i pz).h), (ps.getD i pz).dv]⟩]] ∧ (lo ≤ hi2 ∧ hi2 ≤ (ps.getD i pz).bl.length) ∧ (∀ j, j < lo → cmp ((ps.getD i pz).bl.getD j bz).cut ((key.take (min key.length 64)).drop 0) < 0) ∧ (∀ j, hi2 ≤ j → j < (ps.getD i pz).bl.length → 0 ≤ cmp ((ps.getD i pz).bl.getD j bz).cut ((key.take (min key.length 64)).drop 0))) (fun ⟨lo, hi2⟩ => hi2 - lo) (0, (ps.getD i pz).bl.length) ?_ ?_
        · exact ⟨by first | rfl | exact v_int (by omega) | exact v_int (by simp) | exact v_int (by simp; omega), by first | rfl | exact v_int (by omega) | exact v_int (by simp) | exact v_int (by simp; omega), by first | rfl | simp [upd], by first | rfl | exact v_int (by omega) | exact v_int (by simp) | exact v_int (by simp; omega), rfl, hM22, by omega, fun j hj => by omega, fun j hj hj2 => by omega⟩
        · rintro ⟨lo, hi2⟩ f w24 ⟨e24_11, e24_12, e24_8, e24_9, e24_10, hM24, hlo, hA, hB⟩ K25 h25
          obtain ⟨frm, rfl⟩ : ∃ frm, f = (upd (upd (upd (upd (upd frm 11 (.int .i64 (lo : Nat))) 12 (.int .i64 (hi2 : Nat))) 8 (.string (str ((key.take (min key.length 64)).drop 0)))) 9 (.int .i64 (i : Nat))) 10 (.pointer (some ⟨b15, 0, none⟩))) := ⟨f, by rw [upd_self e24_11, upd_self e24_12, upd_self e24_8, upd_self e24_9, upd_self e24_10]⟩
          clear e24_11 e24_12 e24_8 e24_9 e24_10
          refine seq fun K26 h26 => ?_
          refine seq fun K27 h27 => ?_
          refine stp (v := .int .i64 (lo : Nat)) (o_mv rfl) ?_
          refine stp (v := .int .i64 (hi2 : Nat)) (o_mv rfl) ?_
          refine stp (v := .bool (decide (((lo : Nat) : Int) < (hi2 : Nat)))) (o_bin rfl rfl rfl) ?_
          refine h27 _ _ ?_
          clear h27
          refine cndP rfl (fun c28 => ?_) (fun c28 => ?_)
          ·
            refine h26 _ _ ?_
            clear h26
            refine seq fun K29 h29 => ?_
            refine stp (v := .int .i64 (lo : Nat)) (o_mv rfl) ?_
            refine stp (v := .int .i64 (hi2 : Nat)) (o_mv rfl) ?_
            refine stp (v := .int .i64 ((lo : Nat) + (hi2 : Nat))) (o_bin rfl rfl (v_add64 (by constructor <;> omega))) ?_
            refine stp (v := .int .i64 ((lo + hi2) / 2 : Nat)) (o_quo rfl rfl (by omega) ((v_quo (by omega) (by omega) (by simp only [inK]; omega)).trans (v_int (by omega)))) ?_
            refine stp (v := .int .i64 ((lo + hi2) / 2 : Nat)) (o_mv rfl) ?_
            refine h29 _ _ ?_
            clear h29
            refine seq fun K30 h30 => ?_
            have hcb := (hpi.kb _ (getD_memG bz (l := (ps.getD i pz).bl) (i := (lo + hi2) / 2) (by omega))).2.2.2
            refine stp (v := .pointer (some ⟨b15, 1, none⟩)) (o_fa rfl rfl) ?_
            refine m_ld (v := (ps.getD i pz).bv) hM24 (i := 1) (j := 0) rfl rfl rfl rfl ?_
            refine stp (v := .int .i64 ((lo + hi2) / 2 : Nat)) (o_mv rfl) ?_
            refine m_idxS bz (j := (lo + hi2) / 2) (((fun p hp => (hok p hp).upd hM24.upd) _ (getD_memG pz (by omega))).rb) rfl rfl (by omega) fun b31 o31 hp31 => ?_
            refine stp (v := .pointer (some ⟨b31, o31 + 3, none⟩)) (o_fa rfl rfl) ?_
            refine ld (v := .string (str ((((ps.getD i pz).bl).getD ((lo + hi2) / 2) bz).cut))) rfl (hp31.get 3 rfl) ?_
            refine stp (v := .string (str ((key.take (min key.length 64)).drop 0))) (o_mv rfl) ?_
            refine m_call (Compare_ok ((((ps.getD i pz).bl).getD ((lo + hi2) / 2) bz).cut) ((key.take (min key.length 64)).drop 0) w24 (by first | omega | (simp; done) | (simp; omega)) (by first | omega | (simp; done) | (simp; omega))) rfl fun v32 w32 ⟨hr32, hu32⟩ => ?_
            have hM32 : Mem w [] w32 [[⟨b2, 24, [.int .i64 parts, x]⟩], [⟨b15, 71, [.int .i64 ((ps.getD i pz).part), (ps.getD i pz).bv, .bool ((ps.getD i pz).a), .int .i64 ((ps.getD i pz).h), (ps.getD i pz).dv]⟩]] := hM24.pure hu32
            subst hr32
            refine stp (v := .bool (decide ((cmp ((((ps.getD i pz).bl).getD ((lo + hi2) / 2) bz).cut) ((key.take (min key.length 64)).drop 0)) < 0))) (o_bin rfl rfl rfl) ?_
            refine h30 _ _ ?_
            clear h30
            refine cndP rfl (fun c33 => ?_) (fun c33 => ?_)
            ·
              refine stp (v := .int .i64 ((lo + hi2) / 2 : Nat)) (o_mv rfl) ?_
              refine stp (v := .int .i64 (((lo + hi2) / 2 : Nat) + 1)) (o_bin rfl rfl (v_add64 (by constructor <;> omega))) ?_
              refine stp (v := .int .i64 (((lo + hi2) / 2 : Nat) + 1)) (o_mv rfl) ?_
              refine h25 ((lo + hi2) / 2 + 1, hi2) _ _ ⟨by first | rfl | exact v_int (by omega) | exact v_int (by simp) | exact v_int (by simp; omega), by first | rfl | exact v_int (by omega) | exact v_int (by simp) | exact v_int (by simp; omega), by first | rfl | simp [upd], by first | rfl | exact v_int (by omega) | exact v_int (by simp) | exact v_int (by simp; omega), rfl, hM32, by omega, srt_lo hsi (by omega) (by assumption), hB⟩ (by (try dsimp only); omega)
            ·
              refine stp (v := .int .i64 ((lo + hi2) / 2 : Nat)) (o_mv rfl) ?_
              refine stp (v := .int .i64 ((lo + hi2) / 2 : Nat)) (o_mv rfl) ?_
              refine h25 (lo, (lo + hi2) / 2) _ _ ⟨by first | rfl | exact v_int (by omega) | exact v_int (by simp) | exact v_int (by simp; omega), by first | rfl | exact v_int (by omega) | exact v_int (by simp) | exact v_int (by simp; omega), by first | rfl | simp [upd], by first | rfl | exact v_int (by omega) | exact v_int (by simp) | exact v_int (by simp; omega), rfl, hM32, by omega, hA, srt_hi hsi (by assumption)⟩ (by (try dsimp only); omega)
          ·
            refine h23 _ _ ?_
            clear h23
            refine seq fun K34 h34 => ?_
            refine stp (v := .int .i64 (i : Nat)) (o_mv rfl) ?_
            refine stp (v := .int .i64 (lo : Nat)) (o_mv rfl) ?_
            refine stp (v := .int .i64 ((lo : Nat) - 1)) (o_bin rfl rfl (v_sub64 (by constructor <;> omega))) ?_
            refine stp (v := .int .i64 (max ((lo : Nat) - 1 : Int) (0 : Int))) (o_mm rfl rfl rfl) ?_
            refine stp (v := .int .i64 (i : Nat)) (o_mv rfl) ?_
            refine stp (v := .int .i64 (max ((lo : Nat) - 1 : Int) (0 : Int))) (o_mv rfl) ?_
            refine h34 _ _ ?_
            clear h34
            refine ⟨(.tuple [.int .i64 (i : Nat), .int .i64 (max ((lo : Nat) - 1 : Int) (0 : Int))].toArray), rfl, ?_⟩
            exact ⟨_, _, rfl, .inl ⟨i, lo, rfl, by omega, by omega, hno, ⟨by omega, by rw [← take_min key 64]; exact hA, fun j h1 h2 => by rw [← take_min key 64]; exact hB j (by omega) h2⟩, rfl⟩, hM24.upd⟩
    ·
      refine h5 _ _ ?_
      clear h5
      refine seq fun K35 h35 => ?_
      refine stp (v := .int .i64 (-1)) (o_mv rfl) ?_
      refine stp (v := .int .i64 0) (o_mv rfl) ?_
      refine h35 _ _ ?_
      clear h35
      refine ⟨(.tuple [.int .i64 (-1), .int .i64 0].toArray), rfl, ?_⟩
      exact ⟨_, _, rfl, .inr ⟨rfl, rfl, fun m hm => hno m (by omega)⟩, hM7.upd⟩
