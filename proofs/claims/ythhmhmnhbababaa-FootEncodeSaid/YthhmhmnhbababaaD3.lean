/- Footers: Check, Find: the walks. -/
import Derived.Test.YthhmhmnhbababaaD2
namespace Go.Proofs.Ythhmhmnhbababaa.E
open Go
theorem chk_ne {a : Bool} {h : Int} {d : List UInt8} (k : ¬ chk a h d = 0) : fk a h d = 0 := Decidable.byContradiction fun e => k (chk_0 e)
theorem parOk_p {parts last : Int} {p : Pr} : parOk parts last p.p ↔ last < p.part ∧ p.part < parts ∧ ¬ p.bl.length = 0 ∧ ¬ fk p.a p.h p.d = 0 ∧ blsOk [] p.bl := Iff.rfl
theorem chk_fk {a : Bool} {h : Int} {d : List UInt8} (k : chk a h d = 0) : ¬ fk a h d = 0 := fun e => by rw [chk_70 e] at k; omega
section
variable {ps : List Pr} {i : Nat}
theorem infR_cons {parts last : Int} (h : i < ps.length) : infR parts last ((ps.drop i).map Pr.p) ↔ parOk parts last (ps.getD i pz).p ∧ infR parts (ps.getD i pz).part ((ps.drop (i + 1)).map Pr.p) := by
  rw [drop_p h]; exact Iff.rfl
theorem infR_end {parts last : Int} (h : ps.length ≤ i) : infR parts last ((ps.drop i).map Pr.p) := by rw [List.drop_eq_nil_of_le h]; trivial
theorem sumB_drop (h : i < ps.length) : sumB ((ps.drop i).map Pr.p) = (ps.getD i pz).bl.length + sumB ((ps.drop (i + 1)).map Pr.p) := by rw [drop_p h, sumB_cons]
theorem sumB_end (h : ps.length ≤ i) : sumB ((ps.drop i).map Pr.p) = 0 := by rw [List.drop_eq_nil_of_le h]; rfl
end

/-- foot.Check -/
theorem Check_ok (parts : Int) (x : Value) (ps : List Pr) (w : World) (hx : RdS prC w x ps) (hok : ∀ p ∈ ps, p.ok w) (hl : ps.length ≤ 1954687338211) (hp : inK .i64 parts) : Calls Try.prog 14 [.agg [.int .i64 parts, x].toArray].toArray w (Rt fun r w' => r = .int .i64 (chkF parts (ps.map Pr.p)) ∧ Upd [] w w') := by
  have hM0 : Mem w [] w [] := Mem.nil w []
  simp only [inK] at hp
  refine calls_vc mixed Try.func14 rfl C14 (by simp [Try.ntmps14]) ?_
  refine seq fun K1 h1 => ?_
  refine m_bx (v := .agg ([.int .i64 parts, x] : List Value).toArray) hM0 rfl rfl fun b2 w3 (hM3 : Mem w [] w3 [[⟨b2, 24, [.int .i64 parts, x]⟩]]) => ?_
  refine stp (v := .int .i64 0) (o_mv rfl) ?_
  refine h1 _ _ ?_
  clear h1
  refine seq fun K4 h4 => ?_
  refine seq fun K5 h5 => ?_
  refine stp (v := .pointer (some ⟨b2, 0, none⟩)) (o_fa rfl rfl) ?_
  refine m_ld (v := .int .i64 parts) hM3 (i := 0) (j := 0) rfl rfl rfl rfl ?_
  refine stp (v := .bool (decide (parts < 1))) (o_bin rfl rfl rfl) ?_
  refine stp (v := .bool (decide (parts < 1))) (o_mv rfl) ?_
  refine splitP rfl (fun c6 => ?_) (fun c6 => ?_)
  ·
    refine gno rfl (by simp) ?_
    refine gnol rfl (by simp) ?_
    refine gno rfl (by simp) ?_
    refine stp (v := .bool true) (o_pickT rfl rfl) ?_
    refine h5 _ _ ?_
    clear h5
    refine cndT rfl ?_
    refine seq fun K7 h7 => ?_
    refine stp (v := .int .i64 80) (o_mv rfl) ?_
    refine h7 _ _ ?_
    clear h7
    refine ⟨(.int .i64 80), rfl, ?_⟩
    exact ⟨v_int (chkF_80 (fun h => by have h9 := h.1; omega)).symm, hM3.upd⟩
  ·
    refine stg rfl (v := .pointer (some ⟨b2, 0, none⟩)) (o_fa rfl rfl) ?_
    refine gyesl rfl ?_
    refine m_ld (v := .int .i64 parts) hM3 (i := 0) (j := 0) rfl rfl rfl rfl ?_
    refine stg rfl (v := .bool (decide ((65535 : Int) < parts))) (o_bin rfl rfl rfl) ?_
    refine stp (v := .bool (decide ((65535 : Int) < parts))) (o_pickF rfl rfl) ?_
    refine h5 _ _ ?_
    clear h5
    refine cndP rfl (fun c8 => ?_) (fun c8 => ?_)
    ·
      refine seq fun K9 h9 => ?_
      refine stp (v := .int .i64 80) (o_mv rfl) ?_
      refine h9 _ _ ?_
      clear h9
      refine ⟨(.int .i64 80), rfl, ?_⟩
      exact ⟨v_int (chkF_80 (fun h => by have h9 := h.1; omega)).symm, hM3.upd⟩
    ·
      refine h4 _ _ ?_
      clear h4
      refine seq fun K10 h10 => ?_
      refine stp (v := .int .i64 (-1)) (o_mv rfl) ?_
      refine stp (v := .int .i64 0) (o_mv rfl) ?_
      refine h10 _ _ ?_
      clear h10
      refine seq fun K11 h11 => ?_
      refine seq fun K12 h12 => ?_
      refine stp (v := .pointer (some ⟨b2, 1, none⟩)) (o_fa rfl rfl) ?_
      refine m_ld (v := x) hM3 (i := 0) (j := 0) rfl rfl rfl rfl ?_
      refine stp (v := .int .i64 (ps.length : Nat)) (o_lenR (hx.upd hM3.upd) rfl rfl) ?_
      refine stp (v := .int .i64 0) (o_mv rfl) ?_
      refine h12 _ _ ?_
      clear h12
      refine lp (n := fun _ _ => False) (ι := (Nat) × (Int) × (Nat)) (fun ⟨i, last, n⟩ f w' => f 3 = .int .i64 last ∧ f 4 = .int .i64 (n : Nat) ∧ f 21 = .int .i64 (i : Nat) ∧ f 1 = .pointer (some ⟨b2, 0, none⟩) ∧ f 19 = x ∧ f 20 = .int .i64 (ps.length : Nat) ∧ Mem w [] w' [[⟨b2, 24, [.int .i64 parts, x]⟩]] ∧ (i ≤ ps.length) ∧ (ftOk parts (ps.map Pr.p) ↔ infOk parts last n ((ps.drop i).map Pr.p)) ∧ (n ≤ 262144)) (fun ⟨i, last, n⟩ => ps.length - i) (0, (-1), 0) ?_ ?_
      · exact ⟨by first | rfl | exact v_int (by omega) | exact v_int (by simp) | exact v_int (by simp; omega), by first | rfl | exact v_int (by omega) | exact v_int (by simp) | exact v_int (by simp; omega), by first | rfl | exact v_int (by omega) | exact v_int (by simp) | exact v_int (by simp; omega), rfl, rfl, by first | rfl | exact v_int (by omega) | exact v_int (by simp) | exact v_int (by simp; omega), hM3, by omega, ⟨fun h => h.2, fun h => ⟨by omega, h⟩⟩, by omega⟩
      · rintro ⟨i, last, n⟩ f w13 ⟨e13_3, e13_4, e13_21, e13_1, e13_19, e13_20, hM13, hi, hE, hn⟩ K14 h14
        obtain ⟨frm, rfl⟩ : ∃ frm, f = (upd (upd (upd (upd (upd (upd frm 3 (.int .i64 last)) 4 (.int .i64 (n : Nat))) 21 (.int .i64 (i : Nat))) 1 (.pointer (some ⟨b2, 0, none⟩))) 19 (x)) 20 (.int .i64 (ps.length : Nat))) := ⟨f, by rw [upd_self e13_3, upd_self e13_4, upd_self e13_21, upd_self e13_1, upd_self e13_19, upd_self e13_20]⟩
        clear e13_3 e13_4 e13_21 e13_1 e13_19 e13_20
        refine seq fun K15 h15 => ?_
        refine stp (v := .bool (decide (((i : Nat) : Int) < (ps.length : Nat)))) (o_bin rfl rfl rfl) ?_
        refine h15 _ _ ?_
        clear h15
        refine seq fun K16 h16 => ?_
        refine cndP rfl (fun c17 => ?_) (fun c17 => ?_)
        ·
          refine h16 _ _ ?_
          clear h16
          refine seq fun K18 h18 => ?_
          refine seq fun K19 h19 => ?_
          have hpi := hok _ (getD_memG pz (l := ps) (i := i) (by omega))
          have hlb := hpi.lb
          have hld := hpi.ld
          have hkp := hpi.kp
          simp only [inK] at hkp
          have hic := inf_cons (ps := ps) (i := i) (parts := parts) (last := last) (n := n) (by omega)
          refine m_idxS pz (j := i) (hx.upd hM13.upd) rfl rfl (by omega) fun b20 o20 hp20 => ?_
          refine ldA (cs := [.int .i64 ((ps.getD i pz).part), (ps.getD i pz).bv, .bool ((ps.getD i pz).a), .int .i64 ((ps.getD i pz).h), (ps.getD i pz).dv]) rfl rfl (hp20.row (k := 0) rfl rfl) ?_
          refine m_al hM13 fun b21 w22 (hM22 : Mem w [] w22 [[⟨b2, 24, [.int .i64 parts, x]⟩], [⟨b21, 71, [.int .i64 0, .slice none 0 0, .bool false, .int .i64 0, .slice none 0 0]⟩]]) => ?_
          refine m_stA (l := [.int .i64 ((ps.getD i pz).part), (ps.getD i pz).bv, .bool ((ps.getD i pz).a), .int .i64 ((ps.getD i pz).h), (ps.getD i pz).dv]) hM22 (i := 1) rfl rfl rfl rfl (by simp [oneCells, Value.oneCell', byteV]) (by simp) fun w23 (hM23 : Mem w [] w23 [[⟨b2, 24, [.int .i64 parts, x]⟩], [⟨b21, 71, [.int .i64 ((ps.getD i pz).part), (ps.getD i pz).bv, .bool ((ps.getD i pz).a), .int .i64 ((ps.getD i pz).h), (ps.getD i pz).dv]⟩]]) => ?_
          refine h19 _ _ ?_
          clear h19
          refine seq fun K24 h24 => ?_
          refine stp (v := .int .i64 (n : Nat)) (o_mv rfl) ?_
          refine stp (v := .pointer (some ⟨b21, 1, none⟩)) (o_fa rfl rfl) ?_
          refine m_ld (v := (ps.getD i pz).bv) hM23 (i := 1) (j := 0) rfl rfl rfl rfl ?_
          refine stp (v := .int .i64 (((ps.getD i pz).bl).length : Nat)) (o_lenR (((fun p hp => (hok p hp).upd hM23.upd) _ (getD_memG pz (by omega))).rb) rfl rfl) ?_
          refine stp (v := .int .i64 ((n + (ps.getD i pz).bl.length : Nat) : Int)) (o_bin rfl rfl ((v_add64 (by omega)).trans (v_int (by omega)))) ?_
          refine stp (v := .int .i64 ((n + (ps.getD i pz).bl.length : Nat) : Int)) (o_mv rfl) ?_
          refine h24 _ _ ?_
          clear h24
          refine seq fun K25 h25 => ?_
          refine seq fun K26 h26 => ?_
          refine stp (v := .pointer (some ⟨b21, 0, none⟩)) (o_fa rfl rfl) ?_
          refine m_ld (v := .int .i64 ((ps.getD i pz).part)) hM23 (i := 1) (j := 0) rfl rfl rfl rfl ?_
          refine stp (v := .int .i64 last) (o_mv rfl) ?_
          refine stp (v := .bool (decide (((ps.getD i pz).part) ≤ last))) (o_bin rfl rfl rfl) ?_
          refine stp (v := .bool (decide (((ps.getD i pz).part) ≤ last))) (o_mv rfl) ?_
          refine splitP rfl (fun c27 => ?_) (fun c27 => ?_)
          ·
            refine gno rfl (by simp) ?_
            refine gnol rfl (by simp) ?_
            refine gno rfl (by simp) ?_
            refine gnol rfl (by simp) ?_
            refine gno rfl (by simp) ?_
            refine stp (v := .bool true) (o_pickT rfl rfl) ?_
            refine stp (v := .bool true) (o_mv rfl) ?_
            refine splitT rfl ?_
            refine gno rfl (by simp) ?_
            refine gnol rfl (by simp) ?_
            refine gno rfl (by simp) ?_
            refine gno rfl (by simp) ?_
            refine stp (v := .bool true) (o_pickT rfl rfl) ?_
            refine stp (v := .bool true) (o_mv rfl) ?_
            refine splitT rfl ?_
            refine gno rfl (by simp) ?_
            refine gno rfl (by simp) ?_
            refine stp (v := .bool true) (o_pickT rfl rfl) ?_
            refine stp (v := .bool true) (o_mv rfl) ?_
            refine splitT rfl ?_
            refine gno rfl (by simp) ?_
            refine gnol rfl (by simp) ?_
            refine gnol rfl (by simp) ?_
            refine gno rfl (by simp) ?_
            refine stp (v := .bool true) (o_pickT rfl rfl) ?_
            refine h26 _ _ ?_
            clear h26
            refine cndT rfl ?_
            refine seq fun K28 h28 => ?_
            refine stp (v := .int .i64 80) (o_mv rfl) ?_
            refine h28 _ _ ?_
            clear h28
            refine ⟨(.int .i64 80), rfl, ?_⟩
            exact ⟨v_int (chkF_80 (fun h => by have h9 := (hic.1 (hE.1 h)).1; rw [parOk_p] at h9; omega)).symm, hM23.upd⟩
          ·
            refine stg rfl (v := .pointer (some ⟨b21, 0, none⟩)) (o_fa rfl rfl) ?_
            refine gyesl rfl ?_
            refine m_ld (v := .int .i64 ((ps.getD i pz).part)) hM23 (i := 1) (j := 0) rfl rfl rfl rfl ?_
            refine stg rfl (v := .pointer (some ⟨b2, 0, none⟩)) (o_fa rfl rfl) ?_
            refine gyesl rfl ?_
            refine m_ld (v := .int .i64 parts) hM23 (i := 0) (j := 0) rfl rfl rfl rfl ?_
            refine stg rfl (v := .bool (decide (parts ≤ ((ps.getD i pz).part)))) (o_bin rfl rfl rfl) ?_
            refine stp (v := .bool (decide (parts ≤ ((ps.getD i pz).part)))) (o_pickF rfl rfl) ?_
            refine stp (v := .bool (decide (parts ≤ ((ps.getD i pz).part)))) (o_mv rfl) ?_
            refine splitP rfl (fun c29 => ?_) (fun c29 => ?_)
            ·
              refine gno rfl (by simp) ?_
              refine gnol rfl (by simp) ?_
              refine gno rfl (by simp) ?_
              refine gno rfl (by simp) ?_
              refine stp (v := .bool true) (o_pickT rfl rfl) ?_
              refine stp (v := .bool true) (o_mv rfl) ?_
              refine splitT rfl ?_
              refine gno rfl (by simp) ?_
              refine gno rfl (by simp) ?_
              refine stp (v := .bool true) (o_pickT rfl rfl) ?_
              refine stp (v := .bool true) (o_mv rfl) ?_
              refine splitT rfl ?_
              refine gno rfl (by simp) ?_
              refine gnol rfl (by simp) ?_
              refine gnol rfl (by simp) ?_
              refine gno rfl (by simp) ?_
              refine stp (v := .bool true) (o_pickT rfl rfl) ?_
              refine h26 _ _ ?_
              clear h26
              refine cndT rfl ?_
              refine seq fun K30 h30 => ?_
              refine stp (v := .int .i64 80) (o_mv rfl) ?_
              refine h30 _ _ ?_
              clear h30
              refine ⟨(.int .i64 80), rfl, ?_⟩
              exact ⟨v_int (chkF_80 (fun h => by have h9 := (hic.1 (hE.1 h)).1; rw [parOk_p] at h9; omega)).symm, hM23.upd⟩
            ·
              refine stg rfl (v := .pointer (some ⟨b21, 1, none⟩)) (o_fa rfl rfl) ?_
              refine gyesl rfl ?_
              refine m_ld (v := (ps.getD i pz).bv) hM23 (i := 1) (j := 0) rfl rfl rfl rfl ?_
              refine stg rfl (v := .int .i64 (((ps.getD i pz).bl).length : Nat)) (o_lenR (((fun p hp => (hok p hp).upd hM23.upd) _ (getD_memG pz (by omega))).rb) rfl rfl) ?_
              refine stg rfl (v := .bool (decide (((((ps.getD i pz).bl).length : Nat) : Int) = 0))) (o_bin rfl rfl rfl) ?_
              refine stp (v := .bool (decide (((((ps.getD i pz).bl).length : Nat) : Int) = 0))) (o_pickF rfl rfl) ?_
              refine stp (v := .bool (decide (((((ps.getD i pz).bl).length : Nat) : Int) = 0))) (o_mv rfl) ?_
              refine splitP rfl (fun c31 => ?_) (fun c31 => ?_)
              ·
                refine gno rfl (by simp) ?_
                refine gno rfl (by simp) ?_
                refine stp (v := .bool true) (o_pickT rfl rfl) ?_
                refine stp (v := .bool true) (o_mv rfl) ?_
                refine splitT rfl ?_
                refine gno rfl (by simp) ?_
                refine gnol rfl (by simp) ?_
                refine gnol rfl (by simp) ?_
                refine gno rfl (by simp) ?_
                refine stp (v := .bool true) (o_pickT rfl rfl) ?_
                refine h26 _ _ ?_
                clear h26
                refine cndT rfl ?_
                refine seq fun K32 h32 => ?_
                refine stp (v := .int .i64 80) (o_mv rfl) ?_
                refine h32 _ _ ?_
                clear h32
                refine ⟨(.int .i64 80), rfl, ?_⟩
                exact ⟨v_int (chkF_80 (fun h => by have h9 := (hic.1 (hE.1 h)).1; rw [parOk_p] at h9; omega)).symm, hM23.upd⟩
              ·
                refine stg rfl (v := .int .i64 ((n + (ps.getD i pz).bl.length : Nat) : Int)) (o_mv rfl) ?_
                refine stg rfl (v := .bool (decide ((262144 : Int) < ((n + (ps.getD i pz).bl.length : Nat) : Int)))) (o_bin rfl rfl rfl) ?_
                refine stp (v := .bool (decide ((262144 : Int) < ((n + (ps.getD i pz).bl.length : Nat) : Int)))) (o_pickF rfl rfl) ?_
                refine stp (v := .bool (decide ((262144 : Int) < ((n + (ps.getD i pz).bl.length : Nat) : Int)))) (o_mv rfl) ?_
                refine splitP rfl (fun c33 => ?_) (fun c33 => ?_)
                ·
                  refine gno rfl (by simp) ?_
                  refine gnol rfl (by simp) ?_
                  refine gnol rfl (by simp) ?_
                  refine gno rfl (by simp) ?_
                  refine stp (v := .bool true) (o_pickT rfl rfl) ?_
                  refine h26 _ _ ?_
                  clear h26
                  refine cndT rfl ?_
                  refine seq fun K34 h34 => ?_
                  refine stp (v := .int .i64 80) (o_mv rfl) ?_
                  refine h34 _ _ ?_
                  clear h34
                  refine ⟨(.int .i64 80), rfl, ?_⟩
                  exact ⟨v_int (chkF_80 (fun h => by have h9 := (hic.1 (hE.1 h)).1; rw [parOk_p] at h9; omega)).symm, hM23.upd⟩
                ·
                  refine stg rfl (v := .pointer (some ⟨b21, 2, none⟩)) (o_fa rfl rfl) ?_
                  refine gyesl rfl ?_
                  refine m_ldA (l := [.bool ((ps.getD i pz).a), .int .i64 ((ps.getD i pz).h), (ps.getD i pz).dv]) hM23 (i := 1) (j := 0) rfl rfl rfl rfl rfl ?_
                  refine gyesl rfl ?_
                  refine m_call (fCheck_ok (ps.getD i pz).a ((ps.getD i pz).h) _ ((ps.getD i pz).d) w23 (((fun p hp => (hok p hp).upd hM23.upd) _ (getD_memG pz (by omega))).rd) (by first | omega | (simp; done) | (simp; omega))) rfl fun v35 w35 ⟨hr35, hu35⟩ => ?_
                  have hM35 : Mem w [] w35 [[⟨b2, 24, [.int .i64 parts, x]⟩], [⟨b21, 71, [.int .i64 ((ps.getD i pz).part), (ps.getD i pz).bv, .bool ((ps.getD i pz).a), .int .i64 ((ps.getD i pz).h), (ps.getD i pz).dv]⟩]] := hM23.pure hu35
                  subst hr35
                  refine stg rfl (v := .bool (decide (¬ (chk (ps.getD i pz).a ((ps.getD i pz).h) ((ps.getD i pz).d)) = 0))) (o_bin rfl rfl v_neq) ?_
                  refine stp (v := .bool (decide (¬ (chk (ps.getD i pz).a ((ps.getD i pz).h) ((ps.getD i pz).d)) = 0))) (o_pickF rfl rfl) ?_
                  refine h26 _ _ ?_
                  clear h26
                  refine cndP rfl (fun c36 => ?_) (fun c36 => ?_)
                  ·
                    refine seq fun K37 h37 => ?_
                    refine stp (v := .int .i64 80) (o_mv rfl) ?_
                    refine h37 _ _ ?_
                    clear h37
                    refine ⟨(.int .i64 80), rfl, ?_⟩
                    exact ⟨v_int (chkF_80 (fun h => by have h9 := (hic.1 (hE.1 h)).1.1.2.2.2.1; exact h9 (chk_ne (by assumption)))).symm, hM35.upd⟩
                  ·
                    refine h25 _ _ ?_
                    clear h25
                    refine seq fun K38 h38 => ?_
                    refine stp (v := .pointer (some ⟨b21, 0, none⟩)) (o_fa rfl rfl) ?_
                    refine m_ld (v := .int .i64 ((ps.getD i pz).part)) hM35 (i := 1) (j := 0) rfl rfl rfl rfl ?_
                    refine stp (v := .int .i64 ((ps.getD i pz).part)) (o_mv rfl) ?_
                    refine h38 _ _ ?_
                    clear h38
                    refine seq fun K39 h39 => ?_
                    refine stp (v := .string (str ([]))) (o_mv rfl) ?_
                    refine h39 _ _ ?_
                    clear h39
                    refine seq fun K40 h40 => ?_
                    refine stp (v := .pointer (some ⟨b21, 1, none⟩)) (o_fa rfl rfl) ?_
                    refine m_ld (v := (ps.getD i pz).bv) hM35 (i := 1) (j := 0) rfl rfl rfl rfl ?_
                    refine stp (v := .int .i64 (((ps.getD i pz).bl).length : Nat)) (o_lenR (((fun p hp => (hok p hp).upd hM35.upd) _ (getD_memG pz (by omega))).rb) rfl rfl) ?_
                    refine stp (v := .int .i64 0) (o_mv rfl) ?_
                    refine h40 _ _ ?_
                    clear h40
                    refine lp (n := fun _ _ => False) (ι := (Nat) × (List UInt8)) (fun ⟨k, key⟩ f w' => f 7 = .string (str key) ∧ f 62 = .int .i64 (k : Nat) ∧ f 1 = .pointer (some ⟨b2, 0, none⟩) ∧ f 3 = .int .i64 ((ps.getD i pz).part) ∧ f 4 = .int .i64 ((n + (ps.getD i pz).bl.length : Nat) : Int) ∧ f 19 = x ∧ f 20 = .int .i64 (ps.length : Nat) ∧ f 21 = .int .i64 (i : Nat) ∧ f 60 = (ps.getD i pz).bv ∧ f 61 = .int .i64 (((ps.getD i pz).bl).length : Nat) ∧ Mem w [] w' [[⟨b2, 24, [.int .i64 parts, x]⟩], [⟨b21, 71, [.int .i64 ((ps.getD i pz).part), (ps.getD i pz).bv, .bool ((ps.getD i pz).a), .int .i64 ((ps.getD i pz).h), (ps.getD i pz).dv]⟩]] ∧ (k ≤ (ps.getD i pz).bl.length) ∧ (blsOk [] (ps.getD i pz).bl ↔ blsOk key ((ps.getD i pz).bl.drop k)) ∧ (key.length ≤ 140737488351232)) (fun ⟨k, key⟩ => (ps.getD i pz).bl.length - k) (0, []) ?_ ?_
                    · exact ⟨by first | rfl | simp [upd], by first | rfl | exact v_int (by omega) | exact v_int (by simp) | exact v_int (by simp; omega), rfl, by first | rfl | exact v_int (by omega) | exact v_int (by simp) | exact v_int (by simp; omega), by first | rfl | exact v_int (by omega) | exact v_int (by simp) | exact v_int (by simp; omega), rfl, by first | rfl | exact v_int (by omega) | exact v_int (by simp) | exact v_int (by simp; omega), by first | rfl | exact v_int (by omega) | exact v_int (by simp) | exact v_int (by simp; omega), rfl, by first | rfl | exact v_int (by omega) | exact v_int (by simp) | exact v_int (by simp; omega), hM35, by omega, Iff.rfl, by simp⟩
                    · rintro ⟨k, key⟩ f w41 ⟨e41_7, e41_62, e41_1, e41_3, e41_4, e41_19, e41_20, e41_21, e41_60, e41_61, hM41, hk, hB, hkl⟩ K42 h42
                      obtain ⟨frm, rfl⟩ : ∃ frm, f = (upd (upd (upd (upd (upd (upd (upd (upd (upd (upd frm 7 (.string (str key))) 62 (.int .i64 (k : Nat))) 1 (.pointer (some ⟨b2, 0, none⟩))) 3 (.int .i64 ((ps.getD i pz).part))) 4 (.int .i64 ((n + (ps.getD i pz).bl.length : Nat) : Int))) 19 (x)) 20 (.int .i64 (ps.length : Nat))) 21 (.int .i64 (i : Nat))) 60 ((ps.getD i pz).bv)) 61 (.int .i64 (((ps.getD i pz).bl).length : Nat))) := ⟨f, by rw [upd_self e41_7, upd_self e41_62, upd_self e41_1, upd_self e41_3, upd_self e41_4, upd_self e41_19, upd_self e41_20, upd_self e41_21, upd_self e41_60, upd_self e41_61]⟩
                      clear e41_7 e41_62 e41_1 e41_3 e41_4 e41_19 e41_20 e41_21 e41_60 e41_61
                      refine seq fun K43 h43 => ?_
                      refine stp (v := .bool (decide (((k : Nat) : Int) < (((ps.getD i pz).bl).length : Nat)))) (o_bin rfl rfl rfl) ?_
                      refine h43 _ _ ?_
                      clear h43
                      refine seq fun K44 h44 => ?_
                      refine cndP rfl (fun c45 => ?_) (fun c45 => ?_)
                      ·
                        refine h44 _ _ ?_
                        clear h44
                        refine seq fun K46 h46 => ?_
                        refine seq fun K47 h47 => ?_
                        have hbo := hpi.kb _ (getD_memG bz (l := (ps.getD i pz).bl) (i := k) (by omega))
                        have hbc := bls_cons (last := key) (bl := (ps.getD i pz).bl) (k := k) (by omega)
                        refine m_idxS bz (j := k) (((fun p hp => (hok p hp).upd hM41.upd) _ (getD_memG pz (by omega))).rb) rfl rfl (by omega) fun b48 o48 hp48 => ?_
                        refine ldA (cs := [.int .i64 ((((ps.getD i pz).bl).getD k bz).st), .int .i64 ((((ps.getD i pz).bl).getD k bz).ra), .int .i64 ((((ps.getD i pz).bl).getD k bz).ct), .string (str ((((ps.getD i pz).bl).getD k bz).cut))]) rfl rfl (hp48.row (k := 0) rfl rfl) ?_
                        refine m_al hM41 fun b49 w50 (hM50 : Mem w [] w50 [[⟨b2, 24, [.int .i64 parts, x]⟩], [⟨b21, 71, [.int .i64 ((ps.getD i pz).part), (ps.getD i pz).bv, .bool ((ps.getD i pz).a), .int .i64 ((ps.getD i pz).h), (ps.getD i pz).dv]⟩], [⟨b49, 74, [.int .i64 0, .int .i64 0, .int .i64 0, .string (str ([]))]⟩]]) => ?_
                        refine m_stA (l := [.int .i64 ((((ps.getD i pz).bl).getD k bz).st), .int .i64 ((((ps.getD i pz).bl).getD k bz).ra), .int .i64 ((((ps.getD i pz).bl).getD k bz).ct), .string (str ((((ps.getD i pz).bl).getD k bz).cut))]) hM50 (i := 2) rfl rfl rfl rfl (by simp [oneCells, Value.oneCell', byteV]) (by simp) fun w51 (hM51 : Mem w [] w51 [[⟨b2, 24, [.int .i64 parts, x]⟩], [⟨b21, 71, [.int .i64 ((ps.getD i pz).part), (ps.getD i pz).bv, .bool ((ps.getD i pz).a), .int .i64 ((ps.getD i pz).h), (ps.getD i pz).dv]⟩], [⟨b49, 74, [.int .i64 ((((ps.getD i pz).bl).getD k bz).st), .int .i64 ((((ps.getD i pz).bl).getD k bz).ra), .int .i64 ((((ps.getD i pz).bl).getD k bz).ct), .string (str ((((ps.getD i pz).bl).getD k bz).cut))]⟩]]) => ?_
                        refine h47 _ _ ?_
                        clear h47
                        refine seq fun K52 h52 => ?_
                        refine seq fun K53 h53 => ?_
                        refine m_ldA (l := [.int .i64 ((((ps.getD i pz).bl).getD k bz).st), .int .i64 ((((ps.getD i pz).bl).getD k bz).ra), .int .i64 ((((ps.getD i pz).bl).getD k bz).ct), .string (str ((((ps.getD i pz).bl).getD k bz).cut))]) hM51 (i := 2) (j := 0) rfl rfl rfl rfl rfl ?_
                        refine stp (v := .string (str key)) (o_mv rfl) ?_
                        refine m_call (rightBlock_ok (((ps.getD i pz).bl).getD k bz) key w51 hbo (by omega)) rfl fun v54 w54 ⟨hr54, hu54⟩ => ?_
                        have hM54 : Mem w [] w54 [[⟨b2, 24, [.int .i64 parts, x]⟩], [⟨b21, 71, [.int .i64 ((ps.getD i pz).part), (ps.getD i pz).bv, .bool ((ps.getD i pz).a), .int .i64 ((ps.getD i pz).h), (ps.getD i pz).dv]⟩], [⟨b49, 74, [.int .i64 ((((ps.getD i pz).bl).getD k bz).st), .int .i64 ((((ps.getD i pz).bl).getD k bz).ra), .int .i64 ((((ps.getD i pz).bl).getD k bz).ct), .string (str ((((ps.getD i pz).bl).getD k bz).cut))]⟩]] := hM51.pure hu54
                        subst hr54
                        refine stp (v := .bool (decide (¬ (blkOk (((ps.getD i pz).bl).getD k bz) ∧ 0 ≤ cmp (((ps.getD i pz).bl).getD k bz).cut key)))) (o_not rfl v_not) ?_
                        refine h53 _ _ ?_
                        clear h53
                        refine cndP rfl (fun c55 => ?_) (fun c55 => ?_)
                        ·
                          refine seq fun K56 h56 => ?_
                          refine stp (v := .int .i64 80) (o_mv rfl) ?_
                          refine h56 _ _ ?_
                          clear h56
                          refine ⟨(.int .i64 80), rfl, ?_⟩
                          exact ⟨v_int (chkF_80 (fun h => by have h9 := (hic.1 (hE.1 h)).1.1.2.2.2.2; exact (by assumption : ¬ (blkOk ((ps.getD i pz).bl.getD k bz) ∧ 0 ≤ cmp ((ps.getD i pz).bl.getD k bz).cut key)) (hbc.1 (hB.1 h9)).1)).symm, hM54.upd⟩
                        ·
                          refine h52 _ _ ?_
                          clear h52
                          refine stp (v := .pointer (some ⟨b49, 3, none⟩)) (o_fa rfl rfl) ?_
                          refine m_ld (v := .string (str ((((ps.getD i pz).bl).getD k bz).cut))) hM54 (i := 2) (j := 0) rfl rfl rfl rfl ?_
                          refine stp (v := .string (str ((((ps.getD i pz).bl).getD k bz).cut))) (o_mv rfl) ?_
                          refine h46 _ _ ?_
                          clear h46
                          refine stp (v := .int .i64 ((k : Nat) + 1)) (o_bin rfl rfl (v_add64 (by constructor <;> omega))) ?_
                          refine stp (v := .int .i64 ((k : Nat) + 1)) (o_mv rfl) ?_
                          refine h42 (k + 1, ((ps.getD i pz).bl.getD k bz).cut) _ _ ⟨by first | rfl | simp [upd], by first | rfl | exact v_int (by omega) | exact v_int (by simp) | exact v_int (by simp; omega), rfl, by first | rfl | exact v_int (by omega) | exact v_int (by simp) | exact v_int (by simp; omega), by first | rfl | exact v_int (by omega) | exact v_int (by simp) | exact v_int (by simp; omega), rfl, by first | rfl | exact v_int (by omega) | exact v_int (by simp) | exact v_int (by simp; omega), by first | rfl | exact v_int (by omega) | exact v_int (by simp) | exact v_int (by simp; omega), rfl, by first | rfl | exact v_int (by omega) | exact v_int (by simp) | exact v_int (by simp; omega), hM54.keep (by simp), by omega, hB.trans (hbc.trans ⟨fun h => h.2, fun h => ⟨Decidable.not_not.1 (by assumption), h⟩⟩), hbo.2.2.2⟩ (by (try dsimp only); omega)
                      ·
                        refine h18 _ _ ?_
                        clear h18
                        refine stp (v := .int .i64 ((i : Nat) + 1)) (o_bin rfl rfl (v_add64 (by constructor <;> omega))) ?_
                        refine stp (v := .int .i64 ((i : Nat) + 1)) (o_mv rfl) ?_
                        refine h14 (i + 1, (ps.getD i pz).part, n + (ps.getD i pz).bl.length) _ _ ⟨by first | rfl | exact v_int (by omega) | exact v_int (by simp) | exact v_int (by simp; omega), by first | rfl | exact v_int (by omega) | exact v_int (by simp) | exact v_int (by simp; omega), by first | rfl | exact v_int (by omega) | exact v_int (by simp) | exact v_int (by simp; omega), rfl, rfl, by first | rfl | exact v_int (by omega) | exact v_int (by simp) | exact v_int (by simp; omega), hM41.keep (by simp), by omega, hE.trans (hic.trans ⟨fun h => h.2, fun h => ⟨⟨parOk_p.2 ⟨by omega, by omega, by omega, chk_fk (Decidable.not_not.1 (by assumption)), hB.2 (bls_end (by omega))⟩, by omega⟩, h⟩⟩), by omega⟩ (by (try dsimp only); omega)
        ·
          refine h11 _ _ ?_
          clear h11
          refine seq fun K57 h57 => ?_
          refine stp (v := .int .i64 0) (o_mv rfl) ?_
          refine h57 _ _ ?_
          clear h57
          refine ⟨(.int .i64 0), rfl, ?_⟩
          exact ⟨v_int (chkF_0 (hE.2 (inf_end (by omega)))).symm, hM13.upd⟩

/-- winnowref8.Check -/
theorem refChk_ok (parts : Int) (x : Value) (ps : List Pr) (w : World) (hx : RdS prC w x ps) (hok : ∀ p ∈ ps, p.ok w) (hl : ps.length ≤ 1954687338211) (hp : inK .i64 parts) : Calls Try.prog 13 [.agg [.int .i64 parts, x].toArray].toArray w (Rt fun r w' => r = .int .i64 (chkF parts (ps.map Pr.p)) ∧ Upd [] w w') := by
  have hM0 : Mem w [] w [] := Mem.nil w []
  simp only [inK] at hp
  refine calls_vc mixed Try.func13 rfl C13 (by simp [Try.ntmps13]) ?_
  refine seq fun K1 h1 => ?_
  refine m_bx (v := .agg ([.int .i64 parts, x] : List Value).toArray) hM0 rfl rfl fun b2 w3 (hM3 : Mem w [] w3 [[⟨b2, 24, [.int .i64 parts, x]⟩]]) => ?_
  refine stp (v := .int .i64 0) (o_mv rfl) ?_
  refine h1 _ _ ?_
  clear h1
  refine seq fun K4 h4 => ?_
  refine seq fun K5 h5 => ?_
  refine stp (v := .pointer (some ⟨b2, 0, none⟩)) (o_fa rfl rfl) ?_
  refine m_ld (v := .int .i64 parts) hM3 (i := 0) (j := 0) rfl rfl rfl rfl ?_
  refine stp (v := .bool (decide (parts < 1))) (o_bin rfl rfl rfl) ?_
  refine stp (v := .bool (decide (parts < 1))) (o_mv rfl) ?_
  refine splitP rfl (fun c6 => ?_) (fun c6 => ?_)
  ·
    refine gno rfl (by simp) ?_
    refine gnol rfl (by simp) ?_
    refine gno rfl (by simp) ?_
    refine stp (v := .bool true) (o_pickT rfl rfl) ?_
    refine h5 _ _ ?_
    clear h5
    refine cndT rfl ?_
    refine seq fun K7 h7 => ?_
    refine stp (v := .int .i64 80) (o_mv rfl) ?_
    refine h7 _ _ ?_
    clear h7
    refine ⟨(.int .i64 80), rfl, ?_⟩
    exact ⟨v_int (chkF_80 (fun h => by have h9 := h.1; omega)).symm, hM3.upd⟩
  ·
    refine stg rfl (v := .pointer (some ⟨b2, 0, none⟩)) (o_fa rfl rfl) ?_
    refine gyesl rfl ?_
    refine m_ld (v := .int .i64 parts) hM3 (i := 0) (j := 0) rfl rfl rfl rfl ?_
    refine stg rfl (v := .bool (decide ((65535 : Int) < parts))) (o_bin rfl rfl rfl) ?_
    refine stp (v := .bool (decide ((65535 : Int) < parts))) (o_pickF rfl rfl) ?_
    refine h5 _ _ ?_
    clear h5
    refine cndP rfl (fun c8 => ?_) (fun c8 => ?_)
    ·
      refine seq fun K9 h9 => ?_
      refine stp (v := .int .i64 80) (o_mv rfl) ?_
      refine h9 _ _ ?_
      clear h9
      refine ⟨(.int .i64 80), rfl, ?_⟩
      exact ⟨v_int (chkF_80 (fun h => by have h9 := h.1; omega)).symm, hM3.upd⟩
    ·
      refine h4 _ _ ?_
      clear h4
      refine seq fun K10 h10 => ?_
      refine stp (v := .int .i64 0) (o_mv rfl) ?_
      refine h10 _ _ ?_
      clear h10
      refine seq fun K11 h11 => ?_
      refine stp (v := .int .i64 (-1)) (o_mv rfl) ?_
      refine h11 _ _ ?_
      clear h11
      refine seq fun K12 h12 => ?_
      refine seq fun K13 h13 => ?_
      refine stp (v := .int .i64 0) (o_mv rfl) ?_
      refine h13 _ _ ?_
      clear h13
      refine lp (n := fun _ _ => False) (ι := (Nat) × (Int) × (Nat)) (fun ⟨i, last, n⟩ f w' => f 4 = .int .i64 last ∧ f 3 = .int .i64 (n : Nat) ∧ f 5 = .int .i64 (i : Nat) ∧ f 1 = .pointer (some ⟨b2, 0, none⟩) ∧ Mem w [] w' [[⟨b2, 24, [.int .i64 parts, x]⟩]] ∧ (i ≤ ps.length) ∧ (ftOk parts (ps.map Pr.p) ↔ (infR parts last ((ps.drop i).map Pr.p) ∧ n + sumB ((ps.drop i).map Pr.p) ≤ 262144)) ∧ (n ≤ i * 3518437208780) ∧ ((i : Int) ≤ last + 1 ∧ last < parts)) (fun ⟨i, last, n⟩ => ps.length - i) (0, (-1), 0) ?_ ?_
      · exact ⟨by first | rfl | exact v_int (by omega) | exact v_int (by simp) | exact v_int (by simp; omega), by first | rfl | exact v_int (by omega) | exact v_int (by simp) | exact v_int (by simp; omega), by first | rfl | exact v_int (by omega) | exact v_int (by simp) | exact v_int (by simp; omega), rfl, hM3, by omega, ⟨fun h => (infR_iff parts _ (-1) 0 (by omega)).1 h.2, fun h => ⟨by omega, (infR_iff parts _ (-1) 0 (by omega)).2 h⟩⟩, by omega, by omega⟩
      · rintro ⟨i, last, n⟩ f w14 ⟨e14_4, e14_3, e14_5, e14_1, hM14, hi, hE, hn, hil⟩ K15 h15
        obtain ⟨frm, rfl⟩ : ∃ frm, f = (upd (upd (upd (upd frm 4 (.int .i64 last)) 3 (.int .i64 (n : Nat))) 5 (.int .i64 (i : Nat))) 1 (.pointer (some ⟨b2, 0, none⟩))) := ⟨f, by rw [upd_self e14_4, upd_self e14_3, upd_self e14_5, upd_self e14_1]⟩
        clear e14_4 e14_3 e14_5 e14_1
        refine seq fun K16 h16 => ?_
        refine seq fun K17 h17 => ?_
        refine stp (v := .int .i64 (i : Nat)) (o_mv rfl) ?_
        refine stp (v := .pointer (some ⟨b2, 1, none⟩)) (o_fa rfl rfl) ?_
        refine m_ld (v := x) hM14 (i := 0) (j := 0) rfl rfl rfl rfl ?_
        refine stp (v := .int .i64 (ps.length : Nat)) (o_lenR (hx.upd hM14.upd) rfl rfl) ?_
        refine stp (v := .bool (decide (((i : Nat) : Int) < (ps.length : Nat)))) (o_bin rfl rfl rfl) ?_
        refine h17 _ _ ?_
        clear h17
        refine cndP rfl (fun c18 => ?_) (fun c18 => ?_)
        ·
          refine h16 _ _ ?_
          clear h16
          refine seq fun K19 h19 => ?_
          refine seq fun K20 h20 => ?_
          refine stp (v := .pointer (some ⟨b2, 1, none⟩)) (o_fa rfl rfl) ?_
          refine m_ld (v := x) hM14 (i := 0) (j := 0) rfl rfl rfl rfl ?_
          refine stp (v := .int .i64 (i : Nat)) (o_mv rfl) ?_
          have hpi := hok _ (getD_memG pz (l := ps) (i := i) (by omega))
          have hlb := hpi.lb
          have hld := hpi.ld
          have hkp := hpi.kp
          simp only [inK] at hkp
          have hic := infR_cons (ps := ps) (i := i) (parts := parts) (last := last) (by omega)
          have hsd := sumB_drop (ps := ps) (i := i) (by omega)
          refine m_idxS pz (j := i) (hx.upd hM14.upd) rfl rfl (by omega) fun b21 o21 hp21 => ?_
          refine ldA (cs := [.int .i64 ((ps.getD i pz).part), (ps.getD i pz).bv, .bool ((ps.getD i pz).a), .int .i64 ((ps.getD i pz).h), (ps.getD i pz).dv]) rfl rfl (hp21.row (k := 0) rfl rfl) ?_
          refine m_al hM14 fun b22 w23 (hM23 : Mem w [] w23 [[⟨b2, 24, [.int .i64 parts, x]⟩], [⟨b22, 71, [.int .i64 0, .slice none 0 0, .bool false, .int .i64 0, .slice none 0 0]⟩]]) => ?_
          refine m_stA (l := [.int .i64 ((ps.getD i pz).part), (ps.getD i pz).bv, .bool ((ps.getD i pz).a), .int .i64 ((ps.getD i pz).h), (ps.getD i pz).dv]) hM23 (i := 1) rfl rfl rfl rfl (by simp [oneCells, Value.oneCell', byteV]) (by simp) fun w24 (hM24 : Mem w [] w24 [[⟨b2, 24, [.int .i64 parts, x]⟩], [⟨b22, 71, [.int .i64 ((ps.getD i pz).part), (ps.getD i pz).bv, .bool ((ps.getD i pz).a), .int .i64 ((ps.getD i pz).h), (ps.getD i pz).dv]⟩]]) => ?_
          refine h20 _ _ ?_
          clear h20
          refine seq fun K25 h25 => ?_
          refine seq fun K26 h26 => ?_
          refine stp (v := .pointer (some ⟨b22, 0, none⟩)) (o_fa rfl rfl) ?_
          refine m_ld (v := .int .i64 ((ps.getD i pz).part)) hM24 (i := 1) (j := 0) rfl rfl rfl rfl ?_
          refine stp (v := .int .i64 last) (o_mv rfl) ?_
          refine stp (v := .bool (decide (((ps.getD i pz).part) ≤ last))) (o_bin rfl rfl rfl) ?_
          refine stp (v := .bool (decide (((ps.getD i pz).part) ≤ last))) (o_mv rfl) ?_
          refine splitP rfl (fun c27 => ?_) (fun c27 => ?_)
          ·
            refine gno rfl (by simp) ?_
            refine gnol rfl (by simp) ?_
            refine gno rfl (by simp) ?_
            refine gnol rfl (by simp) ?_
            refine gno rfl (by simp) ?_
            refine stp (v := .bool true) (o_pickT rfl rfl) ?_
            refine stp (v := .bool true) (o_mv rfl) ?_
            refine splitT rfl ?_
            refine gno rfl (by simp) ?_
            refine gnol rfl (by simp) ?_
            refine gno rfl (by simp) ?_
            refine gno rfl (by simp) ?_
            refine stp (v := .bool true) (o_pickT rfl rfl) ?_
            refine stp (v := .bool true) (o_mv rfl) ?_
            refine splitT rfl ?_
            refine gno rfl (by simp) ?_
            refine gnol rfl (by simp) ?_
            refine gnol rfl (by simp) ?_
            refine gno rfl (by simp) ?_
            refine stp (v := .bool true) (o_pickT rfl rfl) ?_
            refine h26 _ _ ?_
            clear h26
            refine cndT rfl ?_
            refine seq fun K28 h28 => ?_
            refine stp (v := .int .i64 80) (o_mv rfl) ?_
            refine h28 _ _ ?_
            clear h28
            refine ⟨(.int .i64 80), rfl, ?_⟩
            exact ⟨v_int (chkF_80 (fun h => by have h9 := (hic.1 (hE.1 h).1).1; rw [parOk_p] at h9; omega)).symm, hM24.upd⟩
          ·
            refine stg rfl (v := .pointer (some ⟨b22, 0, none⟩)) (o_fa rfl rfl) ?_
            refine gyesl rfl ?_
            refine m_ld (v := .int .i64 ((ps.getD i pz).part)) hM24 (i := 1) (j := 0) rfl rfl rfl rfl ?_
            refine stg rfl (v := .pointer (some ⟨b2, 0, none⟩)) (o_fa rfl rfl) ?_
            refine gyesl rfl ?_
            refine m_ld (v := .int .i64 parts) hM24 (i := 0) (j := 0) rfl rfl rfl rfl ?_
            refine stg rfl (v := .bool (decide (parts ≤ ((ps.getD i pz).part)))) (o_bin rfl rfl rfl) ?_
            refine stp (v := .bool (decide (parts ≤ ((ps.getD i pz).part)))) (o_pickF rfl rfl) ?_
            refine stp (v := .bool (decide (parts ≤ ((ps.getD i pz).part)))) (o_mv rfl) ?_
            refine splitP rfl (fun c29 => ?_) (fun c29 => ?_)
            ·
              refine gno rfl (by simp) ?_
              refine gnol rfl (by simp) ?_
              refine gno rfl (by simp) ?_
              refine gno rfl (by simp) ?_
              refine stp (v := .bool true) (o_pickT rfl rfl) ?_
              refine stp (v := .bool true) (o_mv rfl) ?_
              refine splitT rfl ?_
              refine gno rfl (by simp) ?_
              refine gnol rfl (by simp) ?_
              refine gnol rfl (by simp) ?_
              refine gno rfl (by simp) ?_
              refine stp (v := .bool true) (o_pickT rfl rfl) ?_
              refine h26 _ _ ?_
              clear h26
              refine cndT rfl ?_
              refine seq fun K30 h30 => ?_
              refine stp (v := .int .i64 80) (o_mv rfl) ?_
              refine h30 _ _ ?_
              clear h30
              refine ⟨(.int .i64 80), rfl, ?_⟩
              exact ⟨v_int (chkF_80 (fun h => by have h9 := (hic.1 (hE.1 h).1).1; rw [parOk_p] at h9; omega)).symm, hM24.upd⟩
            ·
              refine stg rfl (v := .pointer (some ⟨b22, 1, none⟩)) (o_fa rfl rfl) ?_
              refine gyesl rfl ?_
              refine m_ld (v := (ps.getD i pz).bv) hM24 (i := 1) (j := 0) rfl rfl rfl rfl ?_
              refine stg rfl (v := .int .i64 (((ps.getD i pz).bl).length : Nat)) (o_lenR (((fun p hp => (hok p hp).upd hM24.upd) _ (getD_memG pz (by omega))).rb) rfl rfl) ?_
              refine stg rfl (v := .bool (decide (((((ps.getD i pz).bl).length : Nat) : Int) = 0))) (o_bin rfl rfl rfl) ?_
              refine stp (v := .bool (decide (((((ps.getD i pz).bl).length : Nat) : Int) = 0))) (o_pickF rfl rfl) ?_
              refine stp (v := .bool (decide (((((ps.getD i pz).bl).length : Nat) : Int) = 0))) (o_mv rfl) ?_
              refine splitP rfl (fun c31 => ?_) (fun c31 => ?_)
              ·
                refine gno rfl (by simp) ?_
                refine gnol rfl (by simp) ?_
                refine gnol rfl (by simp) ?_
                refine gno rfl (by simp) ?_
                refine stp (v := .bool true) (o_pickT rfl rfl) ?_
                refine h26 _ _ ?_
                clear h26
                refine cndT rfl ?_
                refine seq fun K32 h32 => ?_
                refine stp (v := .int .i64 80) (o_mv rfl) ?_
                refine h32 _ _ ?_
                clear h32
                refine ⟨(.int .i64 80), rfl, ?_⟩
                exact ⟨v_int (chkF_80 (fun h => by have h9 := (hic.1 (hE.1 h).1).1; rw [parOk_p] at h9; omega)).symm, hM24.upd⟩
              ·
                refine stg rfl (v := .pointer (some ⟨b22, 2, none⟩)) (o_fa rfl rfl) ?_
                refine gyesl rfl ?_
                refine m_ldA (l := [.bool ((ps.getD i pz).a), .int .i64 ((ps.getD i pz).h), (ps.getD i pz).dv]) hM24 (i := 1) (j := 0) rfl rfl rfl rfl rfl ?_
                refine gyesl rfl ?_
                refine m_call (refCheck_ok (ps.getD i pz).a ((ps.getD i pz).h) _ ((ps.getD i pz).d) w24 (((fun p hp => (hok p hp).upd hM24.upd) _ (getD_memG pz (by omega))).rd) (by first | omega | (simp; done) | (simp; omega))) rfl fun v33 w33 ⟨hr33, hu33⟩ => ?_
                have hM33 : Mem w [] w33 [[⟨b2, 24, [.int .i64 parts, x]⟩], [⟨b22, 71, [.int .i64 ((ps.getD i pz).part), (ps.getD i pz).bv, .bool ((ps.getD i pz).a), .int .i64 ((ps.getD i pz).h), (ps.getD i pz).dv]⟩]] := hM24.pure hu33
                subst hr33
                refine stg rfl (v := .bool (decide (¬ (chk (ps.getD i pz).a ((ps.getD i pz).h) ((ps.getD i pz).d)) = 0))) (o_bin rfl rfl v_neq) ?_
                refine stp (v := .bool (decide (¬ (chk (ps.getD i pz).a ((ps.getD i pz).h) ((ps.getD i pz).d)) = 0))) (o_pickF rfl rfl) ?_
                refine h26 _ _ ?_
                clear h26
                refine cndP rfl (fun c34 => ?_) (fun c34 => ?_)
                ·
                  refine seq fun K35 h35 => ?_
                  refine stp (v := .int .i64 80) (o_mv rfl) ?_
                  refine h35 _ _ ?_
                  clear h35
                  refine ⟨(.int .i64 80), rfl, ?_⟩
                  exact ⟨v_int (chkF_80 (fun h => by have h9 := (hic.1 (hE.1 h).1).1.2.2.2.1; exact h9 (chk_ne (by assumption)))).symm, hM33.upd⟩
                ·
                  refine h25 _ _ ?_
                  clear h25
                  refine seq fun K36 h36 => ?_
                  refine stp (v := .pointer (some ⟨b22, 0, none⟩)) (o_fa rfl rfl) ?_
                  refine m_ld (v := .int .i64 ((ps.getD i pz).part)) hM33 (i := 1) (j := 0) rfl rfl rfl rfl ?_
                  refine stp (v := .int .i64 ((ps.getD i pz).part)) (o_mv rfl) ?_
                  refine h36 _ _ ?_
                  clear h36
                  refine seq fun K37 h37 => ?_
                  refine stp (v := .int .i64 (n : Nat)) (o_mv rfl) ?_
                  refine stp (v := .pointer (some ⟨b22, 1, none⟩)) (o_fa rfl rfl) ?_
                  refine m_ld (v := (ps.getD i pz).bv) hM33 (i := 1) (j := 0) rfl rfl rfl rfl ?_
                  refine stp (v := .int .i64 (((ps.getD i pz).bl).length : Nat)) (o_lenR (((fun p hp => (hok p hp).upd hM33.upd) _ (getD_memG pz (by omega))).rb) rfl rfl) ?_
                  refine stp (v := .int .i64 ((n + (ps.getD i pz).bl.length : Nat) : Int)) (o_bin rfl rfl ((v_add64 (by omega)).trans (v_int (by omega)))) ?_
                  refine stp (v := .int .i64 ((n + (ps.getD i pz).bl.length : Nat) : Int)) (o_mv rfl) ?_
                  refine h37 _ _ ?_
                  clear h37
                  refine seq fun K38 h38 => ?_
                  refine stp (v := .int .i64 0) (o_mv rfl) ?_
                  refine h38 _ _ ?_
                  clear h38
                  refine lp (n := fun _ _ => False) (ι := (Nat) × (List UInt8)) (fun ⟨k, key⟩ f w' => f 7 = .int .i64 (k : Nat) ∧ f 1 = .pointer (some ⟨b2, 0, none⟩) ∧ f 3 = .int .i64 ((n + (ps.getD i pz).bl.length : Nat) : Int) ∧ f 4 = .int .i64 ((ps.getD i pz).part) ∧ f 5 = .int .i64 (i : Nat) ∧ f 6 = .pointer (some ⟨b22, 0, none⟩) ∧ Mem w [] w' [[⟨b2, 24, [.int .i64 parts, x]⟩], [⟨b22, 71, [.int .i64 ((ps.getD i pz).part), (ps.getD i pz).bv, .bool ((ps.getD i pz).a), .int .i64 ((ps.getD i pz).h), (ps.getD i pz).dv]⟩]] ∧ (k ≤ (ps.getD i pz).bl.length) ∧ (blsOk [] (ps.getD i pz).bl ↔ blsOk key ((ps.getD i pz).bl.drop k)) ∧ (key = (if k = 0 then [] else ((ps.getD i pz).bl.getD (k - 1) bz).cut))) (fun ⟨k, key⟩ => (ps.getD i pz).bl.length - k) (0, []) ?_ ?_
                  · exact ⟨by first | rfl | exact v_int (by omega) | exact v_int (by simp) | exact v_int (by simp; omega), rfl, by first | rfl | exact v_int (by omega) | exact v_int (by simp) | exact v_int (by simp; omega), by first | rfl | exact v_int (by omega) | exact v_int (by simp) | exact v_int (by simp; omega), by first | rfl | exact v_int (by omega) | exact v_int (by simp) | exact v_int (by simp; omega), rfl, hM33, by omega, Iff.rfl, rfl⟩
                  · rintro ⟨k, key⟩ f w39 ⟨e39_7, e39_1, e39_3, e39_4, e39_5, e39_6, hM39, hk, hB, hkey⟩ K40 h40
                    obtain ⟨frm, rfl⟩ : ∃ frm, f = (upd (upd (upd (upd (upd (upd frm 7 (.int .i64 (k : Nat))) 1 (.pointer (some ⟨b2, 0, none⟩))) 3 (.int .i64 ((n + (ps.getD i pz).bl.length : Nat) : Int))) 4 (.int .i64 ((ps.getD i pz).part))) 5 (.int .i64 (i : Nat))) 6 (.pointer (some ⟨b22, 0, none⟩))) := ⟨f, by rw [upd_self e39_7, upd_self e39_1, upd_self e39_3, upd_self e39_4, upd_self e39_5, upd_self e39_6]⟩
                    clear e39_7 e39_1 e39_3 e39_4 e39_5 e39_6
                    refine seq fun K41 h41 => ?_
                    refine seq fun K42 h42 => ?_
                    refine stp (v := .int .i64 (k : Nat)) (o_mv rfl) ?_
                    refine stp (v := .pointer (some ⟨b22, 1, none⟩)) (o_fa rfl rfl) ?_
                    refine m_ld (v := (ps.getD i pz).bv) hM39 (i := 1) (j := 0) rfl rfl rfl rfl ?_
                    refine stp (v := .int .i64 (((ps.getD i pz).bl).length : Nat)) (o_lenR (((fun p hp => (hok p hp).upd hM39.upd) _ (getD_memG pz (by omega))).rb) rfl rfl) ?_
                    refine stp (v := .bool (decide (((k : Nat) : Int) < (((ps.getD i pz).bl).length : Nat)))) (o_bin rfl rfl rfl) ?_
                    refine h42 _ _ ?_
                    clear h42
                    refine cndP rfl (fun c43 => ?_) (fun c43 => ?_)
                    ·
                      refine h41 _ _ ?_
                      clear h41
                      refine seq fun K44 h44 => ?_
                      refine seq fun K45 h45 => ?_
                      refine stp (v := .pointer (some ⟨b22, 1, none⟩)) (o_fa rfl rfl) ?_
                      refine m_ld (v := (ps.getD i pz).bv) hM39 (i := 1) (j := 0) rfl rfl rfl rfl ?_
                      refine stp (v := .int .i64 (k : Nat)) (o_mv rfl) ?_
                      have hbo := hpi.kb _ (getD_memG bz (l := (ps.getD i pz).bl) (i := k) (by omega))
                      have hbc := bls_cons (last := key) (bl := (ps.getD i pz).bl) (k := k) (by omega)
                      refine m_idxS bz (j := k) (((fun p hp => (hok p hp).upd hM39.upd) _ (getD_memG pz (by omega))).rb) rfl rfl (by omega) fun b46 o46 hp46 => ?_
                      refine ldA (cs := [.int .i64 ((((ps.getD i pz).bl).getD k bz).st), .int .i64 ((((ps.getD i pz).bl).getD k bz).ra), .int .i64 ((((ps.getD i pz).bl).getD k bz).ct), .string (str ((((ps.getD i pz).bl).getD k bz).cut))]) rfl rfl (hp46.row (k := 0) rfl rfl) ?_
                      refine m_call (blockRight_ok (((ps.getD i pz).bl).getD k bz) w39 hbo) rfl fun v47 w47 ⟨hr47, hu47⟩ => ?_
                      have hM47 : Mem w [] w47 [[⟨b2, 24, [.int .i64 parts, x]⟩], [⟨b22, 71, [.int .i64 ((ps.getD i pz).part), (ps.getD i pz).bv, .bool ((ps.getD i pz).a), .int .i64 ((ps.getD i pz).h), (ps.getD i pz).dv]⟩]] := hM39.pure hu47
                      subst hr47
                      refine stp (v := .bool (decide (blkOk (((ps.getD i pz).bl).getD k bz)))) (o_mv rfl) ?_
                      refine h45 _ _ ?_
                      clear h45
                      refine seq fun K48 h48 => ?_
                      intro wd e1 e2 e3 e4
                      have hd := Upd.same e1 e2 e3 e4 []
                      have hM49 := hM47.pure hd
                      clear e1 e2 e3 e4
                      refine ⟨none, ?_⟩
                      show vd _ _ _ _ _ _ _
                      refine dq (v := .bool (decide (blkOk (((ps.getD i pz).bl).getD k bz)))) (o_mv rfl) ?_
                      refine dq (v := .bool (decide (¬ (blkOk (((ps.getD i pz).bl).getD k bz))))) (o_not rfl v_not) ?_
                      refine dq (v := .bool (decide (¬ (blkOk (((ps.getD i pz).bl).getD k bz))))) (o_mv rfl) ?_
                      refine dsplitP rfl (fun c50 => ?_) (fun c50 => ?_)
                      ·
                        refine dgno rfl (by simp) ?_
                        refine dgno rfl (by simp) ?_
                        refine dgno rfl (by simp) ?_
                        refine dsplitU rfl ?_
                        refine dgnou rfl ?_
                        refine dgnou rfl ?_
                        refine dgnou rfl ?_
                        refine dgnou rfl ?_
                        refine dgnou rfl ?_
                        refine dqgnou rfl ?_
                        refine dgnou rfl ?_
                        refine dgnou rfl ?_
                        refine dqgnou rfl ?_
                        refine dgnolu rfl ?_
                        refine dgnou rfl ?_
                        refine dgnou rfl ?_
                        refine dgnolu rfl ?_
                        refine dgnou rfl ?_
                        refine dgno rfl (by simp) ?_
                        refine dq (v := .bool true) (o_pickT rfl rfl) ?_
                        refine h48 _ _ ?_
                        clear h48
                        refine cndT rfl ?_
                        refine seq fun K51 h51 => ?_
                        refine stp (v := .int .i64 80) (o_mv rfl) ?_
                        refine h51 _ _ ?_
                        clear h51
                        refine ⟨(.int .i64 80), rfl, ?_⟩
                        exact ⟨v_int (chkF_80 (fun h => by have h9 := (hic.1 (hE.1 h).1).1.2.2.2.2; exact (by assumption : ¬ blkOk ((ps.getD i pz).bl.getD k bz)) (hbc.1 (hB.1 h9)).1.1)).symm, hM49.upd⟩
                      ·
                        refine dqg rfl (v := .int .i64 (k : Nat)) (o_mv rfl) ?_
                        refine dqg rfl (v := .bool (decide ((0 : Int) < ((k : Nat) : Int)))) (o_bin rfl rfl rfl) ?_
                        refine dqg rfl (v := .bool (decide ((0 : Int) < ((k : Nat) : Int)))) (o_mv rfl) ?_
                        refine dsplitP rfl (fun c52 => ?_) (fun c52 => ?_)
                        ·
                          refine dqg rfl (v := .pointer (some ⟨b22, 1, none⟩)) (o_fa rfl rfl) ?_
                          refine dqg rfl (v := .int .i64 (k : Nat)) (o_mv rfl) ?_
                          refine dqg rfl (v := .pointer (some ⟨b22, 1, none⟩)) (o_fa rfl rfl) ?_
                          refine dqg rfl (v := .int .i64 (k : Nat)) (o_mv rfl) ?_
                          refine dqg rfl (v := .int .i64 ((k : Nat) - 1)) (o_bin rfl rfl (v_sub64 (by constructor <;> omega))) ?_
                          refine dqgyes rfl rfl ?_
                          refine dqld rfl (trivial) (v := (ps.getD i pz).bv) ((hM49.at (i := 1) (j := 0) rfl rfl).cell 1) ?_
                          refine dgyes rfl rfl (dqp (m_idxS bz (j := (k - 1)) (((fun p hp => (hok p hp).upd hM49.upd) _ (getD_memG pz (by omega))).rb) rfl (v_int (by omega)) (by omega) fun b53 o53 hp53 => ?_))
                          show vd _ _ _ _ _ _ _
                          refine dqg rfl (v := .pointer (some ⟨b53, o53 + 3, none⟩)) (o_fa rfl rfl) ?_
                          refine dqgyes rfl rfl ?_
                          refine dqld rfl (trivial) (v := .string (str ((((ps.getD i pz).bl).getD (k - 1) bz).cut))) (hp53.get 3 rfl) ?_
                          refine dgyesl rfl ?_
                          refine dl (m_ld (v := (ps.getD i pz).bv) hM49 (i := 1) (j := 0) rfl rfl rfl rfl ?_)
                          refine ⟨rfl, ?_⟩
                          refine dgyes rfl rfl (dqp (m_idxS bz (j := k) (((fun p hp => (hok p hp).upd hM49.upd) _ (getD_memG pz (by omega))).rb) rfl rfl (by omega) fun b54 o54 hp54 => ?_))
                          show vd _ _ _ _ _ _ _
                          refine dqg rfl (v := .pointer (some ⟨b54, o54 + 3, none⟩)) (o_fa rfl rfl) ?_
                          refine dgyesl rfl ?_
                          refine dl (ld (v := .string (str ((((ps.getD i pz).bl).getD k bz).cut))) rfl (hp54.get 3 rfl) ?_)
                          refine ⟨rfl, ?_⟩
                          refine dqg rfl (v := .bool (Op.bytesLess ((((ps.getD i pz).bl).getD k bz).cut) ((((ps.getD i pz).bl).getD (k - 1) bz).cut))) (o_slss rfl rfl rfl) ?_
                          refine dqg rfl (v := .bool (Op.bytesLess ((((ps.getD i pz).bl).getD k bz).cut) ((((ps.getD i pz).bl).getD (k - 1) bz).cut))) (o_pickT rfl rfl) ?_
                          refine dq (v := .bool (Op.bytesLess ((((ps.getD i pz).bl).getD k bz).cut) ((((ps.getD i pz).bl).getD (k - 1) bz).cut))) (o_pickF rfl rfl) ?_
                          refine h48 _ _ ?_
                          clear h48
                          refine cnd rfl (fun hlT => ?_) (fun hlF => ?_)
                          ·
                            refine seq fun K56 h56 => ?_
                            refine stp (v := .int .i64 80) (o_mv rfl) ?_
                            refine h56 _ _ ?_
                            clear h56
                            refine ⟨(.int .i64 80), rfl, ?_⟩
                            exact ⟨v_int (chkF_80 (fun h => by have h9 := (hbc.1 (hB.1 (hic.1 (hE.1 h).1).1.2.2.2.2)).1.2; rw [less_cmp, decide_eq_true_iff] at hlT; rw [hkey, if_neg (by omega)] at h9; omega)).symm, hM49.upd⟩
                          ·
                            refine h44 _ _ ?_
                            clear h44
                            refine stp (v := .int .i64 (k : Nat)) (o_mv rfl) ?_
                            refine stp (v := .int .i64 ((k : Nat) + 1)) (o_bin rfl rfl (v_add64 (by constructor <;> omega))) ?_
                            refine stp (v := .int .i64 ((k : Nat) + 1)) (o_mv rfl) ?_
                            refine h40 (k + 1, ((ps.getD i pz).bl.getD k bz).cut) _ _ ⟨by first | rfl | exact v_int (by omega) | exact v_int (by simp) | exact v_int (by simp; omega), rfl, by first | rfl | exact v_int (by omega) | exact v_int (by simp) | exact v_int (by simp; omega), by first | rfl | exact v_int (by omega) | exact v_int (by simp) | exact v_int (by simp; omega), by first | rfl | exact v_int (by omega) | exact v_int (by simp) | exact v_int (by simp; omega), rfl, hM49, by omega, hB.trans (hbc.trans ⟨fun h => h.2, fun h => ⟨⟨Decidable.not_not.1 (by assumption), by rw [less_cmp, decide_eq_false_iff_not] at hlF; rw [hkey, if_neg (by omega)]; omega⟩, h⟩⟩), by rw [if_neg (by omega), Nat.add_sub_cancel]⟩ (by (try dsimp only); omega)
                        ·
                          refine dgno rfl (by simp) ?_
                          refine dgno rfl (by simp) ?_
                          refine dgno rfl (by simp) ?_
                          refine dgno rfl (by simp) ?_
                          refine dgno rfl (by simp) ?_
                          refine dqgno rfl (by simp) ?_
                          refine dgno rfl (by simp) ?_
                          refine dgno rfl (by simp) ?_
                          refine dqgno rfl (by simp) ?_
                          refine dgnol rfl (by simp) ?_
                          refine dgno rfl (by simp) ?_
                          refine dgno rfl (by simp) ?_
                          refine dgnol rfl (by simp) ?_
                          refine dgno rfl (by simp) ?_
                          refine dqg rfl (v := .bool false) (o_pickF rfl rfl) ?_
                          refine dq (v := .bool false) (o_pickF rfl rfl) ?_
                          refine h48 _ _ ?_
                          clear h48
                          refine cndF rfl ?_
                          refine h44 _ _ ?_
                          clear h44
                          refine stp (v := .int .i64 (k : Nat)) (o_mv rfl) ?_
                          refine stp (v := .int .i64 ((k : Nat) + 1)) (o_bin rfl rfl (v_add64 (by constructor <;> omega))) ?_
                          refine stp (v := .int .i64 ((k : Nat) + 1)) (o_mv rfl) ?_
                          refine h40 (k + 1, ((ps.getD i pz).bl.getD k bz).cut) _ _ ⟨by first | rfl | exact v_int (by omega) | exact v_int (by simp) | exact v_int (by simp; omega), rfl, by first | rfl | exact v_int (by omega) | exact v_int (by simp) | exact v_int (by simp; omega), by first | rfl | exact v_int (by omega) | exact v_int (by simp) | exact v_int (by simp; omega), by first | rfl | exact v_int (by omega) | exact v_int (by simp) | exact v_int (by simp; omega), rfl, hM49, by omega, hB.trans (hbc.trans ⟨fun h => h.2, fun h => ⟨⟨Decidable.not_not.1 (by assumption), by rw [hkey, if_pos (by omega)]; exact cmp_nil _⟩, h⟩⟩), by rw [if_neg (by omega), Nat.add_sub_cancel]⟩ (by (try dsimp only); omega)
                    ·
                      refine h19 _ _ ?_
                      clear h19
                      refine stp (v := .int .i64 (i : Nat)) (o_mv rfl) ?_
                      refine stp (v := .int .i64 ((i : Nat) + 1)) (o_bin rfl rfl (v_add64 (by constructor <;> omega))) ?_
                      refine stp (v := .int .i64 ((i : Nat) + 1)) (o_mv rfl) ?_
                      refine h15 (i + 1, (ps.getD i pz).part, n + (ps.getD i pz).bl.length) _ _ ⟨by first | rfl | exact v_int (by omega) | exact v_int (by simp) | exact v_int (by simp; omega), by first | rfl | exact v_int (by omega) | exact v_int (by simp) | exact v_int (by simp; omega), by first | rfl | exact v_int (by omega) | exact v_int (by simp) | exact v_int (by simp; omega), rfl, hM39.keep (by simp), by omega, hE.trans ⟨fun h => ⟨(hic.1 h.1).2, by omega⟩, fun h => ⟨hic.2 ⟨parOk_p.2 ⟨by omega, by omega, by omega, chk_fk (Decidable.not_not.1 (by assumption)), hB.2 (bls_end (by omega))⟩, h.1⟩, by omega⟩⟩, by omega, by omega⟩ (by (try dsimp only); omega)
        ·
          refine h12 _ _ ?_
          clear h12
          refine seq fun K57 h57 => ?_
          refine seq fun K58 h58 => ?_
          refine stp (v := .int .i64 (n : Nat)) (o_mv rfl) ?_
          refine stp (v := .bool (decide ((262144 : Int) < ((n : Nat) : Int)))) (o_bin rfl rfl rfl) ?_
          refine h58 _ _ ?_
          clear h58
          refine cndP rfl (fun c59 => ?_) (fun c59 => ?_)
          ·
            refine seq fun K60 h60 => ?_
            refine stp (v := .int .i64 80) (o_mv rfl) ?_
            refine h60 _ _ ?_
            clear h60
            refine ⟨(.int .i64 80), rfl, ?_⟩
            exact ⟨v_int (chkF_80 (fun h => by have h9 := (hE.1 h).2; omega)).symm, hM14.upd⟩
          ·
            refine h57 _ _ ?_
            clear h57
            refine seq fun K61 h61 => ?_
            refine stp (v := .int .i64 0) (o_mv rfl) ?_
            refine h61 _ _ ?_
            clear h61
            refine ⟨(.int .i64 0), rfl, ?_⟩
            exact ⟨v_int (chkF_0 (hE.2 ⟨infR_end (by omega), by rw [sumB_end (by omega)]; omega⟩)).symm, hM14.upd⟩
