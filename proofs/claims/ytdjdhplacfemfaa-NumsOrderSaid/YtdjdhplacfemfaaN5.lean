/- NumsOrder: an order of texts. The law's walk, and that it is an order. -/
import Derived.Test.YtdjdhplacfemfaaN4
namespace Go.Proofs.Ytdjdhplacfemfaa.E
open Go

theorem cmp_anti : ∀ (a b : List UInt8), cmp b a = - cmp a b
  | [], [] => by simp [cmp]
  | [], _ :: _ => by simp [cmp]
  | _ :: _, [] => by simp [cmp]
  | x :: a, y :: b => by
    simp only [cmp]
    have := cmp_anti a b
    split <;> split <;> first | omega | (split <;> omega)
theorem cmp_range : ∀ (a b : List UInt8), -1 ≤ cmp a b ∧ cmp a b ≤ 1
  | [], [] => by simp [cmp]
  | [], _ :: _ => by simp [cmp]
  | _ :: _, [] => by simp [cmp]
  | x :: a, y :: b => by
    simp only [cmp]
    have := cmp_range a b
    split <;> first | omega | (split <;> omega)
theorem cmp_zero : ∀ (a b : List UInt8), cmp a b = 0 ↔ a = b
  | [], [] => by simp [cmp]
  | [], _ :: _ => by simp [cmp]
  | _ :: _, [] => by simp [cmp]
  | x :: a, y :: b => by
    simp only [cmp, List.cons.injEq]
    have := cmp_zero a b
    by_cases h : x = y
    · subst h; simp [this]
    · have h1 : x.toNat ≠ y.toNat := fun e => h (UInt8.toNat_inj.1 e)
      simp only [h, false_and, iff_false]
      split
      · omega
      · split <;> omega
theorem cmp_trans : ∀ (a b c : List UInt8), (cmp a b ≤ 0 → cmp b c ≤ 0 → cmp a c ≤ 0) ∧ (cmp a b < 0 → cmp b c ≤ 0 → cmp a c < 0)
  | [], b, [] => by
    simp only [cmp]
    cases b <;> simp [cmp]
  | [], b, _ :: _ => by simp [cmp]
  | x :: a, [], c => by simp [cmp]
  | x :: a, y :: b, [] => by simp [cmp]
  | x :: a, y :: b, z :: c => by
    have := cmp_trans a b c
    simp only [cmp]
    refine ⟨?_, ?_⟩
    · split <;> split <;> split <;> (try split) <;> (try split) <;> (try split) <;> first | omega | (intro h1 h2; exact this.1 h1 h2)
    · split <;> split <;> split <;> (try split) <;> (try split) <;> (try split) <;> first | omega | (intro h1 h2; exact this.2 h1 h2)
theorem cmp_ge (a b c : List UInt8) (h1 : 0 ≤ cmp a b) (h2 : 0 ≤ cmp b c) : 0 ≤ cmp a c := by
  have k := (cmp_trans c b a).1
  rw [cmp_anti b c, cmp_anti a b, cmp_anti a c] at k
  have := k (by omega) (by omega)
  omega
theorem cmp_pre (c a b : List UInt8) : cmp (c ++ a) (c ++ b) = cmp a b := by
  rw [cmp_drop c.length (by simp) (by simp) (by simp)]; simp
theorem common_pre (c a b : List UInt8) : common (c ++ a) (c ++ b) = c.length + common a b := by
  rw [common_drop c.length (by simp) (by simp) (by simp)]; simp
theorem cmp_cut {a b : List UInt8} : cmp (a.drop (common a b)) (b.drop (common a b)) = cmp a b := by
  obtain ⟨n1, n2, n3, n4⟩ := common_le a b
  exact (cmp_drop _ n3 n1 n2).symm

/-- winnowlaw2.NumsOrder -/
theorem NumsOrder_ok (a b c : List UInt8) (hla : a.length ≤ 140737488351232) (hlb : b.length ≤ 140737488351232) (hlc : c.length ≤ 140737488351232) (w : World) : Calls Try.prog 8 [.string (str a), .string (str b), .string (str c)].toArray w (Rt fun r w' => r = .bool true ∧ Upd [] w w') := by
  have hM0 : Mem w [] w [] := Mem.nil w []
  obtain ⟨n1, n2, n3, n4⟩ := common_le a b
  have r1 := cmp_range a b
  have r2 := cmp_range b c
  have r3 := cmp_range a c
  have an := cmp_anti a b
  have an2 := cmp_range b a
  have z := cmp_zero a b
  have t1 := cmp_trans a b c
  have t2 := cmp_ge a b c
  refine calls_vc mixed Try.func8 rfl C8 (by simp [Try.ntmps8]) ?_
  refine seq fun K1 h1 => ?_
  refine stp (v := .bool false) (o_mv rfl) ?_
  refine h1 _ _ ?_
  clear h1
  refine seq fun K2 h2 => ?_
  refine stp (v := .string (str a)) (o_mv rfl) ?_
  refine stp (v := .string (str b)) (o_mv rfl) ?_
  refine m_call (Compare_ok a b w (by first | omega | (simp; done) | (simp; omega)) (by first | omega | (simp; done) | (simp; omega))) rfl fun v3 w3 ⟨hr3, hu3⟩ => ?_
  have hM3 : Mem w [] w3 [] := hM0.pure hu3
  subst hr3
  refine stp (v := .int .i64 (cmp a b)) (o_mv rfl) ?_
  refine h2 _ _ ?_
  clear h2
  refine seq fun K4 h4 => ?_
  refine stp (v := .string (str b)) (o_mv rfl) ?_
  refine stp (v := .string (str c)) (o_mv rfl) ?_
  refine m_call (Compare_ok b c w3 (by first | omega | (simp; done) | (simp; omega)) (by first | omega | (simp; done) | (simp; omega))) rfl fun v5 w5 ⟨hr5, hu5⟩ => ?_
  have hM5 : Mem w [] w5 [] := hM3.pure hu5
  subst hr5
  refine stp (v := .int .i64 (cmp b c)) (o_mv rfl) ?_
  refine h4 _ _ ?_
  clear h4
  refine seq fun K6 h6 => ?_
  refine stp (v := .string (str a)) (o_mv rfl) ?_
  refine stp (v := .string (str c)) (o_mv rfl) ?_
  refine m_call (Compare_ok a c w5 (by first | omega | (simp; done) | (simp; omega)) (by first | omega | (simp; done) | (simp; omega))) rfl fun v7 w7 ⟨hr7, hu7⟩ => ?_
  have hM7 : Mem w [] w7 [] := hM5.pure hu7
  subst hr7
  refine stp (v := .int .i64 (cmp a c)) (o_mv rfl) ?_
  refine h6 _ _ ?_
  clear h6
  refine seq fun K8 h8 => ?_
  refine seq fun K9 h9 => ?_
  refine stp (v := .int .i64 (cmp a b)) (o_mv rfl) ?_
  refine stp (v := .string (str b)) (o_mv rfl) ?_
  refine stp (v := .string (str a)) (o_mv rfl) ?_
  refine m_call (Compare_ok b a w7 (by first | omega | (simp; done) | (simp; omega)) (by first | omega | (simp; done) | (simp; omega))) rfl fun v10 w10 ⟨hr10, hu10⟩ => ?_
  have hM10 : Mem w [] w10 [] := hM7.pure hu10
  subst hr10
  refine stp (v := .int .i64 (0 - (cmp b a))) (o_neg rfl (v_same (by simp only [inK]; omega))) ?_
  refine stp (v := .bool (decide (¬ (cmp a b) = (0 - (cmp b a))))) (o_bin rfl rfl v_neq) ?_
  refine stp (v := .bool (decide (¬ (cmp a b) = (0 - (cmp b a))))) (o_mv rfl) ?_
  refine splitP rfl (fun c11 => absurd c11 (by omega)) (fun c11 => ?_)
  refine stg rfl (v := .int .i64 (cmp a b)) (o_mv rfl) ?_
  refine stg rfl (v := .bool (decide ((cmp a b) = 0))) (o_bin rfl rfl rfl) ?_
  refine stg rfl (v := .string (str a)) (o_mv rfl) ?_
  refine stg rfl (v := .string (str b)) (o_mv rfl) ?_
  refine stg rfl (v := .bool (decide (a = b))) (o_seq rfl rfl rfl) ?_
  refine stg rfl (v := .bool (decide (¬ (decide ((cmp a b) = 0)) = (decide (a = b) : Bool)))) (o_beq rfl rfl (by simp)) ?_
  refine stp (v := .bool (decide (¬ (decide ((cmp a b) = 0)) = (decide (a = b) : Bool)))) (o_pickF rfl rfl) ?_
  refine stp (v := .bool (decide (¬ (decide ((cmp a b) = 0)) = (decide (a = b) : Bool)))) (o_mv rfl) ?_
  refine splitP rfl (fun c12 => absurd c12 (by simp [z])) (fun c12 => ?_)
  refine stg rfl (v := .int .i64 (cmp a b)) (o_mv rfl) ?_
  refine stg rfl (v := .bool (decide ((cmp a b) < (-1)))) (o_bin rfl rfl rfl) ?_
  refine stp (v := .bool (decide ((cmp a b) < (-1)))) (o_pickF rfl rfl) ?_
  refine stp (v := .bool (decide ((cmp a b) < (-1)))) (o_mv rfl) ?_
  refine splitP rfl (fun c13 => absurd c13 (by omega)) (fun c13 => ?_)
  refine stg rfl (v := .int .i64 (cmp a b)) (o_mv rfl) ?_
  refine stg rfl (v := .bool (decide (1 < (cmp a b)))) (o_bin rfl rfl rfl) ?_
  refine stp (v := .bool (decide (1 < (cmp a b)))) (o_pickF rfl rfl) ?_
  refine h9 _ _ ?_
  clear h9
  refine cndP rfl (fun c14 => absurd c14 (by omega)) (fun c14 => ?_)
  refine h8 _ _ ?_
  clear h8
  refine seqc (fun f w' => f 0 = .string (str a) ∧ f 1 = .string (str b) ∧ f 2 = .string (str c) ∧ f 7 = .int .i64 (cmp a b) ∧ Mem w [] w' []) ?_ ?_
  · intro K15 h15
    refine seq fun K17 h17 => ?_
    refine stp (v := .int .i64 (cmp a b)) (o_mv rfl) ?_
    refine stp (v := .bool (decide ((cmp a b) ≤ 0))) (o_bin rfl rfl rfl) ?_
    refine stp (v := .bool (decide ((cmp a b) ≤ 0))) (o_mv rfl) ?_
    refine splitP rfl (fun c18 => ?_) (fun c18 => ?_)
    ·
      refine stg rfl (v := .int .i64 (cmp b c)) (o_mv rfl) ?_
      refine stg rfl (v := .bool (decide ((cmp b c) ≤ 0))) (o_bin rfl rfl rfl) ?_
      refine stp (v := .bool (decide ((cmp b c) ≤ 0))) (o_pickT rfl rfl) ?_
      refine stp (v := .bool (decide ((cmp b c) ≤ 0))) (o_mv rfl) ?_
      refine splitP rfl (fun c19 => ?_) (fun c19 => ?_)
      ·
        refine stg rfl (v := .int .i64 (cmp a c)) (o_mv rfl) ?_
        refine stg rfl (v := .bool (decide (0 < (cmp a c)))) (o_bin rfl rfl rfl) ?_
        refine stp (v := .bool (decide (0 < (cmp a c)))) (o_pickT rfl rfl) ?_
        refine stp (v := .bool (decide (0 < (cmp a c)))) (o_mv rfl) ?_
        refine splitP rfl (fun c20 => absurd c20 (by omega)) (fun c20 => ?_)
        refine stg rfl (v := .int .i64 (cmp a b)) (o_mv rfl) ?_
        refine stg rfl (v := .bool (decide (0 ≤ (cmp a b)))) (o_bin rfl rfl rfl) ?_
        refine stg rfl (v := .bool (decide (0 ≤ (cmp a b)))) (o_mv rfl) ?_
        refine splitP rfl (fun c21 => ?_) (fun c21 => ?_)
        ·
          refine stg rfl (v := .int .i64 (cmp b c)) (o_mv rfl) ?_
          refine stg rfl (v := .bool (decide (0 ≤ (cmp b c)))) (o_bin rfl rfl rfl) ?_
          refine stg rfl (v := .bool (decide (0 ≤ (cmp b c)))) (o_pickT rfl rfl) ?_
          refine stg rfl (v := .bool (decide (0 ≤ (cmp b c)))) (o_mv rfl) ?_
          refine splitP rfl (fun c22 => ?_) (fun c22 => ?_)
          ·
            refine stg rfl (v := .int .i64 (cmp a c)) (o_mv rfl) ?_
            refine stg rfl (v := .bool (decide ((cmp a c) < 0))) (o_bin rfl rfl rfl) ?_
            refine stg rfl (v := .bool (decide ((cmp a c) < 0))) (o_pickT rfl rfl) ?_
            refine stp (v := .bool (decide ((cmp a c) < 0))) (o_pickF rfl rfl) ?_
            refine stp (v := .bool (decide ((cmp a c) < 0))) (o_mv rfl) ?_
            refine splitP rfl (fun c23 => absurd c23 (by omega)) (fun c23 => ?_)
            refine stg rfl (v := .int .i64 (cmp a b)) (o_mv rfl) ?_
            refine stg rfl (v := .bool (decide ((cmp a b) < 0))) (o_bin rfl rfl rfl) ?_
            refine stg rfl (v := .bool (decide ((cmp a b) < 0))) (o_mv rfl) ?_
            refine splitP rfl (fun c24 => ?_) (fun c24 => ?_)
            ·
              refine stg rfl (v := .int .i64 (cmp b c)) (o_mv rfl) ?_
              refine stg rfl (v := .bool (decide ((cmp b c) ≤ 0))) (o_bin rfl rfl rfl) ?_
              refine stg rfl (v := .bool (decide ((cmp b c) ≤ 0))) (o_pickT rfl rfl) ?_
              refine stg rfl (v := .bool (decide ((cmp b c) ≤ 0))) (o_mv rfl) ?_
              refine splitP rfl (fun c25 => ?_) (fun c25 => ?_)
              ·
                refine stg rfl (v := .int .i64 (cmp a c)) (o_mv rfl) ?_
                refine stg rfl (v := .bool (decide (0 ≤ (cmp a c)))) (o_bin rfl rfl rfl) ?_
                refine stg rfl (v := .bool (decide (0 ≤ (cmp a c)))) (o_pickT rfl rfl) ?_
                refine stp (v := .bool (decide (0 ≤ (cmp a c)))) (o_pickF rfl rfl) ?_
                refine h17 _ _ ?_
                clear h17
                refine cndP rfl (fun c26 => absurd c26 (by omega)) (fun c26 => ?_)
                refine h15 _ _ ⟨by first | rfl | simp [upd], by first | rfl | simp [upd], by first | rfl | simp [upd], by first | rfl | exact v_int (by omega) | exact v_int (by simp) | exact v_int (by simp; omega), hM10⟩
              ·
                refine gno rfl (by simp) ?_
                refine gno rfl (by simp) ?_
                refine stg rfl (v := .bool false) (o_pickF rfl rfl) ?_
                refine stp (v := .bool false) (o_pickF rfl rfl) ?_
                refine h17 _ _ ?_
                clear h17
                refine cndF rfl ?_
                refine h15 _ _ ⟨by first | rfl | simp [upd], by first | rfl | simp [upd], by first | rfl | simp [upd], by first | rfl | exact v_int (by omega) | exact v_int (by simp) | exact v_int (by simp; omega), hM10⟩
            ·
              refine gno rfl (by simp) ?_
              refine gno rfl (by simp) ?_
              refine stg rfl (v := .bool false) (o_pickF rfl rfl) ?_
              refine stg rfl (v := .bool false) (o_mv rfl) ?_
              refine splitF rfl ?_
              refine gno rfl (by simp) ?_
              refine gno rfl (by simp) ?_
              refine stg rfl (v := .bool false) (o_pickF rfl rfl) ?_
              refine stp (v := .bool false) (o_pickF rfl rfl) ?_
              refine h17 _ _ ?_
              clear h17
              refine cndF rfl ?_
              refine h15 _ _ ⟨by first | rfl | simp [upd], by first | rfl | simp [upd], by first | rfl | simp [upd], by first | rfl | exact v_int (by omega) | exact v_int (by simp) | exact v_int (by simp; omega), hM10⟩
          ·
            refine gno rfl (by simp) ?_
            refine gno rfl (by simp) ?_
            refine stg rfl (v := .bool false) (o_pickF rfl rfl) ?_
            refine stp (v := .bool false) (o_pickF rfl rfl) ?_
            refine stp (v := .bool false) (o_mv rfl) ?_
            refine splitF rfl ?_
            refine stg rfl (v := .int .i64 (cmp a b)) (o_mv rfl) ?_
            refine stg rfl (v := .bool (decide ((cmp a b) < 0))) (o_bin rfl rfl rfl) ?_
            refine stg rfl (v := .bool (decide ((cmp a b) < 0))) (o_mv rfl) ?_
            refine splitP rfl (fun c27 => ?_) (fun c27 => ?_)
            ·
              refine stg rfl (v := .int .i64 (cmp b c)) (o_mv rfl) ?_
              refine stg rfl (v := .bool (decide ((cmp b c) ≤ 0))) (o_bin rfl rfl rfl) ?_
              refine stg rfl (v := .bool (decide ((cmp b c) ≤ 0))) (o_pickT rfl rfl) ?_
              refine stg rfl (v := .bool (decide ((cmp b c) ≤ 0))) (o_mv rfl) ?_
              refine splitP rfl (fun c28 => ?_) (fun c28 => ?_)
              ·
                refine stg rfl (v := .int .i64 (cmp a c)) (o_mv rfl) ?_
                refine stg rfl (v := .bool (decide (0 ≤ (cmp a c)))) (o_bin rfl rfl rfl) ?_
                refine stg rfl (v := .bool (decide (0 ≤ (cmp a c)))) (o_pickT rfl rfl) ?_
                refine stp (v := .bool (decide (0 ≤ (cmp a c)))) (o_pickF rfl rfl) ?_
                refine h17 _ _ ?_
                clear h17
                refine cndP rfl (fun c29 => absurd c29 (by omega)) (fun c29 => ?_)
                refine h15 _ _ ⟨by first | rfl | simp [upd], by first | rfl | simp [upd], by first | rfl | simp [upd], by first | rfl | exact v_int (by omega) | exact v_int (by simp) | exact v_int (by simp; omega), hM10⟩
              ·
                refine gno rfl (by simp) ?_
                refine gno rfl (by simp) ?_
                refine stg rfl (v := .bool false) (o_pickF rfl rfl) ?_
                refine stp (v := .bool false) (o_pickF rfl rfl) ?_
                refine h17 _ _ ?_
                clear h17
                refine cndF rfl ?_
                refine h15 _ _ ⟨by first | rfl | simp [upd], by first | rfl | simp [upd], by first | rfl | simp [upd], by first | rfl | exact v_int (by omega) | exact v_int (by simp) | exact v_int (by simp; omega), hM10⟩
            ·
              refine gno rfl (by simp) ?_
              refine gno rfl (by simp) ?_
              refine stg rfl (v := .bool false) (o_pickF rfl rfl) ?_
              refine stg rfl (v := .bool false) (o_mv rfl) ?_
              refine splitF rfl ?_
              refine gno rfl (by simp) ?_
              refine gno rfl (by simp) ?_
              refine stg rfl (v := .bool false) (o_pickF rfl rfl) ?_
              refine stp (v := .bool false) (o_pickF rfl rfl) ?_
              refine h17 _ _ ?_
              clear h17
              refine cndF rfl ?_
              refine h15 _ _ ⟨by first | rfl | simp [upd], by first | rfl | simp [upd], by first | rfl | simp [upd], by first | rfl | exact v_int (by omega) | exact v_int (by simp) | exact v_int (by simp; omega), hM10⟩
        ·
          refine gno rfl (by simp) ?_
          refine gno rfl (by simp) ?_
          refine stg rfl (v := .bool false) (o_pickF rfl rfl) ?_
          refine stg rfl (v := .bool false) (o_mv rfl) ?_
          refine splitF rfl ?_
          refine gno rfl (by simp) ?_
          refine gno rfl (by simp) ?_
          refine stg rfl (v := .bool false) (o_pickF rfl rfl) ?_
          refine stp (v := .bool false) (o_pickF rfl rfl) ?_
          refine stp (v := .bool false) (o_mv rfl) ?_
          refine splitF rfl ?_
          refine stg rfl (v := .int .i64 (cmp a b)) (o_mv rfl) ?_
          refine stg rfl (v := .bool (decide ((cmp a b) < 0))) (o_bin rfl rfl rfl) ?_
          refine stg rfl (v := .bool (decide ((cmp a b) < 0))) (o_mv rfl) ?_
          refine splitP rfl (fun c30 => ?_) (fun c30 => ?_)
          ·
            refine stg rfl (v := .int .i64 (cmp b c)) (o_mv rfl) ?_
            refine stg rfl (v := .bool (decide ((cmp b c) ≤ 0))) (o_bin rfl rfl rfl) ?_
            refine stg rfl (v := .bool (decide ((cmp b c) ≤ 0))) (o_pickT rfl rfl) ?_
            refine stg rfl (v := .bool (decide ((cmp b c) ≤ 0))) (o_mv rfl) ?_
            refine splitP rfl (fun c31 => ?_) (fun c31 => ?_)
            ·
              refine stg rfl (v := .int .i64 (cmp a c)) (o_mv rfl) ?_
              refine stg rfl (v := .bool (decide (0 ≤ (cmp a c)))) (o_bin rfl rfl rfl) ?_
              refine stg rfl (v := .bool (decide (0 ≤ (cmp a c)))) (o_pickT rfl rfl) ?_
              refine stp (v := .bool (decide (0 ≤ (cmp a c)))) (o_pickF rfl rfl) ?_
              refine h17 _ _ ?_
              clear h17
              refine cndP rfl (fun c32 => absurd c32 (by omega)) (fun c32 => ?_)
              refine h15 _ _ ⟨by first | rfl | simp [upd], by first | rfl | simp [upd], by first | rfl | simp [upd], by first | rfl | exact v_int (by omega) | exact v_int (by simp) | exact v_int (by simp; omega), hM10⟩
            ·
              refine gno rfl (by simp) ?_
              refine gno rfl (by simp) ?_
              refine stg rfl (v := .bool false) (o_pickF rfl rfl) ?_
              refine stp (v := .bool false) (o_pickF rfl rfl) ?_
              refine h17 _ _ ?_
              clear h17
              refine cndF rfl ?_
              refine h15 _ _ ⟨by first | rfl | simp [upd], by first | rfl | simp [upd], by first | rfl | simp [upd], by first | rfl | exact v_int (by omega) | exact v_int (by simp) | exact v_int (by simp; omega), hM10⟩
          ·
            refine gno rfl (by simp) ?_
            refine gno rfl (by simp) ?_
            refine stg rfl (v := .bool false) (o_pickF rfl rfl) ?_
            refine stg rfl (v := .bool false) (o_mv rfl) ?_
            refine splitF rfl ?_
            refine gno rfl (by simp) ?_
            refine gno rfl (by simp) ?_
            refine stg rfl (v := .bool false) (o_pickF rfl rfl) ?_
            refine stp (v := .bool false) (o_pickF rfl rfl) ?_
            refine h17 _ _ ?_
            clear h17
            refine cndF rfl ?_
            refine h15 _ _ ⟨by first | rfl | simp [upd], by first | rfl | simp [upd], by first | rfl | simp [upd], by first | rfl | exact v_int (by omega) | exact v_int (by simp) | exact v_int (by simp; omega), hM10⟩
      ·
        refine gno rfl (by simp) ?_
        refine gno rfl (by simp) ?_
        refine stp (v := .bool false) (o_pickF rfl rfl) ?_
        refine stp (v := .bool false) (o_mv rfl) ?_
        refine splitF rfl ?_
        refine stg rfl (v := .int .i64 (cmp a b)) (o_mv rfl) ?_
        refine stg rfl (v := .bool (decide (0 ≤ (cmp a b)))) (o_bin rfl rfl rfl) ?_
        refine stg rfl (v := .bool (decide (0 ≤ (cmp a b)))) (o_mv rfl) ?_
        refine splitP rfl (fun c33 => ?_) (fun c33 => ?_)
        ·
          refine stg rfl (v := .int .i64 (cmp b c)) (o_mv rfl) ?_
          refine stg rfl (v := .bool (decide (0 ≤ (cmp b c)))) (o_bin rfl rfl rfl) ?_
          refine stg rfl (v := .bool (decide (0 ≤ (cmp b c)))) (o_pickT rfl rfl) ?_
          refine stg rfl (v := .bool (decide (0 ≤ (cmp b c)))) (o_mv rfl) ?_
          refine splitP rfl (fun c34 => ?_) (fun c34 => ?_)
          ·
            refine stg rfl (v := .int .i64 (cmp a c)) (o_mv rfl) ?_
            refine stg rfl (v := .bool (decide ((cmp a c) < 0))) (o_bin rfl rfl rfl) ?_
            refine stg rfl (v := .bool (decide ((cmp a c) < 0))) (o_pickT rfl rfl) ?_
            refine stp (v := .bool (decide ((cmp a c) < 0))) (o_pickF rfl rfl) ?_
            refine stp (v := .bool (decide ((cmp a c) < 0))) (o_mv rfl) ?_
            refine splitP rfl (fun c35 => absurd c35 (by omega)) (fun c35 => ?_)
            refine stg rfl (v := .int .i64 (cmp a b)) (o_mv rfl) ?_
            refine stg rfl (v := .bool (decide ((cmp a b) < 0))) (o_bin rfl rfl rfl) ?_
            refine stg rfl (v := .bool (decide ((cmp a b) < 0))) (o_mv rfl) ?_
            refine splitP rfl (fun c36 => ?_) (fun c36 => ?_)
            ·
              refine stg rfl (v := .int .i64 (cmp b c)) (o_mv rfl) ?_
              refine stg rfl (v := .bool (decide ((cmp b c) ≤ 0))) (o_bin rfl rfl rfl) ?_
              refine stg rfl (v := .bool (decide ((cmp b c) ≤ 0))) (o_pickT rfl rfl) ?_
              refine stg rfl (v := .bool (decide ((cmp b c) ≤ 0))) (o_mv rfl) ?_
              refine splitP rfl (fun c37 => ?_) (fun c37 => ?_)
              ·
                refine stg rfl (v := .int .i64 (cmp a c)) (o_mv rfl) ?_
                refine stg rfl (v := .bool (decide (0 ≤ (cmp a c)))) (o_bin rfl rfl rfl) ?_
                refine stg rfl (v := .bool (decide (0 ≤ (cmp a c)))) (o_pickT rfl rfl) ?_
                refine stp (v := .bool (decide (0 ≤ (cmp a c)))) (o_pickF rfl rfl) ?_
                refine h17 _ _ ?_
                clear h17
                refine cndP rfl (fun c38 => absurd c38 (by omega)) (fun c38 => ?_)
                refine h15 _ _ ⟨by first | rfl | simp [upd], by first | rfl | simp [upd], by first | rfl | simp [upd], by first | rfl | exact v_int (by omega) | exact v_int (by simp) | exact v_int (by simp; omega), hM10⟩
              ·
                refine gno rfl (by simp) ?_
                refine gno rfl (by simp) ?_
                refine stg rfl (v := .bool false) (o_pickF rfl rfl) ?_
                refine stp (v := .bool false) (o_pickF rfl rfl) ?_
                refine h17 _ _ ?_
                clear h17
                refine cndF rfl ?_
                refine h15 _ _ ⟨by first | rfl | simp [upd], by first | rfl | simp [upd], by first | rfl | simp [upd], by first | rfl | exact v_int (by omega) | exact v_int (by simp) | exact v_int (by simp; omega), hM10⟩
            ·
              refine gno rfl (by simp) ?_
              refine gno rfl (by simp) ?_
              refine stg rfl (v := .bool false) (o_pickF rfl rfl) ?_
              refine stg rfl (v := .bool false) (o_mv rfl) ?_
              refine splitF rfl ?_
              refine gno rfl (by simp) ?_
              refine gno rfl (by simp) ?_
              refine stg rfl (v := .bool false) (o_pickF rfl rfl) ?_
              refine stp (v := .bool false) (o_pickF rfl rfl) ?_
              refine h17 _ _ ?_
              clear h17
              refine cndF rfl ?_
              refine h15 _ _ ⟨by first | rfl | simp [upd], by first | rfl | simp [upd], by first | rfl | simp [upd], by first | rfl | exact v_int (by omega) | exact v_int (by simp) | exact v_int (by simp; omega), hM10⟩
          ·
            refine gno rfl (by simp) ?_
            refine gno rfl (by simp) ?_
            refine stg rfl (v := .bool false) (o_pickF rfl rfl) ?_
            refine stp (v := .bool false) (o_pickF rfl rfl) ?_
            refine stp (v := .bool false) (o_mv rfl) ?_
            refine splitF rfl ?_
            refine stg rfl (v := .int .i64 (cmp a b)) (o_mv rfl) ?_
            refine stg rfl (v := .bool (decide ((cmp a b) < 0))) (o_bin rfl rfl rfl) ?_
            refine stg rfl (v := .bool (decide ((cmp a b) < 0))) (o_mv rfl) ?_
            refine splitP rfl (fun c39 => ?_) (fun c39 => ?_)
            ·
              refine stg rfl (v := .int .i64 (cmp b c)) (o_mv rfl) ?_
              refine stg rfl (v := .bool (decide ((cmp b c) ≤ 0))) (o_bin rfl rfl rfl) ?_
              refine stg rfl (v := .bool (decide ((cmp b c) ≤ 0))) (o_pickT rfl rfl) ?_
              refine stg rfl (v := .bool (decide ((cmp b c) ≤ 0))) (o_mv rfl) ?_
              refine splitP rfl (fun c40 => ?_) (fun c40 => ?_)
              ·
                refine stg rfl (v := .int .i64 (cmp a c)) (o_mv rfl) ?_
                refine stg rfl (v := .bool (decide (0 ≤ (cmp a c)))) (o_bin rfl rfl rfl) ?_
                refine stg rfl (v := .bool (decide (0 ≤ (cmp a c)))) (o_pickT rfl rfl) ?_
                refine stp (v := .bool (decide (0 ≤ (cmp a c)))) (o_pickF rfl rfl) ?_
                refine h17 _ _ ?_
                clear h17
                refine cndP rfl (fun c41 => absurd c41 (by omega)) (fun c41 => ?_)
                refine h15 _ _ ⟨by first | rfl | simp [upd], by first | rfl | simp [upd], by first | rfl | simp [upd], by first | rfl | exact v_int (by omega) | exact v_int (by simp) | exact v_int (by simp; omega), hM10⟩
              ·
                refine gno rfl (by simp) ?_
                refine gno rfl (by simp) ?_
                refine stg rfl (v := .bool false) (o_pickF rfl rfl) ?_
                refine stp (v := .bool false) (o_pickF rfl rfl) ?_
                refine h17 _ _ ?_
                clear h17
                refine cndF rfl ?_
                refine h15 _ _ ⟨by first | rfl | simp [upd], by first | rfl | simp [upd], by first | rfl | simp [upd], by first | rfl | exact v_int (by omega) | exact v_int (by simp) | exact v_int (by simp; omega), hM10⟩
            ·
              refine gno rfl (by simp) ?_
              refine gno rfl (by simp) ?_
              refine stg rfl (v := .bool false) (o_pickF rfl rfl) ?_
              refine stg rfl (v := .bool false) (o_mv rfl) ?_
              refine splitF rfl ?_
              refine gno rfl (by simp) ?_
              refine gno rfl (by simp) ?_
              refine stg rfl (v := .bool false) (o_pickF rfl rfl) ?_
              refine stp (v := .bool false) (o_pickF rfl rfl) ?_
              refine h17 _ _ ?_
              clear h17
              refine cndF rfl ?_
              refine h15 _ _ ⟨by first | rfl | simp [upd], by first | rfl | simp [upd], by first | rfl | simp [upd], by first | rfl | exact v_int (by omega) | exact v_int (by simp) | exact v_int (by simp; omega), hM10⟩
        ·
          refine gno rfl (by simp) ?_
          refine gno rfl (by simp) ?_
          refine stg rfl (v := .bool false) (o_pickF rfl rfl) ?_
          refine stg rfl (v := .bool false) (o_mv rfl) ?_
          refine splitF rfl ?_
          refine gno rfl (by simp) ?_
          refine gno rfl (by simp) ?_
          refine stg rfl (v := .bool false) (o_pickF rfl rfl) ?_
          refine stp (v := .bool false) (o_pickF rfl rfl) ?_
          refine stp (v := .bool false) (o_mv rfl) ?_
          refine splitF rfl ?_
          refine stg rfl (v := .int .i64 (cmp a b)) (o_mv rfl) ?_
          refine stg rfl (v := .bool (decide ((cmp a b) < 0))) (o_bin rfl rfl rfl) ?_
          refine stg rfl (v := .bool (decide ((cmp a b) < 0))) (o_mv rfl) ?_
          refine splitP rfl (fun c42 => ?_) (fun c42 => ?_)
          ·
            refine stg rfl (v := .int .i64 (cmp b c)) (o_mv rfl) ?_
            refine stg rfl (v := .bool (decide ((cmp b c) ≤ 0))) (o_bin rfl rfl rfl) ?_
            refine stg rfl (v := .bool (decide ((cmp b c) ≤ 0))) (o_pickT rfl rfl) ?_
            refine stg rfl (v := .bool (decide ((cmp b c) ≤ 0))) (o_mv rfl) ?_
            refine splitP rfl (fun c43 => ?_) (fun c43 => ?_)
            ·
              refine stg rfl (v := .int .i64 (cmp a c)) (o_mv rfl) ?_
              refine stg rfl (v := .bool (decide (0 ≤ (cmp a c)))) (o_bin rfl rfl rfl) ?_
              refine stg rfl (v := .bool (decide (0 ≤ (cmp a c)))) (o_pickT rfl rfl) ?_
              refine stp (v := .bool (decide (0 ≤ (cmp a c)))) (o_pickF rfl rfl) ?_
              refine h17 _ _ ?_
              clear h17
              refine cndP rfl (fun c44 => absurd c44 (by omega)) (fun c44 => ?_)
              refine h15 _ _ ⟨by first | rfl | simp [upd], by first | rfl | simp [upd], by first | rfl | simp [upd], by first | rfl | exact v_int (by omega) | exact v_int (by simp) | exact v_int (by simp; omega), hM10⟩
            ·
              refine gno rfl (by simp) ?_
              refine gno rfl (by simp) ?_
              refine stg rfl (v := .bool false) (o_pickF rfl rfl) ?_
              refine stp (v := .bool false) (o_pickF rfl rfl) ?_
              refine h17 _ _ ?_
              clear h17
              refine cndF rfl ?_
              refine h15 _ _ ⟨by first | rfl | simp [upd], by first | rfl | simp [upd], by first | rfl | simp [upd], by first | rfl | exact v_int (by omega) | exact v_int (by simp) | exact v_int (by simp; omega), hM10⟩
          ·
            refine gno rfl (by simp) ?_
            refine gno rfl (by simp) ?_
            refine stg rfl (v := .bool false) (o_pickF rfl rfl) ?_
            refine stg rfl (v := .bool false) (o_mv rfl) ?_
            refine splitF rfl ?_
            refine gno rfl (by simp) ?_
            refine gno rfl (by simp) ?_
            refine stg rfl (v := .bool false) (o_pickF rfl rfl) ?_
            refine stp (v := .bool false) (o_pickF rfl rfl) ?_
            refine h17 _ _ ?_
            clear h17
            refine cndF rfl ?_
            refine h15 _ _ ⟨by first | rfl | simp [upd], by first | rfl | simp [upd], by first | rfl | simp [upd], by first | rfl | exact v_int (by omega) | exact v_int (by simp) | exact v_int (by simp; omega), hM10⟩
    ·
      refine gno rfl (by simp) ?_
      refine gno rfl (by simp) ?_
      refine stp (v := .bool false) (o_pickF rfl rfl) ?_
      refine stp (v := .bool false) (o_mv rfl) ?_
      refine splitF rfl ?_
      refine gno rfl (by simp) ?_
      refine gno rfl (by simp) ?_
      refine stp (v := .bool false) (o_pickF rfl rfl) ?_
      refine stp (v := .bool false) (o_mv rfl) ?_
      refine splitF rfl ?_
      refine stg rfl (v := .int .i64 (cmp a b)) (o_mv rfl) ?_
      refine stg rfl (v := .bool (decide (0 ≤ (cmp a b)))) (o_bin rfl rfl rfl) ?_
      refine stg rfl (v := .bool (decide (0 ≤ (cmp a b)))) (o_mv rfl) ?_
      refine splitP rfl (fun c45 => ?_) (fun c45 => ?_)
      ·
        refine stg rfl (v := .int .i64 (cmp b c)) (o_mv rfl) ?_
        refine stg rfl (v := .bool (decide (0 ≤ (cmp b c)))) (o_bin rfl rfl rfl) ?_
        refine stg rfl (v := .bool (decide (0 ≤ (cmp b c)))) (o_pickT rfl rfl) ?_
        refine stg rfl (v := .bool (decide (0 ≤ (cmp b c)))) (o_mv rfl) ?_
        refine splitP rfl (fun c46 => ?_) (fun c46 => ?_)
        ·
          refine stg rfl (v := .int .i64 (cmp a c)) (o_mv rfl) ?_
          refine stg rfl (v := .bool (decide ((cmp a c) < 0))) (o_bin rfl rfl rfl) ?_
          refine stg rfl (v := .bool (decide ((cmp a c) < 0))) (o_pickT rfl rfl) ?_
          refine stp (v := .bool (decide ((cmp a c) < 0))) (o_pickF rfl rfl) ?_
          refine stp (v := .bool (decide ((cmp a c) < 0))) (o_mv rfl) ?_
          refine splitP rfl (fun c47 => absurd c47 (by omega)) (fun c47 => ?_)
          refine stg rfl (v := .int .i64 (cmp a b)) (o_mv rfl) ?_
          refine stg rfl (v := .bool (decide ((cmp a b) < 0))) (o_bin rfl rfl rfl) ?_
          refine stg rfl (v := .bool (decide ((cmp a b) < 0))) (o_mv rfl) ?_
          refine splitP rfl (fun c48 => ?_) (fun c48 => ?_)
          ·
            refine stg rfl (v := .int .i64 (cmp b c)) (o_mv rfl) ?_
            refine stg rfl (v := .bool (decide ((cmp b c) ≤ 0))) (o_bin rfl rfl rfl) ?_
            refine stg rfl (v := .bool (decide ((cmp b c) ≤ 0))) (o_pickT rfl rfl) ?_
            refine stg rfl (v := .bool (decide ((cmp b c) ≤ 0))) (o_mv rfl) ?_
            refine splitP rfl (fun c49 => ?_) (fun c49 => ?_)
            ·
              refine stg rfl (v := .int .i64 (cmp a c)) (o_mv rfl) ?_
              refine stg rfl (v := .bool (decide (0 ≤ (cmp a c)))) (o_bin rfl rfl rfl) ?_
              refine stg rfl (v := .bool (decide (0 ≤ (cmp a c)))) (o_pickT rfl rfl) ?_
              refine stp (v := .bool (decide (0 ≤ (cmp a c)))) (o_pickF rfl rfl) ?_
              refine h17 _ _ ?_
              clear h17
              refine cndP rfl (fun c50 => absurd c50 (by omega)) (fun c50 => ?_)
              refine h15 _ _ ⟨by first | rfl | simp [upd], by first | rfl | simp [upd], by first | rfl | simp [upd], by first | rfl | exact v_int (by omega) | exact v_int (by simp) | exact v_int (by simp; omega), hM10⟩
            ·
              refine gno rfl (by simp) ?_
              refine gno rfl (by simp) ?_
              refine stg rfl (v := .bool false) (o_pickF rfl rfl) ?_
              refine stp (v := .bool false) (o_pickF rfl rfl) ?_
              refine h17 _ _ ?_
              clear h17
              refine cndF rfl ?_
              refine h15 _ _ ⟨by first | rfl | simp [upd], by first | rfl | simp [upd], by first | rfl | simp [upd], by first | rfl | exact v_int (by omega) | exact v_int (by simp) | exact v_int (by simp; omega), hM10⟩
          ·
            refine gno rfl (by simp) ?_
            refine gno rfl (by simp) ?_
            refine stg rfl (v := .bool false) (o_pickF rfl rfl) ?_
            refine stg rfl (v := .bool false) (o_mv rfl) ?_
            refine splitF rfl ?_
            refine gno rfl (by simp) ?_
            refine gno rfl (by simp) ?_
            refine stg rfl (v := .bool false) (o_pickF rfl rfl) ?_
            refine stp (v := .bool false) (o_pickF rfl rfl) ?_
            refine h17 _ _ ?_
            clear h17
            refine cndF rfl ?_
            refine h15 _ _ ⟨by first | rfl | simp [upd], by first | rfl | simp [upd], by first | rfl | simp [upd], by first | rfl | exact v_int (by omega) | exact v_int (by simp) | exact v_int (by simp; omega), hM10⟩
        ·
          refine gno rfl (by simp) ?_
          refine gno rfl (by simp) ?_
          refine stg rfl (v := .bool false) (o_pickF rfl rfl) ?_
          refine stp (v := .bool false) (o_pickF rfl rfl) ?_
          refine stp (v := .bool false) (o_mv rfl) ?_
          refine splitF rfl ?_
          refine stg rfl (v := .int .i64 (cmp a b)) (o_mv rfl) ?_
          refine stg rfl (v := .bool (decide ((cmp a b) < 0))) (o_bin rfl rfl rfl) ?_
          refine stg rfl (v := .bool (decide ((cmp a b) < 0))) (o_mv rfl) ?_
          refine splitP rfl (fun c51 => ?_) (fun c51 => ?_)
          ·
            refine stg rfl (v := .int .i64 (cmp b c)) (o_mv rfl) ?_
            refine stg rfl (v := .bool (decide ((cmp b c) ≤ 0))) (o_bin rfl rfl rfl) ?_
            refine stg rfl (v := .bool (decide ((cmp b c) ≤ 0))) (o_pickT rfl rfl) ?_
            refine stg rfl (v := .bool (decide ((cmp b c) ≤ 0))) (o_mv rfl) ?_
            refine splitP rfl (fun c52 => ?_) (fun c52 => ?_)
            ·
              refine stg rfl (v := .int .i64 (cmp a c)) (o_mv rfl) ?_
              refine stg rfl (v := .bool (decide (0 ≤ (cmp a c)))) (o_bin rfl rfl rfl) ?_
              refine stg rfl (v := .bool (decide (0 ≤ (cmp a c)))) (o_pickT rfl rfl) ?_
              refine stp (v := .bool (decide (0 ≤ (cmp a c)))) (o_pickF rfl rfl) ?_
              refine h17 _ _ ?_
              clear h17
              refine cndP rfl (fun c53 => absurd c53 (by omega)) (fun c53 => ?_)
              refine h15 _ _ ⟨by first | rfl | simp [upd], by first | rfl | simp [upd], by first | rfl | simp [upd], by first | rfl | exact v_int (by omega) | exact v_int (by simp) | exact v_int (by simp; omega), hM10⟩
            ·
              refine gno rfl (by simp) ?_
              refine gno rfl (by simp) ?_
              refine stg rfl (v := .bool false) (o_pickF rfl rfl) ?_
              refine stp (v := .bool false) (o_pickF rfl rfl) ?_
              refine h17 _ _ ?_
              clear h17
              refine cndF rfl ?_
              refine h15 _ _ ⟨by first | rfl | simp [upd], by first | rfl | simp [upd], by first | rfl | simp [upd], by first | rfl | exact v_int (by omega) | exact v_int (by simp) | exact v_int (by simp; omega), hM10⟩
          ·
            refine gno rfl (by simp) ?_
            refine gno rfl (by simp) ?_
            refine stg rfl (v := .bool false) (o_pickF rfl rfl) ?_
            refine stg rfl (v := .bool false) (o_mv rfl) ?_
            refine splitF rfl ?_
            refine gno rfl (by simp) ?_
            refine gno rfl (by simp) ?_
            refine stg rfl (v := .bool false) (o_pickF rfl rfl) ?_
            refine stp (v := .bool false) (o_pickF rfl rfl) ?_
            refine h17 _ _ ?_
            clear h17
            refine cndF rfl ?_
            refine h15 _ _ ⟨by first | rfl | simp [upd], by first | rfl | simp [upd], by first | rfl | simp [upd], by first | rfl | exact v_int (by omega) | exact v_int (by simp) | exact v_int (by simp; omega), hM10⟩
      ·
        refine gno rfl (by simp) ?_
        refine gno rfl (by simp) ?_
        refine stg rfl (v := .bool false) (o_pickF rfl rfl) ?_
        refine stg rfl (v := .bool false) (o_mv rfl) ?_
        refine splitF rfl ?_
        refine gno rfl (by simp) ?_
        refine gno rfl (by simp) ?_
        refine stg rfl (v := .bool false) (o_pickF rfl rfl) ?_
        refine stp (v := .bool false) (o_pickF rfl rfl) ?_
        refine stp (v := .bool false) (o_mv rfl) ?_
        refine splitF rfl ?_
        refine stg rfl (v := .int .i64 (cmp a b)) (o_mv rfl) ?_
        refine stg rfl (v := .bool (decide ((cmp a b) < 0))) (o_bin rfl rfl rfl) ?_
        refine stg rfl (v := .bool (decide ((cmp a b) < 0))) (o_mv rfl) ?_
        refine splitP rfl (fun c54 => ?_) (fun c54 => ?_)
        ·
          refine stg rfl (v := .int .i64 (cmp b c)) (o_mv rfl) ?_
          refine stg rfl (v := .bool (decide ((cmp b c) ≤ 0))) (o_bin rfl rfl rfl) ?_
          refine stg rfl (v := .bool (decide ((cmp b c) ≤ 0))) (o_pickT rfl rfl) ?_
          refine stg rfl (v := .bool (decide ((cmp b c) ≤ 0))) (o_mv rfl) ?_
          refine splitP rfl (fun c55 => ?_) (fun c55 => ?_)
          ·
            refine stg rfl (v := .int .i64 (cmp a c)) (o_mv rfl) ?_
            refine stg rfl (v := .bool (decide (0 ≤ (cmp a c)))) (o_bin rfl rfl rfl) ?_
            refine stg rfl (v := .bool (decide (0 ≤ (cmp a c)))) (o_pickT rfl rfl) ?_
            refine stp (v := .bool (decide (0 ≤ (cmp a c)))) (o_pickF rfl rfl) ?_
            refine h17 _ _ ?_
            clear h17
            refine cndP rfl (fun c56 => absurd c56 (by omega)) (fun c56 => ?_)
            refine h15 _ _ ⟨by first | rfl | simp [upd], by first | rfl | simp [upd], by first | rfl | simp [upd], by first | rfl | exact v_int (by omega) | exact v_int (by simp) | exact v_int (by simp; omega), hM10⟩
          ·
            refine gno rfl (by simp) ?_
            refine gno rfl (by simp) ?_
            refine stg rfl (v := .bool false) (o_pickF rfl rfl) ?_
            refine stp (v := .bool false) (o_pickF rfl rfl) ?_
            refine h17 _ _ ?_
            clear h17
            refine cndF rfl ?_
            refine h15 _ _ ⟨by first | rfl | simp [upd], by first | rfl | simp [upd], by first | rfl | simp [upd], by first | rfl | exact v_int (by omega) | exact v_int (by simp) | exact v_int (by simp; omega), hM10⟩
        ·
          refine gno rfl (by simp) ?_
          refine gno rfl (by simp) ?_
          refine stg rfl (v := .bool false) (o_pickF rfl rfl) ?_
          refine stg rfl (v := .bool false) (o_mv rfl) ?_
          refine splitF rfl ?_
          refine gno rfl (by simp) ?_
          refine gno rfl (by simp) ?_
          refine stg rfl (v := .bool false) (o_pickF rfl rfl) ?_
          refine stp (v := .bool false) (o_pickF rfl rfl) ?_
          refine h17 _ _ ?_
          clear h17
          refine cndF rfl ?_
          refine h15 _ _ ⟨by first | rfl | simp [upd], by first | rfl | simp [upd], by first | rfl | simp [upd], by first | rfl | exact v_int (by omega) | exact v_int (by simp) | exact v_int (by simp; omega), hM10⟩
  · rintro f w16 ⟨e16_0, e16_1, e16_2, e16_7, hM16⟩
    obtain ⟨frm, rfl⟩ : ∃ frm, f = (upd (upd (upd (upd frm 0 (.string (str a))) 1 (.string (str b))) 2 (.string (str c))) 7 (.int .i64 (cmp a b))) := ⟨f, by rw [upd_self e16_0, upd_self e16_1, upd_self e16_2, upd_self e16_7]⟩
    clear e16_0 e16_1 e16_2 e16_7
    refine seq fun K57 h57 => ?_
    refine stp (v := .string (str a)) (o_mv rfl) ?_
    refine stp (v := .string (str b)) (o_mv rfl) ?_
    refine m_call (Common_ok a b w16 (by first | omega | (simp; done) | (simp; omega)) (by first | omega | (simp; done) | (simp; omega))) rfl fun v58 w58 ⟨hr58, hu58⟩ => ?_
    have hM58 : Mem w [] w58 [] := hM16.pure hu58
    subst hr58
    refine stp (v := .int .i64 (common a b : Nat)) (o_mv rfl) ?_
    refine h57 _ _ ?_
    clear h57
    refine seqc (fun f w' => f 0 = .string (str a) ∧ f 1 = .string (str b) ∧ f 2 = .string (str c) ∧ f 7 = .int .i64 (cmp a b) ∧ f 10 = .int .i64 (common a b : Nat) ∧ Mem w [] w' []) ?_ ?_
    · intro K59 h59
      refine seq fun K61 h61 => ?_
      intro wd e1 e2 e3 e4
      have hd := Upd.same e1 e2 e3 e4 []
      have hM62 := hM58.pure hd
      clear e1 e2 e3 e4
      refine ⟨none, ?_⟩
      refine dq (v := .int .i64 (common a b : Nat)) (o_mv rfl) ?_
      refine dq (v := .bool (decide (((common a b : Nat) : Int) < 0))) (o_bin rfl rfl rfl) ?_
      refine dq (v := .bool (decide (((common a b : Nat) : Int) < 0))) (o_mv rfl) ?_
      refine dsplitP rfl (fun c63 => absurd c63 (by omega)) (fun c63 => ?_)
      refine dqg rfl (v := .int .i64 (common a b : Nat)) (o_mv rfl) ?_
      refine dqg rfl (v := .string (str a)) (o_mv rfl) ?_
      refine dqg rfl (v := .int .i64 (a.length : Nat)) (o_lens rfl rfl) ?_
      refine dqg rfl (v := .bool (decide (((a.length : Nat) : Int) < ((common a b : Nat) : Int)))) (o_bin rfl rfl rfl) ?_
      refine dq (v := .bool (decide (((a.length : Nat) : Int) < ((common a b : Nat) : Int)))) (o_pickF rfl rfl) ?_
      refine dq (v := .bool (decide (((a.length : Nat) : Int) < ((common a b : Nat) : Int)))) (o_mv rfl) ?_
      refine dsplitP rfl (fun c64 => absurd c64 (by omega)) (fun c64 => ?_)
      refine dqg rfl (v := .int .i64 (common a b : Nat)) (o_mv rfl) ?_
      refine dqg rfl (v := .string (str b)) (o_mv rfl) ?_
      refine dqg rfl (v := .int .i64 (b.length : Nat)) (o_lens rfl rfl) ?_
      refine dqg rfl (v := .bool (decide (((b.length : Nat) : Int) < ((common a b : Nat) : Int)))) (o_bin rfl rfl rfl) ?_
      refine dq (v := .bool (decide (((b.length : Nat) : Int) < ((common a b : Nat) : Int)))) (o_pickF rfl rfl) ?_
      refine dq (v := .bool (decide (((b.length : Nat) : Int) < ((common a b : Nat) : Int)))) (o_mv rfl) ?_
      refine dsplitP rfl (fun c65 => absurd c65 (by omega)) (fun c65 => ?_)
      refine dqg rfl (v := .string (str a)) (o_mv rfl) ?_
      refine dqg rfl (v := .int .i64 (common a b : Nat)) (o_mv rfl) ?_
      refine dqg rfl (v := .string (str ((a.take (common a b)).drop 0))) (o_slcs (a := 0) (b := common a b) rfl (by omega) ⟨_, rfl⟩ rfl rfl) ?_
      refine dqg rfl (v := .string (str b)) (o_mv rfl) ?_
      refine dqg rfl (v := .int .i64 (common a b : Nat)) (o_mv rfl) ?_
      refine dqg rfl (v := .string (str ((b.take (common a b)).drop 0))) (o_slcs (a := 0) (b := common a b) rfl (by omega) ⟨_, rfl⟩ rfl rfl) ?_
      refine dqg rfl (v := .bool (decide (¬ ((a.take (common a b)).drop 0) = ((b.take (common a b)).drop 0)))) (o_sne rfl rfl rfl) ?_
      refine dq (v := .bool (decide (¬ ((a.take (common a b)).drop 0) = ((b.take (common a b)).drop 0)))) (o_pickF rfl rfl) ?_
      refine dq (v := .bool (decide (¬ ((a.take (common a b)).drop 0) = ((b.take (common a b)).drop 0)))) (o_mv rfl) ?_
      refine dsplitP rfl (fun c66 => absurd c66 (by simp [n3])) (fun c66 => ?_)
      refine dqg rfl (v := .int .i64 (common a b : Nat)) (o_mv rfl) ?_
      refine dqg rfl (v := .string (str a)) (o_mv rfl) ?_
      refine dqg rfl (v := .int .i64 (a.length : Nat)) (o_lens rfl rfl) ?_
      refine dqg rfl (v := .bool (decide (((common a b : Nat) : Int) < (a.length : Nat)))) (o_bin rfl rfl rfl) ?_
      refine dqg rfl (v := .bool (decide (((common a b : Nat) : Int) < (a.length : Nat)))) (o_mv rfl) ?_
      refine dsplitP rfl (fun c67 => ?_) (fun c67 => ?_)
      ·
        refine dqg rfl (v := .int .i64 (common a b : Nat)) (o_mv rfl) ?_
        refine dqg rfl (v := .string (str b)) (o_mv rfl) ?_
        refine dqg rfl (v := .int .i64 (b.length : Nat)) (o_lens rfl rfl) ?_
        refine dqg rfl (v := .bool (decide (((common a b : Nat) : Int) < (b.length : Nat)))) (o_bin rfl rfl rfl) ?_
        refine dqg rfl (v := .bool (decide (((common a b : Nat) : Int) < (b.length : Nat)))) (o_pickT rfl rfl) ?_
        refine dqg rfl (v := .bool (decide (((common a b : Nat) : Int) < (b.length : Nat)))) (o_mv rfl) ?_
        refine dsplitP rfl (fun c68 => ?_) (fun c68 => ?_)
        ·
          refine dqg rfl (v := .string (str a)) (o_mv rfl) ?_
          refine dqg rfl (v := .int .i64 (common a b : Nat)) (o_mv rfl) ?_
          refine dqg rfl (v := byteV (a.getD (common a b) 0)) (o_idxs rfl rfl (by omega) rfl) ?_
          refine dqg rfl (v := .string (str b)) (o_mv rfl) ?_
          refine dqg rfl (v := .int .i64 (common a b : Nat)) (o_mv rfl) ?_
          refine dqg rfl (v := byteV (b.getD (common a b) 0)) (o_idxs rfl rfl (by omega) rfl) ?_
          refine dqg rfl (v := .bool (decide (((a.getD (common a b) 0).toNat : Int) = ((b.getD (common a b) 0).toNat : Int)))) (o_bin rfl rfl rfl) ?_
          refine dqg rfl (v := .bool (decide (((a.getD (common a b) 0).toNat : Int) = ((b.getD (common a b) 0).toNat : Int)))) (o_pickT rfl rfl) ?_
          refine dq (v := .bool (decide (((a.getD (common a b) 0).toNat : Int) = ((b.getD (common a b) 0).toNat : Int)))) (o_pickF rfl rfl) ?_
          refine h61 _ _ ?_
          clear h61
          refine cndP rfl (fun c69 => absurd c69 (fun e => n4 (by omega) (by omega) (u8_eq e))) (fun c69 => ?_)
          refine h59 _ _ ⟨by first | rfl | simp [upd], by first | rfl | simp [upd], by first | rfl | simp [upd], by first | rfl | exact v_int (by omega) | exact v_int (by simp) | exact v_int (by simp; omega), by first | rfl | exact v_int (by omega) | exact v_int (by simp) | exact v_int (by simp; omega), hM62⟩
        ·
          refine dgno rfl (by simp) ?_
          refine dgno rfl (by simp) ?_
          refine dgno rfl (by simp) ?_
          refine dgno rfl (by simp) ?_
          refine dgno rfl (by simp) ?_
          refine dgno rfl (by simp) ?_
          refine dgno rfl (by simp) ?_
          refine dqg rfl (v := .bool false) (o_pickF rfl rfl) ?_
          refine dq (v := .bool false) (o_pickF rfl rfl) ?_
          refine h61 _ _ ?_
          clear h61
          refine cndF rfl ?_
          refine h59 _ _ ⟨by first | rfl | simp [upd], by first | rfl | simp [upd], by first | rfl | simp [upd], by first | rfl | exact v_int (by omega) | exact v_int (by simp) | exact v_int (by simp; omega), by first | rfl | exact v_int (by omega) | exact v_int (by simp) | exact v_int (by simp; omega), hM62⟩
      ·
        refine dgno rfl (by simp) ?_
        refine dgno rfl (by simp) ?_
        refine dgno rfl (by simp) ?_
        refine dgno rfl (by simp) ?_
        refine dqg rfl (v := .bool false) (o_pickF rfl rfl) ?_
        refine dqg rfl (v := .bool false) (o_mv rfl) ?_
        refine dsplitF rfl ?_
        refine dgno rfl (by simp) ?_
        refine dgno rfl (by simp) ?_
        refine dgno rfl (by simp) ?_
        refine dgno rfl (by simp) ?_
        refine dgno rfl (by simp) ?_
        refine dgno rfl (by simp) ?_
        refine dgno rfl (by simp) ?_
        refine dqg rfl (v := .bool false) (o_pickF rfl rfl) ?_
        refine dq (v := .bool false) (o_pickF rfl rfl) ?_
        refine h61 _ _ ?_
        clear h61
        refine cndF rfl ?_
        refine h59 _ _ ⟨by first | rfl | simp [upd], by first | rfl | simp [upd], by first | rfl | simp [upd], by first | rfl | exact v_int (by omega) | exact v_int (by simp) | exact v_int (by simp; omega), by first | rfl | exact v_int (by omega) | exact v_int (by simp) | exact v_int (by simp; omega), hM62⟩
    · rintro f w60 ⟨e60_0, e60_1, e60_2, e60_7, e60_10, hM60⟩
      obtain ⟨frm, rfl⟩ : ∃ frm, f = (upd (upd (upd (upd (upd frm 0 (.string (str a))) 1 (.string (str b))) 2 (.string (str c))) 7 (.int .i64 (cmp a b))) 10 (.int .i64 (common a b : Nat))) := ⟨f, by rw [upd_self e60_0, upd_self e60_1, upd_self e60_2, upd_self e60_7, upd_self e60_10]⟩
      clear e60_0 e60_1 e60_2 e60_7 e60_10
      refine seq fun K70 h70 => ?_
      intro wd e1 e2 e3 e4
      have hd := Upd.same e1 e2 e3 e4 []
      have hM71 := hM60.pure hd
      clear e1 e2 e3 e4
      refine ⟨(some []), ?_⟩
      refine dq (v := .string (str a)) (o_mv rfl) ?_
      refine dq (v := .int .i64 (common a b : Nat)) (o_mv rfl) ?_
      refine dq (v := .string (str ((a.take a.length).drop (common a b)))) (o_slcs (a := common a b) (b := a.length) rfl (by omega) rfl ⟨_, rfl⟩ rfl) ?_
      refine dq (v := .string (str b)) (o_mv rfl) ?_
      refine dq (v := .int .i64 (common a b : Nat)) (o_mv rfl) ?_
      refine dq (v := .string (str ((b.take b.length).drop (common a b)))) (o_slcs (a := common a b) (b := b.length) rfl (by omega) rfl ⟨_, rfl⟩ rfl) ?_
      refine dq (v := .int .i64 (cmp a b)) (o_mv rfl) ?_
      refine dl (m_call (Compare_ok ((a.take a.length).drop (common a b)) ((b.take b.length).drop (common a b)) wd (by first | omega | (simp; done) | (simp; omega)) (by first | omega | (simp; done) | (simp; omega))) rfl fun v72 w72 ⟨hr72, hu72⟩ => ?_)
      have hM72 : Mem w [] w72 [] := hM71.pure hu72
      subst hr72
      refine ⟨(fun b hb => by cases hb), ?_⟩
      refine dq (v := .bool (decide ((cmp ((a.take a.length).drop (common a b)) ((b.take b.length).drop (common a b))) = (cmp a b)))) (o_bin rfl rfl rfl) ?_
      refine dq (v := .bool (decide ((cmp ((a.take a.length).drop (common a b)) ((b.take b.length).drop (common a b))) = (cmp a b)))) (o_mv rfl) ?_
      refine dsplitP rfl (fun c73 => ?_) (fun c73 => (c73 (by rw [List.take_length, List.take_length, cmp_cut])).elim)
      refine dqg rfl (v := .string (str c)) (o_mv rfl) ?_
      refine dqg rfl (v := .string (str a)) (o_mv rfl) ?_
      refine dqg rfl (v := .string (str (c ++ a))) (o_sadd rfl rfl (by first | omega | (simp; omega)) rfl) ?_
      refine dqg rfl (v := .string (str c)) (o_mv rfl) ?_
      refine dqg rfl (v := .string (str b)) (o_mv rfl) ?_
      refine dqg rfl (v := .string (str (c ++ b))) (o_sadd rfl rfl (by first | omega | (simp; omega)) rfl) ?_
      refine dqg rfl (v := .int .i64 (cmp a b)) (o_mv rfl) ?_
      refine dgyesl rfl ?_
      refine dl (m_call (Compare_ok (c ++ a) (c ++ b) w72 (by first | omega | (simp; done) | (simp; omega)) (by first | omega | (simp; done) | (simp; omega))) rfl fun v74 w74 ⟨hr74, hu74⟩ => ?_)
      have hM74 : Mem w [] w74 [] := hM72.pure hu74
      subst hr74
      refine ⟨(fun b hb => by cases hb), ?_⟩
      refine dqg rfl (v := .bool (decide ((cmp (c ++ a) (c ++ b)) = (cmp a b)))) (o_bin rfl rfl rfl) ?_
      refine dq (v := .bool (decide ((cmp (c ++ a) (c ++ b)) = (cmp a b)))) (o_pickT rfl rfl) ?_
      refine dq (v := .bool (decide ((cmp (c ++ a) (c ++ b)) = (cmp a b)))) (o_mv rfl) ?_
      refine dsplitP rfl (fun c75 => ?_) (fun c75 => (c75 (by rw [cmp_pre])).elim)
      refine dqg rfl (v := .string (str c)) (o_mv rfl) ?_
      refine dqg rfl (v := .string (str a)) (o_mv rfl) ?_
      refine dqg rfl (v := .string (str (c ++ a))) (o_sadd rfl rfl (by first | omega | (simp; omega)) rfl) ?_
      refine dqg rfl (v := .string (str c)) (o_mv rfl) ?_
      refine dqg rfl (v := .string (str b)) (o_mv rfl) ?_
      refine dqg rfl (v := .string (str (c ++ b))) (o_sadd rfl rfl (by first | omega | (simp; omega)) rfl) ?_
      refine dqg rfl (v := .string (str c)) (o_mv rfl) ?_
      refine dqg rfl (v := .int .i64 (c.length : Nat)) (o_lens rfl rfl) ?_
      refine dqg rfl (v := .int .i64 (common a b : Nat)) (o_mv rfl) ?_
      refine dqg rfl (v := .int .i64 ((c.length : Nat) + (common a b : Nat))) (o_bin rfl rfl (v_add64 (by constructor <;> omega))) ?_
      refine dgyesl rfl ?_
      refine dl (m_call (Common_ok (c ++ a) (c ++ b) w74 (by first | omega | (simp; done) | (simp; omega)) (by first | omega | (simp; done) | (simp; omega))) rfl fun v76 w76 ⟨hr76, hu76⟩ => ?_)
      have hM76 : Mem w [] w76 [] := hM74.pure hu76
      subst hr76
      refine ⟨(fun b hb => by cases hb), ?_⟩
      refine dqg rfl (v := .bool (decide (((common (c ++ a) (c ++ b) : Nat) : Int) = ((c.length : Nat) + (common a b : Nat))))) (o_bin rfl rfl rfl) ?_
      refine dq (v := .bool (decide (((common (c ++ a) (c ++ b) : Nat) : Int) = ((c.length : Nat) + (common a b : Nat))))) (o_pickT rfl rfl) ?_
      refine dq (v := .bool (decide (((common (c ++ a) (c ++ b) : Nat) : Int) = ((c.length : Nat) + (common a b : Nat))))) (o_mv rfl) ?_
      refine dsplitP rfl (fun c77 => ?_) (fun c77 => (c77 (by rw [common_pre]; omega)).elim)
      refine dgyesl rfl ?_
      refine dl (m_call (head_ok w76) rfl fun v78 w78 ⟨hr78, hu78⟩ => ?_)
      have hM78 : Mem w [] w78 [] := hM76.pure hu78
      subst hr78
      refine ⟨(fun b hb => by cases hb), ?_⟩
      refine dq (v := .bool true) (o_pickT rfl rfl) ?_
      refine dq (v := .bool true) (o_mv rfl) ?_
      refine h70 _ _ ?_
      clear h70
      refine ⟨(.bool true), rfl, ?_⟩
      exact ⟨rfl, hM78.upd⟩
