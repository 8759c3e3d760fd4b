/- Filters: what kind, what they say of a key. -/
import Derived.Test.YtjockanmmfmidaaDoorG1
namespace Go.Proofs.YtjockanmmfmidaaDoor.E
open Go
def fk (a : Bool) (h : Int) (d : List UInt8) : Nat := if h = 0 ∧ d.length = 0 then (if a then 1 else 2) else if a = false ∧ 1 ≤ h ∧ h ≤ 8 ∧ 1 ≤ d.length ∧ d.length ≤ 4096 then 3 else 0
theorem fk_all {h : Int} {d : List UInt8} (h0 : h = 0) (hd : d.length = 0) : fk true h d = 1 := by unfold fk; rw [if_pos ⟨h0, hd⟩]; rfl
theorem fk_none {h : Int} {d : List UInt8} (h0 : h = 0) (hd : d.length = 0) : fk false h d = 2 := by unfold fk; rw [if_pos ⟨h0, hd⟩]; rfl
theorem fk_bits {h : Int} {d : List UInt8} (h0 : 1 ≤ h ∧ h ≤ 8 ∧ 1 ≤ d.length ∧ d.length ≤ 4096) : fk false h d = 3 := by unfold fk; rw [if_neg (by omega), if_pos ⟨rfl, h0⟩]
theorem fk_bt {h : Int} {d : List UInt8} (h0 : ¬ (h = 0 ∧ d.length = 0)) : fk true h d = 0 := by unfold fk; rw [if_neg h0, if_neg (fun k => by cases k.1)]
theorem fk_bf {h : Int} {d : List UInt8} (h0 : ¬ (h = 0 ∧ d.length = 0)) (h1 : ¬ (1 ≤ h ∧ h ≤ 8 ∧ 1 ≤ d.length ∧ d.length ≤ 4096)) : fk false h d = 0 := by unfold fk; rw [if_neg h0, if_neg (fun k => h1 k.2)]
theorem fk3 {a : Bool} {h : Int} {d : List UInt8} (h0 : fk a h d = 3) : a = false ∧ 1 ≤ h ∧ h ≤ 8 ∧ 1 ≤ d.length ∧ d.length ≤ 4096 := by
  unfold fk at h0
  split at h0
  · split at h0 <;> omega
  · split at h0
    · assumption
    · omega
def chk (a : Bool) (h : Int) (d : List UInt8) : Int := if fk a h d = 0 then 70 else 0
def hasF (a : Bool) (h : Int) (d : List UInt8) (key : List UInt8) : Bool := if fk a h d = 1 then true else if fk a h d = 3 then (places key h.toNat d.length).all (testB d) else false
theorem hasF_1 {a : Bool} {h : Int} {d key : List UInt8} (k : fk a h d = 1) : hasF a h d key = true := by unfold hasF; rw [if_pos k]
theorem hasF_3 {a : Bool} {h : Int} {d key : List UInt8} (k : fk a h d = 3) : hasF a h d key = (places key h.toNat d.length).all (testB d) := by unfold hasF; rw [if_neg (by omega), if_pos k]
theorem hasF_0 {a : Bool} {h : Int} {d key : List UInt8} (k : ¬ fk a h d = 1) (k3 : ¬ fk a h d = 3) : hasF a h d key = false := by unfold hasF; rw [if_neg k, if_neg k3]
/-- a look that changes nothing -/
theorem runE_all (q : Nat → Bool) (ps : List Nat) : (runE (fun (_ : Unit) => q) (fun s _ => s) () ps).1 = ps.all q := by
  induction ps with
  | nil => rfl
  | cons p ps ih =>
    rw [runE, List.all_cons]
    cases q p
    · rfl
    · simpa using ih

/-- filter.kind -/
theorem kind_ok (a : Bool) (h : Int) (v : Value) (d : List UInt8) (w : World) (hd : RdE byteV w v d) (hl : d.length ≤ 140737488351232) : Calls Tryd.prog 23 [.agg [.bool a, .int .i64 h, v].toArray].toArray w (Rt fun r w' => r = .int .i64 ((fk a h d : Nat) : Int) ∧ Upd [] w w') := by
  have hM0 : Mem w [] w [] := Mem.nil w []
  refine calls_vc mixed Tryd.func23 rfl C23 (by simp [Tryd.ntmps23]) ?_
  refine seq fun K1 h1 => ?_
  refine m_bx (v := .agg ([.bool a, .int .i64 h, v] : List Value).toArray) hM0 rfl rfl fun b2 w3 (hM3 : Mem w [] w3 [[⟨b2, 24, [.bool a, .int .i64 h, v]⟩]]) => ?_
  refine stp (v := .int .i64 0) (o_mv rfl) ?_
  refine h1 _ _ ?_
  clear h1
  refine seq fun K4 h4 => ?_
  refine seq fun K5 h5 => ?_
  rcases a with _ | _
  ·
    refine stp (v := .pointer (some ⟨b2, 0, none⟩)) (o_fa rfl rfl) ?_
    refine m_ld (v := .bool false) hM3 (i := 0) (j := 0) rfl rfl rfl rfl ?_
    refine stp (v := .bool false) (o_mv rfl) ?_
    refine splitF rfl ?_
    refine gno rfl (by simp) ?_
    refine gnol rfl (by simp) ?_
    refine gno rfl (by simp) ?_
    refine stp (v := .bool false) (o_pickF rfl rfl) ?_
    refine stp (v := .bool false) (o_mv rfl) ?_
    refine splitF rfl ?_
    refine gno rfl (by simp) ?_
    refine gnol rfl (by simp) ?_
    refine gno rfl (by simp) ?_
    refine gno rfl (by simp) ?_
    refine stp (v := .bool false) (o_pickF rfl rfl) ?_
    refine stp (v := .bool false) (o_mv rfl) ?_
    refine h5 _ _ ?_
    clear h5
    refine cndF rfl ?_
    refine seq fun K6 h6 => ?_
    refine stp (v := .pointer (some ⟨b2, 0, none⟩)) (o_fa rfl rfl) ?_
    refine m_ld (v := .bool false) hM3 (i := 0) (j := 0) rfl rfl rfl rfl ?_
    refine stp (v := .bool true) (o_not rfl rfl) ?_
    refine stp (v := .bool true) (o_mv rfl) ?_
    refine splitT rfl ?_
    refine stg rfl (v := .pointer (some ⟨b2, 1, none⟩)) (o_fa rfl rfl) ?_
    refine gyesl rfl ?_
    refine m_ld (v := .int .i64 h) hM3 (i := 0) (j := 0) rfl rfl rfl rfl ?_
    refine stg rfl (v := .bool (decide (h = 0))) (o_bin rfl rfl rfl) ?_
    refine stp (v := .bool (decide (h = 0))) (o_pickT rfl rfl) ?_
    refine stp (v := .bool (decide (h = 0))) (o_mv rfl) ?_
    refine splitP rfl (fun c7 => ?_) (fun c7 => ?_)
    ·
      refine stg rfl (v := .pointer (some ⟨b2, 2, none⟩)) (o_fa rfl rfl) ?_
      refine gyesl rfl ?_
      refine m_ld (v := v) hM3 (i := 0) (j := 0) rfl rfl rfl rfl ?_
      refine stg rfl (v := .int .i64 (d.length : Nat)) (o_lenR (hd.upd hM3.upd) rfl rfl) ?_
      refine stg rfl (v := .bool (decide (((d.length : Nat) : Int) = 0))) (o_bin rfl rfl rfl) ?_
      refine stp (v := .bool (decide (((d.length : Nat) : Int) = 0))) (o_pickT rfl rfl) ?_
      refine stp (v := .bool (decide (((d.length : Nat) : Int) = 0))) (o_mv rfl) ?_
      refine h6 _ _ ?_
      clear h6
      refine cndP rfl (fun c8 => ?_) (fun c8 => ?_)
      ·
        refine seq fun K9 h9 => ?_
        refine stp (v := .int .i64 2) (o_mv rfl) ?_
        refine h9 _ _ ?_
        clear h9
        refine ⟨(.int .i64 2), rfl, ?_⟩
        first | exact ⟨v_int (by rw [fk_all (by omega) (by omega)]; rfl), hM3.upd⟩ | exact ⟨v_int (by rw [fk_none (by omega) (by omega)]; rfl), hM3.upd⟩ | exact ⟨v_int (by rw [fk_bits (by omega)]; rfl), hM3.upd⟩ | exact ⟨v_int (by rw [fk_bt (by omega)]; rfl), hM3.upd⟩ | exact ⟨v_int (by rw [fk_bf (by omega) (by omega)]; rfl), hM3.upd⟩
      ·
        refine seq fun K10 h10 => ?_
        refine stp (v := .pointer (some ⟨b2, 0, none⟩)) (o_fa rfl rfl) ?_
        refine m_ld (v := .bool false) hM3 (i := 0) (j := 0) rfl rfl rfl rfl ?_
        refine stp (v := .bool true) (o_not rfl rfl) ?_
        refine stp (v := .bool true) (o_mv rfl) ?_
        refine splitT rfl ?_
        refine stg rfl (v := .pointer (some ⟨b2, 1, none⟩)) (o_fa rfl rfl) ?_
        refine gyesl rfl ?_
        refine m_ld (v := .int .i64 h) hM3 (i := 0) (j := 0) rfl rfl rfl rfl ?_
        refine stg rfl (v := .bool (decide ((1 : Int) ≤ h))) (o_bin rfl rfl rfl) ?_
        refine stp (v := .bool (decide ((1 : Int) ≤ h))) (o_pickT rfl rfl) ?_
        refine stp (v := .bool (decide ((1 : Int) ≤ h))) (o_mv rfl) ?_
        refine splitP rfl (fun c11 => ?_) (fun c11 => ?_)
        ·
          refine stg rfl (v := .pointer (some ⟨b2, 1, none⟩)) (o_fa rfl rfl) ?_
          refine gyesl rfl ?_
          refine m_ld (v := .int .i64 h) hM3 (i := 0) (j := 0) rfl rfl rfl rfl ?_
          refine stg rfl (v := .bool (decide (h ≤ 8))) (o_bin rfl rfl rfl) ?_
          refine stp (v := .bool (decide (h ≤ 8))) (o_pickT rfl rfl) ?_
          refine stp (v := .bool (decide (h ≤ 8))) (o_mv rfl) ?_
          refine splitP rfl (fun c12 => ?_) (fun c12 => ?_)
          ·
            refine stg rfl (v := .pointer (some ⟨b2, 2, none⟩)) (o_fa rfl rfl) ?_
            refine gyesl rfl ?_
            refine m_ld (v := v) hM3 (i := 0) (j := 0) rfl rfl rfl rfl ?_
            refine stg rfl (v := .int .i64 (d.length : Nat)) (o_lenR (hd.upd hM3.upd) rfl rfl) ?_
            refine stg rfl (v := .bool (decide ((1 : Int) ≤ ((d.length : Nat) : Int)))) (o_bin rfl rfl rfl) ?_
            refine stp (v := .bool (decide ((1 : Int) ≤ ((d.length : Nat) : Int)))) (o_pickT rfl rfl) ?_
            refine stp (v := .bool (decide ((1 : Int) ≤ ((d.length : Nat) : Int)))) (o_mv rfl) ?_
            refine splitP rfl (fun c13 => ?_) (fun c13 => ?_)
            ·
              refine stg rfl (v := .pointer (some ⟨b2, 2, none⟩)) (o_fa rfl rfl) ?_
              refine gyesl rfl ?_
              refine m_ld (v := v) hM3 (i := 0) (j := 0) rfl rfl rfl rfl ?_
              refine stg rfl (v := .int .i64 (d.length : Nat)) (o_lenR (hd.upd hM3.upd) rfl rfl) ?_
              refine stg rfl (v := .bool (decide (((d.length : Nat) : Int) ≤ 4096))) (o_bin rfl rfl rfl) ?_
              refine stp (v := .bool (decide (((d.length : Nat) : Int) ≤ 4096))) (o_pickT rfl rfl) ?_
              refine stp (v := .bool (decide (((d.length : Nat) : Int) ≤ 4096))) (o_mv rfl) ?_
              refine h10 _ _ ?_
              clear h10
              refine cndP rfl (fun c14 => ?_) (fun c14 => ?_)
              ·
                refine seq fun K15 h15 => ?_
                refine stp (v := .int .i64 3) (o_mv rfl) ?_
                refine h15 _ _ ?_
                clear h15
                refine ⟨(.int .i64 3), rfl, ?_⟩
                first | exact ⟨v_int (by rw [fk_all (by omega) (by omega)]; rfl), hM3.upd⟩ | exact ⟨v_int (by rw [fk_none (by omega) (by omega)]; rfl), hM3.upd⟩ | exact ⟨v_int (by rw [fk_bits (by omega)]; rfl), hM3.upd⟩ | exact ⟨v_int (by rw [fk_bt (by omega)]; rfl), hM3.upd⟩ | exact ⟨v_int (by rw [fk_bf (by omega) (by omega)]; rfl), hM3.upd⟩
              ·
                refine h4 _ _ ?_
                clear h4
                refine seq fun K16 h16 => ?_
                refine stp (v := .int .i64 0) (o_mv rfl) ?_
                refine h16 _ _ ?_
                clear h16
                refine ⟨(.int .i64 0), rfl, ?_⟩
                first | exact ⟨v_int (by rw [fk_all (by omega) (by omega)]; rfl), hM3.upd⟩ | exact ⟨v_int (by rw [fk_none (by omega) (by omega)]; rfl), hM3.upd⟩ | exact ⟨v_int (by rw [fk_bits (by omega)]; rfl), hM3.upd⟩ | exact ⟨v_int (by rw [fk_bt (by omega)]; rfl), hM3.upd⟩ | exact ⟨v_int (by rw [fk_bf (by omega) (by omega)]; rfl), hM3.upd⟩
            ·
              refine gno rfl (by simp) ?_
              refine gnol rfl (by simp) ?_
              refine gno rfl (by simp) ?_
              refine gno rfl (by simp) ?_
              refine stp (v := .bool false) (o_pickF rfl rfl) ?_
              refine stp (v := .bool false) (o_mv rfl) ?_
              refine h10 _ _ ?_
              clear h10
              refine cndF rfl ?_
              refine h4 _ _ ?_
              clear h4
              refine seq fun K17 h17 => ?_
              refine stp (v := .int .i64 0) (o_mv rfl) ?_
              refine h17 _ _ ?_
              clear h17
              refine ⟨(.int .i64 0), rfl, ?_⟩
              first | exact ⟨v_int (by rw [fk_all (by omega) (by omega)]; rfl), hM3.upd⟩ | exact ⟨v_int (by rw [fk_none (by omega) (by omega)]; rfl), hM3.upd⟩ | exact ⟨v_int (by rw [fk_bits (by omega)]; rfl), hM3.upd⟩ | exact ⟨v_int (by rw [fk_bt (by omega)]; rfl), hM3.upd⟩ | exact ⟨v_int (by rw [fk_bf (by omega) (by omega)]; rfl), hM3.upd⟩
          ·
            refine gno rfl (by simp) ?_
            refine gnol rfl (by simp) ?_
            refine gno rfl (by simp) ?_
            refine gno rfl (by simp) ?_
            refine stp (v := .bool false) (o_pickF rfl rfl) ?_
            refine stp (v := .bool false) (o_mv rfl) ?_
            refine splitF rfl ?_
            refine gno rfl (by simp) ?_
            refine gnol rfl (by simp) ?_
            refine gno rfl (by simp) ?_
            refine gno rfl (by simp) ?_
            refine stp (v := .bool false) (o_pickF rfl rfl) ?_
            refine stp (v := .bool false) (o_mv rfl) ?_
            refine h10 _ _ ?_
            clear h10
            refine cndF rfl ?_
            refine h4 _ _ ?_
            clear h4
            refine seq fun K18 h18 => ?_
            refine stp (v := .int .i64 0) (o_mv rfl) ?_
            refine h18 _ _ ?_
            clear h18
            refine ⟨(.int .i64 0), rfl, ?_⟩
            first | exact ⟨v_int (by rw [fk_all (by omega) (by omega)]; rfl), hM3.upd⟩ | exact ⟨v_int (by rw [fk_none (by omega) (by omega)]; rfl), hM3.upd⟩ | exact ⟨v_int (by rw [fk_bits (by omega)]; rfl), hM3.upd⟩ | exact ⟨v_int (by rw [fk_bt (by omega)]; rfl), hM3.upd⟩ | exact ⟨v_int (by rw [fk_bf (by omega) (by omega)]; rfl), hM3.upd⟩
        ·
          refine gno rfl (by simp) ?_
          refine gnol rfl (by simp) ?_
          refine gno rfl (by simp) ?_
          refine stp (v := .bool false) (o_pickF rfl rfl) ?_
          refine stp (v := .bool false) (o_mv rfl) ?_
          refine splitF rfl ?_
          refine gno rfl (by simp) ?_
          refine gnol rfl (by simp) ?_
          refine gno rfl (by simp) ?_
          refine gno rfl (by simp) ?_
          refine stp (v := .bool false) (o_pickF rfl rfl) ?_
          refine stp (v := .bool false) (o_mv rfl) ?_
          refine splitF rfl ?_
          refine gno rfl (by simp) ?_
          refine gnol rfl (by simp) ?_
          refine gno rfl (by simp) ?_
          refine gno rfl (by simp) ?_
          refine stp (v := .bool false) (o_pickF rfl rfl) ?_
          refine stp (v := .bool false) (o_mv rfl) ?_
          refine h10 _ _ ?_
          clear h10
          refine cndF rfl ?_
          refine h4 _ _ ?_
          clear h4
          refine seq fun K19 h19 => ?_
          refine stp (v := .int .i64 0) (o_mv rfl) ?_
          refine h19 _ _ ?_
          clear h19
          refine ⟨(.int .i64 0), rfl, ?_⟩
          first | exact ⟨v_int (by rw [fk_all (by omega) (by omega)]; rfl), hM3.upd⟩ | exact ⟨v_int (by rw [fk_none (by omega) (by omega)]; rfl), hM3.upd⟩ | exact ⟨v_int (by rw [fk_bits (by omega)]; rfl), hM3.upd⟩ | exact ⟨v_int (by rw [fk_bt (by omega)]; rfl), hM3.upd⟩ | exact ⟨v_int (by rw [fk_bf (by omega) (by omega)]; rfl), hM3.upd⟩
    ·
      refine gno rfl (by simp) ?_
      refine gnol rfl (by simp) ?_
      refine gno rfl (by simp) ?_
      refine gno rfl (by simp) ?_
      refine stp (v := .bool false) (o_pickF rfl rfl) ?_
      refine stp (v := .bool false) (o_mv rfl) ?_
      refine h6 _ _ ?_
      clear h6
      refine cndF rfl ?_
      refine seq fun K20 h20 => ?_
      refine stp (v := .pointer (some ⟨b2, 0, none⟩)) (o_fa rfl rfl) ?_
      refine m_ld (v := .bool false) hM3 (i := 0) (j := 0) rfl rfl rfl rfl ?_
      refine stp (v := .bool true) (o_not rfl rfl) ?_
      refine stp (v := .bool true) (o_mv rfl) ?_
      refine splitT rfl ?_
      refine stg rfl (v := .pointer (some ⟨b2, 1, none⟩)) (o_fa rfl rfl) ?_
      refine gyesl rfl ?_
      refine m_ld (v := .int .i64 h) hM3 (i := 0) (j := 0) rfl rfl rfl rfl ?_
      refine stg rfl (v := .bool (decide ((1 : Int) ≤ h))) (o_bin rfl rfl rfl) ?_
      refine stp (v := .bool (decide ((1 : Int) ≤ h))) (o_pickT rfl rfl) ?_
      refine stp (v := .bool (decide ((1 : Int) ≤ h))) (o_mv rfl) ?_
      refine splitP rfl (fun c21 => ?_) (fun c21 => ?_)
      ·
        refine stg rfl (v := .pointer (some ⟨b2, 1, none⟩)) (o_fa rfl rfl) ?_
        refine gyesl rfl ?_
        refine m_ld (v := .int .i64 h) hM3 (i := 0) (j := 0) rfl rfl rfl rfl ?_
        refine stg rfl (v := .bool (decide (h ≤ 8))) (o_bin rfl rfl rfl) ?_
        refine stp (v := .bool (decide (h ≤ 8))) (o_pickT rfl rfl) ?_
        refine stp (v := .bool (decide (h ≤ 8))) (o_mv rfl) ?_
        refine splitP rfl (fun c22 => ?_) (fun c22 => ?_)
        ·
          refine stg rfl (v := .pointer (some ⟨b2, 2, none⟩)) (o_fa rfl rfl) ?_
          refine gyesl rfl ?_
          refine m_ld (v := v) hM3 (i := 0) (j := 0) rfl rfl rfl rfl ?_
          refine stg rfl (v := .int .i64 (d.length : Nat)) (o_lenR (hd.upd hM3.upd) rfl rfl) ?_
          refine stg rfl (v := .bool (decide ((1 : Int) ≤ ((d.length : Nat) : Int)))) (o_bin rfl rfl rfl) ?_
          refine stp (v := .bool (decide ((1 : Int) ≤ ((d.length : Nat) : Int)))) (o_pickT rfl rfl) ?_
          refine stp (v := .bool (decide ((1 : Int) ≤ ((d.length : Nat) : Int)))) (o_mv rfl) ?_
          refine splitP rfl (fun c23 => ?_) (fun c23 => ?_)
          ·
            refine stg rfl (v := .pointer (some ⟨b2, 2, none⟩)) (o_fa rfl rfl) ?_
            refine gyesl rfl ?_
            refine m_ld (v := v) hM3 (i := 0) (j := 0) rfl rfl rfl rfl ?_
            refine stg rfl (v := .int .i64 (d.length : Nat)) (o_lenR (hd.upd hM3.upd) rfl rfl) ?_
            refine stg rfl (v := .bool (decide (((d.length : Nat) : Int) ≤ 4096))) (o_bin rfl rfl rfl) ?_
            refine stp (v := .bool (decide (((d.length : Nat) : Int) ≤ 4096))) (o_pickT rfl rfl) ?_
            refine stp (v := .bool (decide (((d.length : Nat) : Int) ≤ 4096))) (o_mv rfl) ?_
            refine h20 _ _ ?_
            clear h20
            refine cndP rfl (fun c24 => ?_) (fun c24 => ?_)
            ·
              refine seq fun K25 h25 => ?_
              refine stp (v := .int .i64 3) (o_mv rfl) ?_
              refine h25 _ _ ?_
              clear h25
              refine ⟨(.int .i64 3), rfl, ?_⟩
              first | exact ⟨v_int (by rw [fk_all (by omega) (by omega)]; rfl), hM3.upd⟩ | exact ⟨v_int (by rw [fk_none (by omega) (by omega)]; rfl), hM3.upd⟩ | exact ⟨v_int (by rw [fk_bits (by omega)]; rfl), hM3.upd⟩ | exact ⟨v_int (by rw [fk_bt (by omega)]; rfl), hM3.upd⟩ | exact ⟨v_int (by rw [fk_bf (by omega) (by omega)]; rfl), hM3.upd⟩
            ·
              refine h4 _ _ ?_
              clear h4
              refine seq fun K26 h26 => ?_
              refine stp (v := .int .i64 0) (o_mv rfl) ?_
              refine h26 _ _ ?_
              clear h26
              refine ⟨(.int .i64 0), rfl, ?_⟩
              first | exact ⟨v_int (by rw [fk_all (by omega) (by omega)]; rfl), hM3.upd⟩ | exact ⟨v_int (by rw [fk_none (by omega) (by omega)]; rfl), hM3.upd⟩ | exact ⟨v_int (by rw [fk_bits (by omega)]; rfl), hM3.upd⟩ | exact ⟨v_int (by rw [fk_bt (by omega)]; rfl), hM3.upd⟩ | exact ⟨v_int (by rw [fk_bf (by omega) (by omega)]; rfl), hM3.upd⟩
          ·
            refine gno rfl (by simp) ?_
            refine gnol rfl (by simp) ?_
            refine gno rfl (by simp) ?_
            refine gno rfl (by simp) ?_
            refine stp (v := .bool false) (o_pickF rfl rfl) ?_
            refine stp (v := .bool false) (o_mv rfl) ?_
            refine h20 _ _ ?_
            clear h20
            refine cndF rfl ?_
            refine h4 _ _ ?_
            clear h4
            refine seq fun K27 h27 => ?_
            refine stp (v := .int .i64 0) (o_mv rfl) ?_
            refine h27 _ _ ?_
            clear h27
            refine ⟨(.int .i64 0), rfl, ?_⟩
            first | exact ⟨v_int (by rw [fk_all (by omega) (by omega)]; rfl), hM3.upd⟩ | exact ⟨v_int (by rw [fk_none (by omega) (by omega)]; rfl), hM3.upd⟩ | exact ⟨v_int (by rw [fk_bits (by omega)]; rfl), hM3.upd⟩ | exact ⟨v_int (by rw [fk_bt (by omega)]; rfl), hM3.upd⟩ | exact ⟨v_int (by rw [fk_bf (by omega) (by omega)]; rfl), hM3.upd⟩
        ·
          refine gno rfl (by simp) ?_
          refine gnol rfl (by simp) ?_
          refine gno rfl (by simp) ?_
          refine gno rfl (by simp) ?_
          refine stp (v := .bool false) (o_pickF rfl rfl) ?_
          refine stp (v := .bool false) (o_mv rfl) ?_
          refine splitF rfl ?_
          refine gno rfl (by simp) ?_
          refine gnol rfl (by simp) ?_
          refine gno rfl (by simp) ?_
          refine gno rfl (by simp) ?_
          refine stp (v := .bool false) (o_pickF rfl rfl) ?_
          refine stp (v := .bool false) (o_mv rfl) ?_
          refine h20 _ _ ?_
          clear h20
          refine cndF rfl ?_
          refine h4 _ _ ?_
          clear h4
          refine seq fun K28 h28 => ?_
          refine stp (v := .int .i64 0) (o_mv rfl) ?_
          refine h28 _ _ ?_
          clear h28
          refine ⟨(.int .i64 0), rfl, ?_⟩
          first | exact ⟨v_int (by rw [fk_all (by omega) (by omega)]; rfl), hM3.upd⟩ | exact ⟨v_int (by rw [fk_none (by omega) (by omega)]; rfl), hM3.upd⟩ | exact ⟨v_int (by rw [fk_bits (by omega)]; rfl), hM3.upd⟩ | exact ⟨v_int (by rw [fk_bt (by omega)]; rfl), hM3.upd⟩ | exact ⟨v_int (by rw [fk_bf (by omega) (by omega)]; rfl), hM3.upd⟩
      ·
        refine gno rfl (by simp) ?_
        refine gnol rfl (by simp) ?_
        refine gno rfl (by simp) ?_
        refine stp (v := .bool false) (o_pickF rfl rfl) ?_
        refine stp (v := .bool false) (o_mv rfl) ?_
        refine splitF rfl ?_
        refine gno rfl (by simp) ?_
        refine gnol rfl (by simp) ?_
        refine gno rfl (by simp) ?_
        refine gno rfl (by simp) ?_
        refine stp (v := .bool false) (o_pickF rfl rfl) ?_
        refine stp (v := .bool false) (o_mv rfl) ?_
        refine splitF rfl ?_
        refine gno rfl (by simp) ?_
        refine gnol rfl (by simp) ?_
        refine gno rfl (by simp) ?_
        refine gno rfl (by simp) ?_
        refine stp (v := .bool false) (o_pickF rfl rfl) ?_
        refine stp (v := .bool false) (o_mv rfl) ?_
        refine h20 _ _ ?_
        clear h20
        refine cndF rfl ?_
        refine h4 _ _ ?_
        clear h4
        refine seq fun K29 h29 => ?_
        refine stp (v := .int .i64 0) (o_mv rfl) ?_
        refine h29 _ _ ?_
        clear h29
        refine ⟨(.int .i64 0), rfl, ?_⟩
        first | exact ⟨v_int (by rw [fk_all (by omega) (by omega)]; rfl), hM3.upd⟩ | exact ⟨v_int (by rw [fk_none (by omega) (by omega)]; rfl), hM3.upd⟩ | exact ⟨v_int (by rw [fk_bits (by omega)]; rfl), hM3.upd⟩ | exact ⟨v_int (by rw [fk_bt (by omega)]; rfl), hM3.upd⟩ | exact ⟨v_int (by rw [fk_bf (by omega) (by omega)]; rfl), hM3.upd⟩
  ·
    refine stp (v := .pointer (some ⟨b2, 0, none⟩)) (o_fa rfl rfl) ?_
    refine m_ld (v := .bool true) hM3 (i := 0) (j := 0) rfl rfl rfl rfl ?_
    refine stp (v := .bool true) (o_mv rfl) ?_
    refine splitT rfl ?_
    refine stg rfl (v := .pointer (some ⟨b2, 1, none⟩)) (o_fa rfl rfl) ?_
    refine gyesl rfl ?_
    refine m_ld (v := .int .i64 h) hM3 (i := 0) (j := 0) rfl rfl rfl rfl ?_
    refine stg rfl (v := .bool (decide (h = 0))) (o_bin rfl rfl rfl) ?_
    refine stp (v := .bool (decide (h = 0))) (o_pickT rfl rfl) ?_
    refine stp (v := .bool (decide (h = 0))) (o_mv rfl) ?_
    refine splitP rfl (fun c30 => ?_) (fun c30 => ?_)
    ·
      refine stg rfl (v := .pointer (some ⟨b2, 2, none⟩)) (o_fa rfl rfl) ?_
      refine gyesl rfl ?_
      refine m_ld (v := v) hM3 (i := 0) (j := 0) rfl rfl rfl rfl ?_
      refine stg rfl (v := .int .i64 (d.length : Nat)) (o_lenR (hd.upd hM3.upd) rfl rfl) ?_
      refine stg rfl (v := .bool (decide (((d.length : Nat) : Int) = 0))) (o_bin rfl rfl rfl) ?_
      refine stp (v := .bool (decide (((d.length : Nat) : Int) = 0))) (o_pickT rfl rfl) ?_
      refine stp (v := .bool (decide (((d.length : Nat) : Int) = 0))) (o_mv rfl) ?_
      refine h5 _ _ ?_
      clear h5
      refine cndP rfl (fun c31 => ?_) (fun c31 => ?_)
      ·
        refine seq fun K32 h32 => ?_
        refine stp (v := .int .i64 1) (o_mv rfl) ?_
        refine h32 _ _ ?_
        clear h32
        refine ⟨(.int .i64 1), rfl, ?_⟩
        first | exact ⟨v_int (by rw [fk_all (by omega) (by omega)]; rfl), hM3.upd⟩ | exact ⟨v_int (by rw [fk_none (by omega) (by omega)]; rfl), hM3.upd⟩ | exact ⟨v_int (by rw [fk_bits (by omega)]; rfl), hM3.upd⟩ | exact ⟨v_int (by rw [fk_bt (by omega)]; rfl), hM3.upd⟩ | exact ⟨v_int (by rw [fk_bf (by omega) (by omega)]; rfl), hM3.upd⟩
      ·
        refine seq fun K33 h33 => ?_
        refine stp (v := .pointer (some ⟨b2, 0, none⟩)) (o_fa rfl rfl) ?_
        refine m_ld (v := .bool true) hM3 (i := 0) (j := 0) rfl rfl rfl rfl ?_
        refine stp (v := .bool false) (o_not rfl rfl) ?_
        refine stp (v := .bool false) (o_mv rfl) ?_
        refine splitF rfl ?_
        refine gno rfl (by simp) ?_
        refine gnol rfl (by simp) ?_
        refine gno rfl (by simp) ?_
        refine stp (v := .bool false) (o_pickF rfl rfl) ?_
        refine stp (v := .bool false) (o_mv rfl) ?_
        refine splitF rfl ?_
        refine gno rfl (by simp) ?_
        refine gnol rfl (by simp) ?_
        refine gno rfl (by simp) ?_
        refine gno rfl (by simp) ?_
        refine stp (v := .bool false) (o_pickF rfl rfl) ?_
        refine stp (v := .bool false) (o_mv rfl) ?_
        refine h33 _ _ ?_
        clear h33
        refine cndF rfl ?_
        refine seq fun K34 h34 => ?_
        refine stp (v := .pointer (some ⟨b2, 0, none⟩)) (o_fa rfl rfl) ?_
        refine m_ld (v := .bool true) hM3 (i := 0) (j := 0) rfl rfl rfl rfl ?_
        refine stp (v := .bool false) (o_not rfl rfl) ?_
        refine stp (v := .bool false) (o_mv rfl) ?_
        refine splitF rfl ?_
        refine gno rfl (by simp) ?_
        refine gnol rfl (by simp) ?_
        refine gno rfl (by simp) ?_
        refine stp (v := .bool false) (o_pickF rfl rfl) ?_
        refine stp (v := .bool false) (o_mv rfl) ?_
        refine splitF rfl ?_
        refine gno rfl (by simp) ?_
        refine gnol rfl (by simp) ?_
        refine gno rfl (by simp) ?_
        refine stp (v := .bool false) (o_pickF rfl rfl) ?_
        refine stp (v := .bool false) (o_mv rfl) ?_
        refine splitF rfl ?_
        refine gno rfl (by simp) ?_
        refine gnol rfl (by simp) ?_
        refine gno rfl (by simp) ?_
        refine gno rfl (by simp) ?_
        refine stp (v := .bool false) (o_pickF rfl rfl) ?_
        refine stp (v := .bool false) (o_mv rfl) ?_
        refine splitF rfl ?_
        refine gno rfl (by simp) ?_
        refine gnol rfl (by simp) ?_
        refine gno rfl (by simp) ?_
        refine gno rfl (by simp) ?_
        refine stp (v := .bool false) (o_pickF rfl rfl) ?_
        refine stp (v := .bool false) (o_mv rfl) ?_
        refine h34 _ _ ?_
        clear h34
        refine cndF rfl ?_
        refine h4 _ _ ?_
        clear h4
        refine seq fun K35 h35 => ?_
        refine stp (v := .int .i64 0) (o_mv rfl) ?_
        refine h35 _ _ ?_
        clear h35
        refine ⟨(.int .i64 0), rfl, ?_⟩
        first | exact ⟨v_int (by rw [fk_all (by omega) (by omega)]; rfl), hM3.upd⟩ | exact ⟨v_int (by rw [fk_none (by omega) (by omega)]; rfl), hM3.upd⟩ | exact ⟨v_int (by rw [fk_bits (by omega)]; rfl), hM3.upd⟩ | exact ⟨v_int (by rw [fk_bt (by omega)]; rfl), hM3.upd⟩ | exact ⟨v_int (by rw [fk_bf (by omega) (by omega)]; rfl), hM3.upd⟩
    ·
      refine gno rfl (by simp) ?_
      refine gnol rfl (by simp) ?_
      refine gno rfl (by simp) ?_
      refine gno rfl (by simp) ?_
      refine stp (v := .bool false) (o_pickF rfl rfl) ?_
      refine stp (v := .bool false) (o_mv rfl) ?_
      refine h5 _ _ ?_
      clear h5
      refine cndF rfl ?_
      refine seq fun K36 h36 => ?_
      refine stp (v := .pointer (some ⟨b2, 0, none⟩)) (o_fa rfl rfl) ?_
      refine m_ld (v := .bool true) hM3 (i := 0) (j := 0) rfl rfl rfl rfl ?_
      refine stp (v := .bool false) (o_not rfl rfl) ?_
      refine stp (v := .bool false) (o_mv rfl) ?_
      refine splitF rfl ?_
      refine gno rfl (by simp) ?_
      refine gnol rfl (by simp) ?_
      refine gno rfl (by simp) ?_
      refine stp (v := .bool false) (o_pickF rfl rfl) ?_
      refine stp (v := .bool false) (o_mv rfl) ?_
      refine splitF rfl ?_
      refine gno rfl (by simp) ?_
      refine gnol rfl (by simp) ?_
      refine gno rfl (by simp) ?_
      refine gno rfl (by simp) ?_
      refine stp (v := .bool false) (o_pickF rfl rfl) ?_
      refine stp (v := .bool false) (o_mv rfl) ?_
      refine h36 _ _ ?_
      clear h36
      refine cndF rfl ?_
      refine seq fun K37 h37 => ?_
      refine stp (v := .pointer (some ⟨b2, 0, none⟩)) (o_fa rfl rfl) ?_
      refine m_ld (v := .bool true) hM3 (i := 0) (j := 0) rfl rfl rfl rfl ?_
      refine stp (v := .bool false) (o_not rfl rfl) ?_
      refine stp (v := .bool false) (o_mv rfl) ?_
      refine splitF rfl ?_
      refine gno rfl (by simp) ?_
      refine gnol rfl (by simp) ?_
      refine gno rfl (by simp) ?_
      refine stp (v := .bool false) (o_pickF rfl rfl) ?_
      refine stp (v := .bool false) (o_mv rfl) ?_
      refine splitF rfl ?_
      refine gno rfl (by simp) ?_
      refine gnol rfl (by simp) ?_
      refine gno rfl (by simp) ?_
      refine stp (v := .bool false) (o_pickF rfl rfl) ?_
      refine stp (v := .bool false) (o_mv rfl) ?_
      refine splitF rfl ?_
      refine gno rfl (by simp) ?_
      refine gnol rfl (by simp) ?_
      refine gno rfl (by simp) ?_
      refine gno rfl (by simp) ?_
      refine stp (v := .bool false) (o_pickF rfl rfl) ?_
      refine stp (v := .bool false) (o_mv rfl) ?_
      refine splitF rfl ?_
      refine gno rfl (by simp) ?_
      refine gnol rfl (by simp) ?_
      refine gno rfl (by simp) ?_
      refine gno rfl (by simp) ?_
      refine stp (v := .bool false) (o_pickF rfl rfl) ?_
      refine stp (v := .bool false) (o_mv rfl) ?_
      refine h37 _ _ ?_
      clear h37
      refine cndF rfl ?_
      refine h4 _ _ ?_
      clear h4
      refine seq fun K38 h38 => ?_
      refine stp (v := .int .i64 0) (o_mv rfl) ?_
      refine h38 _ _ ?_
      clear h38
      refine ⟨(.int .i64 0), rfl, ?_⟩
      first | exact ⟨v_int (by rw [fk_all (by omega) (by omega)]; rfl), hM3.upd⟩ | exact ⟨v_int (by rw [fk_none (by omega) (by omega)]; rfl), hM3.upd⟩ | exact ⟨v_int (by rw [fk_bits (by omega)]; rfl), hM3.upd⟩ | exact ⟨v_int (by rw [fk_bt (by omega)]; rfl), hM3.upd⟩ | exact ⟨v_int (by rw [fk_bf (by omega) (by omega)]; rfl), hM3.upd⟩

theorem ne_of {x n : Nat} (h : x = n) (hn : ¬ n = 0) : ¬ x = 0 := h ▸ hn
theorem chk_0 {a : Bool} {h : Int} {d : List UInt8} (k : ¬ fk a h d = 0) : chk a h d = 0 := by unfold chk; rw [if_neg k]
theorem chk_70 {a : Bool} {h : Int} {d : List UInt8} (k : fk a h d = 0) : chk a h d = 70 := by unfold chk; rw [if_pos k]

/-- winnowref7.Check -/
theorem refCheck_ok (a : Bool) (h : Int) (v : Value) (d : List UInt8) (w : World) (hd : RdE byteV w v d) (hl : d.length ≤ 140737488351232) : Calls Tryd.prog 25 [.agg [.bool a, .int .i64 h, v].toArray].toArray w (Rt fun r w' => r = .int .i64 (chk a h d) ∧ Upd [] w w') := by
  have hM0 : Mem w [] w [] := Mem.nil w []
  refine calls_vc mixed Tryd.func25 rfl C25 (by simp [Tryd.ntmps25]) ?_
  refine seq fun K1 h1 => ?_
  refine m_bx (v := .agg ([.bool a, .int .i64 h, v] : List Value).toArray) hM0 rfl rfl fun b2 w3 (hM3 : Mem w [] w3 [[⟨b2, 24, [.bool a, .int .i64 h, v]⟩]]) => ?_
  refine stp (v := .int .i64 0) (o_mv rfl) ?_
  refine h1 _ _ ?_
  clear h1
  refine seq fun K4 h4 => ?_
  refine seq fun K5 h5 => ?_
  rcases a with _ | _
  ·
    refine stp (v := .pointer (some ⟨b2, 1, none⟩)) (o_fa rfl rfl) ?_
    refine m_ld (v := .int .i64 h) hM3 (i := 0) (j := 0) rfl rfl rfl rfl ?_
    refine stp (v := .bool (decide (h = 0))) (o_bin rfl rfl rfl) ?_
    refine stp (v := .bool (decide (h = 0))) (o_mv rfl) ?_
    refine splitP rfl (fun c6 => ?_) (fun c6 => ?_)
    ·
      refine stg rfl (v := .pointer (some ⟨b2, 2, none⟩)) (o_fa rfl rfl) ?_
      refine gyesl rfl ?_
      refine m_ld (v := v) hM3 (i := 0) (j := 0) rfl rfl rfl rfl ?_
      refine stg rfl (v := .int .i64 (d.length : Nat)) (o_lenR (hd.upd hM3.upd) rfl rfl) ?_
      refine stg rfl (v := .bool (decide (((d.length : Nat) : Int) = 0))) (o_bin rfl rfl rfl) ?_
      refine stp (v := .bool (decide (((d.length : Nat) : Int) = 0))) (o_pickT rfl rfl) ?_
      refine h5 _ _ ?_
      clear h5
      refine cndP rfl (fun c7 => ?_) (fun c7 => ?_)
      ·
        refine seq fun K8 h8 => ?_
        refine stp (v := .int .i64 0) (o_mv rfl) ?_
        refine h8 _ _ ?_
        clear h8
        refine ⟨(.int .i64 0), rfl, ?_⟩
        first | exact ⟨v_int (chk_0 (ne_of (fk_all (by omega) (by omega)) (by omega))).symm, hM3.upd⟩ | exact ⟨v_int (chk_0 (ne_of (fk_none (by omega) (by omega)) (by omega))).symm, hM3.upd⟩ | exact ⟨v_int (chk_0 (ne_of (fk_bits (by omega)) (by omega))).symm, hM3.upd⟩ | exact ⟨v_int (chk_70 (fk_bt (by omega))).symm, hM3.upd⟩ | exact ⟨v_int (chk_70 (fk_bf (by omega) (by omega))).symm, hM3.upd⟩
      ·
        refine h4 _ _ ?_
        clear h4
        refine seq fun K9 h9 => ?_
        refine seq fun K10 h10 => ?_
        refine stp (v := .pointer (some ⟨b2, 0, none⟩)) (o_fa rfl rfl) ?_
        refine m_ld (v := .bool false) hM3 (i := 0) (j := 0) rfl rfl rfl rfl ?_
        refine stp (v := .bool false) (o_mv rfl) ?_
        refine splitF rfl ?_
        refine stg rfl (v := .pointer (some ⟨b2, 1, none⟩)) (o_fa rfl rfl) ?_
        refine gyesl rfl ?_
        refine m_ld (v := .int .i64 h) hM3 (i := 0) (j := 0) rfl rfl rfl rfl ?_
        refine stg rfl (v := .bool (decide (h < 1))) (o_bin rfl rfl rfl) ?_
        refine stp (v := .bool (decide (h < 1))) (o_pickF rfl rfl) ?_
        refine stp (v := .bool (decide (h < 1))) (o_mv rfl) ?_
        refine splitP rfl (fun c11 => ?_) (fun c11 => ?_)
        ·
          refine gno rfl (by simp) ?_
          refine gnol rfl (by simp) ?_
          refine gno rfl (by simp) ?_
          refine stp (v := .bool true) (o_pickT rfl rfl) ?_
          refine stp (v := .bool true) (o_mv rfl) ?_
          refine splitT rfl ?_
          refine gno rfl (by simp) ?_
          refine gnol rfl (by simp) ?_
          refine gno rfl (by simp) ?_
          refine gno rfl (by simp) ?_
          refine stp (v := .bool true) (o_pickT rfl rfl) ?_
          refine stp (v := .bool true) (o_mv rfl) ?_
          refine splitT rfl ?_
          refine gno rfl (by simp) ?_
          refine gnol rfl (by simp) ?_
          refine gno rfl (by simp) ?_
          refine gno rfl (by simp) ?_
          refine stp (v := .bool true) (o_pickT rfl rfl) ?_
          refine h10 _ _ ?_
          clear h10
          refine cndT rfl ?_
          refine seq fun K12 h12 => ?_
          refine stp (v := .int .i64 70) (o_mv rfl) ?_
          refine h12 _ _ ?_
          clear h12
          refine ⟨(.int .i64 70), rfl, ?_⟩
          first | exact ⟨v_int (chk_0 (ne_of (fk_all (by omega) (by omega)) (by omega))).symm, hM3.upd⟩ | exact ⟨v_int (chk_0 (ne_of (fk_none (by omega) (by omega)) (by omega))).symm, hM3.upd⟩ | exact ⟨v_int (chk_0 (ne_of (fk_bits (by omega)) (by omega))).symm, hM3.upd⟩ | exact ⟨v_int (chk_70 (fk_bt (by omega))).symm, hM3.upd⟩ | exact ⟨v_int (chk_70 (fk_bf (by omega) (by omega))).symm, hM3.upd⟩
        ·
          refine stg rfl (v := .pointer (some ⟨b2, 1, none⟩)) (o_fa rfl rfl) ?_
          refine gyesl rfl ?_
          refine m_ld (v := .int .i64 h) hM3 (i := 0) (j := 0) rfl rfl rfl rfl ?_
          refine stg rfl (v := .bool (decide ((8 : Int) < h))) (o_bin rfl rfl rfl) ?_
          refine stp (v := .bool (decide ((8 : Int) < h))) (o_pickF rfl rfl) ?_
          refine stp (v := .bool (decide ((8 : Int) < h))) (o_mv rfl) ?_
          refine splitP rfl (fun c13 => ?_) (fun c13 => ?_)
          ·
            refine gno rfl (by simp) ?_
            refine gnol rfl (by simp) ?_
            refine gno rfl (by simp) ?_
            refine gno rfl (by simp) ?_
            refine stp (v := .bool true) (o_pickT rfl rfl) ?_
            refine stp (v := .bool true) (o_mv rfl) ?_
            refine splitT rfl ?_
            refine gno rfl (by simp) ?_
            refine gnol rfl (by simp) ?_
            refine gno rfl (by simp) ?_
            refine gno rfl (by simp) ?_
            refine stp (v := .bool true) (o_pickT rfl rfl) ?_
            refine h10 _ _ ?_
            clear h10
            refine cndT rfl ?_
            refine seq fun K14 h14 => ?_
            refine stp (v := .int .i64 70) (o_mv rfl) ?_
            refine h14 _ _ ?_
            clear h14
            refine ⟨(.int .i64 70), rfl, ?_⟩
            first | exact ⟨v_int (chk_0 (ne_of (fk_all (by omega) (by omega)) (by omega))).symm, hM3.upd⟩ | exact ⟨v_int (chk_0 (ne_of (fk_none (by omega) (by omega)) (by omega))).symm, hM3.upd⟩ | exact ⟨v_int (chk_0 (ne_of (fk_bits (by omega)) (by omega))).symm, hM3.upd⟩ | exact ⟨v_int (chk_70 (fk_bt (by omega))).symm, hM3.upd⟩ | exact ⟨v_int (chk_70 (fk_bf (by omega) (by omega))).symm, hM3.upd⟩
          ·
            refine stg rfl (v := .pointer (some ⟨b2, 2, none⟩)) (o_fa rfl rfl) ?_
            refine gyesl rfl ?_
            refine m_ld (v := v) hM3 (i := 0) (j := 0) rfl rfl rfl rfl ?_
            refine stg rfl (v := .int .i64 (d.length : Nat)) (o_lenR (hd.upd hM3.upd) rfl rfl) ?_
            refine stg rfl (v := .bool (decide (((d.length : Nat) : Int) < 1))) (o_bin rfl rfl rfl) ?_
            refine stp (v := .bool (decide (((d.length : Nat) : Int) < 1))) (o_pickF rfl rfl) ?_
            refine stp (v := .bool (decide (((d.length : Nat) : Int) < 1))) (o_mv rfl) ?_
            refine splitP rfl (fun c15 => ?_) (fun c15 => ?_)
            ·
              refine gno rfl (by simp) ?_
              refine gnol rfl (by simp) ?_
              refine gno rfl (by simp) ?_
              refine gno rfl (by simp) ?_
              refine stp (v := .bool true) (o_pickT rfl rfl) ?_
              refine h10 _ _ ?_
              clear h10
              refine cndT rfl ?_
              refine seq fun K16 h16 => ?_
              refine stp (v := .int .i64 70) (o_mv rfl) ?_
              refine h16 _ _ ?_
              clear h16
              refine ⟨(.int .i64 70), rfl, ?_⟩
              first | exact ⟨v_int (chk_0 (ne_of (fk_all (by omega) (by omega)) (by omega))).symm, hM3.upd⟩ | exact ⟨v_int (chk_0 (ne_of (fk_none (by omega) (by omega)) (by omega))).symm, hM3.upd⟩ | exact ⟨v_int (chk_0 (ne_of (fk_bits (by omega)) (by omega))).symm, hM3.upd⟩ | exact ⟨v_int (chk_70 (fk_bt (by omega))).symm, hM3.upd⟩ | exact ⟨v_int (chk_70 (fk_bf (by omega) (by omega))).symm, hM3.upd⟩
            ·
              refine stg rfl (v := .pointer (some ⟨b2, 2, none⟩)) (o_fa rfl rfl) ?_
              refine gyesl rfl ?_
              refine m_ld (v := v) hM3 (i := 0) (j := 0) rfl rfl rfl rfl ?_
              refine stg rfl (v := .int .i64 (d.length : Nat)) (o_lenR (hd.upd hM3.upd) rfl rfl) ?_
              refine stg rfl (v := .bool (decide ((4096 : Int) < ((d.length : Nat) : Int)))) (o_bin rfl rfl rfl) ?_
              refine stp (v := .bool (decide ((4096 : Int) < ((d.length : Nat) : Int)))) (o_pickF rfl rfl) ?_
              refine h10 _ _ ?_
              clear h10
              refine cndP rfl (fun c17 => ?_) (fun c17 => ?_)
              ·
                refine seq fun K18 h18 => ?_
                refine stp (v := .int .i64 70) (o_mv rfl) ?_
                refine h18 _ _ ?_
                clear h18
                refine ⟨(.int .i64 70), rfl, ?_⟩
                first | exact ⟨v_int (chk_0 (ne_of (fk_all (by omega) (by omega)) (by omega))).symm, hM3.upd⟩ | exact ⟨v_int (chk_0 (ne_of (fk_none (by omega) (by omega)) (by omega))).symm, hM3.upd⟩ | exact ⟨v_int (chk_0 (ne_of (fk_bits (by omega)) (by omega))).symm, hM3.upd⟩ | exact ⟨v_int (chk_70 (fk_bt (by omega))).symm, hM3.upd⟩ | exact ⟨v_int (chk_70 (fk_bf (by omega) (by omega))).symm, hM3.upd⟩
              ·
                refine h9 _ _ ?_
                clear h9
                refine seq fun K19 h19 => ?_
                refine stp (v := .int .i64 0) (o_mv rfl) ?_
                refine h19 _ _ ?_
                clear h19
                refine ⟨(.int .i64 0), rfl, ?_⟩
                first | exact ⟨v_int (chk_0 (ne_of (fk_all (by omega) (by omega)) (by omega))).symm, hM3.upd⟩ | exact ⟨v_int (chk_0 (ne_of (fk_none (by omega) (by omega)) (by omega))).symm, hM3.upd⟩ | exact ⟨v_int (chk_0 (ne_of (fk_bits (by omega)) (by omega))).symm, hM3.upd⟩ | exact ⟨v_int (chk_70 (fk_bt (by omega))).symm, hM3.upd⟩ | exact ⟨v_int (chk_70 (fk_bf (by omega) (by omega))).symm, hM3.upd⟩
    ·
      refine gno rfl (by simp) ?_
      refine gnol rfl (by simp) ?_
      refine gno rfl (by simp) ?_
      refine gno rfl (by simp) ?_
      refine stp (v := .bool false) (o_pickF rfl rfl) ?_
      refine h5 _ _ ?_
      clear h5
      refine cndF rfl ?_
      refine h4 _ _ ?_
      clear h4
      refine seq fun K20 h20 => ?_
      refine seq fun K21 h21 => ?_
      refine stp (v := .pointer (some ⟨b2, 0, none⟩)) (o_fa rfl rfl) ?_
      refine m_ld (v := .bool false) hM3 (i := 0) (j := 0) rfl rfl rfl rfl ?_
      refine stp (v := .bool false) (o_mv rfl) ?_
      refine splitF rfl ?_
      refine stg rfl (v := .pointer (some ⟨b2, 1, none⟩)) (o_fa rfl rfl) ?_
      refine gyesl rfl ?_
      refine m_ld (v := .int .i64 h) hM3 (i := 0) (j := 0) rfl rfl rfl rfl ?_
      refine stg rfl (v := .bool (decide (h < 1))) (o_bin rfl rfl rfl) ?_
      refine stp (v := .bool (decide (h < 1))) (o_pickF rfl rfl) ?_
      refine stp (v := .bool (decide (h < 1))) (o_mv rfl) ?_
      refine splitP rfl (fun c22 => ?_) (fun c22 => ?_)
      ·
        refine gno rfl (by simp) ?_
        refine gnol rfl (by simp) ?_
        refine gno rfl (by simp) ?_
        refine stp (v := .bool true) (o_pickT rfl rfl) ?_
        refine stp (v := .bool true) (o_mv rfl) ?_
        refine splitT rfl ?_
        refine gno rfl (by simp) ?_
        refine gnol rfl (by simp) ?_
        refine gno rfl (by simp) ?_
        refine gno rfl (by simp) ?_
        refine stp (v := .bool true) (o_pickT rfl rfl) ?_
        refine stp (v := .bool true) (o_mv rfl) ?_
        refine splitT rfl ?_
        refine gno rfl (by simp) ?_
        refine gnol rfl (by simp) ?_
        refine gno rfl (by simp) ?_
        refine gno rfl (by simp) ?_
        refine stp (v := .bool true) (o_pickT rfl rfl) ?_
        refine h21 _ _ ?_
        clear h21
        refine cndT rfl ?_
        refine seq fun K23 h23 => ?_
        refine stp (v := .int .i64 70) (o_mv rfl) ?_
        refine h23 _ _ ?_
        clear h23
        refine ⟨(.int .i64 70), rfl, ?_⟩
        first | exact ⟨v_int (chk_0 (ne_of (fk_all (by omega) (by omega)) (by omega))).symm, hM3.upd⟩ | exact ⟨v_int (chk_0 (ne_of (fk_none (by omega) (by omega)) (by omega))).symm, hM3.upd⟩ | exact ⟨v_int (chk_0 (ne_of (fk_bits (by omega)) (by omega))).symm, hM3.upd⟩ | exact ⟨v_int (chk_70 (fk_bt (by omega))).symm, hM3.upd⟩ | exact ⟨v_int (chk_70 (fk_bf (by omega) (by omega))).symm, hM3.upd⟩
      ·
        refine stg rfl (v := .pointer (some ⟨b2, 1, none⟩)) (o_fa rfl rfl) ?_
        refine gyesl rfl ?_
        refine m_ld (v := .int .i64 h) hM3 (i := 0) (j := 0) rfl rfl rfl rfl ?_
        refine stg rfl (v := .bool (decide ((8 : Int) < h))) (o_bin rfl rfl rfl) ?_
        refine stp (v := .bool (decide ((8 : Int) < h))) (o_pickF rfl rfl) ?_
        refine stp (v := .bool (decide ((8 : Int) < h))) (o_mv rfl) ?_
        refine splitP rfl (fun c24 => ?_) (fun c24 => ?_)
        ·
          refine gno rfl (by simp) ?_
          refine gnol rfl (by simp) ?_
          refine gno rfl (by simp) ?_
          refine gno rfl (by simp) ?_
          refine stp (v := .bool true) (o_pickT rfl rfl) ?_
          refine stp (v := .bool true) (o_mv rfl) ?_
          refine splitT rfl ?_
          refine gno rfl (by simp) ?_
          refine gnol rfl (by simp) ?_
          refine gno rfl (by simp) ?_
          refine gno rfl (by simp) ?_
          refine stp (v := .bool true) (o_pickT rfl rfl) ?_
          refine h21 _ _ ?_
          clear h21
          refine cndT rfl ?_
          refine seq fun K25 h25 => ?_
          refine stp (v := .int .i64 70) (o_mv rfl) ?_
          refine h25 _ _ ?_
          clear h25
          refine ⟨(.int .i64 70), rfl, ?_⟩
          first | exact ⟨v_int (chk_0 (ne_of (fk_all (by omega) (by omega)) (by omega))).symm, hM3.upd⟩ | exact ⟨v_int (chk_0 (ne_of (fk_none (by omega) (by omega)) (by omega))).symm, hM3.upd⟩ | exact ⟨v_int (chk_0 (ne_of (fk_bits (by omega)) (by omega))).symm, hM3.upd⟩ | exact ⟨v_int (chk_70 (fk_bt (by omega))).symm, hM3.upd⟩ | exact ⟨v_int (chk_70 (fk_bf (by omega) (by omega))).symm, hM3.upd⟩
        ·
          refine stg rfl (v := .pointer (some ⟨b2, 2, none⟩)) (o_fa rfl rfl) ?_
          refine gyesl rfl ?_
          refine m_ld (v := v) hM3 (i := 0) (j := 0) rfl rfl rfl rfl ?_
          refine stg rfl (v := .int .i64 (d.length : Nat)) (o_lenR (hd.upd hM3.upd) rfl rfl) ?_
          refine stg rfl (v := .bool (decide (((d.length : Nat) : Int) < 1))) (o_bin rfl rfl rfl) ?_
          refine stp (v := .bool (decide (((d.length : Nat) : Int) < 1))) (o_pickF rfl rfl) ?_
          refine stp (v := .bool (decide (((d.length : Nat) : Int) < 1))) (o_mv rfl) ?_
          refine splitP rfl (fun c26 => ?_) (fun c26 => ?_)
          ·
            refine gno rfl (by simp) ?_
            refine gnol rfl (by simp) ?_
            refine gno rfl (by simp) ?_
            refine gno rfl (by simp) ?_
            refine stp (v := .bool true) (o_pickT rfl rfl) ?_
            refine h21 _ _ ?_
            clear h21
            refine cndT rfl ?_
            refine seq fun K27 h27 => ?_
            refine stp (v := .int .i64 70) (o_mv rfl) ?_
            refine h27 _ _ ?_
            clear h27
            refine ⟨(.int .i64 70), rfl, ?_⟩
            first | exact ⟨v_int (chk_0 (ne_of (fk_all (by omega) (by omega)) (by omega))).symm, hM3.upd⟩ | exact ⟨v_int (chk_0 (ne_of (fk_none (by omega) (by omega)) (by omega))).symm, hM3.upd⟩ | exact ⟨v_int (chk_0 (ne_of (fk_bits (by omega)) (by omega))).symm, hM3.upd⟩ | exact ⟨v_int (chk_70 (fk_bt (by omega))).symm, hM3.upd⟩ | exact ⟨v_int (chk_70 (fk_bf (by omega) (by omega))).symm, hM3.upd⟩
          ·
            refine stg rfl (v := .pointer (some ⟨b2, 2, none⟩)) (o_fa rfl rfl) ?_
            refine gyesl rfl ?_
            refine m_ld (v := v) hM3 (i := 0) (j := 0) rfl rfl rfl rfl ?_
            refine stg rfl (v := .int .i64 (d.length : Nat)) (o_lenR (hd.upd hM3.upd) rfl rfl) ?_
            refine stg rfl (v := .bool (decide ((4096 : Int) < ((d.length : Nat) : Int)))) (o_bin rfl rfl rfl) ?_
            refine stp (v := .bool (decide ((4096 : Int) < ((d.length : Nat) : Int)))) (o_pickF rfl rfl) ?_
            refine h21 _ _ ?_
            clear h21
            refine cndP rfl (fun c28 => ?_) (fun c28 => ?_)
            ·
              refine seq fun K29 h29 => ?_
              refine stp (v := .int .i64 70) (o_mv rfl) ?_
              refine h29 _ _ ?_
              clear h29
              refine ⟨(.int .i64 70), rfl, ?_⟩
              first | exact ⟨v_int (chk_0 (ne_of (fk_all (by omega) (by omega)) (by omega))).symm, hM3.upd⟩ | exact ⟨v_int (chk_0 (ne_of (fk_none (by omega) (by omega)) (by omega))).symm, hM3.upd⟩ | exact ⟨v_int (chk_0 (ne_of (fk_bits (by omega)) (by omega))).symm, hM3.upd⟩ | exact ⟨v_int (chk_70 (fk_bt (by omega))).symm, hM3.upd⟩ | exact ⟨v_int (chk_70 (fk_bf (by omega) (by omega))).symm, hM3.upd⟩
            ·
              refine h20 _ _ ?_
              clear h20
              refine seq fun K30 h30 => ?_
              refine stp (v := .int .i64 0) (o_mv rfl) ?_
              refine h30 _ _ ?_
              clear h30
              refine ⟨(.int .i64 0), rfl, ?_⟩
              first | exact ⟨v_int (chk_0 (ne_of (fk_all (by omega) (by omega)) (by omega))).symm, hM3.upd⟩ | exact ⟨v_int (chk_0 (ne_of (fk_none (by omega) (by omega)) (by omega))).symm, hM3.upd⟩ | exact ⟨v_int (chk_0 (ne_of (fk_bits (by omega)) (by omega))).symm, hM3.upd⟩ | exact ⟨v_int (chk_70 (fk_bt (by omega))).symm, hM3.upd⟩ | exact ⟨v_int (chk_70 (fk_bf (by omega) (by omega))).symm, hM3.upd⟩
  ·
    refine stp (v := .pointer (some ⟨b2, 1, none⟩)) (o_fa rfl rfl) ?_
    refine m_ld (v := .int .i64 h) hM3 (i := 0) (j := 0) rfl rfl rfl rfl ?_
    refine stp (v := .bool (decide (h = 0))) (o_bin rfl rfl rfl) ?_
    refine stp (v := .bool (decide (h = 0))) (o_mv rfl) ?_
    refine splitP rfl (fun c31 => ?_) (fun c31 => ?_)
    ·
      refine stg rfl (v := .pointer (some ⟨b2, 2, none⟩)) (o_fa rfl rfl) ?_
      refine gyesl rfl ?_
      refine m_ld (v := v) hM3 (i := 0) (j := 0) rfl rfl rfl rfl ?_
      refine stg rfl (v := .int .i64 (d.length : Nat)) (o_lenR (hd.upd hM3.upd) rfl rfl) ?_
      refine stg rfl (v := .bool (decide (((d.length : Nat) : Int) = 0))) (o_bin rfl rfl rfl) ?_
      refine stp (v := .bool (decide (((d.length : Nat) : Int) = 0))) (o_pickT rfl rfl) ?_
      refine h5 _ _ ?_
      clear h5
      refine cndP rfl (fun c32 => ?_) (fun c32 => ?_)
      ·
        refine seq fun K33 h33 => ?_
        refine stp (v := .int .i64 0) (o_mv rfl) ?_
        refine h33 _ _ ?_
        clear h33
        refine ⟨(.int .i64 0), rfl, ?_⟩
        first | exact ⟨v_int (chk_0 (ne_of (fk_all (by omega) (by omega)) (by omega))).symm, hM3.upd⟩ | exact ⟨v_int (chk_0 (ne_of (fk_none (by omega) (by omega)) (by omega))).symm, hM3.upd⟩ | exact ⟨v_int (chk_0 (ne_of (fk_bits (by omega)) (by omega))).symm, hM3.upd⟩ | exact ⟨v_int (chk_70 (fk_bt (by omega))).symm, hM3.upd⟩ | exact ⟨v_int (chk_70 (fk_bf (by omega) (by omega))).symm, hM3.upd⟩
      ·
        refine h4 _ _ ?_
        clear h4
        refine seq fun K34 h34 => ?_
        refine seq fun K35 h35 => ?_
        refine stp (v := .pointer (some ⟨b2, 0, none⟩)) (o_fa rfl rfl) ?_
        refine m_ld (v := .bool true) hM3 (i := 0) (j := 0) rfl rfl rfl rfl ?_
        refine stp (v := .bool true) (o_mv rfl) ?_
        refine splitT rfl ?_
        refine gno rfl (by simp) ?_
        refine gnol rfl (by simp) ?_
        refine gno rfl (by simp) ?_
        refine stp (v := .bool true) (o_pickT rfl rfl) ?_
        refine stp (v := .bool true) (o_mv rfl) ?_
        refine splitT rfl ?_
        refine gno rfl (by simp) ?_
        refine gnol rfl (by simp) ?_
        refine gno rfl (by simp) ?_
        refine stp (v := .bool true) (o_pickT rfl rfl) ?_
        refine stp (v := .bool true) (o_mv rfl) ?_
        refine splitT rfl ?_
        refine gno rfl (by simp) ?_
        refine gnol rfl (by simp) ?_
        refine gno rfl (by simp) ?_
        refine gno rfl (by simp) ?_
        refine stp (v := .bool true) (o_pickT rfl rfl) ?_
        refine stp (v := .bool true) (o_mv rfl) ?_
        refine splitT rfl ?_
        refine gno rfl (by simp) ?_
        refine gnol rfl (by simp) ?_
        refine gno rfl (by simp) ?_
        refine gno rfl (by simp) ?_
        refine stp (v := .bool true) (o_pickT rfl rfl) ?_
        refine h35 _ _ ?_
        clear h35
        refine cndT rfl ?_
        refine seq fun K36 h36 => ?_
        refine stp (v := .int .i64 70) (o_mv rfl) ?_
        refine h36 _ _ ?_
        clear h36
        refine ⟨(.int .i64 70), rfl, ?_⟩
        first | exact ⟨v_int (chk_0 (ne_of (fk_all (by omega) (by omega)) (by omega))).symm, hM3.upd⟩ | exact ⟨v_int (chk_0 (ne_of (fk_none (by omega) (by omega)) (by omega))).symm, hM3.upd⟩ | exact ⟨v_int (chk_0 (ne_of (fk_bits (by omega)) (by omega))).symm, hM3.upd⟩ | exact ⟨v_int (chk_70 (fk_bt (by omega))).symm, hM3.upd⟩ | exact ⟨v_int (chk_70 (fk_bf (by omega) (by omega))).symm, hM3.upd⟩
    ·
      refine gno rfl (by simp) ?_
      refine gnol rfl (by simp) ?_
      refine gno rfl (by simp) ?_
      refine gno rfl (by simp) ?_
      refine stp (v := .bool false) (o_pickF rfl rfl) ?_
      refine h5 _ _ ?_
      clear h5
      refine cndF rfl ?_
      refine h4 _ _ ?_
      clear h4
      refine seq fun K37 h37 => ?_
      refine seq fun K38 h38 => ?_
      refine stp (v := .pointer (some ⟨b2, 0, none⟩)) (o_fa rfl rfl) ?_
      refine m_ld (v := .bool true) hM3 (i := 0) (j := 0) rfl rfl rfl rfl ?_
      refine stp (v := .bool true) (o_mv rfl) ?_
      refine splitT rfl ?_
      refine gno rfl (by simp) ?_
      refine gnol rfl (by simp) ?_
      refine gno rfl (by simp) ?_
      refine stp (v := .bool true) (o_pickT rfl rfl) ?_
      refine stp (v := .bool true) (o_mv rfl) ?_
      refine splitT rfl ?_
      refine gno rfl (by simp) ?_
      refine gnol rfl (by simp) ?_
      refine gno rfl (by simp) ?_
      refine stp (v := .bool true) (o_pickT rfl rfl) ?_
      refine stp (v := .bool true) (o_mv rfl) ?_
      refine splitT rfl ?_
      refine gno rfl (by simp) ?_
      refine gnol rfl (by simp) ?_
      refine gno rfl (by simp) ?_
      refine gno rfl (by simp) ?_
      refine stp (v := .bool true) (o_pickT rfl rfl) ?_
      refine stp (v := .bool true) (o_mv rfl) ?_
      refine splitT rfl ?_
      refine gno rfl (by simp) ?_
      refine gnol rfl (by simp) ?_
      refine gno rfl (by simp) ?_
      refine gno rfl (by simp) ?_
      refine stp (v := .bool true) (o_pickT rfl rfl) ?_
      refine h38 _ _ ?_
      clear h38
      refine cndT rfl ?_
      refine seq fun K39 h39 => ?_
      refine stp (v := .int .i64 70) (o_mv rfl) ?_
      refine h39 _ _ ?_
      clear h39
      refine ⟨(.int .i64 70), rfl, ?_⟩
      first | exact ⟨v_int (chk_0 (ne_of (fk_all (by omega) (by omega)) (by omega))).symm, hM3.upd⟩ | exact ⟨v_int (chk_0 (ne_of (fk_none (by omega) (by omega)) (by omega))).symm, hM3.upd⟩ | exact ⟨v_int (chk_0 (ne_of (fk_bits (by omega)) (by omega))).symm, hM3.upd⟩ | exact ⟨v_int (chk_70 (fk_bt (by omega))).symm, hM3.upd⟩ | exact ⟨v_int (chk_70 (fk_bf (by omega) (by omega))).symm, hM3.upd⟩

/-- filter.Has -/
theorem Has_ok (a : Bool) (h : Int) (v : Value) (d key : List UInt8) (w : World) (hd : RdE byteV w v d) (hl : d.length ≤ 140737488351232) (hk : key.length ≤ 9223372036854775807) (hh : inK .i64 h) : Calls Tryd.prog 17 [.agg [.bool a, .int .i64 h, v].toArray, .string (str key)].toArray w (Rt fun r w' => r = .bool (hasF a h d key) ∧ Upd [] w w') := by
  have hM0 : Mem w [] w [] := Mem.nil w []
  simp only [inK] at hh
  refine calls_vc mixed Tryd.func17 rfl C17 (by simp [Tryd.ntmps17]) ?_
  refine seq fun K1 h1 => ?_
  refine m_bx (v := .agg ([.bool a, .int .i64 h, v] : List Value).toArray) hM0 rfl rfl fun b2 w3 (hM3 : Mem w [] w3 [[⟨b2, 24, [.bool a, .int .i64 h, v]⟩]]) => ?_
  refine stp (v := .bool false) (o_mv rfl) ?_
  refine h1 _ _ ?_
  clear h1
  refine seq fun K4 h4 => ?_
  refine seq fun K5 h5 => ?_
  refine m_ldA (l := [.bool a, .int .i64 h, v]) hM3 (i := 0) (j := 0) rfl rfl rfl rfl rfl ?_
  refine m_call (kind_ok a h _ d w3 (hd.upd hM3.upd) (by first | omega | (simp; done) | (simp; omega))) rfl fun v6 w6 ⟨hr6, hu6⟩ => ?_
  have hM6 : Mem w [] w6 [[⟨b2, 24, [.bool a, .int .i64 h, v]⟩]] := hM3.pure hu6
  subst hr6
  refine h5 _ _ ?_
  clear h5
  refine seq fun K7 h7 => ?_
  refine stp (v := .bool (decide (((fk a h d : Nat) : Int) = 1))) (o_bin rfl rfl rfl) ?_
  refine stp (v := .bool (decide (((fk a h d : Nat) : Int) = 1))) (o_mv rfl) ?_
  refine h7 _ _ ?_
  clear h7
  refine cndP rfl (fun c8 => ?_) (fun c8 => ?_)
  ·
    refine seq fun K9 h9 => ?_
    refine stp (v := .bool true) (o_mv rfl) ?_
    refine h9 _ _ ?_
    clear h9
    refine ⟨(.bool true), rfl, ?_⟩
    exact ⟨by rw [hasF_1 (by omega)], hM6.upd⟩
  ·
    refine seq fun K10 h10 => ?_
    refine stp (v := .bool (decide (((fk a h d : Nat) : Int) = 3))) (o_bin rfl rfl rfl) ?_
    refine stp (v := .bool (decide (((fk a h d : Nat) : Int) = 3))) (o_mv rfl) ?_
    refine h10 _ _ ?_
    clear h10
    refine cndP rfl (fun c11 => ?_) (fun c11 => ?_)
    ·
      refine seq fun K12 h12 => ?_
      have h3 := fk3 (a := a) (h := h) (d := d) (by omega)
      refine stp (v := .string (str key)) (o_mv rfl) ?_
      refine stp (v := .pointer (some ⟨b2, 1, none⟩)) (o_fa rfl rfl) ?_
      refine m_ld (v := .int .i64 h) hM6 (i := 0) (j := 0) rfl rfl rfl rfl ?_
      refine stp (v := .pointer (some ⟨b2, 2, none⟩)) (o_fa rfl rfl) ?_
      refine m_ld (v := v) hM6 (i := 0) (j := 0) rfl rfl rfl rfl ?_
      refine stp (v := .int .i64 (d.length : Nat)) (o_lenR (hd.upd hM6.upd) rfl rfl) ?_
      refine stp (v := .func (.func 29) [].toArray [.pointer (some ⟨b2, 0, none⟩)].toArray) (o_mkf rfl) ?_
      refine m_call (each_ok (I := fun (_ : Unit) wc => Upd [] w6 wc) (fun _ => testB d) (fun s _ => s) () key h d.length _ _ w6 hk (by omega) (by omega) (by omega) (by kernel_rfl) (Upd.refl _ _) (fun s wa wc h1 h2 => h1.trans h2) (fun s p wc hI hp => (look_ok p _ a h v d wc ((hM6.at (i := 0) (j := 0) rfl rfl).upd hI (by simp)) ((hd.upd hM6.upd).upd hI) hp (by omega)).mono (fun e w' he => by obtain ⟨r, e1, e2, e3⟩ := he; exact ⟨r, e1, e2, hI.trans e3⟩))) rfl fun v13 w13 ⟨hr13, hu13⟩ => ?_
      have hM13 : Mem w [] w13 [[⟨b2, 24, [.bool a, .int .i64 h, v]⟩]] := hM6.pure hu13
      subst hr13
      refine stp (v := .bool ((runE (fun (_ : Unit) => testB d) (fun s _ => s) () (places key h.toNat d.length)).1)) (o_mv rfl) ?_
      refine h12 _ _ ?_
      clear h12
      refine ⟨(.bool ((runE (fun (_ : Unit) => testB d) (fun s _ => s) () (places key h.toNat d.length)).1)), rfl, ?_⟩
      exact ⟨by rw [hasF_3 (by omega), ← runE_all], hM13.upd⟩
    ·
      refine h4 _ _ ?_
      clear h4
      refine seq fun K14 h14 => ?_
      refine stp (v := .bool false) (o_mv rfl) ?_
      refine h14 _ _ ?_
      clear h14
      refine ⟨(.bool false), rfl, ?_⟩
      exact ⟨by rw [hasF_0 (by omega) (by omega)], hM6.upd⟩
