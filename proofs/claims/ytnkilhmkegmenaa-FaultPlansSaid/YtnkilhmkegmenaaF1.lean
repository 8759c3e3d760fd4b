/- Damages: the helpers of the laws, whether an entry may be. -/
import Derived.Test.YtnkilhmkegmenaaE17
import Derived.Test.YtnkilhmkegmenaaM
namespace Go.Proofs.Ytnkilhmkegmenaa.E
open Go
/-- an entry of a script -/
structure Flt where
  kind : Int
  tk : Int
  task : Int
  att : Int
  mom : Int
  rd : Int
  at_ : Int
  mask : Int
deriving DecidableEq
def dmgP (f : Flt) : Prop := f.tk = 0 ∧ f.task < 256 ∧ 0 ≤ f.mom ∧ f.mom ≤ 2 ∧ 0 ≤ f.rd ∧ f.rd < 65535 ∧ (f.mom = 2 ∨ f.rd = 0)
def stopP (f : Flt) : Prop := f.mom = 0 ∧ f.rd = 0 ∧ f.mask = 0 ∧ 0 ≤ f.at_ ∧ (f.tk = 0 ∧ f.task < 256 ∨ f.tk = 1 ∧ f.task < 65535)
def goodP (f : Flt) : Prop := 0 ≤ f.task ∧ 1 ≤ f.att ∧ f.att ≤ 16 ∧ (f.kind = 0 ∧ stopP f ∨ f.kind = 1 ∧ dmgP f ∧ 0 ≤ f.at_ ∧ f.mask % 2 = 1 ∨ f.kind = 2 ∧ dmgP f ∧ -268435456 ≤ f.at_ ∧ f.at_ ≤ 4096 ∧ ¬ f.at_ = 0 ∧ f.mask = 0)
instance (f : Flt) : Decidable (dmgP f) := by unfold dmgP; infer_instance
instance (f : Flt) : Decidable (stopP f) := by unfold stopP; infer_instance
instance (f : Flt) : Decidable (goodP f) := by unfold goodP; infer_instance
/-- the bit k turned, if bit is 1 -/
def flipStep (c : List UInt8) (k bit : Nat) : List UInt8 := c.set (k / 8) (c.getD (k / 8) 0 ^^^ (bit * 2 ^ (k % 8)).toUInt8)
/-- bit i of a mask -/
def mb (m i : Nat) : Nat := m / 2 ^ i % 2
theorem mb_le (m i : Nat) : mb m i ≤ 1 := by unfold mb; omega
/-- the mask's first bits laid from the bit p on -/
def flips (b : List UInt8) (p m : Nat) : Nat → List UInt8
  | 0 => b
  | i + 1 => if p + i < 8 * b.length then flipStep (flips b p m i) (p + i) (mb m i) else flips b p m i
theorem flips_length (b : List UInt8) (p m i : Nat) : (flips b p m i).length = b.length := by
  induction i with
  | zero => rfl
  | succ i ih => simp only [flips]; split <;> simp [flipStep, ih]
theorem flips_in {b : List UInt8} {p m i : Nat} (h : p + i < 8 * b.length) : flips b p m (i + 1) = flipStep (flips b p m i) (p + i) (mb m i) := by rw [flips, if_pos h]
theorem flips_out {b : List UInt8} {p m i : Nat} (h : ¬ p + i < 8 * b.length) : flips b p m (i + 1) = flips b p m i := by rw [flips, if_neg h]
theorem flips_end {b : List UInt8} {p m i : Nat} (h : ¬ p + i < 8 * b.length) : ∀ d, flips b p m (i + d) = flips b p m i := by
  intro d
  induction d with
  | zero => rfl
  | succ d ih => rw [← Nat.add_assoc, flips_out (by omega), ih]
theorem set_getD_self {c : List UInt8} {j : Nat} : c.set j (c.getD j 0) = c := by
  rw [List.getD_eq_getElem?_getD]
  by_cases h : j < c.length
  · rw [List.getElem?_eq_getElem h]; simp
  · rw [List.set_eq_of_length_le (by omega)]
theorem flipStep_zero (c : List UInt8) (k : Nat) : flipStep c k 0 = c := by
  unfold flipStep
  have : (0 * 2 ^ (k % 8)).toUInt8 = (0 : UInt8) := by simp
  rw [this, UInt8.xor_zero, set_getD_self]
theorem flips_skip {b : List UInt8} {p m i : Nat} (h : ¬ (mb m i = 1 ∧ p + i < 8 * b.length)) : flips b p m (i + 1) = flips b p m i := by
  by_cases h1 : p + i < 8 * b.length
  · rw [flips_in h1, show mb m i = 0 by have := mb_le m i; omega, flipStep_zero]
  · exact flips_out h1
/-- what a file is behind an entry -/
def damage (b : List UInt8) (f : Flt) : List UInt8 :=
  if goodP f then
    if f.kind = 1 then (if b.length = 0 then b else flips b (f.at_.toNat % (8 * b.length)) f.mask.toNat 32)
    else if f.kind = 2 then (if 0 < f.at_ then b ++ List.replicate f.at_.toNat 0 else b.take (b.length + f.at_).toNat)
    else b
  else b
theorem damage_bad {b : List UInt8} {f : Flt} (h : ¬ goodP f) : damage b f = b := by unfold damage; rw [if_neg h]
theorem damage_stop {b : List UInt8} {f : Flt} (h : ¬ f.kind = 1) (h2 : ¬ f.kind = 2) : damage b f = b := by unfold damage; rw [if_neg h, if_neg h2]; split <;> rfl
theorem damage_none {b : List UInt8} {f : Flt} (h : f.kind = 1) (h2 : b.length = 0) : damage b f = b := by unfold damage; rw [if_pos h, if_pos h2]; split <;> rfl
theorem damage_flip {b : List UInt8} {f : Flt} (g : goodP f) (h : f.kind = 1) (h2 : ¬ b.length = 0) : damage b f = flips b (f.at_.toNat % (8 * b.length)) f.mask.toNat 32 := by unfold damage; rw [if_pos g, if_pos h, if_neg h2]
theorem damage_more {b : List UInt8} {f : Flt} (g : goodP f) (h : f.kind = 2) (h2 : 0 < f.at_) : damage b f = b ++ List.replicate f.at_.toNat 0 := by unfold damage; rw [if_pos g, if_neg (by omega), if_pos h, if_pos h2]
theorem damage_less {b : List UInt8} {f : Flt} (g : goodP f) (h : f.kind = 2) (h2 : ¬ 0 < f.at_) : damage b f = b.take (b.length + f.at_).toNat := by unfold damage; rw [if_pos g, if_neg (by omega), if_pos h, if_neg h2]
theorem damage_length (b : List UInt8) (f : Flt) : (damage b f).length ≤ b.length + 4096 := by
  unfold damage
  split
  · rename_i g
    split
    · split
      · omega
      · rw [flips_length]; omega
    · split
      · rename_i h1 h2
        obtain ⟨_, _, _, g⟩ := g
        split
        · rw [List.length_append, List.length_replicate]; omega
        · rw [List.length_take]; omega
      · omega
  · omega

def fltC (f : Flt) : List Value := [.int .i64 f.kind, .int .i64 f.tk, .int .i64 f.task, .int .i64 f.att, .int .i64 f.mom, .int .i64 f.rd, .int .i64 f.at_, .int .u32 f.mask]
instance : Enc fltC 8 := ⟨fun _ => rfl, by omega, fun c => by intro v hv; simp only [fltC, List.mem_cons, List.not_mem_nil, or_false] at hv; rcases hv with rfl | rfl | rfl | rfl | rfl | rfl | rfl | rfl <;> rfl⟩
/-- its numbers are such as its fields hold -/
def Flt.ok (f : Flt) : Prop := inK .i64 f.kind ∧ inK .i64 f.tk ∧ inK .i64 f.task ∧ inK .i64 f.att ∧ inK .i64 f.mom ∧ inK .i64 f.rd ∧ inK .i64 f.at_ ∧ inK .u32 f.mask
theorem bT {p : Prop} [Decidable p] (h : p) : Value.bool true = .bool (decide p) := by rw [decide_eq_true h]
theorem bF {p : Prop} [Decidable p] (h : ¬ p) : Value.bool false = .bool (decide p) := by rw [decide_eq_false h]
theorem bP {p q : Prop} [Decidable p] [Decidable q] (h : q ↔ p) : Value.bool (decide q) = .bool (decide p) := by rw [decide_eq_decide.2 h]
/-- bytes of which each is another one from k up to i -/
def turnI (k i : Nat) (l : List UInt8) : List UInt8 := (List.range l.length).map fun j => if k ≤ j ∧ j < i then l.getD j 0 ^^^ 64 else l.getD j 0
def turn (k : Nat) (l : List UInt8) : List UInt8 := turnI k l.length l
theorem turnI_length (k i : Nat) (l : List UInt8) : (turnI k i l).length = l.length := by simp [turnI]
theorem turn_length (k : Nat) (l : List UInt8) : (turn k l).length = l.length := turnI_length k _ l
theorem turnI_getD {k i j : Nat} {l : List UInt8} (h : j < l.length) : (turnI k i l).getD j 0 = if k ≤ j ∧ j < i then l.getD j 0 ^^^ 64 else l.getD j 0 := by
  rw [turnI, List.getD_eq_getElem?_getD, List.getElem?_map, List.getElem?_range h]; rfl
theorem turnI_zero (k : Nat) (l : List UInt8) : turnI k k l = l := by
  refine ext_getD 0 (turnI_length _ _ _) fun j hj => ?_
  rw [turnI_length] at hj
  rw [turnI_getD hj, if_neg (by omega)]
theorem turnI_set {k i : Nat} {l : List UInt8} (hk : k ≤ i) (hi : i < l.length) : (turnI k i l).set i ((turnI k i l).getD i 0 ^^^ 64) = turnI k (i + 1) l := by
  refine ext_getD 0 (by simp [turnI_length]) fun j hj => ?_
  have hj' : j < l.length := by simpa [turnI_length] using hj
  rw [set_getD 0 (by rw [turnI_length]; exact hj'), turnI_getD hi, turnI_getD hj', turnI_getD hj', if_neg (show ¬ (k ≤ i ∧ i < i) by omega)]
  by_cases e : i = j
  · subst e; rw [if_pos rfl, if_pos (by omega)]
  · rw [if_neg e]
    by_cases c : k ≤ j ∧ j < i
    · rw [if_pos c, if_pos (by omega)]
    · rw [if_neg c, if_neg (by omega)]
theorem turnI_end {k i : Nat} {l : List UInt8} (h : l.length ≤ i) : turnI k i l = turn k l := by
  refine ext_getD 0 (by rw [turnI_length, turn_length]) fun j hj => ?_
  have hj' : j < l.length := by simpa [turnI_length] using hj
  unfold turn
  rw [turnI_getD hj', turnI_getD hj']
  by_cases c : k ≤ j ∧ j < i
  · rw [if_pos c, if_pos (by omega)]
  · rw [if_neg c, if_neg (by omega)]
theorem xor64 (c : UInt8) : xorI .u8 (c.toNat : Int) 64 = ((c ^^^ 64).toNat : Int) := by
  have hc := c.toNat_lt
  have h : c.toNat ^^^ 64 < 2 ^ 8 := Nat.xor_lt_two_pow hc (by decide)
  have := xorI_nat (k := .u8) (a := c.toNat) (b := 64) (by simpa [IntKind.bits] using hc) (by decide) (by simp only [inK]; omega)
  rw [show (64 : Int) = ((64 : Nat) : Int) from rfl, this]
  simp

def goodS (f : Flt) : Prop := (f.tk = 0 ∧ f.task < 256 ∨ f.tk = 1 ∧ f.task < 65535) ∧ f.mom = 0 ∧ f.rd = 0 ∧ 0 ≤ f.at_ ∧ f.mask = 0
def goodF (f : Flt) : Prop := dmgP f ∧ 0 ≤ f.at_ ∧ f.mask % 2 = 1
def goodL (f : Flt) : Prop := dmgP f ∧ -268435456 ≤ f.at_ ∧ f.at_ ≤ 4096 ∧ ¬ f.at_ = 0 ∧ f.mask = 0
instance (f : Flt) : Decidable (goodS f) := by unfold goodS; infer_instance
instance (f : Flt) : Decidable (goodF f) := by unfold goodF; infer_instance
instance (f : Flt) : Decidable (goodL f) := by unfold goodL; infer_instance
theorem and1 {m : Int} (h : 0 ≤ m ∧ m ≤ 4294967295) : andI .u32 m 1 = m % 2 := by
  have := andI_nat (k := .u32) (a := m.toNat) (b := 1) (by simp only [IntKind.bits]; omega) (by decide) (by rw [Nat.and_one_is_mod]; simp only [inK]; omega)
  rw [Nat.and_one_is_mod] at this
  rw [show m = ((m.toNat : Nat) : Int) by omega, show (1 : Int) = ((1 : Nat) : Int) from rfl, this]; omega

/-- fault.damages -/
theorem damages_ok (f : Flt) (w : World) (hf : f.ok) : Calls Try.prog 55 [.agg (fltC f).toArray].toArray w (Rt fun r w' => r = .bool (decide (dmgP f)) ∧ Upd [] w w') := by
  have hM0 : Mem w [] w [] := Mem.nil w []
  have hf0 := hf
  simp only [Flt.ok, inK] at hf
  refine calls_vc mixed Try.func55 rfl C55 (by simp [Try.ntmps55]) ?_
  refine seq fun K1 h1 => ?_
  refine m_bx (v := .agg ([.int .i64 f.kind, .int .i64 f.tk, .int .i64 f.task, .int .i64 f.att, .int .i64 f.mom, .int .i64 f.rd, .int .i64 f.at_, .int .u32 f.mask] : List Value).toArray) hM0 rfl rfl fun b2 w3 (hM3 : Mem w [] w3 [[⟨b2, 25, [.int .i64 f.kind, .int .i64 f.tk, .int .i64 f.task, .int .i64 f.att, .int .i64 f.mom, .int .i64 f.rd, .int .i64 f.at_, .int .u32 f.mask]⟩]]) => ?_
  refine stp (v := .bool false) (o_mv rfl) ?_
  refine h1 _ _ ?_
  clear h1
  refine seq fun K4 h4 => ?_
  refine seq fun K5 h5 => ?_
  refine stp (v := .pointer (some ⟨b2, 1, none⟩)) (o_fa rfl rfl) ?_
  refine m_ld (v := .int .i64 f.tk) hM3 (i := 0) (j := 0) rfl rfl rfl rfl ?_
  refine stp (v := .bool (decide (¬ f.tk = 0))) (o_bin rfl rfl v_neq) ?_
  refine stp (v := .bool (decide (¬ f.tk = 0))) (o_mv rfl) ?_
  refine splitP rfl (fun c6 => ?_) (fun c6 => ?_)
  ·
    refine gno rfl (by simp) ?_
    refine gnol rfl (by simp) ?_
    refine gno rfl (by simp) ?_
    refine stp (v := .bool true) (o_pickT rfl rfl) ?_
    refine stp (v := .bool true) (o_mv rfl) ?_
    refine splitT rfl ?_
    refine gno rfl (by simp) ?_
    refine gnol rfl (by simp) ?_
    refine gno rfl (by simp) ?_
    refine stp (v := .bool true) (o_pickT rfl rfl) ?_
    refine stp (v := .bool true) (o_mv rfl) ?_
    refine splitT rfl ?_
    refine gno rfl (by simp) ?_
    refine gnol rfl (by simp) ?_
    refine gno rfl (by simp) ?_
    refine stp (v := .bool true) (o_pickT rfl rfl) ?_
    refine h5 _ _ ?_
    clear h5
    refine cndT rfl ?_
    refine seq fun K7 h7 => ?_
    refine stp (v := .bool false) (o_mv rfl) ?_
    refine h7 _ _ ?_
    clear h7
    refine ⟨(.bool false), rfl, ?_⟩
    first | exact ⟨bT (by simp only [dmgP] at *; omega), hM3.upd⟩ | exact ⟨bF (by simp only [dmgP] at *; omega), hM3.upd⟩ | exact ⟨bP (by simp only [dmgP] at *; omega), hM3.upd⟩
  ·
    refine stg rfl (v := .pointer (some ⟨b2, 2, none⟩)) (o_fa rfl rfl) ?_
    refine gyesl rfl ?_
    refine m_ld (v := .int .i64 f.task) hM3 (i := 0) (j := 0) rfl rfl rfl rfl ?_
    refine stg rfl (v := .bool (decide ((256 : Int) ≤ f.task))) (o_bin rfl rfl rfl) ?_
    refine stp (v := .bool (decide ((256 : Int) ≤ f.task))) (o_pickF rfl rfl) ?_
    refine stp (v := .bool (decide ((256 : Int) ≤ f.task))) (o_mv rfl) ?_
    refine splitP rfl (fun c8 => ?_) (fun c8 => ?_)
    ·
      refine gno rfl (by simp) ?_
      refine gnol rfl (by simp) ?_
      refine gno rfl (by simp) ?_
      refine stp (v := .bool true) (o_pickT rfl rfl) ?_
      refine stp (v := .bool true) (o_mv rfl) ?_
      refine splitT rfl ?_
      refine gno rfl (by simp) ?_
      refine gnol rfl (by simp) ?_
      refine gno rfl (by simp) ?_
      refine stp (v := .bool true) (o_pickT rfl rfl) ?_
      refine h5 _ _ ?_
      clear h5
      refine cndT rfl ?_
      refine seq fun K9 h9 => ?_
      refine stp (v := .bool false) (o_mv rfl) ?_
      refine h9 _ _ ?_
      clear h9
      refine ⟨(.bool false), rfl, ?_⟩
      first | exact ⟨bT (by simp only [dmgP] at *; omega), hM3.upd⟩ | exact ⟨bF (by simp only [dmgP] at *; omega), hM3.upd⟩ | exact ⟨bP (by simp only [dmgP] at *; omega), hM3.upd⟩
    ·
      refine stg rfl (v := .pointer (some ⟨b2, 4, none⟩)) (o_fa rfl rfl) ?_
      refine gyesl rfl ?_
      refine m_ld (v := .int .i64 f.mom) hM3 (i := 0) (j := 0) rfl rfl rfl rfl ?_
      refine stg rfl (v := .bool (decide (f.mom < 0))) (o_bin rfl rfl rfl) ?_
      refine stp (v := .bool (decide (f.mom < 0))) (o_pickF rfl rfl) ?_
      refine stp (v := .bool (decide (f.mom < 0))) (o_mv rfl) ?_
      refine splitP rfl (fun c10 => ?_) (fun c10 => ?_)
      ·
        refine gno rfl (by simp) ?_
        refine gnol rfl (by simp) ?_
        refine gno rfl (by simp) ?_
        refine stp (v := .bool true) (o_pickT rfl rfl) ?_
        refine h5 _ _ ?_
        clear h5
        refine cndT rfl ?_
        refine seq fun K11 h11 => ?_
        refine stp (v := .bool false) (o_mv rfl) ?_
        refine h11 _ _ ?_
        clear h11
        refine ⟨(.bool false), rfl, ?_⟩
        first | exact ⟨bT (by simp only [dmgP] at *; omega), hM3.upd⟩ | exact ⟨bF (by simp only [dmgP] at *; omega), hM3.upd⟩ | exact ⟨bP (by simp only [dmgP] at *; omega), hM3.upd⟩
      ·
        refine stg rfl (v := .pointer (some ⟨b2, 4, none⟩)) (o_fa rfl rfl) ?_
        refine gyesl rfl ?_
        refine m_ld (v := .int .i64 f.mom) hM3 (i := 0) (j := 0) rfl rfl rfl rfl ?_
        refine stg rfl (v := .bool (decide ((2 : Int) < f.mom))) (o_bin rfl rfl rfl) ?_
        refine stp (v := .bool (decide ((2 : Int) < f.mom))) (o_pickF rfl rfl) ?_
        refine h5 _ _ ?_
        clear h5
        refine cndP rfl (fun c12 => ?_) (fun c12 => ?_)
        ·
          refine seq fun K13 h13 => ?_
          refine stp (v := .bool false) (o_mv rfl) ?_
          refine h13 _ _ ?_
          clear h13
          refine ⟨(.bool false), rfl, ?_⟩
          first | exact ⟨bT (by simp only [dmgP] at *; omega), hM3.upd⟩ | exact ⟨bF (by simp only [dmgP] at *; omega), hM3.upd⟩ | exact ⟨bP (by simp only [dmgP] at *; omega), hM3.upd⟩
        ·
          refine h4 _ _ ?_
          clear h4
          refine seq fun K14 h14 => ?_
          refine stp (v := .pointer (some ⟨b2, 5, none⟩)) (o_fa rfl rfl) ?_
          refine m_ld (v := .int .i64 f.rd) hM3 (i := 0) (j := 0) rfl rfl rfl rfl ?_
          refine stp (v := .bool (decide (f.rd = 0))) (o_bin rfl rfl rfl) ?_
          refine stp (v := .bool (decide (f.rd = 0))) (o_mv rfl) ?_
          refine splitP rfl (fun c15 => ?_) (fun c15 => ?_)
          ·
            refine gno rfl (by simp) ?_
            refine gnol rfl (by simp) ?_
            refine gno rfl (by simp) ?_
            refine gno rfl (by simp) ?_
            refine splitU rfl ?_
            refine gnou rfl ?_
            refine gnolu rfl ?_
            refine gnou rfl ?_
            refine gno rfl (by simp) ?_
            refine gno rfl (by simp) ?_
            refine splitU rfl ?_
            refine gnou rfl ?_
            refine gnolu rfl ?_
            refine gnou rfl ?_
            refine gno rfl (by simp) ?_
            refine stp (v := .bool true) (o_pickT rfl rfl) ?_
            refine stp (v := .bool true) (o_mv rfl) ?_
            refine h14 _ _ ?_
            clear h14
            refine ⟨(.bool true), rfl, ?_⟩
            first | exact ⟨bT (by simp only [dmgP] at *; omega), hM3.upd⟩ | exact ⟨bF (by simp only [dmgP] at *; omega), hM3.upd⟩ | exact ⟨bP (by simp only [dmgP] at *; omega), hM3.upd⟩
          ·
            refine stg rfl (v := .pointer (some ⟨b2, 4, none⟩)) (o_fa rfl rfl) ?_
            refine gyesl rfl ?_
            refine m_ld (v := .int .i64 f.mom) hM3 (i := 0) (j := 0) rfl rfl rfl rfl ?_
            refine stg rfl (v := .bool (decide (f.mom = 2))) (o_bin rfl rfl rfl) ?_
            refine stg rfl (v := .bool (decide (f.mom = 2))) (o_mv rfl) ?_
            refine splitP rfl (fun c16 => ?_) (fun c16 => ?_)
            ·
              refine stg rfl (v := .pointer (some ⟨b2, 5, none⟩)) (o_fa rfl rfl) ?_
              refine gyesl rfl ?_
              refine m_ld (v := .int .i64 f.rd) hM3 (i := 0) (j := 0) rfl rfl rfl rfl ?_
              refine stg rfl (v := .bool (decide ((0 : Int) < f.rd))) (o_bin rfl rfl rfl) ?_
              refine stg rfl (v := .bool (decide ((0 : Int) < f.rd))) (o_pickT rfl rfl) ?_
              refine stg rfl (v := .bool (decide ((0 : Int) < f.rd))) (o_mv rfl) ?_
              refine splitP rfl (fun c17 => ?_) (fun c17 => ?_)
              ·
                refine stg rfl (v := .pointer (some ⟨b2, 5, none⟩)) (o_fa rfl rfl) ?_
                refine gyesl rfl ?_
                refine m_ld (v := .int .i64 f.rd) hM3 (i := 0) (j := 0) rfl rfl rfl rfl ?_
                refine stg rfl (v := .bool (decide (f.rd < 65535))) (o_bin rfl rfl rfl) ?_
                refine stg rfl (v := .bool (decide (f.rd < 65535))) (o_pickT rfl rfl) ?_
                refine stp (v := .bool (decide (f.rd < 65535))) (o_pickF rfl rfl) ?_
                refine stp (v := .bool (decide (f.rd < 65535))) (o_mv rfl) ?_
                refine h14 _ _ ?_
                clear h14
                refine ⟨(.bool (decide (f.rd < 65535))), rfl, ?_⟩
                first | exact ⟨bT (by simp only [dmgP] at *; omega), hM3.upd⟩ | exact ⟨bF (by simp only [dmgP] at *; omega), hM3.upd⟩ | exact ⟨bP (by simp only [dmgP] at *; omega), hM3.upd⟩
              ·
                refine gno rfl (by simp) ?_
                refine gnol rfl (by simp) ?_
                refine gno rfl (by simp) ?_
                refine stg rfl (v := .bool false) (o_pickF rfl rfl) ?_
                refine stp (v := .bool false) (o_pickF rfl rfl) ?_
                refine stp (v := .bool false) (o_mv rfl) ?_
                refine h14 _ _ ?_
                clear h14
                refine ⟨(.bool false), rfl, ?_⟩
                first | exact ⟨bT (by simp only [dmgP] at *; omega), hM3.upd⟩ | exact ⟨bF (by simp only [dmgP] at *; omega), hM3.upd⟩ | exact ⟨bP (by simp only [dmgP] at *; omega), hM3.upd⟩
            ·
              refine gno rfl (by simp) ?_
              refine gnol rfl (by simp) ?_
              refine gno rfl (by simp) ?_
              refine stg rfl (v := .bool false) (o_pickF rfl rfl) ?_
              refine stg rfl (v := .bool false) (o_mv rfl) ?_
              refine splitF rfl ?_
              refine gno rfl (by simp) ?_
              refine gnol rfl (by simp) ?_
              refine gno rfl (by simp) ?_
              refine stg rfl (v := .bool false) (o_pickF rfl rfl) ?_
              refine stp (v := .bool false) (o_pickF rfl rfl) ?_
              refine stp (v := .bool false) (o_mv rfl) ?_
              refine h14 _ _ ?_
              clear h14
              refine ⟨(.bool false), rfl, ?_⟩
              first | exact ⟨bT (by simp only [dmgP] at *; omega), hM3.upd⟩ | exact ⟨bF (by simp only [dmgP] at *; omega), hM3.upd⟩ | exact ⟨bP (by simp only [dmgP] at *; omega), hM3.upd⟩

/-- winnowref16.damage -/
theorem refdamage_ok (f : Flt) (w : World) (hf : f.ok) : Calls Try.prog 58 [.agg (fltC f).toArray].toArray w (Rt fun r w' => r = .bool (decide (dmgP f)) ∧ Upd [] w w') := by
  have hM0 : Mem w [] w [] := Mem.nil w []
  have hf0 := hf
  simp only [Flt.ok, inK] at hf
  refine calls_vc mixed Try.func58 rfl C58 (by simp [Try.ntmps58]) ?_
  refine seq fun K1 h1 => ?_
  refine m_bx (v := .agg ([.int .i64 f.kind, .int .i64 f.tk, .int .i64 f.task, .int .i64 f.att, .int .i64 f.mom, .int .i64 f.rd, .int .i64 f.at_, .int .u32 f.mask] : List Value).toArray) hM0 rfl rfl fun b2 w3 (hM3 : Mem w [] w3 [[⟨b2, 25, [.int .i64 f.kind, .int .i64 f.tk, .int .i64 f.task, .int .i64 f.att, .int .i64 f.mom, .int .i64 f.rd, .int .i64 f.at_, .int .u32 f.mask]⟩]]) => ?_
  refine stp (v := .bool false) (o_mv rfl) ?_
  refine h1 _ _ ?_
  clear h1
  refine seq fun K4 h4 => ?_
  refine seq fun K5 h5 => ?_
  refine stp (v := .pointer (some ⟨b2, 1, none⟩)) (o_fa rfl rfl) ?_
  refine m_ld (v := .int .i64 f.tk) hM3 (i := 0) (j := 0) rfl rfl rfl rfl ?_
  refine stp (v := .bool (decide (¬ f.tk = 0))) (o_bin rfl rfl v_neq) ?_
  refine stp (v := .bool (decide (¬ f.tk = 0))) (o_mv rfl) ?_
  refine splitP rfl (fun c6 => ?_) (fun c6 => ?_)
  ·
    refine gno rfl (by simp) ?_
    refine gnol rfl (by simp) ?_
    refine gno rfl (by simp) ?_
    refine stp (v := .bool true) (o_pickT rfl rfl) ?_
    refine stp (v := .bool true) (o_mv rfl) ?_
    refine splitT rfl ?_
    refine gno rfl (by simp) ?_
    refine gnol rfl (by simp) ?_
    refine gno rfl (by simp) ?_
    refine stp (v := .bool true) (o_pickT rfl rfl) ?_
    refine stp (v := .bool true) (o_mv rfl) ?_
    refine splitT rfl ?_
    refine gno rfl (by simp) ?_
    refine gnol rfl (by simp) ?_
    refine gno rfl (by simp) ?_
    refine stp (v := .bool true) (o_pickT rfl rfl) ?_
    refine stp (v := .bool true) (o_mv rfl) ?_
    refine splitT rfl ?_
    refine gno rfl (by simp) ?_
    refine gnol rfl (by simp) ?_
    refine gno rfl (by simp) ?_
    refine stp (v := .bool true) (o_pickT rfl rfl) ?_
    refine stp (v := .bool true) (o_mv rfl) ?_
    refine splitT rfl ?_
    refine gno rfl (by simp) ?_
    refine gnol rfl (by simp) ?_
    refine gno rfl (by simp) ?_
    refine stp (v := .bool true) (o_pickT rfl rfl) ?_
    refine h5 _ _ ?_
    clear h5
    refine cndT rfl ?_
    refine seq fun K7 h7 => ?_
    refine stp (v := .bool false) (o_mv rfl) ?_
    refine h7 _ _ ?_
    clear h7
    refine ⟨(.bool false), rfl, ?_⟩
    first | exact ⟨bT (by simp only [dmgP] at *; omega), hM3.upd⟩ | exact ⟨bF (by simp only [dmgP] at *; omega), hM3.upd⟩ | exact ⟨bP (by simp only [dmgP] at *; omega), hM3.upd⟩
  ·
    refine stg rfl (v := .pointer (some ⟨b2, 2, none⟩)) (o_fa rfl rfl) ?_
    refine gyesl rfl ?_
    refine m_ld (v := .int .i64 f.task) hM3 (i := 0) (j := 0) rfl rfl rfl rfl ?_
    refine stg rfl (v := .bool (decide ((256 : Int) ≤ f.task))) (o_bin rfl rfl rfl) ?_
    refine stp (v := .bool (decide ((256 : Int) ≤ f.task))) (o_pickF rfl rfl) ?_
    refine stp (v := .bool (decide ((256 : Int) ≤ f.task))) (o_mv rfl) ?_
    refine splitP rfl (fun c8 => ?_) (fun c8 => ?_)
    ·
      refine gno rfl (by simp) ?_
      refine gnol rfl (by simp) ?_
      refine gno rfl (by simp) ?_
      refine stp (v := .bool true) (o_pickT rfl rfl) ?_
      refine stp (v := .bool true) (o_mv rfl) ?_
      refine splitT rfl ?_
      refine gno rfl (by simp) ?_
      refine gnol rfl (by simp) ?_
      refine gno rfl (by simp) ?_
      refine stp (v := .bool true) (o_pickT rfl rfl) ?_
      refine stp (v := .bool true) (o_mv rfl) ?_
      refine splitT rfl ?_
      refine gno rfl (by simp) ?_
      refine gnol rfl (by simp) ?_
      refine gno rfl (by simp) ?_
      refine stp (v := .bool true) (o_pickT rfl rfl) ?_
      refine stp (v := .bool true) (o_mv rfl) ?_
      refine splitT rfl ?_
      refine gno rfl (by simp) ?_
      refine gnol rfl (by simp) ?_
      refine gno rfl (by simp) ?_
      refine stp (v := .bool true) (o_pickT rfl rfl) ?_
      refine h5 _ _ ?_
      clear h5
      refine cndT rfl ?_
      refine seq fun K9 h9 => ?_
      refine stp (v := .bool false) (o_mv rfl) ?_
      refine h9 _ _ ?_
      clear h9
      refine ⟨(.bool false), rfl, ?_⟩
      first | exact ⟨bT (by simp only [dmgP] at *; omega), hM3.upd⟩ | exact ⟨bF (by simp only [dmgP] at *; omega), hM3.upd⟩ | exact ⟨bP (by simp only [dmgP] at *; omega), hM3.upd⟩
    ·
      refine stg rfl (v := .pointer (some ⟨b2, 4, none⟩)) (o_fa rfl rfl) ?_
      refine gyesl rfl ?_
      refine m_ld (v := .int .i64 f.mom) hM3 (i := 0) (j := 0) rfl rfl rfl rfl ?_
      refine stg rfl (v := .bool (decide (f.mom < 0))) (o_bin rfl rfl rfl) ?_
      refine stp (v := .bool (decide (f.mom < 0))) (o_pickF rfl rfl) ?_
      refine stp (v := .bool (decide (f.mom < 0))) (o_mv rfl) ?_
      refine splitP rfl (fun c10 => ?_) (fun c10 => ?_)
      ·
        refine gno rfl (by simp) ?_
        refine gnol rfl (by simp) ?_
        refine gno rfl (by simp) ?_
        refine stp (v := .bool true) (o_pickT rfl rfl) ?_
        refine stp (v := .bool true) (o_mv rfl) ?_
        refine splitT rfl ?_
        refine gno rfl (by simp) ?_
        refine gnol rfl (by simp) ?_
        refine gno rfl (by simp) ?_
        refine stp (v := .bool true) (o_pickT rfl rfl) ?_
        refine stp (v := .bool true) (o_mv rfl) ?_
        refine splitT rfl ?_
        refine gno rfl (by simp) ?_
        refine gnol rfl (by simp) ?_
        refine gno rfl (by simp) ?_
        refine stp (v := .bool true) (o_pickT rfl rfl) ?_
        refine h5 _ _ ?_
        clear h5
        refine cndT rfl ?_
        refine seq fun K11 h11 => ?_
        refine stp (v := .bool false) (o_mv rfl) ?_
        refine h11 _ _ ?_
        clear h11
        refine ⟨(.bool false), rfl, ?_⟩
        first | exact ⟨bT (by simp only [dmgP] at *; omega), hM3.upd⟩ | exact ⟨bF (by simp only [dmgP] at *; omega), hM3.upd⟩ | exact ⟨bP (by simp only [dmgP] at *; omega), hM3.upd⟩
      ·
        refine stg rfl (v := .pointer (some ⟨b2, 4, none⟩)) (o_fa rfl rfl) ?_
        refine gyesl rfl ?_
        refine m_ld (v := .int .i64 f.mom) hM3 (i := 0) (j := 0) rfl rfl rfl rfl ?_
        refine stg rfl (v := .bool (decide ((2 : Int) < f.mom))) (o_bin rfl rfl rfl) ?_
        refine stp (v := .bool (decide ((2 : Int) < f.mom))) (o_pickF rfl rfl) ?_
        refine stp (v := .bool (decide ((2 : Int) < f.mom))) (o_mv rfl) ?_
        refine splitP rfl (fun c12 => ?_) (fun c12 => ?_)
        ·
          refine gno rfl (by simp) ?_
          refine gnol rfl (by simp) ?_
          refine gno rfl (by simp) ?_
          refine stp (v := .bool true) (o_pickT rfl rfl) ?_
          refine stp (v := .bool true) (o_mv rfl) ?_
          refine splitT rfl ?_
          refine gno rfl (by simp) ?_
          refine gnol rfl (by simp) ?_
          refine gno rfl (by simp) ?_
          refine stp (v := .bool true) (o_pickT rfl rfl) ?_
          refine h5 _ _ ?_
          clear h5
          refine cndT rfl ?_
          refine seq fun K13 h13 => ?_
          refine stp (v := .bool false) (o_mv rfl) ?_
          refine h13 _ _ ?_
          clear h13
          refine ⟨(.bool false), rfl, ?_⟩
          first | exact ⟨bT (by simp only [dmgP] at *; omega), hM3.upd⟩ | exact ⟨bF (by simp only [dmgP] at *; omega), hM3.upd⟩ | exact ⟨bP (by simp only [dmgP] at *; omega), hM3.upd⟩
        ·
          refine stg rfl (v := .pointer (some ⟨b2, 5, none⟩)) (o_fa rfl rfl) ?_
          refine gyesl rfl ?_
          refine m_ld (v := .int .i64 f.rd) hM3 (i := 0) (j := 0) rfl rfl rfl rfl ?_
          refine stg rfl (v := .bool (decide (f.rd < 0))) (o_bin rfl rfl rfl) ?_
          refine stp (v := .bool (decide (f.rd < 0))) (o_pickF rfl rfl) ?_
          refine stp (v := .bool (decide (f.rd < 0))) (o_mv rfl) ?_
          refine splitP rfl (fun c14 => ?_) (fun c14 => ?_)
          ·
            refine gno rfl (by simp) ?_
            refine gnol rfl (by simp) ?_
            refine gno rfl (by simp) ?_
            refine stp (v := .bool true) (o_pickT rfl rfl) ?_
            refine h5 _ _ ?_
            clear h5
            refine cndT rfl ?_
            refine seq fun K15 h15 => ?_
            refine stp (v := .bool false) (o_mv rfl) ?_
            refine h15 _ _ ?_
            clear h15
            refine ⟨(.bool false), rfl, ?_⟩
            first | exact ⟨bT (by simp only [dmgP] at *; omega), hM3.upd⟩ | exact ⟨bF (by simp only [dmgP] at *; omega), hM3.upd⟩ | exact ⟨bP (by simp only [dmgP] at *; omega), hM3.upd⟩
          ·
            refine stg rfl (v := .pointer (some ⟨b2, 5, none⟩)) (o_fa rfl rfl) ?_
            refine gyesl rfl ?_
            refine m_ld (v := .int .i64 f.rd) hM3 (i := 0) (j := 0) rfl rfl rfl rfl ?_
            refine stg rfl (v := .bool (decide ((65535 : Int) ≤ f.rd))) (o_bin rfl rfl rfl) ?_
            refine stp (v := .bool (decide ((65535 : Int) ≤ f.rd))) (o_pickF rfl rfl) ?_
            refine h5 _ _ ?_
            clear h5
            refine cndP rfl (fun c16 => ?_) (fun c16 => ?_)
            ·
              refine seq fun K17 h17 => ?_
              refine stp (v := .bool false) (o_mv rfl) ?_
              refine h17 _ _ ?_
              clear h17
              refine ⟨(.bool false), rfl, ?_⟩
              first | exact ⟨bT (by simp only [dmgP] at *; omega), hM3.upd⟩ | exact ⟨bF (by simp only [dmgP] at *; omega), hM3.upd⟩ | exact ⟨bP (by simp only [dmgP] at *; omega), hM3.upd⟩
            ·
              refine h4 _ _ ?_
              clear h4
              refine seq fun K18 h18 => ?_
              refine stp (v := .pointer (some ⟨b2, 4, none⟩)) (o_fa rfl rfl) ?_
              refine m_ld (v := .int .i64 f.mom) hM3 (i := 0) (j := 0) rfl rfl rfl rfl ?_
              refine stp (v := .bool (decide (f.mom = 2))) (o_bin rfl rfl rfl) ?_
              refine stp (v := .bool (decide (f.mom = 2))) (o_mv rfl) ?_
              refine splitP rfl (fun c19 => ?_) (fun c19 => ?_)
              ·
                refine gno rfl (by simp) ?_
                refine gnol rfl (by simp) ?_
                refine gno rfl (by simp) ?_
                refine stp (v := .bool true) (o_pickT rfl rfl) ?_
                refine stp (v := .bool true) (o_mv rfl) ?_
                refine h18 _ _ ?_
                clear h18
                refine ⟨(.bool true), rfl, ?_⟩
                first | exact ⟨bT (by simp only [dmgP] at *; omega), hM3.upd⟩ | exact ⟨bF (by simp only [dmgP] at *; omega), hM3.upd⟩ | exact ⟨bP (by simp only [dmgP] at *; omega), hM3.upd⟩
              ·
                refine stg rfl (v := .pointer (some ⟨b2, 5, none⟩)) (o_fa rfl rfl) ?_
                refine gyesl rfl ?_
                refine m_ld (v := .int .i64 f.rd) hM3 (i := 0) (j := 0) rfl rfl rfl rfl ?_
                refine stg rfl (v := .bool (decide (f.rd = 0))) (o_bin rfl rfl rfl) ?_
                refine stp (v := .bool (decide (f.rd = 0))) (o_pickF rfl rfl) ?_
                refine stp (v := .bool (decide (f.rd = 0))) (o_mv rfl) ?_
                refine h18 _ _ ?_
                clear h18
                refine ⟨(.bool (decide (f.rd = 0))), rfl, ?_⟩
                first | exact ⟨bT (by simp only [dmgP] at *; omega), hM3.upd⟩ | exact ⟨bF (by simp only [dmgP] at *; omega), hM3.upd⟩ | exact ⟨bP (by simp only [dmgP] at *; omega), hM3.upd⟩

/-- winnowref16.stop -/
theorem refstop_ok (f : Flt) (w : World) (hf : f.ok) : Calls Try.prog 57 [.agg (fltC f).toArray].toArray w (Rt fun r w' => r = .bool (decide (stopP f)) ∧ Upd [] w w') := by
  have hM0 : Mem w [] w [] := Mem.nil w []
  have hf0 := hf
  simp only [Flt.ok, inK] at hf
  refine calls_vc mixed Try.func57 rfl C57 (by simp [Try.ntmps57]) ?_
  refine seq fun K1 h1 => ?_
  refine m_bx (v := .agg ([.int .i64 f.kind, .int .i64 f.tk, .int .i64 f.task, .int .i64 f.att, .int .i64 f.mom, .int .i64 f.rd, .int .i64 f.at_, .int .u32 f.mask] : List Value).toArray) hM0 rfl rfl fun b2 w3 (hM3 : Mem w [] w3 [[⟨b2, 25, [.int .i64 f.kind, .int .i64 f.tk, .int .i64 f.task, .int .i64 f.att, .int .i64 f.mom, .int .i64 f.rd, .int .i64 f.at_, .int .u32 f.mask]⟩]]) => ?_
  refine stp (v := .bool false) (o_mv rfl) ?_
  refine h1 _ _ ?_
  clear h1
  refine seq fun K4 h4 => ?_
  refine seq fun K5 h5 => ?_
  refine stp (v := .pointer (some ⟨b2, 1, none⟩)) (o_fa rfl rfl) ?_
  refine m_ld (v := .int .i64 f.tk) hM3 (i := 0) (j := 0) rfl rfl rfl rfl ?_
  refine stp (v := .bool (decide (¬ f.tk = 0))) (o_bin rfl rfl v_neq) ?_
  refine stp (v := .bool (decide (¬ f.tk = 0))) (o_mv rfl) ?_
  refine splitP rfl (fun c6 => ?_) (fun c6 => ?_)
  ·
    refine stg rfl (v := .pointer (some ⟨b2, 1, none⟩)) (o_fa rfl rfl) ?_
    refine gyesl rfl ?_
    refine m_ld (v := .int .i64 f.tk) hM3 (i := 0) (j := 0) rfl rfl rfl rfl ?_
    refine stg rfl (v := .bool (decide (¬ f.tk = 1))) (o_bin rfl rfl v_neq) ?_
    refine stp (v := .bool (decide (¬ f.tk = 1))) (o_pickT rfl rfl) ?_
    refine stp (v := .bool (decide (¬ f.tk = 1))) (o_mv rfl) ?_
    refine splitP rfl (fun c7 => ?_) (fun c7 => ?_)
    ·
      refine gno rfl (by simp) ?_
      refine gnol rfl (by simp) ?_
      refine gno rfl (by simp) ?_
      refine stp (v := .bool true) (o_pickT rfl rfl) ?_
      refine stp (v := .bool true) (o_mv rfl) ?_
      refine splitT rfl ?_
      refine gno rfl (by simp) ?_
      refine gnol rfl (by simp) ?_
      refine gno rfl (by simp) ?_
      refine stp (v := .bool true) (o_pickT rfl rfl) ?_
      refine stp (v := .bool true) (o_mv rfl) ?_
      refine splitT rfl ?_
      refine gno rfl (by simp) ?_
      refine gnol rfl (by simp) ?_
      refine gno rfl (by simp) ?_
      refine stp (v := .bool true) (o_pickT rfl rfl) ?_
      refine stp (v := .bool true) (o_mv rfl) ?_
      refine splitT rfl ?_
      refine gno rfl (by simp) ?_
      refine gnol rfl (by simp) ?_
      refine gno rfl (by simp) ?_
      refine stp (v := .bool true) (o_pickT rfl rfl) ?_
      refine h5 _ _ ?_
      clear h5
      refine cndT rfl ?_
      refine seq fun K8 h8 => ?_
      refine stp (v := .bool false) (o_mv rfl) ?_
      refine h8 _ _ ?_
      clear h8
      refine ⟨(.bool false), rfl, ?_⟩
      first | exact ⟨bT (by simp only [stopP] at *; omega), hM3.upd⟩ | exact ⟨bF (by simp only [stopP] at *; omega), hM3.upd⟩ | exact ⟨bP (by simp only [stopP] at *; omega), hM3.upd⟩
    ·
      refine stg rfl (v := .pointer (some ⟨b2, 4, none⟩)) (o_fa rfl rfl) ?_
      refine gyesl rfl ?_
      refine m_ld (v := .int .i64 f.mom) hM3 (i := 0) (j := 0) rfl rfl rfl rfl ?_
      refine stg rfl (v := .bool (decide (¬ f.mom = 0))) (o_bin rfl rfl v_neq) ?_
      refine stp (v := .bool (decide (¬ f.mom = 0))) (o_pickF rfl rfl) ?_
      refine stp (v := .bool (decide (¬ f.mom = 0))) (o_mv rfl) ?_
      refine splitP rfl (fun c9 => ?_) (fun c9 => ?_)
      ·
        refine gno rfl (by simp) ?_
        refine gnol rfl (by simp) ?_
        refine gno rfl (by simp) ?_
        refine stp (v := .bool true) (o_pickT rfl rfl) ?_
        refine stp (v := .bool true) (o_mv rfl) ?_
        refine splitT rfl ?_
        refine gno rfl (by simp) ?_
        refine gnol rfl (by simp) ?_
        refine gno rfl (by simp) ?_
        refine stp (v := .bool true) (o_pickT rfl rfl) ?_
        refine stp (v := .bool true) (o_mv rfl) ?_
        refine splitT rfl ?_
        refine gno rfl (by simp) ?_
        refine gnol rfl (by simp) ?_
        refine gno rfl (by simp) ?_
        refine stp (v := .bool true) (o_pickT rfl rfl) ?_
        refine h5 _ _ ?_
        clear h5
        refine cndT rfl ?_
        refine seq fun K10 h10 => ?_
        refine stp (v := .bool false) (o_mv rfl) ?_
        refine h10 _ _ ?_
        clear h10
        refine ⟨(.bool false), rfl, ?_⟩
        first | exact ⟨bT (by simp only [stopP] at *; omega), hM3.upd⟩ | exact ⟨bF (by simp only [stopP] at *; omega), hM3.upd⟩ | exact ⟨bP (by simp only [stopP] at *; omega), hM3.upd⟩
      ·
        refine stg rfl (v := .pointer (some ⟨b2, 5, none⟩)) (o_fa rfl rfl) ?_
        refine gyesl rfl ?_
        refine m_ld (v := .int .i64 f.rd) hM3 (i := 0) (j := 0) rfl rfl rfl rfl ?_
        refine stg rfl (v := .bool (decide (¬ f.rd = 0))) (o_bin rfl rfl v_neq) ?_
        refine stp (v := .bool (decide (¬ f.rd = 0))) (o_pickF rfl rfl) ?_
        refine stp (v := .bool (decide (¬ f.rd = 0))) (o_mv rfl) ?_
        refine splitP rfl (fun c11 => ?_) (fun c11 => ?_)
        ·
          refine gno rfl (by simp) ?_
          refine gnol rfl (by simp) ?_
          refine gno rfl (by simp) ?_
          refine stp (v := .bool true) (o_pickT rfl rfl) ?_
          refine stp (v := .bool true) (o_mv rfl) ?_
          refine splitT rfl ?_
          refine gno rfl (by simp) ?_
          refine gnol rfl (by simp) ?_
          refine gno rfl (by simp) ?_
          refine stp (v := .bool true) (o_pickT rfl rfl) ?_
          refine h5 _ _ ?_
          clear h5
          refine cndT rfl ?_
          refine seq fun K12 h12 => ?_
          refine stp (v := .bool false) (o_mv rfl) ?_
          refine h12 _ _ ?_
          clear h12
          refine ⟨(.bool false), rfl, ?_⟩
          first | exact ⟨bT (by simp only [stopP] at *; omega), hM3.upd⟩ | exact ⟨bF (by simp only [stopP] at *; omega), hM3.upd⟩ | exact ⟨bP (by simp only [stopP] at *; omega), hM3.upd⟩
        ·
          refine stg rfl (v := .pointer (some ⟨b2, 7, none⟩)) (o_fa rfl rfl) ?_
          refine gyesl rfl ?_
          refine m_ld (v := .int .u32 f.mask) hM3 (i := 0) (j := 0) rfl rfl rfl rfl ?_
          refine stg rfl (v := .bool (decide (¬ f.mask = 0))) (o_bin rfl rfl v_neq) ?_
          refine stp (v := .bool (decide (¬ f.mask = 0))) (o_pickF rfl rfl) ?_
          refine stp (v := .bool (decide (¬ f.mask = 0))) (o_mv rfl) ?_
          refine splitP rfl (fun c13 => ?_) (fun c13 => ?_)
          ·
            refine gno rfl (by simp) ?_
            refine gnol rfl (by simp) ?_
            refine gno rfl (by simp) ?_
            refine stp (v := .bool true) (o_pickT rfl rfl) ?_
            refine h5 _ _ ?_
            clear h5
            refine cndT rfl ?_
            refine seq fun K14 h14 => ?_
            refine stp (v := .bool false) (o_mv rfl) ?_
            refine h14 _ _ ?_
            clear h14
            refine ⟨(.bool false), rfl, ?_⟩
            first | exact ⟨bT (by simp only [stopP] at *; omega), hM3.upd⟩ | exact ⟨bF (by simp only [stopP] at *; omega), hM3.upd⟩ | exact ⟨bP (by simp only [stopP] at *; omega), hM3.upd⟩
          ·
            refine stg rfl (v := .pointer (some ⟨b2, 6, none⟩)) (o_fa rfl rfl) ?_
            refine gyesl rfl ?_
            refine m_ld (v := .int .i64 f.at_) hM3 (i := 0) (j := 0) rfl rfl rfl rfl ?_
            refine stg rfl (v := .bool (decide (f.at_ < 0))) (o_bin rfl rfl rfl) ?_
            refine stp (v := .bool (decide (f.at_ < 0))) (o_pickF rfl rfl) ?_
            refine h5 _ _ ?_
            clear h5
            refine cndP rfl (fun c15 => ?_) (fun c15 => ?_)
            ·
              refine seq fun K16 h16 => ?_
              refine stp (v := .bool false) (o_mv rfl) ?_
              refine h16 _ _ ?_
              clear h16
              refine ⟨(.bool false), rfl, ?_⟩
              first | exact ⟨bT (by simp only [stopP] at *; omega), hM3.upd⟩ | exact ⟨bF (by simp only [stopP] at *; omega), hM3.upd⟩ | exact ⟨bP (by simp only [stopP] at *; omega), hM3.upd⟩
            ·
              refine h4 _ _ ?_
              clear h4
              refine seq fun K17 h17 => ?_
              refine stp (v := .pointer (some ⟨b2, 1, none⟩)) (o_fa rfl rfl) ?_
              refine m_ld (v := .int .i64 f.tk) hM3 (i := 0) (j := 0) rfl rfl rfl rfl ?_
              refine stp (v := .bool (decide (f.tk = 0))) (o_bin rfl rfl rfl) ?_
              refine stp (v := .bool (decide (f.tk = 0))) (o_mv rfl) ?_
              refine splitP rfl (fun c18 => ?_) (fun c18 => ?_)
              ·
                refine stg rfl (v := .pointer (some ⟨b2, 2, none⟩)) (o_fa rfl rfl) ?_
                refine gyesl rfl ?_
                refine m_ld (v := .int .i64 f.task) hM3 (i := 0) (j := 0) rfl rfl rfl rfl ?_
                refine stg rfl (v := .bool (decide (f.task < 256))) (o_bin rfl rfl rfl) ?_
                refine stp (v := .bool (decide (f.task < 256))) (o_pickT rfl rfl) ?_
                refine stp (v := .bool (decide (f.task < 256))) (o_mv rfl) ?_
                refine splitP rfl (fun c19 => ?_) (fun c19 => ?_)
                ·
                  refine gno rfl (by simp) ?_
                  refine gnol rfl (by simp) ?_
                  refine gno rfl (by simp) ?_
                  refine gno rfl (by simp) ?_
                  refine splitU rfl ?_
                  refine gnou rfl ?_
                  refine gnolu rfl ?_
                  refine gnou rfl ?_
                  refine gno rfl (by simp) ?_
                  refine stp (v := .bool true) (o_pickT rfl rfl) ?_
                  refine stp (v := .bool true) (o_mv rfl) ?_
                  refine h17 _ _ ?_
                  clear h17
                  refine ⟨(.bool true), rfl, ?_⟩
                  first | exact ⟨bT (by simp only [stopP] at *; omega), hM3.upd⟩ | exact ⟨bF (by simp only [stopP] at *; omega), hM3.upd⟩ | exact ⟨bP (by simp only [stopP] at *; omega), hM3.upd⟩
                ·
                  refine stg rfl (v := .pointer (some ⟨b2, 1, none⟩)) (o_fa rfl rfl) ?_
                  refine gyesl rfl ?_
                  refine m_ld (v := .int .i64 f.tk) hM3 (i := 0) (j := 0) rfl rfl rfl rfl ?_
                  refine stg rfl (v := .bool (decide (f.tk = 1))) (o_bin rfl rfl rfl) ?_
                  refine stg rfl (v := .bool (decide (f.tk = 1))) (o_mv rfl) ?_
                  refine splitP rfl (fun c20 => ?_) (fun c20 => ?_)
                  ·
                    refine stg rfl (v := .pointer (some ⟨b2, 2, none⟩)) (o_fa rfl rfl) ?_
                    refine gyesl rfl ?_
                    refine m_ld (v := .int .i64 f.task) hM3 (i := 0) (j := 0) rfl rfl rfl rfl ?_
                    refine stg rfl (v := .bool (decide (f.task < 65535))) (o_bin rfl rfl rfl) ?_
                    refine stg rfl (v := .bool (decide (f.task < 65535))) (o_pickT rfl rfl) ?_
                    refine stp (v := .bool (decide (f.task < 65535))) (o_pickF rfl rfl) ?_
                    refine stp (v := .bool (decide (f.task < 65535))) (o_mv rfl) ?_
                    refine h17 _ _ ?_
                    clear h17
                    refine ⟨(.bool (decide (f.task < 65535))), rfl, ?_⟩
                    first | exact ⟨bT (by simp only [stopP] at *; omega), hM3.upd⟩ | exact ⟨bF (by simp only [stopP] at *; omega), hM3.upd⟩ | exact ⟨bP (by simp only [stopP] at *; omega), hM3.upd⟩
                  ·
                    refine gno rfl (by simp) ?_
                    refine gnol rfl (by simp) ?_
                    refine gno rfl (by simp) ?_
                    refine stg rfl (v := .bool false) (o_pickF rfl rfl) ?_
                    refine stp (v := .bool false) (o_pickF rfl rfl) ?_
                    refine stp (v := .bool false) (o_mv rfl) ?_
                    refine h17 _ _ ?_
                    clear h17
                    refine ⟨(.bool false), rfl, ?_⟩
                    first | exact ⟨bT (by simp only [stopP] at *; omega), hM3.upd⟩ | exact ⟨bF (by simp only [stopP] at *; omega), hM3.upd⟩ | exact ⟨bP (by simp only [stopP] at *; omega), hM3.upd⟩
              ·
                refine gno rfl (by simp) ?_
                refine gnol rfl (by simp) ?_
                refine gno rfl (by simp) ?_
                refine stp (v := .bool false) (o_pickF rfl rfl) ?_
                refine stp (v := .bool false) (o_mv rfl) ?_
                refine splitF rfl ?_
                refine stg rfl (v := .pointer (some ⟨b2, 1, none⟩)) (o_fa rfl rfl) ?_
                refine gyesl rfl ?_
                refine m_ld (v := .int .i64 f.tk) hM3 (i := 0) (j := 0) rfl rfl rfl rfl ?_
                refine stg rfl (v := .bool (decide (f.tk = 1))) (o_bin rfl rfl rfl) ?_
                refine stg rfl (v := .bool (decide (f.tk = 1))) (o_mv rfl) ?_
                refine splitP rfl (fun c21 => ?_) (fun c21 => ?_)
                ·
                  refine stg rfl (v := .pointer (some ⟨b2, 2, none⟩)) (o_fa rfl rfl) ?_
                  refine gyesl rfl ?_
                  refine m_ld (v := .int .i64 f.task) hM3 (i := 0) (j := 0) rfl rfl rfl rfl ?_
                  refine stg rfl (v := .bool (decide (f.task < 65535))) (o_bin rfl rfl rfl) ?_
                  refine stg rfl (v := .bool (decide (f.task < 65535))) (o_pickT rfl rfl) ?_
                  refine stp (v := .bool (decide (f.task < 65535))) (o_pickF rfl rfl) ?_
                  refine stp (v := .bool (decide (f.task < 65535))) (o_mv rfl) ?_
                  refine h17 _ _ ?_
                  clear h17
                  refine ⟨(.bool (decide (f.task < 65535))), rfl, ?_⟩
                  first | exact ⟨bT (by simp only [stopP] at *; omega), hM3.upd⟩ | exact ⟨bF (by simp only [stopP] at *; omega), hM3.upd⟩ | exact ⟨bP (by simp only [stopP] at *; omega), hM3.upd⟩
                ·
                  refine gno rfl (by simp) ?_
                  refine gnol rfl (by simp) ?_
                  refine gno rfl (by simp) ?_
                  refine stg rfl (v := .bool false) (o_pickF rfl rfl) ?_
                  refine stp (v := .bool false) (o_pickF rfl rfl) ?_
                  refine stp (v := .bool false) (o_mv rfl) ?_
                  refine h17 _ _ ?_
                  clear h17
                  refine ⟨(.bool false), rfl, ?_⟩
                  first | exact ⟨bT (by simp only [stopP] at *; omega), hM3.upd⟩ | exact ⟨bF (by simp only [stopP] at *; omega), hM3.upd⟩ | exact ⟨bP (by simp only [stopP] at *; omega), hM3.upd⟩
  ·
    refine gno rfl (by simp) ?_
    refine gnol rfl (by simp) ?_
    refine gno rfl (by simp) ?_
    refine stp (v := .bool false) (o_pickF rfl rfl) ?_
    refine stp (v := .bool false) (o_mv rfl) ?_
    refine splitF rfl ?_
    refine stg rfl (v := .pointer (some ⟨b2, 4, none⟩)) (o_fa rfl rfl) ?_
    refine gyesl rfl ?_
    refine m_ld (v := .int .i64 f.mom) hM3 (i := 0) (j := 0) rfl rfl rfl rfl ?_
    refine stg rfl (v := .bool (decide (¬ f.mom = 0))) (o_bin rfl rfl v_neq) ?_
    refine stp (v := .bool (decide (¬ f.mom = 0))) (o_pickF rfl rfl) ?_
    refine stp (v := .bool (decide (¬ f.mom = 0))) (o_mv rfl) ?_
    refine splitP rfl (fun c22 => ?_) (fun c22 => ?_)
    ·
      refine gno rfl (by simp) ?_
      refine gnol rfl (by simp) ?_
      refine gno rfl (by simp) ?_
      refine stp (v := .bool true) (o_pickT rfl rfl) ?_
      refine stp (v := .bool true) (o_mv rfl) ?_
      refine splitT rfl ?_
      refine gno rfl (by simp) ?_
      refine gnol rfl (by simp) ?_
      refine gno rfl (by simp) ?_
      refine stp (v := .bool true) (o_pickT rfl rfl) ?_
      refine stp (v := .bool true) (o_mv rfl) ?_
      refine splitT rfl ?_
      refine gno rfl (by simp) ?_
      refine gnol rfl (by simp) ?_
      refine gno rfl (by simp) ?_
      refine stp (v := .bool true) (o_pickT rfl rfl) ?_
      refine h5 _ _ ?_
      clear h5
      refine cndT rfl ?_
      refine seq fun K23 h23 => ?_
      refine stp (v := .bool false) (o_mv rfl) ?_
      refine h23 _ _ ?_
      clear h23
      refine ⟨(.bool false), rfl, ?_⟩
      first | exact ⟨bT (by simp only [stopP] at *; omega), hM3.upd⟩ | exact ⟨bF (by simp only [stopP] at *; omega), hM3.upd⟩ | exact ⟨bP (by simp only [stopP] at *; omega), hM3.upd⟩
    ·
      refine stg rfl (v := .pointer (some ⟨b2, 5, none⟩)) (o_fa rfl rfl) ?_
      refine gyesl rfl ?_
      refine m_ld (v := .int .i64 f.rd) hM3 (i := 0) (j := 0) rfl rfl rfl rfl ?_
      refine stg rfl (v := .bool (decide (¬ f.rd = 0))) (o_bin rfl rfl v_neq) ?_
      refine stp (v := .bool (decide (¬ f.rd = 0))) (o_pickF rfl rfl) ?_
      refine stp (v := .bool (decide (¬ f.rd = 0))) (o_mv rfl) ?_
      refine splitP rfl (fun c24 => ?_) (fun c24 => ?_)
      ·
        refine gno rfl (by simp) ?_
        refine gnol rfl (by simp) ?_
        refine gno rfl (by simp) ?_
        refine stp (v := .bool true) (o_pickT rfl rfl) ?_
        refine stp (v := .bool true) (o_mv rfl) ?_
        refine splitT rfl ?_
        refine gno rfl (by simp) ?_
        refine gnol rfl (by simp) ?_
        refine gno rfl (by simp) ?_
        refine stp (v := .bool true) (o_pickT rfl rfl) ?_
        refine h5 _ _ ?_
        clear h5
        refine cndT rfl ?_
        refine seq fun K25 h25 => ?_
        refine stp (v := .bool false) (o_mv rfl) ?_
        refine h25 _ _ ?_
        clear h25
        refine ⟨(.bool false), rfl, ?_⟩
        first | exact ⟨bT (by simp only [stopP] at *; omega), hM3.upd⟩ | exact ⟨bF (by simp only [stopP] at *; omega), hM3.upd⟩ | exact ⟨bP (by simp only [stopP] at *; omega), hM3.upd⟩
      ·
        refine stg rfl (v := .pointer (some ⟨b2, 7, none⟩)) (o_fa rfl rfl) ?_
        refine gyesl rfl ?_
        refine m_ld (v := .int .u32 f.mask) hM3 (i := 0) (j := 0) rfl rfl rfl rfl ?_
        refine stg rfl (v := .bool (decide (¬ f.mask = 0))) (o_bin rfl rfl v_neq) ?_
        refine stp (v := .bool (decide (¬ f.mask = 0))) (o_pickF rfl rfl) ?_
        refine stp (v := .bool (decide (¬ f.mask = 0))) (o_mv rfl) ?_
        refine splitP rfl (fun c26 => ?_) (fun c26 => ?_)
        ·
          refine gno rfl (by simp) ?_
          refine gnol rfl (by simp) ?_
          refine gno rfl (by simp) ?_
          refine stp (v := .bool true) (o_pickT rfl rfl) ?_
          refine h5 _ _ ?_
          clear h5
          refine cndT rfl ?_
          refine seq fun K27 h27 => ?_
          refine stp (v := .bool false) (o_mv rfl) ?_
          refine h27 _ _ ?_
          clear h27
          refine ⟨(.bool false), rfl, ?_⟩
          first | exact ⟨bT (by simp only [stopP] at *; omega), hM3.upd⟩ | exact ⟨bF (by simp only [stopP] at *; omega), hM3.upd⟩ | exact ⟨bP (by simp only [stopP] at *; omega), hM3.upd⟩
        ·
          refine stg rfl (v := .pointer (some ⟨b2, 6, none⟩)) (o_fa rfl rfl) ?_
          refine gyesl rfl ?_
          refine m_ld (v := .int .i64 f.at_) hM3 (i := 0) (j := 0) rfl rfl rfl rfl ?_
          refine stg rfl (v := .bool (decide (f.at_ < 0))) (o_bin rfl rfl rfl) ?_
          refine stp (v := .bool (decide (f.at_ < 0))) (o_pickF rfl rfl) ?_
          refine h5 _ _ ?_
          clear h5
          refine cndP rfl (fun c28 => ?_) (fun c28 => ?_)
          ·
            refine seq fun K29 h29 => ?_
            refine stp (v := .bool false) (o_mv rfl) ?_
            refine h29 _ _ ?_
            clear h29
            refine ⟨(.bool false), rfl, ?_⟩
            first | exact ⟨bT (by simp only [stopP] at *; omega), hM3.upd⟩ | exact ⟨bF (by simp only [stopP] at *; omega), hM3.upd⟩ | exact ⟨bP (by simp only [stopP] at *; omega), hM3.upd⟩
          ·
            refine h4 _ _ ?_
            clear h4
            refine seq fun K30 h30 => ?_
            refine stp (v := .pointer (some ⟨b2, 1, none⟩)) (o_fa rfl rfl) ?_
            refine m_ld (v := .int .i64 f.tk) hM3 (i := 0) (j := 0) rfl rfl rfl rfl ?_
            refine stp (v := .bool (decide (f.tk = 0))) (o_bin rfl rfl rfl) ?_
            refine stp (v := .bool (decide (f.tk = 0))) (o_mv rfl) ?_
            refine splitP rfl (fun c31 => ?_) (fun c31 => ?_)
            ·
              refine stg rfl (v := .pointer (some ⟨b2, 2, none⟩)) (o_fa rfl rfl) ?_
              refine gyesl rfl ?_
              refine m_ld (v := .int .i64 f.task) hM3 (i := 0) (j := 0) rfl rfl rfl rfl ?_
              refine stg rfl (v := .bool (decide (f.task < 256))) (o_bin rfl rfl rfl) ?_
              refine stp (v := .bool (decide (f.task < 256))) (o_pickT rfl rfl) ?_
              refine stp (v := .bool (decide (f.task < 256))) (o_mv rfl) ?_
              refine splitP rfl (fun c32 => ?_) (fun c32 => ?_)
              ·
                refine gno rfl (by simp) ?_
                refine gnol rfl (by simp) ?_
                refine gno rfl (by simp) ?_
                refine gno rfl (by simp) ?_
                refine splitU rfl ?_
                refine gnou rfl ?_
                refine gnolu rfl ?_
                refine gnou rfl ?_
                refine gno rfl (by simp) ?_
                refine stp (v := .bool true) (o_pickT rfl rfl) ?_
                refine stp (v := .bool true) (o_mv rfl) ?_
                refine h30 _ _ ?_
                clear h30
                refine ⟨(.bool true), rfl, ?_⟩
                first | exact ⟨bT (by simp only [stopP] at *; omega), hM3.upd⟩ | exact ⟨bF (by simp only [stopP] at *; omega), hM3.upd⟩ | exact ⟨bP (by simp only [stopP] at *; omega), hM3.upd⟩
              ·
                refine stg rfl (v := .pointer (some ⟨b2, 1, none⟩)) (o_fa rfl rfl) ?_
                refine gyesl rfl ?_
                refine m_ld (v := .int .i64 f.tk) hM3 (i := 0) (j := 0) rfl rfl rfl rfl ?_
                refine stg rfl (v := .bool (decide (f.tk = 1))) (o_bin rfl rfl rfl) ?_
                refine stg rfl (v := .bool (decide (f.tk = 1))) (o_mv rfl) ?_
                refine splitP rfl (fun c33 => ?_) (fun c33 => ?_)
                ·
                  refine stg rfl (v := .pointer (some ⟨b2, 2, none⟩)) (o_fa rfl rfl) ?_
                  refine gyesl rfl ?_
                  refine m_ld (v := .int .i64 f.task) hM3 (i := 0) (j := 0) rfl rfl rfl rfl ?_
                  refine stg rfl (v := .bool (decide (f.task < 65535))) (o_bin rfl rfl rfl) ?_
                  refine stg rfl (v := .bool (decide (f.task < 65535))) (o_pickT rfl rfl) ?_
                  refine stp (v := .bool (decide (f.task < 65535))) (o_pickF rfl rfl) ?_
                  refine stp (v := .bool (decide (f.task < 65535))) (o_mv rfl) ?_
                  refine h30 _ _ ?_
                  clear h30
                  refine ⟨(.bool (decide (f.task < 65535))), rfl, ?_⟩
                  first | exact ⟨bT (by simp only [stopP] at *; omega), hM3.upd⟩ | exact ⟨bF (by simp only [stopP] at *; omega), hM3.upd⟩ | exact ⟨bP (by simp only [stopP] at *; omega), hM3.upd⟩
                ·
                  refine gno rfl (by simp) ?_
                  refine gnol rfl (by simp) ?_
                  refine gno rfl (by simp) ?_
                  refine stg rfl (v := .bool false) (o_pickF rfl rfl) ?_
                  refine stp (v := .bool false) (o_pickF rfl rfl) ?_
                  refine stp (v := .bool false) (o_mv rfl) ?_
                  refine h30 _ _ ?_
                  clear h30
                  refine ⟨(.bool false), rfl, ?_⟩
                  first | exact ⟨bT (by simp only [stopP] at *; omega), hM3.upd⟩ | exact ⟨bF (by simp only [stopP] at *; omega), hM3.upd⟩ | exact ⟨bP (by simp only [stopP] at *; omega), hM3.upd⟩
            ·
              refine gno rfl (by simp) ?_
              refine gnol rfl (by simp) ?_
              refine gno rfl (by simp) ?_
              refine stp (v := .bool false) (o_pickF rfl rfl) ?_
              refine stp (v := .bool false) (o_mv rfl) ?_
              refine splitF rfl ?_
              refine stg rfl (v := .pointer (some ⟨b2, 1, none⟩)) (o_fa rfl rfl) ?_
              refine gyesl rfl ?_
              refine m_ld (v := .int .i64 f.tk) hM3 (i := 0) (j := 0) rfl rfl rfl rfl ?_
              refine stg rfl (v := .bool (decide (f.tk = 1))) (o_bin rfl rfl rfl) ?_
              refine stg rfl (v := .bool (decide (f.tk = 1))) (o_mv rfl) ?_
              refine splitP rfl (fun c34 => ?_) (fun c34 => ?_)
              ·
                refine stg rfl (v := .pointer (some ⟨b2, 2, none⟩)) (o_fa rfl rfl) ?_
                refine gyesl rfl ?_
                refine m_ld (v := .int .i64 f.task) hM3 (i := 0) (j := 0) rfl rfl rfl rfl ?_
                refine stg rfl (v := .bool (decide (f.task < 65535))) (o_bin rfl rfl rfl) ?_
                refine stg rfl (v := .bool (decide (f.task < 65535))) (o_pickT rfl rfl) ?_
                refine stp (v := .bool (decide (f.task < 65535))) (o_pickF rfl rfl) ?_
                refine stp (v := .bool (decide (f.task < 65535))) (o_mv rfl) ?_
                refine h30 _ _ ?_
                clear h30
                refine ⟨(.bool (decide (f.task < 65535))), rfl, ?_⟩
                first | exact ⟨bT (by simp only [stopP] at *; omega), hM3.upd⟩ | exact ⟨bF (by simp only [stopP] at *; omega), hM3.upd⟩ | exact ⟨bP (by simp only [stopP] at *; omega), hM3.upd⟩
              ·
                refine gno rfl (by simp) ?_
                refine gnol rfl (by simp) ?_
                refine gno rfl (by simp) ?_
                refine stg rfl (v := .bool false) (o_pickF rfl rfl) ?_
                refine stp (v := .bool false) (o_pickF rfl rfl) ?_
                refine stp (v := .bool false) (o_mv rfl) ?_
                refine h30 _ _ ?_
                clear h30
                refine ⟨(.bool false), rfl, ?_⟩
                first | exact ⟨bT (by simp only [stopP] at *; omega), hM3.upd⟩ | exact ⟨bF (by simp only [stopP] at *; omega), hM3.upd⟩ | exact ⟨bP (by simp only [stopP] at *; omega), hM3.upd⟩

/-- fault.right$1 -/
theorem right1_ok (f : Flt) (w : World) (hf : f.ok) : Calls Try.prog 53 [.agg (fltC f).toArray].toArray w (Rt fun r w' => r = .bool (decide (goodS f)) ∧ Upd [] w w') := by
  have hM0 : Mem w [] w [] := Mem.nil w []
  have hf0 := hf
  simp only [Flt.ok, inK] at hf
  refine calls_vc mixed Try.func53 rfl C53 (by simp [Try.ntmps53]) ?_
  refine seq fun K1 h1 => ?_
  refine m_bx (v := .agg ([.int .i64 f.kind, .int .i64 f.tk, .int .i64 f.task, .int .i64 f.att, .int .i64 f.mom, .int .i64 f.rd, .int .i64 f.at_, .int .u32 f.mask] : List Value).toArray) hM0 rfl rfl fun b2 w3 (hM3 : Mem w [] w3 [[⟨b2, 25, [.int .i64 f.kind, .int .i64 f.tk, .int .i64 f.task, .int .i64 f.att, .int .i64 f.mom, .int .i64 f.rd, .int .i64 f.at_, .int .u32 f.mask]⟩]]) => ?_
  refine stp (v := .bool false) (o_mv rfl) ?_
  refine h1 _ _ ?_
  clear h1
  refine seq fun K4 h4 => ?_
  refine stp (v := .int .i64 256) (o_mv rfl) ?_
  refine h4 _ _ ?_
  clear h4
  refine seq fun K5 h5 => ?_
  refine seq fun K6 h6 => ?_
  refine stp (v := .pointer (some ⟨b2, 1, none⟩)) (o_fa rfl rfl) ?_
  refine m_ld (v := .int .i64 f.tk) hM3 (i := 0) (j := 0) rfl rfl rfl rfl ?_
  refine stp (v := .bool (decide (f.tk = 1))) (o_bin rfl rfl rfl) ?_
  refine h6 _ _ ?_
  clear h6
  refine cndP rfl (fun c7 => ?_) (fun c7 => ?_)
  ·
    refine stp (v := .int .i64 65535) (o_mv rfl) ?_
    refine h5 _ _ ?_
    clear h5
    refine seq fun K8 h8 => ?_
    refine stp (v := .pointer (some ⟨b2, 1, none⟩)) (o_fa rfl rfl) ?_
    refine m_ld (v := .int .i64 f.tk) hM3 (i := 0) (j := 0) rfl rfl rfl rfl ?_
    refine stp (v := .bool (decide (f.tk = 0))) (o_bin rfl rfl rfl) ?_
    refine stp (v := .bool (decide (f.tk = 0))) (o_mv rfl) ?_
    refine splitP rfl (fun c9 => ?_) (fun c9 => ?_)
    ·
      refine gno rfl (by simp) ?_
      refine gnol rfl (by simp) ?_
      refine gno rfl (by simp) ?_
      refine stp (v := .bool true) (o_pickT rfl rfl) ?_
      refine stp (v := .bool true) (o_mv rfl) ?_
      refine splitT rfl ?_
      refine stg rfl (v := .pointer (some ⟨b2, 2, none⟩)) (o_fa rfl rfl) ?_
      refine gyesl rfl ?_
      refine m_ld (v := .int .i64 f.task) hM3 (i := 0) (j := 0) rfl rfl rfl rfl ?_
      refine stg rfl (v := .int .i64 65535) (o_mv rfl) ?_
      refine stg rfl (v := .bool (decide (f.task < 65535))) (o_bin rfl rfl rfl) ?_
      refine stp (v := .bool (decide (f.task < 65535))) (o_pickT rfl rfl) ?_
      refine stp (v := .bool (decide (f.task < 65535))) (o_mv rfl) ?_
      refine splitP rfl (fun c10 => ?_) (fun c10 => ?_)
      ·
        refine stg rfl (v := .pointer (some ⟨b2, 4, none⟩)) (o_fa rfl rfl) ?_
        refine gyesl rfl ?_
        refine m_ld (v := .int .i64 f.mom) hM3 (i := 0) (j := 0) rfl rfl rfl rfl ?_
        refine stg rfl (v := .bool (decide (f.mom = 0))) (o_bin rfl rfl rfl) ?_
        refine stp (v := .bool (decide (f.mom = 0))) (o_pickT rfl rfl) ?_
        refine stp (v := .bool (decide (f.mom = 0))) (o_mv rfl) ?_
        refine splitP rfl (fun c11 => ?_) (fun c11 => ?_)
        ·
          refine stg rfl (v := .pointer (some ⟨b2, 5, none⟩)) (o_fa rfl rfl) ?_
          refine gyesl rfl ?_
          refine m_ld (v := .int .i64 f.rd) hM3 (i := 0) (j := 0) rfl rfl rfl rfl ?_
          refine stg rfl (v := .bool (decide (f.rd = 0))) (o_bin rfl rfl rfl) ?_
          refine stp (v := .bool (decide (f.rd = 0))) (o_pickT rfl rfl) ?_
          refine stp (v := .bool (decide (f.rd = 0))) (o_mv rfl) ?_
          refine splitP rfl (fun c12 => ?_) (fun c12 => ?_)
          ·
            refine stg rfl (v := .pointer (some ⟨b2, 6, none⟩)) (o_fa rfl rfl) ?_
            refine gyesl rfl ?_
            refine m_ld (v := .int .i64 f.at_) hM3 (i := 0) (j := 0) rfl rfl rfl rfl ?_
            refine stg rfl (v := .bool (decide ((0 : Int) ≤ f.at_))) (o_bin rfl rfl rfl) ?_
            refine stp (v := .bool (decide ((0 : Int) ≤ f.at_))) (o_pickT rfl rfl) ?_
            refine stp (v := .bool (decide ((0 : Int) ≤ f.at_))) (o_mv rfl) ?_
            refine splitP rfl (fun c13 => ?_) (fun c13 => ?_)
            ·
              refine stg rfl (v := .pointer (some ⟨b2, 7, none⟩)) (o_fa rfl rfl) ?_
              refine gyesl rfl ?_
              refine m_ld (v := .int .u32 f.mask) hM3 (i := 0) (j := 0) rfl rfl rfl rfl ?_
              refine stg rfl (v := .bool (decide (f.mask = 0))) (o_bin rfl rfl rfl) ?_
              refine stp (v := .bool (decide (f.mask = 0))) (o_pickT rfl rfl) ?_
              refine stp (v := .bool (decide (f.mask = 0))) (o_mv rfl) ?_
              refine h8 _ _ ?_
              clear h8
              refine ⟨(.bool (decide (f.mask = 0))), rfl, ?_⟩
              first | exact ⟨bT (by simp only [goodS] at *; omega), hM3.upd⟩ | exact ⟨bF (by simp only [goodS] at *; omega), hM3.upd⟩ | exact ⟨bP (by simp only [goodS] at *; omega), hM3.upd⟩
            ·
              refine gno rfl (by simp) ?_
              refine gnol rfl (by simp) ?_
              refine gno rfl (by simp) ?_
              refine stp (v := .bool false) (o_pickF rfl rfl) ?_
              refine stp (v := .bool false) (o_mv rfl) ?_
              refine h8 _ _ ?_
              clear h8
              refine ⟨(.bool false), rfl, ?_⟩
              first | exact ⟨bT (by simp only [goodS] at *; omega), hM3.upd⟩ | exact ⟨bF (by simp only [goodS] at *; omega), hM3.upd⟩ | exact ⟨bP (by simp only [goodS] at *; omega), hM3.upd⟩
          ·
            refine gno rfl (by simp) ?_
            refine gnol rfl (by simp) ?_
            refine gno rfl (by simp) ?_
            refine stp (v := .bool false) (o_pickF rfl rfl) ?_
            refine stp (v := .bool false) (o_mv rfl) ?_
            refine splitF rfl ?_
            refine gno rfl (by simp) ?_
            refine gnol rfl (by simp) ?_
            refine gno rfl (by simp) ?_
            refine stp (v := .bool false) (o_pickF rfl rfl) ?_
            refine stp (v := .bool false) (o_mv rfl) ?_
            refine h8 _ _ ?_
            clear h8
            refine ⟨(.bool false), rfl, ?_⟩
            first | exact ⟨bT (by simp only [goodS] at *; omega), hM3.upd⟩ | exact ⟨bF (by simp only [goodS] at *; omega), hM3.upd⟩ | exact ⟨bP (by simp only [goodS] at *; omega), hM3.upd⟩
        ·
          refine gno rfl (by simp) ?_
          refine gnol rfl (by simp) ?_
          refine gno rfl (by simp) ?_
          refine stp (v := .bool false) (o_pickF rfl rfl) ?_
          refine stp (v := .bool false) (o_mv rfl) ?_
          refine splitF rfl ?_
          refine gno rfl (by simp) ?_
          refine gnol rfl (by simp) ?_
          refine gno rfl (by simp) ?_
          refine stp (v := .bool false) (o_pickF rfl rfl) ?_
          refine stp (v := .bool false) (o_mv rfl) ?_
          refine splitF rfl ?_
          refine gno rfl (by simp) ?_
          refine gnol rfl (by simp) ?_
          refine gno rfl (by simp) ?_
          refine stp (v := .bool false) (o_pickF rfl rfl) ?_
          refine stp (v := .bool false) (o_mv rfl) ?_
          refine h8 _ _ ?_
          clear h8
          refine ⟨(.bool false), rfl, ?_⟩
          first | exact ⟨bT (by simp only [goodS] at *; omega), hM3.upd⟩ | exact ⟨bF (by simp only [goodS] at *; omega), hM3.upd⟩ | exact ⟨bP (by simp only [goodS] at *; omega), hM3.upd⟩
      ·
        refine gno rfl (by simp) ?_
        refine gnol rfl (by simp) ?_
        refine gno rfl (by simp) ?_
        refine stp (v := .bool false) (o_pickF rfl rfl) ?_
        refine stp (v := .bool false) (o_mv rfl) ?_
        refine splitF rfl ?_
        refine gno rfl (by simp) ?_
        refine gnol rfl (by simp) ?_
        refine gno rfl (by simp) ?_
        refine stp (v := .bool false) (o_pickF rfl rfl) ?_
        refine stp (v := .bool false) (o_mv rfl) ?_
        refine splitF rfl ?_
        refine gno rfl (by simp) ?_
        refine gnol rfl (by simp) ?_
        refine gno rfl (by simp) ?_
        refine stp (v := .bool false) (o_pickF rfl rfl) ?_
        refine stp (v := .bool false) (o_mv rfl) ?_
        refine splitF rfl ?_
        refine gno rfl (by simp) ?_
        refine gnol rfl (by simp) ?_
        refine gno rfl (by simp) ?_
        refine stp (v := .bool false) (o_pickF rfl rfl) ?_
        refine stp (v := .bool false) (o_mv rfl) ?_
        refine h8 _ _ ?_
        clear h8
        refine ⟨(.bool false), rfl, ?_⟩
        first | exact ⟨bT (by simp only [goodS] at *; omega), hM3.upd⟩ | exact ⟨bF (by simp only [goodS] at *; omega), hM3.upd⟩ | exact ⟨bP (by simp only [goodS] at *; omega), hM3.upd⟩
    ·
      refine stg rfl (v := .pointer (some ⟨b2, 1, none⟩)) (o_fa rfl rfl) ?_
      refine gyesl rfl ?_
      refine m_ld (v := .int .i64 f.tk) hM3 (i := 0) (j := 0) rfl rfl rfl rfl ?_
      refine stg rfl (v := .bool (decide (f.tk = 1))) (o_bin rfl rfl rfl) ?_
      refine stp (v := .bool (decide (f.tk = 1))) (o_pickF rfl rfl) ?_
      refine stp (v := .bool (decide (f.tk = 1))) (o_mv rfl) ?_
      refine splitP rfl (fun c14 => ?_) (fun c14 => ?_)
      ·
        refine stg rfl (v := .pointer (some ⟨b2, 2, none⟩)) (o_fa rfl rfl) ?_
        refine gyesl rfl ?_
        refine m_ld (v := .int .i64 f.task) hM3 (i := 0) (j := 0) rfl rfl rfl rfl ?_
        refine stg rfl (v := .int .i64 65535) (o_mv rfl) ?_
        refine stg rfl (v := .bool (decide (f.task < 65535))) (o_bin rfl rfl rfl) ?_
        refine stp (v := .bool (decide (f.task < 65535))) (o_pickT rfl rfl) ?_
        refine stp (v := .bool (decide (f.task < 65535))) (o_mv rfl) ?_
        refine splitP rfl (fun c15 => ?_) (fun c15 => ?_)
        ·
          refine stg rfl (v := .pointer (some ⟨b2, 4, none⟩)) (o_fa rfl rfl) ?_
          refine gyesl rfl ?_
          refine m_ld (v := .int .i64 f.mom) hM3 (i := 0) (j := 0) rfl rfl rfl rfl ?_
          refine stg rfl (v := .bool (decide (f.mom = 0))) (o_bin rfl rfl rfl) ?_
          refine stp (v := .bool (decide (f.mom = 0))) (o_pickT rfl rfl) ?_
          refine stp (v := .bool (decide (f.mom = 0))) (o_mv rfl) ?_
          refine splitP rfl (fun c16 => ?_) (fun c16 => ?_)
          ·
            refine stg rfl (v := .pointer (some ⟨b2, 5, none⟩)) (o_fa rfl rfl) ?_
            refine gyesl rfl ?_
            refine m_ld (v := .int .i64 f.rd) hM3 (i := 0) (j := 0) rfl rfl rfl rfl ?_
            refine stg rfl (v := .bool (decide (f.rd = 0))) (o_bin rfl rfl rfl) ?_
            refine stp (v := .bool (decide (f.rd = 0))) (o_pickT rfl rfl) ?_
            refine stp (v := .bool (decide (f.rd = 0))) (o_mv rfl) ?_
            refine splitP rfl (fun c17 => ?_) (fun c17 => ?_)
            ·
              refine stg rfl (v := .pointer (some ⟨b2, 6, none⟩)) (o_fa rfl rfl) ?_
              refine gyesl rfl ?_
              refine m_ld (v := .int .i64 f.at_) hM3 (i := 0) (j := 0) rfl rfl rfl rfl ?_
              refine stg rfl (v := .bool (decide ((0 : Int) ≤ f.at_))) (o_bin rfl rfl rfl) ?_
              refine stp (v := .bool (decide ((0 : Int) ≤ f.at_))) (o_pickT rfl rfl) ?_
              refine stp (v := .bool (decide ((0 : Int) ≤ f.at_))) (o_mv rfl) ?_
              refine splitP rfl (fun c18 => ?_) (fun c18 => ?_)
              ·
                refine stg rfl (v := .pointer (some ⟨b2, 7, none⟩)) (o_fa rfl rfl) ?_
                refine gyesl rfl ?_
                refine m_ld (v := .int .u32 f.mask) hM3 (i := 0) (j := 0) rfl rfl rfl rfl ?_
                refine stg rfl (v := .bool (decide (f.mask = 0))) (o_bin rfl rfl rfl) ?_
                refine stp (v := .bool (decide (f.mask = 0))) (o_pickT rfl rfl) ?_
                refine stp (v := .bool (decide (f.mask = 0))) (o_mv rfl) ?_
                refine h8 _ _ ?_
                clear h8
                refine ⟨(.bool (decide (f.mask = 0))), rfl, ?_⟩
                first | exact ⟨bT (by simp only [goodS] at *; omega), hM3.upd⟩ | exact ⟨bF (by simp only [goodS] at *; omega), hM3.upd⟩ | exact ⟨bP (by simp only [goodS] at *; omega), hM3.upd⟩
              ·
                refine gno rfl (by simp) ?_
                refine gnol rfl (by simp) ?_
                refine gno rfl (by simp) ?_
                refine stp (v := .bool false) (o_pickF rfl rfl) ?_
                refine stp (v := .bool false) (o_mv rfl) ?_
                refine h8 _ _ ?_
                clear h8
                refine ⟨(.bool false), rfl, ?_⟩
                first | exact ⟨bT (by simp only [goodS] at *; omega), hM3.upd⟩ | exact ⟨bF (by simp only [goodS] at *; omega), hM3.upd⟩ | exact ⟨bP (by simp only [goodS] at *; omega), hM3.upd⟩
            ·
              refine gno rfl (by simp) ?_
              refine gnol rfl (by simp) ?_
              refine gno rfl (by simp) ?_
              refine stp (v := .bool false) (o_pickF rfl rfl) ?_
              refine stp (v := .bool false) (o_mv rfl) ?_
              refine splitF rfl ?_
              refine gno rfl (by simp) ?_
              refine gnol rfl (by simp) ?_
              refine gno rfl (by simp) ?_
              refine stp (v := .bool false) (o_pickF rfl rfl) ?_
              refine stp (v := .bool false) (o_mv rfl) ?_
              refine h8 _ _ ?_
              clear h8
              refine ⟨(.bool false), rfl, ?_⟩
              first | exact ⟨bT (by simp only [goodS] at *; omega), hM3.upd⟩ | exact ⟨bF (by simp only [goodS] at *; omega), hM3.upd⟩ | exact ⟨bP (by simp only [goodS] at *; omega), hM3.upd⟩
          ·
            refine gno rfl (by simp) ?_
            refine gnol rfl (by simp) ?_
            refine gno rfl (by simp) ?_
            refine stp (v := .bool false) (o_pickF rfl rfl) ?_
            refine stp (v := .bool false) (o_mv rfl) ?_
            refine splitF rfl ?_
            refine gno rfl (by simp) ?_
            refine gnol rfl (by simp) ?_
            refine gno rfl (by simp) ?_
            refine stp (v := .bool false) (o_pickF rfl rfl) ?_
            refine stp (v := .bool false) (o_mv rfl) ?_
            refine splitF rfl ?_
            refine gno rfl (by simp) ?_
            refine gnol rfl (by simp) ?_
            refine gno rfl (by simp) ?_
            refine stp (v := .bool false) (o_pickF rfl rfl) ?_
            refine stp (v := .bool false) (o_mv rfl) ?_
            refine h8 _ _ ?_
            clear h8
            refine ⟨(.bool false), rfl, ?_⟩
            first | exact ⟨bT (by simp only [goodS] at *; omega), hM3.upd⟩ | exact ⟨bF (by simp only [goodS] at *; omega), hM3.upd⟩ | exact ⟨bP (by simp only [goodS] at *; omega), hM3.upd⟩
        ·
          refine gno rfl (by simp) ?_
          refine gnol rfl (by simp) ?_
          refine gno rfl (by simp) ?_
          refine stp (v := .bool false) (o_pickF rfl rfl) ?_
          refine stp (v := .bool false) (o_mv rfl) ?_
          refine splitF rfl ?_
          refine gno rfl (by simp) ?_
          refine gnol rfl (by simp) ?_
          refine gno rfl (by simp) ?_
          refine stp (v := .bool false) (o_pickF rfl rfl) ?_
          refine stp (v := .bool false) (o_mv rfl) ?_
          refine splitF rfl ?_
          refine gno rfl (by simp) ?_
          refine gnol rfl (by simp) ?_
          refine gno rfl (by simp) ?_
          refine stp (v := .bool false) (o_pickF rfl rfl) ?_
          refine stp (v := .bool false) (o_mv rfl) ?_
          refine splitF rfl ?_
          refine gno rfl (by simp) ?_
          refine gnol rfl (by simp) ?_
          refine gno rfl (by simp) ?_
          refine stp (v := .bool false) (o_pickF rfl rfl) ?_
          refine stp (v := .bool false) (o_mv rfl) ?_
          refine h8 _ _ ?_
          clear h8
          refine ⟨(.bool false), rfl, ?_⟩
          first | exact ⟨bT (by simp only [goodS] at *; omega), hM3.upd⟩ | exact ⟨bF (by simp only [goodS] at *; omega), hM3.upd⟩ | exact ⟨bP (by simp only [goodS] at *; omega), hM3.upd⟩
      ·
        refine gno rfl (by simp) ?_
        refine gnol rfl (by simp) ?_
        refine gno rfl (by simp) ?_
        refine gno rfl (by simp) ?_
        refine stp (v := .bool false) (o_pickF rfl rfl) ?_
        refine stp (v := .bool false) (o_mv rfl) ?_
        refine splitF rfl ?_
        refine gno rfl (by simp) ?_
        refine gnol rfl (by simp) ?_
        refine gno rfl (by simp) ?_
        refine stp (v := .bool false) (o_pickF rfl rfl) ?_
        refine stp (v := .bool false) (o_mv rfl) ?_
        refine splitF rfl ?_
        refine gno rfl (by simp) ?_
        refine gnol rfl (by simp) ?_
        refine gno rfl (by simp) ?_
        refine stp (v := .bool false) (o_pickF rfl rfl) ?_
        refine stp (v := .bool false) (o_mv rfl) ?_
        refine splitF rfl ?_
        refine gno rfl (by simp) ?_
        refine gnol rfl (by simp) ?_
        refine gno rfl (by simp) ?_
        refine stp (v := .bool false) (o_pickF rfl rfl) ?_
        refine stp (v := .bool false) (o_mv rfl) ?_
        refine splitF rfl ?_
        refine gno rfl (by simp) ?_
        refine gnol rfl (by simp) ?_
        refine gno rfl (by simp) ?_
        refine stp (v := .bool false) (o_pickF rfl rfl) ?_
        refine stp (v := .bool false) (o_mv rfl) ?_
        refine h8 _ _ ?_
        clear h8
        refine ⟨(.bool false), rfl, ?_⟩
        first | exact ⟨bT (by simp only [goodS] at *; omega), hM3.upd⟩ | exact ⟨bF (by simp only [goodS] at *; omega), hM3.upd⟩ | exact ⟨bP (by simp only [goodS] at *; omega), hM3.upd⟩
  ·
    refine h5 _ _ ?_
    clear h5
    refine seq fun K19 h19 => ?_
    refine stp (v := .pointer (some ⟨b2, 1, none⟩)) (o_fa rfl rfl) ?_
    refine m_ld (v := .int .i64 f.tk) hM3 (i := 0) (j := 0) rfl rfl rfl rfl ?_
    refine stp (v := .bool (decide (f.tk = 0))) (o_bin rfl rfl rfl) ?_
    refine stp (v := .bool (decide (f.tk = 0))) (o_mv rfl) ?_
    refine splitP rfl (fun c20 => ?_) (fun c20 => ?_)
    ·
      refine gno rfl (by simp) ?_
      refine gnol rfl (by simp) ?_
      refine gno rfl (by simp) ?_
      refine stp (v := .bool true) (o_pickT rfl rfl) ?_
      refine stp (v := .bool true) (o_mv rfl) ?_
      refine splitT rfl ?_
      refine stg rfl (v := .pointer (some ⟨b2, 2, none⟩)) (o_fa rfl rfl) ?_
      refine gyesl rfl ?_
      refine m_ld (v := .int .i64 f.task) hM3 (i := 0) (j := 0) rfl rfl rfl rfl ?_
      refine stg rfl (v := .int .i64 256) (o_mv rfl) ?_
      refine stg rfl (v := .bool (decide (f.task < 256))) (o_bin rfl rfl rfl) ?_
      refine stp (v := .bool (decide (f.task < 256))) (o_pickT rfl rfl) ?_
      refine stp (v := .bool (decide (f.task < 256))) (o_mv rfl) ?_
      refine splitP rfl (fun c21 => ?_) (fun c21 => ?_)
      ·
        refine stg rfl (v := .pointer (some ⟨b2, 4, none⟩)) (o_fa rfl rfl) ?_
        refine gyesl rfl ?_
        refine m_ld (v := .int .i64 f.mom) hM3 (i := 0) (j := 0) rfl rfl rfl rfl ?_
        refine stg rfl (v := .bool (decide (f.mom = 0))) (o_bin rfl rfl rfl) ?_
        refine stp (v := .bool (decide (f.mom = 0))) (o_pickT rfl rfl) ?_
        refine stp (v := .bool (decide (f.mom = 0))) (o_mv rfl) ?_
        refine splitP rfl (fun c22 => ?_) (fun c22 => ?_)
        ·
          refine stg rfl (v := .pointer (some ⟨b2, 5, none⟩)) (o_fa rfl rfl) ?_
          refine gyesl rfl ?_
          refine m_ld (v := .int .i64 f.rd) hM3 (i := 0) (j := 0) rfl rfl rfl rfl ?_
          refine stg rfl (v := .bool (decide (f.rd = 0))) (o_bin rfl rfl rfl) ?_
          refine stp (v := .bool (decide (f.rd = 0))) (o_pickT rfl rfl) ?_
          refine stp (v := .bool (decide (f.rd = 0))) (o_mv rfl) ?_
          refine splitP rfl (fun c23 => ?_) (fun c23 => ?_)
          ·
            refine stg rfl (v := .pointer (some ⟨b2, 6, none⟩)) (o_fa rfl rfl) ?_
            refine gyesl rfl ?_
            refine m_ld (v := .int .i64 f.at_) hM3 (i := 0) (j := 0) rfl rfl rfl rfl ?_
            refine stg rfl (v := .bool (decide ((0 : Int) ≤ f.at_))) (o_bin rfl rfl rfl) ?_
            refine stp (v := .bool (decide ((0 : Int) ≤ f.at_))) (o_pickT rfl rfl) ?_
            refine stp (v := .bool (decide ((0 : Int) ≤ f.at_))) (o_mv rfl) ?_
            refine splitP rfl (fun c24 => ?_) (fun c24 => ?_)
            ·
              refine stg rfl (v := .pointer (some ⟨b2, 7, none⟩)) (o_fa rfl rfl) ?_
              refine gyesl rfl ?_
              refine m_ld (v := .int .u32 f.mask) hM3 (i := 0) (j := 0) rfl rfl rfl rfl ?_
              refine stg rfl (v := .bool (decide (f.mask = 0))) (o_bin rfl rfl rfl) ?_
              refine stp (v := .bool (decide (f.mask = 0))) (o_pickT rfl rfl) ?_
              refine stp (v := .bool (decide (f.mask = 0))) (o_mv rfl) ?_
              refine h19 _ _ ?_
              clear h19
              refine ⟨(.bool (decide (f.mask = 0))), rfl, ?_⟩
              first | exact ⟨bT (by simp only [goodS] at *; omega), hM3.upd⟩ | exact ⟨bF (by simp only [goodS] at *; omega), hM3.upd⟩ | exact ⟨bP (by simp only [goodS] at *; omega), hM3.upd⟩
            ·
              refine gno rfl (by simp) ?_
              refine gnol rfl (by simp) ?_
              refine gno rfl (by simp) ?_
              refine stp (v := .bool false) (o_pickF rfl rfl) ?_
              refine stp (v := .bool false) (o_mv rfl) ?_
              refine h19 _ _ ?_
              clear h19
              refine ⟨(.bool false), rfl, ?_⟩
              first | exact ⟨bT (by simp only [goodS] at *; omega), hM3.upd⟩ | exact ⟨bF (by simp only [goodS] at *; omega), hM3.upd⟩ | exact ⟨bP (by simp only [goodS] at *; omega), hM3.upd⟩
          ·
            refine gno rfl (by simp) ?_
            refine gnol rfl (by simp) ?_
            refine gno rfl (by simp) ?_
            refine stp (v := .bool false) (o_pickF rfl rfl) ?_
            refine stp (v := .bool false) (o_mv rfl) ?_
            refine splitF rfl ?_
            refine gno rfl (by simp) ?_
            refine gnol rfl (by simp) ?_
            refine gno rfl (by simp) ?_
            refine stp (v := .bool false) (o_pickF rfl rfl) ?_
            refine stp (v := .bool false) (o_mv rfl) ?_
            refine h19 _ _ ?_
            clear h19
            refine ⟨(.bool false), rfl, ?_⟩
            first | exact ⟨bT (by simp only [goodS] at *; omega), hM3.upd⟩ | exact ⟨bF (by simp only [goodS] at *; omega), hM3.upd⟩ | exact ⟨bP (by simp only [goodS] at *; omega), hM3.upd⟩
        ·
          refine gno rfl (by simp) ?_
          refine gnol rfl (by simp) ?_
          refine gno rfl (by simp) ?_
          refine stp (v := .bool false) (o_pickF rfl rfl) ?_
          refine stp (v := .bool false) (o_mv rfl) ?_
          refine splitF rfl ?_
          refine gno rfl (by simp) ?_
          refine gnol rfl (by simp) ?_
          refine gno rfl (by simp) ?_
          refine stp (v := .bool false) (o_pickF rfl rfl) ?_
          refine stp (v := .bool false) (o_mv rfl) ?_
          refine splitF rfl ?_
          refine gno rfl (by simp) ?_
          refine gnol rfl (by simp) ?_
          refine gno rfl (by simp) ?_
          refine stp (v := .bool false) (o_pickF rfl rfl) ?_
          refine stp (v := .bool false) (o_mv rfl) ?_
          refine h19 _ _ ?_
          clear h19
          refine ⟨(.bool false), rfl, ?_⟩
          first | exact ⟨bT (by simp only [goodS] at *; omega), hM3.upd⟩ | exact ⟨bF (by simp only [goodS] at *; omega), hM3.upd⟩ | exact ⟨bP (by simp only [goodS] at *; omega), hM3.upd⟩
      ·
        refine gno rfl (by simp) ?_
        refine gnol rfl (by simp) ?_
        refine gno rfl (by simp) ?_
        refine stp (v := .bool false) (o_pickF rfl rfl) ?_
        refine stp (v := .bool false) (o_mv rfl) ?_
        refine splitF rfl ?_
        refine gno rfl (by simp) ?_
        refine gnol rfl (by simp) ?_
        refine gno rfl (by simp) ?_
        refine stp (v := .bool false) (o_pickF rfl rfl) ?_
        refine stp (v := .bool false) (o_mv rfl) ?_
        refine splitF rfl ?_
        refine gno rfl (by simp) ?_
        refine gnol rfl (by simp) ?_
        refine gno rfl (by simp) ?_
        refine stp (v := .bool false) (o_pickF rfl rfl) ?_
        refine stp (v := .bool false) (o_mv rfl) ?_
        refine splitF rfl ?_
        refine gno rfl (by simp) ?_
        refine gnol rfl (by simp) ?_
        refine gno rfl (by simp) ?_
        refine stp (v := .bool false) (o_pickF rfl rfl) ?_
        refine stp (v := .bool false) (o_mv rfl) ?_
        refine h19 _ _ ?_
        clear h19
        refine ⟨(.bool false), rfl, ?_⟩
        first | exact ⟨bT (by simp only [goodS] at *; omega), hM3.upd⟩ | exact ⟨bF (by simp only [goodS] at *; omega), hM3.upd⟩ | exact ⟨bP (by simp only [goodS] at *; omega), hM3.upd⟩
    ·
      refine stg rfl (v := .pointer (some ⟨b2, 1, none⟩)) (o_fa rfl rfl) ?_
      refine gyesl rfl ?_
      refine m_ld (v := .int .i64 f.tk) hM3 (i := 0) (j := 0) rfl rfl rfl rfl ?_
      refine stg rfl (v := .bool (decide (f.tk = 1))) (o_bin rfl rfl rfl) ?_
      refine stp (v := .bool (decide (f.tk = 1))) (o_pickF rfl rfl) ?_
      refine stp (v := .bool (decide (f.tk = 1))) (o_mv rfl) ?_
      refine splitP rfl (fun c25 => ?_) (fun c25 => ?_)
      ·
        refine stg rfl (v := .pointer (some ⟨b2, 2, none⟩)) (o_fa rfl rfl) ?_
        refine gyesl rfl ?_
        refine m_ld (v := .int .i64 f.task) hM3 (i := 0) (j := 0) rfl rfl rfl rfl ?_
        refine stg rfl (v := .int .i64 256) (o_mv rfl) ?_
        refine stg rfl (v := .bool (decide (f.task < 256))) (o_bin rfl rfl rfl) ?_
        refine stp (v := .bool (decide (f.task < 256))) (o_pickT rfl rfl) ?_
        refine stp (v := .bool (decide (f.task < 256))) (o_mv rfl) ?_
        refine splitP rfl (fun c26 => ?_) (fun c26 => ?_)
        ·
          refine stg rfl (v := .pointer (some ⟨b2, 4, none⟩)) (o_fa rfl rfl) ?_
          refine gyesl rfl ?_
          refine m_ld (v := .int .i64 f.mom) hM3 (i := 0) (j := 0) rfl rfl rfl rfl ?_
          refine stg rfl (v := .bool (decide (f.mom = 0))) (o_bin rfl rfl rfl) ?_
          refine stp (v := .bool (decide (f.mom = 0))) (o_pickT rfl rfl) ?_
          refine stp (v := .bool (decide (f.mom = 0))) (o_mv rfl) ?_
          refine splitP rfl (fun c27 => ?_) (fun c27 => ?_)
          ·
            refine stg rfl (v := .pointer (some ⟨b2, 5, none⟩)) (o_fa rfl rfl) ?_
            refine gyesl rfl ?_
            refine m_ld (v := .int .i64 f.rd) hM3 (i := 0) (j := 0) rfl rfl rfl rfl ?_
            refine stg rfl (v := .bool (decide (f.rd = 0))) (o_bin rfl rfl rfl) ?_
            refine stp (v := .bool (decide (f.rd = 0))) (o_pickT rfl rfl) ?_
            refine stp (v := .bool (decide (f.rd = 0))) (o_mv rfl) ?_
            refine splitP rfl (fun c28 => ?_) (fun c28 => ?_)
            ·
              refine stg rfl (v := .pointer (some ⟨b2, 6, none⟩)) (o_fa rfl rfl) ?_
              refine gyesl rfl ?_
              refine m_ld (v := .int .i64 f.at_) hM3 (i := 0) (j := 0) rfl rfl rfl rfl ?_
              refine stg rfl (v := .bool (decide ((0 : Int) ≤ f.at_))) (o_bin rfl rfl rfl) ?_
              refine stp (v := .bool (decide ((0 : Int) ≤ f.at_))) (o_pickT rfl rfl) ?_
              refine stp (v := .bool (decide ((0 : Int) ≤ f.at_))) (o_mv rfl) ?_
              refine splitP rfl (fun c29 => ?_) (fun c29 => ?_)
              ·
                refine stg rfl (v := .pointer (some ⟨b2, 7, none⟩)) (o_fa rfl rfl) ?_
                refine gyesl rfl ?_
                refine m_ld (v := .int .u32 f.mask) hM3 (i := 0) (j := 0) rfl rfl rfl rfl ?_
                refine stg rfl (v := .bool (decide (f.mask = 0))) (o_bin rfl rfl rfl) ?_
                refine stp (v := .bool (decide (f.mask = 0))) (o_pickT rfl rfl) ?_
                refine stp (v := .bool (decide (f.mask = 0))) (o_mv rfl) ?_
                refine h19 _ _ ?_
                clear h19
                refine ⟨(.bool (decide (f.mask = 0))), rfl, ?_⟩
                first | exact ⟨bT (by simp only [goodS] at *; omega), hM3.upd⟩ | exact ⟨bF (by simp only [goodS] at *; omega), hM3.upd⟩ | exact ⟨bP (by simp only [goodS] at *; omega), hM3.upd⟩
              ·
                refine gno rfl (by simp) ?_
                refine gnol rfl (by simp) ?_
                refine gno rfl (by simp) ?_
                refine stp (v := .bool false) (o_pickF rfl rfl) ?_
                refine stp (v := .bool false) (o_mv rfl) ?_
                refine h19 _ _ ?_
                clear h19
                refine ⟨(.bool false), rfl, ?_⟩
                first | exact ⟨bT (by simp only [goodS] at *; omega), hM3.upd⟩ | exact ⟨bF (by simp only [goodS] at *; omega), hM3.upd⟩ | exact ⟨bP (by simp only [goodS] at *; omega), hM3.upd⟩
            ·
              refine gno rfl (by simp) ?_
              refine gnol rfl (by simp) ?_
              refine gno rfl (by simp) ?_
              refine stp (v := .bool false) (o_pickF rfl rfl) ?_
              refine stp (v := .bool false) (o_mv rfl) ?_
              refine splitF rfl ?_
              refine gno rfl (by simp) ?_
              refine gnol rfl (by simp) ?_
              refine gno rfl (by simp) ?_
              refine stp (v := .bool false) (o_pickF rfl rfl) ?_
              refine stp (v := .bool false) (o_mv rfl) ?_
              refine h19 _ _ ?_
              clear h19
              refine ⟨(.bool false), rfl, ?_⟩
              first | exact ⟨bT (by simp only [goodS] at *; omega), hM3.upd⟩ | exact ⟨bF (by simp only [goodS] at *; omega), hM3.upd⟩ | exact ⟨bP (by simp only [goodS] at *; omega), hM3.upd⟩
          ·
            refine gno rfl (by simp) ?_
            refine gnol rfl (by simp) ?_
            refine gno rfl (by simp) ?_
            refine stp (v := .bool false) (o_pickF rfl rfl) ?_
            refine stp (v := .bool false) (o_mv rfl) ?_
            refine splitF rfl ?_
            refine gno rfl (by simp) ?_
            refine gnol rfl (by simp) ?_
            refine gno rfl (by simp) ?_
            refine stp (v := .bool false) (o_pickF rfl rfl) ?_
            refine stp (v := .bool false) (o_mv rfl) ?_
            refine splitF rfl ?_
            refine gno rfl (by simp) ?_
            refine gnol rfl (by simp) ?_
            refine gno rfl (by simp) ?_
            refine stp (v := .bool false) (o_pickF rfl rfl) ?_
            refine stp (v := .bool false) (o_mv rfl) ?_
            refine h19 _ _ ?_
            clear h19
            refine ⟨(.bool false), rfl, ?_⟩
            first | exact ⟨bT (by simp only [goodS] at *; omega), hM3.upd⟩ | exact ⟨bF (by simp only [goodS] at *; omega), hM3.upd⟩ | exact ⟨bP (by simp only [goodS] at *; omega), hM3.upd⟩
        ·
          refine gno rfl (by simp) ?_
          refine gnol rfl (by simp) ?_
          refine gno rfl (by simp) ?_
          refine stp (v := .bool false) (o_pickF rfl rfl) ?_
          refine stp (v := .bool false) (o_mv rfl) ?_
          refine splitF rfl ?_
          refine gno rfl (by simp) ?_
          refine gnol rfl (by simp) ?_
          refine gno rfl (by simp) ?_
          refine stp (v := .bool false) (o_pickF rfl rfl) ?_
          refine stp (v := .bool false) (o_mv rfl) ?_
          refine splitF rfl ?_
          refine gno rfl (by simp) ?_
          refine gnol rfl (by simp) ?_
          refine gno rfl (by simp) ?_
          refine stp (v := .bool false) (o_pickF rfl rfl) ?_
          refine stp (v := .bool false) (o_mv rfl) ?_
          refine splitF rfl ?_
          refine gno rfl (by simp) ?_
          refine gnol rfl (by simp) ?_
          refine gno rfl (by simp) ?_
          refine stp (v := .bool false) (o_pickF rfl rfl) ?_
          refine stp (v := .bool false) (o_mv rfl) ?_
          refine h19 _ _ ?_
          clear h19
          refine ⟨(.bool false), rfl, ?_⟩
          first | exact ⟨bT (by simp only [goodS] at *; omega), hM3.upd⟩ | exact ⟨bF (by simp only [goodS] at *; omega), hM3.upd⟩ | exact ⟨bP (by simp only [goodS] at *; omega), hM3.upd⟩
      ·
        refine gno rfl (by simp) ?_
        refine gnol rfl (by simp) ?_
        refine gno rfl (by simp) ?_
        refine gno rfl (by simp) ?_
        refine stp (v := .bool false) (o_pickF rfl rfl) ?_
        refine stp (v := .bool false) (o_mv rfl) ?_
        refine splitF rfl ?_
        refine gno rfl (by simp) ?_
        refine gnol rfl (by simp) ?_
        refine gno rfl (by simp) ?_
        refine stp (v := .bool false) (o_pickF rfl rfl) ?_
        refine stp (v := .bool false) (o_mv rfl) ?_
        refine splitF rfl ?_
        refine gno rfl (by simp) ?_
        refine gnol rfl (by simp) ?_
        refine gno rfl (by simp) ?_
        refine stp (v := .bool false) (o_pickF rfl rfl) ?_
        refine stp (v := .bool false) (o_mv rfl) ?_
        refine splitF rfl ?_
        refine gno rfl (by simp) ?_
        refine gnol rfl (by simp) ?_
        refine gno rfl (by simp) ?_
        refine stp (v := .bool false) (o_pickF rfl rfl) ?_
        refine stp (v := .bool false) (o_mv rfl) ?_
        refine splitF rfl ?_
        refine gno rfl (by simp) ?_
        refine gnol rfl (by simp) ?_
        refine gno rfl (by simp) ?_
        refine stp (v := .bool false) (o_pickF rfl rfl) ?_
        refine stp (v := .bool false) (o_mv rfl) ?_
        refine h19 _ _ ?_
        clear h19
        refine ⟨(.bool false), rfl, ?_⟩
        first | exact ⟨bT (by simp only [goodS] at *; omega), hM3.upd⟩ | exact ⟨bF (by simp only [goodS] at *; omega), hM3.upd⟩ | exact ⟨bP (by simp only [goodS] at *; omega), hM3.upd⟩

/-- fault.right$2 -/
theorem right2_ok (f : Flt) (w : World) (hf : f.ok) : Calls Try.prog 54 [.agg (fltC f).toArray].toArray w (Rt fun r w' => r = .bool (decide (goodF f)) ∧ Upd [] w w') := by
  have hM0 : Mem w [] w [] := Mem.nil w []
  have hf0 := hf
  simp only [Flt.ok, inK] at hf
  refine calls_vc mixed Try.func54 rfl C54 (by simp [Try.ntmps54]) ?_
  refine seq fun K1 h1 => ?_
  refine m_bx (v := .agg ([.int .i64 f.kind, .int .i64 f.tk, .int .i64 f.task, .int .i64 f.att, .int .i64 f.mom, .int .i64 f.rd, .int .i64 f.at_, .int .u32 f.mask] : List Value).toArray) hM0 rfl rfl fun b2 w3 (hM3 : Mem w [] w3 [[⟨b2, 25, [.int .i64 f.kind, .int .i64 f.tk, .int .i64 f.task, .int .i64 f.att, .int .i64 f.mom, .int .i64 f.rd, .int .i64 f.at_, .int .u32 f.mask]⟩]]) => ?_
  refine stp (v := .bool false) (o_mv rfl) ?_
  refine h1 _ _ ?_
  clear h1
  refine seq fun K4 h4 => ?_
  refine m_ldA (l := [.int .i64 f.kind, .int .i64 f.tk, .int .i64 f.task, .int .i64 f.att, .int .i64 f.mom, .int .i64 f.rd, .int .i64 f.at_, .int .u32 f.mask]) hM3 (i := 0) (j := 0) rfl rfl rfl rfl rfl ?_
  refine m_call (damages_ok f w3 (by first | assumption | omega)) rfl fun v5 w5 ⟨hr5, hu5⟩ => ?_
  have hM5 : Mem w [] w5 [[⟨b2, 25, [.int .i64 f.kind, .int .i64 f.tk, .int .i64 f.task, .int .i64 f.att, .int .i64 f.mom, .int .i64 f.rd, .int .i64 f.at_, .int .u32 f.mask]⟩]] := hM3.pure hu5
  subst hr5
  refine stp (v := .bool (decide (dmgP f))) (o_mv rfl) ?_
  refine splitP rfl (fun c6 => ?_) (fun c6 => ?_)
  ·
    refine stg rfl (v := .pointer (some ⟨b2, 6, none⟩)) (o_fa rfl rfl) ?_
    refine gyesl rfl ?_
    refine m_ld (v := .int .i64 f.at_) hM5 (i := 0) (j := 0) rfl rfl rfl rfl ?_
    refine stg rfl (v := .bool (decide ((0 : Int) ≤ f.at_))) (o_bin rfl rfl rfl) ?_
    refine stp (v := .bool (decide ((0 : Int) ≤ f.at_))) (o_pickT rfl rfl) ?_
    refine stp (v := .bool (decide ((0 : Int) ≤ f.at_))) (o_mv rfl) ?_
    refine splitP rfl (fun c7 => ?_) (fun c7 => ?_)
    ·
      refine stg rfl (v := .pointer (some ⟨b2, 7, none⟩)) (o_fa rfl rfl) ?_
      refine gyesl rfl ?_
      refine m_ld (v := .int .u32 f.mask) hM5 (i := 0) (j := 0) rfl rfl rfl rfl ?_
      refine stg rfl (v := .int .u32 (f.mask % 2)) (o_bin rfl rfl (v_int (and1 (by omega)))) ?_
      refine stg rfl (v := .bool (decide ((f.mask % 2) = 1))) (o_bin rfl rfl rfl) ?_
      refine stp (v := .bool (decide ((f.mask % 2) = 1))) (o_pickT rfl rfl) ?_
      refine stp (v := .bool (decide ((f.mask % 2) = 1))) (o_mv rfl) ?_
      refine h4 _ _ ?_
      clear h4
      refine ⟨(.bool (decide ((f.mask % 2) = 1))), rfl, ?_⟩
      first | exact ⟨bT (by simp only [goodF, dmgP] at *; omega), hM5.upd⟩ | exact ⟨bF (by simp only [goodF, dmgP] at *; omega), hM5.upd⟩ | exact ⟨bP (by simp only [goodF, dmgP] at *; omega), hM5.upd⟩
    ·
      refine gno rfl (by simp) ?_
      refine gnol rfl (by simp) ?_
      refine gno rfl (by simp) ?_
      refine gno rfl (by simp) ?_
      refine stp (v := .bool false) (o_pickF rfl rfl) ?_
      refine stp (v := .bool false) (o_mv rfl) ?_
      refine h4 _ _ ?_
      clear h4
      refine ⟨(.bool false), rfl, ?_⟩
      first | exact ⟨bT (by simp only [goodF, dmgP] at *; omega), hM5.upd⟩ | exact ⟨bF (by simp only [goodF, dmgP] at *; omega), hM5.upd⟩ | exact ⟨bP (by simp only [goodF, dmgP] at *; omega), hM5.upd⟩
  ·
    refine gno rfl (by simp) ?_
    refine gnol rfl (by simp) ?_
    refine gno rfl (by simp) ?_
    refine stp (v := .bool false) (o_pickF rfl rfl) ?_
    refine stp (v := .bool false) (o_mv rfl) ?_
    refine splitF rfl ?_
    refine gno rfl (by simp) ?_
    refine gnol rfl (by simp) ?_
    refine gno rfl (by simp) ?_
    refine gno rfl (by simp) ?_
    refine stp (v := .bool false) (o_pickF rfl rfl) ?_
    refine stp (v := .bool false) (o_mv rfl) ?_
    refine h4 _ _ ?_
    clear h4
    refine ⟨(.bool false), rfl, ?_⟩
    first | exact ⟨bT (by simp only [goodF, dmgP] at *; omega), hM5.upd⟩ | exact ⟨bF (by simp only [goodF, dmgP] at *; omega), hM5.upd⟩ | exact ⟨bP (by simp only [goodF, dmgP] at *; omega), hM5.upd⟩

/-- fault.right$3 -/
theorem right3_ok (f : Flt) (w : World) (hf : f.ok) : Calls Try.prog 56 [.agg (fltC f).toArray].toArray w (Rt fun r w' => r = .bool (decide (goodL f)) ∧ Upd [] w w') := by
  have hM0 : Mem w [] w [] := Mem.nil w []
  have hf0 := hf
  simp only [Flt.ok, inK] at hf
  refine calls_vc mixed Try.func56 rfl C56 (by simp [Try.ntmps56]) ?_
  refine seq fun K1 h1 => ?_
  refine m_bx (v := .agg ([.int .i64 f.kind, .int .i64 f.tk, .int .i64 f.task, .int .i64 f.att, .int .i64 f.mom, .int .i64 f.rd, .int .i64 f.at_, .int .u32 f.mask] : List Value).toArray) hM0 rfl rfl fun b2 w3 (hM3 : Mem w [] w3 [[⟨b2, 25, [.int .i64 f.kind, .int .i64 f.tk, .int .i64 f.task, .int .i64 f.att, .int .i64 f.mom, .int .i64 f.rd, .int .i64 f.at_, .int .u32 f.mask]⟩]]) => ?_
  refine stp (v := .bool false) (o_mv rfl) ?_
  refine h1 _ _ ?_
  clear h1
  refine seq fun K4 h4 => ?_
  refine m_ldA (l := [.int .i64 f.kind, .int .i64 f.tk, .int .i64 f.task, .int .i64 f.att, .int .i64 f.mom, .int .i64 f.rd, .int .i64 f.at_, .int .u32 f.mask]) hM3 (i := 0) (j := 0) rfl rfl rfl rfl rfl ?_
  refine m_call (damages_ok f w3 (by first | assumption | omega)) rfl fun v5 w5 ⟨hr5, hu5⟩ => ?_
  have hM5 : Mem w [] w5 [[⟨b2, 25, [.int .i64 f.kind, .int .i64 f.tk, .int .i64 f.task, .int .i64 f.att, .int .i64 f.mom, .int .i64 f.rd, .int .i64 f.at_, .int .u32 f.mask]⟩]] := hM3.pure hu5
  subst hr5
  refine stp (v := .bool (decide (dmgP f))) (o_mv rfl) ?_
  refine splitP rfl (fun c6 => ?_) (fun c6 => ?_)
  ·
    refine stg rfl (v := .pointer (some ⟨b2, 6, none⟩)) (o_fa rfl rfl) ?_
    refine gyesl rfl ?_
    refine m_ld (v := .int .i64 f.at_) hM5 (i := 0) (j := 0) rfl rfl rfl rfl ?_
    refine stg rfl (v := .bool (decide ((-268435456) ≤ f.at_))) (o_bin rfl rfl rfl) ?_
    refine stp (v := .bool (decide ((-268435456) ≤ f.at_))) (o_pickT rfl rfl) ?_
    refine stp (v := .bool (decide ((-268435456) ≤ f.at_))) (o_mv rfl) ?_
    refine splitP rfl (fun c7 => ?_) (fun c7 => ?_)
    ·
      refine stg rfl (v := .pointer (some ⟨b2, 6, none⟩)) (o_fa rfl rfl) ?_
      refine gyesl rfl ?_
      refine m_ld (v := .int .i64 f.at_) hM5 (i := 0) (j := 0) rfl rfl rfl rfl ?_
      refine stg rfl (v := .bool (decide (f.at_ ≤ 4096))) (o_bin rfl rfl rfl) ?_
      refine stp (v := .bool (decide (f.at_ ≤ 4096))) (o_pickT rfl rfl) ?_
      refine stp (v := .bool (decide (f.at_ ≤ 4096))) (o_mv rfl) ?_
      refine splitP rfl (fun c8 => ?_) (fun c8 => ?_)
      ·
        refine stg rfl (v := .pointer (some ⟨b2, 6, none⟩)) (o_fa rfl rfl) ?_
        refine gyesl rfl ?_
        refine m_ld (v := .int .i64 f.at_) hM5 (i := 0) (j := 0) rfl rfl rfl rfl ?_
        refine stg rfl (v := .bool (decide (¬ f.at_ = 0))) (o_bin rfl rfl v_neq) ?_
        refine stp (v := .bool (decide (¬ f.at_ = 0))) (o_pickT rfl rfl) ?_
        refine stp (v := .bool (decide (¬ f.at_ = 0))) (o_mv rfl) ?_
        refine splitP rfl (fun c9 => ?_) (fun c9 => ?_)
        ·
          refine stg rfl (v := .pointer (some ⟨b2, 7, none⟩)) (o_fa rfl rfl) ?_
          refine gyesl rfl ?_
          refine m_ld (v := .int .u32 f.mask) hM5 (i := 0) (j := 0) rfl rfl rfl rfl ?_
          refine stg rfl (v := .bool (decide (f.mask = 0))) (o_bin rfl rfl rfl) ?_
          refine stp (v := .bool (decide (f.mask = 0))) (o_pickT rfl rfl) ?_
          refine stp (v := .bool (decide (f.mask = 0))) (o_mv rfl) ?_
          refine h4 _ _ ?_
          clear h4
          refine ⟨(.bool (decide (f.mask = 0))), rfl, ?_⟩
          first | exact ⟨bT (by simp only [goodL, dmgP] at *; omega), hM5.upd⟩ | exact ⟨bF (by simp only [goodL, dmgP] at *; omega), hM5.upd⟩ | exact ⟨bP (by simp only [goodL, dmgP] at *; omega), hM5.upd⟩
        ·
          refine gno rfl (by simp) ?_
          refine gnol rfl (by simp) ?_
          refine gno rfl (by simp) ?_
          refine stp (v := .bool false) (o_pickF rfl rfl) ?_
          refine stp (v := .bool false) (o_mv rfl) ?_
          refine h4 _ _ ?_
          clear h4
          refine ⟨(.bool false), rfl, ?_⟩
          first | exact ⟨bT (by simp only [goodL, dmgP] at *; omega), hM5.upd⟩ | exact ⟨bF (by simp only [goodL, dmgP] at *; omega), hM5.upd⟩ | exact ⟨bP (by simp only [goodL, dmgP] at *; omega), hM5.upd⟩
      ·
        refine gno rfl (by simp) ?_
        refine gnol rfl (by simp) ?_
        refine gno rfl (by simp) ?_
        refine stp (v := .bool false) (o_pickF rfl rfl) ?_
        refine stp (v := .bool false) (o_mv rfl) ?_
        refine splitF rfl ?_
        refine gno rfl (by simp) ?_
        refine gnol rfl (by simp) ?_
        refine gno rfl (by simp) ?_
        refine stp (v := .bool false) (o_pickF rfl rfl) ?_
        refine stp (v := .bool false) (o_mv rfl) ?_
        refine h4 _ _ ?_
        clear h4
        refine ⟨(.bool false), rfl, ?_⟩
        first | exact ⟨bT (by simp only [goodL, dmgP] at *; omega), hM5.upd⟩ | exact ⟨bF (by simp only [goodL, dmgP] at *; omega), hM5.upd⟩ | exact ⟨bP (by simp only [goodL, dmgP] at *; omega), hM5.upd⟩
    ·
      refine gno rfl (by simp) ?_
      refine gnol rfl (by simp) ?_
      refine gno rfl (by simp) ?_
      refine stp (v := .bool false) (o_pickF rfl rfl) ?_
      refine stp (v := .bool false) (o_mv rfl) ?_
      refine splitF rfl ?_
      refine gno rfl (by simp) ?_
      refine gnol rfl (by simp) ?_
      refine gno rfl (by simp) ?_
      refine stp (v := .bool false) (o_pickF rfl rfl) ?_
      refine stp (v := .bool false) (o_mv rfl) ?_
      refine splitF rfl ?_
      refine gno rfl (by simp) ?_
      refine gnol rfl (by simp) ?_
      refine gno rfl (by simp) ?_
      refine stp (v := .bool false) (o_pickF rfl rfl) ?_
      refine stp (v := .bool false) (o_mv rfl) ?_
      refine h4 _ _ ?_
      clear h4
      refine ⟨(.bool false), rfl, ?_⟩
      first | exact ⟨bT (by simp only [goodL, dmgP] at *; omega), hM5.upd⟩ | exact ⟨bF (by simp only [goodL, dmgP] at *; omega), hM5.upd⟩ | exact ⟨bP (by simp only [goodL, dmgP] at *; omega), hM5.upd⟩
  ·
    refine gno rfl (by simp) ?_
    refine gnol rfl (by simp) ?_
    refine gno rfl (by simp) ?_
    refine stp (v := .bool false) (o_pickF rfl rfl) ?_
    refine stp (v := .bool false) (o_mv rfl) ?_
    refine splitF rfl ?_
    refine gno rfl (by simp) ?_
    refine gnol rfl (by simp) ?_
    refine gno rfl (by simp) ?_
    refine stp (v := .bool false) (o_pickF rfl rfl) ?_
    refine stp (v := .bool false) (o_mv rfl) ?_
    refine splitF rfl ?_
    refine gno rfl (by simp) ?_
    refine gnol rfl (by simp) ?_
    refine gno rfl (by simp) ?_
    refine stp (v := .bool false) (o_pickF rfl rfl) ?_
    refine stp (v := .bool false) (o_mv rfl) ?_
    refine splitF rfl ?_
    refine gno rfl (by simp) ?_
    refine gnol rfl (by simp) ?_
    refine gno rfl (by simp) ?_
    refine stp (v := .bool false) (o_pickF rfl rfl) ?_
    refine stp (v := .bool false) (o_mv rfl) ?_
    refine h4 _ _ ?_
    clear h4
    refine ⟨(.bool false), rfl, ?_⟩
    first | exact ⟨bT (by simp only [goodL, dmgP] at *; omega), hM5.upd⟩ | exact ⟨bF (by simp only [goodL, dmgP] at *; omega), hM5.upd⟩ | exact ⟨bP (by simp only [goodL, dmgP] at *; omega), hM5.upd⟩

/-- winnowref16.good -/
theorem refgood_ok (f : Flt) (w : World) (hf : f.ok) : Calls Try.prog 38 [.agg (fltC f).toArray].toArray w (Rt fun r w' => r = .bool (decide (goodP f)) ∧ Upd [] w w') := by
  have hM0 : Mem w [] w [] := Mem.nil w []
  have hf0 := hf
  simp only [Flt.ok, inK] at hf
  refine calls_vc mixed Try.func38 rfl C38 (by simp [Try.ntmps38]) ?_
  refine seq fun K1 h1 => ?_
  refine m_bx (v := .agg ([.int .i64 f.kind, .int .i64 f.tk, .int .i64 f.task, .int .i64 f.att, .int .i64 f.mom, .int .i64 f.rd, .int .i64 f.at_, .int .u32 f.mask] : List Value).toArray) hM0 rfl rfl fun b2 w3 (hM3 : Mem w [] w3 [[⟨b2, 25, [.int .i64 f.kind, .int .i64 f.tk, .int .i64 f.task, .int .i64 f.att, .int .i64 f.mom, .int .i64 f.rd, .int .i64 f.at_, .int .u32 f.mask]⟩]]) => ?_
  refine stp (v := .bool false) (o_mv rfl) ?_
  refine h1 _ _ ?_
  clear h1
  refine seq fun K4 h4 => ?_
  refine seq fun K5 h5 => ?_
  refine stp (v := .pointer (some ⟨b2, 2, none⟩)) (o_fa rfl rfl) ?_
  refine m_ld (v := .int .i64 f.task) hM3 (i := 0) (j := 0) rfl rfl rfl rfl ?_
  refine stp (v := .bool (decide (f.task < 0))) (o_bin rfl rfl rfl) ?_
  refine stp (v := .bool (decide (f.task < 0))) (o_mv rfl) ?_
  refine splitP rfl (fun c6 => ?_) (fun c6 => ?_)
  ·
    refine gno rfl (by simp) ?_
    refine gnol rfl (by simp) ?_
    refine gno rfl (by simp) ?_
    refine stp (v := .bool true) (o_pickT rfl rfl) ?_
    refine stp (v := .bool true) (o_mv rfl) ?_
    refine splitT rfl ?_
    refine gno rfl (by simp) ?_
    refine gnol rfl (by simp) ?_
    refine gno rfl (by simp) ?_
    refine stp (v := .bool true) (o_pickT rfl rfl) ?_
    refine h5 _ _ ?_
    clear h5
    refine cndT rfl ?_
    refine seq fun K7 h7 => ?_
    refine stp (v := .bool false) (o_mv rfl) ?_
    refine h7 _ _ ?_
    clear h7
    refine ⟨(.bool false), rfl, ?_⟩
    first | exact ⟨bT (by simp only [goodP, stopP, dmgP] at *; omega), hM3.upd⟩ | exact ⟨bF (by simp only [goodP, stopP, dmgP] at *; omega), hM3.upd⟩ | exact ⟨bP (by simp only [goodP, stopP, dmgP] at *; omega), hM3.upd⟩
  ·
    refine stg rfl (v := .pointer (some ⟨b2, 3, none⟩)) (o_fa rfl rfl) ?_
    refine gyesl rfl ?_
    refine m_ld (v := .int .i64 f.att) hM3 (i := 0) (j := 0) rfl rfl rfl rfl ?_
    refine stg rfl (v := .bool (decide (f.att < 1))) (o_bin rfl rfl rfl) ?_
    refine stp (v := .bool (decide (f.att < 1))) (o_pickF rfl rfl) ?_
    refine stp (v := .bool (decide (f.att < 1))) (o_mv rfl) ?_
    refine splitP rfl (fun c8 => ?_) (fun c8 => ?_)
    ·
      refine gno rfl (by simp) ?_
      refine gnol rfl (by simp) ?_
      refine gno rfl (by simp) ?_
      refine stp (v := .bool true) (o_pickT rfl rfl) ?_
      refine h5 _ _ ?_
      clear h5
      refine cndT rfl ?_
      refine seq fun K9 h9 => ?_
      refine stp (v := .bool false) (o_mv rfl) ?_
      refine h9 _ _ ?_
      clear h9
      refine ⟨(.bool false), rfl, ?_⟩
      first | exact ⟨bT (by simp only [goodP, stopP, dmgP] at *; omega), hM3.upd⟩ | exact ⟨bF (by simp only [goodP, stopP, dmgP] at *; omega), hM3.upd⟩ | exact ⟨bP (by simp only [goodP, stopP, dmgP] at *; omega), hM3.upd⟩
    ·
      refine stg rfl (v := .pointer (some ⟨b2, 3, none⟩)) (o_fa rfl rfl) ?_
      refine gyesl rfl ?_
      refine m_ld (v := .int .i64 f.att) hM3 (i := 0) (j := 0) rfl rfl rfl rfl ?_
      refine stg rfl (v := .bool (decide ((16 : Int) < f.att))) (o_bin rfl rfl rfl) ?_
      refine stp (v := .bool (decide ((16 : Int) < f.att))) (o_pickF rfl rfl) ?_
      refine h5 _ _ ?_
      clear h5
      refine cndP rfl (fun c10 => ?_) (fun c10 => ?_)
      ·
        refine seq fun K11 h11 => ?_
        refine stp (v := .bool false) (o_mv rfl) ?_
        refine h11 _ _ ?_
        clear h11
        refine ⟨(.bool false), rfl, ?_⟩
        first | exact ⟨bT (by simp only [goodP, stopP, dmgP] at *; omega), hM3.upd⟩ | exact ⟨bF (by simp only [goodP, stopP, dmgP] at *; omega), hM3.upd⟩ | exact ⟨bP (by simp only [goodP, stopP, dmgP] at *; omega), hM3.upd⟩
      ·
        refine h4 _ _ ?_
        clear h4
        refine seq fun K12 h12 => ?_
        refine seq fun K13 h13 => ?_
        refine stp (v := .pointer (some ⟨b2, 0, none⟩)) (o_fa rfl rfl) ?_
        refine m_ld (v := .int .i64 f.kind) hM3 (i := 0) (j := 0) rfl rfl rfl rfl ?_
        refine h13 _ _ ?_
        clear h13
        refine seq fun K14 h14 => ?_
        refine stp (v := .bool (decide (f.kind = 0))) (o_bin rfl rfl rfl) ?_
        refine stp (v := .bool (decide (f.kind = 0))) (o_mv rfl) ?_
        refine h14 _ _ ?_
        clear h14
        refine cndP rfl (fun c15 => ?_) (fun c15 => ?_)
        ·
          refine seq fun K16 h16 => ?_
          refine m_ldA (l := [.int .i64 f.kind, .int .i64 f.tk, .int .i64 f.task, .int .i64 f.att, .int .i64 f.mom, .int .i64 f.rd, .int .i64 f.at_, .int .u32 f.mask]) hM3 (i := 0) (j := 0) rfl rfl rfl rfl rfl ?_
          refine m_call (refstop_ok f w3 (by first | assumption | omega)) rfl fun v17 w17 ⟨hr17, hu17⟩ => ?_
          have hM17 : Mem w [] w17 [[⟨b2, 25, [.int .i64 f.kind, .int .i64 f.tk, .int .i64 f.task, .int .i64 f.att, .int .i64 f.mom, .int .i64 f.rd, .int .i64 f.at_, .int .u32 f.mask]⟩]] := hM3.pure hu17
          subst hr17
          refine stp (v := .bool (decide (stopP f))) (o_mv rfl) ?_
          refine h16 _ _ ?_
          clear h16
          refine ⟨(.bool (decide (stopP f))), rfl, ?_⟩
          first | exact ⟨bT (by simp only [goodP, stopP, dmgP] at *; omega), hM17.upd⟩ | exact ⟨bF (by simp only [goodP, stopP, dmgP] at *; omega), hM17.upd⟩ | exact ⟨bP (by simp only [goodP, stopP, dmgP] at *; omega), hM17.upd⟩
        ·
          refine seq fun K18 h18 => ?_
          refine stp (v := .bool (decide (f.kind = 1))) (o_bin rfl rfl rfl) ?_
          refine stp (v := .bool (decide (f.kind = 1))) (o_mv rfl) ?_
          refine h18 _ _ ?_
          clear h18
          refine cndP rfl (fun c19 => ?_) (fun c19 => ?_)
          ·
            refine seq fun K20 h20 => ?_
            refine m_ldA (l := [.int .i64 f.kind, .int .i64 f.tk, .int .i64 f.task, .int .i64 f.att, .int .i64 f.mom, .int .i64 f.rd, .int .i64 f.at_, .int .u32 f.mask]) hM3 (i := 0) (j := 0) rfl rfl rfl rfl rfl ?_
            refine m_call (refdamage_ok f w3 (by first | assumption | omega)) rfl fun v21 w21 ⟨hr21, hu21⟩ => ?_
            have hM21 : Mem w [] w21 [[⟨b2, 25, [.int .i64 f.kind, .int .i64 f.tk, .int .i64 f.task, .int .i64 f.att, .int .i64 f.mom, .int .i64 f.rd, .int .i64 f.at_, .int .u32 f.mask]⟩]] := hM3.pure hu21
            subst hr21
            refine stp (v := .bool (decide (dmgP f))) (o_mv rfl) ?_
            refine splitP rfl (fun c22 => ?_) (fun c22 => ?_)
            ·
              refine stg rfl (v := .pointer (some ⟨b2, 6, none⟩)) (o_fa rfl rfl) ?_
              refine gyesl rfl ?_
              refine m_ld (v := .int .i64 f.at_) hM21 (i := 0) (j := 0) rfl rfl rfl rfl ?_
              refine stg rfl (v := .bool (decide ((0 : Int) ≤ f.at_))) (o_bin rfl rfl rfl) ?_
              refine stp (v := .bool (decide ((0 : Int) ≤ f.at_))) (o_pickT rfl rfl) ?_
              refine stp (v := .bool (decide ((0 : Int) ≤ f.at_))) (o_mv rfl) ?_
              refine splitP rfl (fun c23 => ?_) (fun c23 => ?_)
              ·
                refine stg rfl (v := .pointer (some ⟨b2, 7, none⟩)) (o_fa rfl rfl) ?_
                refine gyesl rfl ?_
                refine m_ld (v := .int .u32 f.mask) hM21 (i := 0) (j := 0) rfl rfl rfl rfl ?_
                refine stg rfl (v := .int .u32 (f.mask % 2)) (o_rem rfl rfl (by omega) (v_rem (by omega))) ?_
                refine stg rfl (v := .bool (decide ((f.mask % 2) = 1))) (o_bin rfl rfl rfl) ?_
                refine stp (v := .bool (decide ((f.mask % 2) = 1))) (o_pickT rfl rfl) ?_
                refine stp (v := .bool (decide ((f.mask % 2) = 1))) (o_mv rfl) ?_
                refine h20 _ _ ?_
                clear h20
                refine ⟨(.bool (decide ((f.mask % 2) = 1))), rfl, ?_⟩
                first | exact ⟨bT (by simp only [goodP, stopP, dmgP] at *; omega), hM21.upd⟩ | exact ⟨bF (by simp only [goodP, stopP, dmgP] at *; omega), hM21.upd⟩ | exact ⟨bP (by simp only [goodP, stopP, dmgP] at *; omega), hM21.upd⟩
              ·
                refine gno rfl (by simp) ?_
                refine gnol rfl (by simp) ?_
                refine gno rfl (by simp) ?_
                refine gno rfl (by simp) ?_
                refine stp (v := .bool false) (o_pickF rfl rfl) ?_
                refine stp (v := .bool false) (o_mv rfl) ?_
                refine h20 _ _ ?_
                clear h20
                refine ⟨(.bool false), rfl, ?_⟩
                first | exact ⟨bT (by simp only [goodP, stopP, dmgP] at *; omega), hM21.upd⟩ | exact ⟨bF (by simp only [goodP, stopP, dmgP] at *; omega), hM21.upd⟩ | exact ⟨bP (by simp only [goodP, stopP, dmgP] at *; omega), hM21.upd⟩
            ·
              refine gno rfl (by simp) ?_
              refine gnol rfl (by simp) ?_
              refine gno rfl (by simp) ?_
              refine stp (v := .bool false) (o_pickF rfl rfl) ?_
              refine stp (v := .bool false) (o_mv rfl) ?_
              refine splitF rfl ?_
              refine gno rfl (by simp) ?_
              refine gnol rfl (by simp) ?_
              refine gno rfl (by simp) ?_
              refine gno rfl (by simp) ?_
              refine stp (v := .bool false) (o_pickF rfl rfl) ?_
              refine stp (v := .bool false) (o_mv rfl) ?_
              refine h20 _ _ ?_
              clear h20
              refine ⟨(.bool false), rfl, ?_⟩
              first | exact ⟨bT (by simp only [goodP, stopP, dmgP] at *; omega), hM21.upd⟩ | exact ⟨bF (by simp only [goodP, stopP, dmgP] at *; omega), hM21.upd⟩ | exact ⟨bP (by simp only [goodP, stopP, dmgP] at *; omega), hM21.upd⟩
          ·
            refine seq fun K24 h24 => ?_
            refine stp (v := .bool (decide (f.kind = 2))) (o_bin rfl rfl rfl) ?_
            refine stp (v := .bool (decide (f.kind = 2))) (o_mv rfl) ?_
            refine h24 _ _ ?_
            clear h24
            refine cndP rfl (fun c25 => ?_) (fun c25 => ?_)
            ·
              refine seq fun K26 h26 => ?_
              refine m_ldA (l := [.int .i64 f.kind, .int .i64 f.tk, .int .i64 f.task, .int .i64 f.att, .int .i64 f.mom, .int .i64 f.rd, .int .i64 f.at_, .int .u32 f.mask]) hM3 (i := 0) (j := 0) rfl rfl rfl rfl rfl ?_
              refine m_call (refdamage_ok f w3 (by first | assumption | omega)) rfl fun v27 w27 ⟨hr27, hu27⟩ => ?_
              have hM27 : Mem w [] w27 [[⟨b2, 25, [.int .i64 f.kind, .int .i64 f.tk, .int .i64 f.task, .int .i64 f.att, .int .i64 f.mom, .int .i64 f.rd, .int .i64 f.at_, .int .u32 f.mask]⟩]] := hM3.pure hu27
              subst hr27
              refine stp (v := .bool (decide (dmgP f))) (o_mv rfl) ?_
              refine splitP rfl (fun c28 => ?_) (fun c28 => ?_)
              ·
                refine stg rfl (v := .pointer (some ⟨b2, 6, none⟩)) (o_fa rfl rfl) ?_
                refine gyesl rfl ?_
                refine m_ld (v := .int .i64 f.at_) hM27 (i := 0) (j := 0) rfl rfl rfl rfl ?_
                refine stg rfl (v := .bool (decide ((-268435456) ≤ f.at_))) (o_bin rfl rfl rfl) ?_
                refine stp (v := .bool (decide ((-268435456) ≤ f.at_))) (o_pickT rfl rfl) ?_
                refine stp (v := .bool (decide ((-268435456) ≤ f.at_))) (o_mv rfl) ?_
                refine splitP rfl (fun c29 => ?_) (fun c29 => ?_)
                ·
                  refine stg rfl (v := .pointer (some ⟨b2, 6, none⟩)) (o_fa rfl rfl) ?_
                  refine gyesl rfl ?_
                  refine m_ld (v := .int .i64 f.at_) hM27 (i := 0) (j := 0) rfl rfl rfl rfl ?_
                  refine stg rfl (v := .bool (decide (f.at_ ≤ 4096))) (o_bin rfl rfl rfl) ?_
                  refine stp (v := .bool (decide (f.at_ ≤ 4096))) (o_pickT rfl rfl) ?_
                  refine stp (v := .bool (decide (f.at_ ≤ 4096))) (o_mv rfl) ?_
                  refine splitP rfl (fun c30 => ?_) (fun c30 => ?_)
                  ·
                    refine stg rfl (v := .pointer (some ⟨b2, 6, none⟩)) (o_fa rfl rfl) ?_
                    refine gyesl rfl ?_
                    refine m_ld (v := .int .i64 f.at_) hM27 (i := 0) (j := 0) rfl rfl rfl rfl ?_
                    refine stg rfl (v := .bool (decide (¬ f.at_ = 0))) (o_bin rfl rfl v_neq) ?_
                    refine stp (v := .bool (decide (¬ f.at_ = 0))) (o_pickT rfl rfl) ?_
                    refine stp (v := .bool (decide (¬ f.at_ = 0))) (o_mv rfl) ?_
                    refine splitP rfl (fun c31 => ?_) (fun c31 => ?_)
                    ·
                      refine stg rfl (v := .pointer (some ⟨b2, 7, none⟩)) (o_fa rfl rfl) ?_
                      refine gyesl rfl ?_
                      refine m_ld (v := .int .u32 f.mask) hM27 (i := 0) (j := 0) rfl rfl rfl rfl ?_
                      refine stg rfl (v := .bool (decide (f.mask = 0))) (o_bin rfl rfl rfl) ?_
                      refine stp (v := .bool (decide (f.mask = 0))) (o_pickT rfl rfl) ?_
                      refine stp (v := .bool (decide (f.mask = 0))) (o_mv rfl) ?_
                      refine h26 _ _ ?_
                      clear h26
                      refine ⟨(.bool (decide (f.mask = 0))), rfl, ?_⟩
                      first | exact ⟨bT (by simp only [goodP, stopP, dmgP] at *; omega), hM27.upd⟩ | exact ⟨bF (by simp only [goodP, stopP, dmgP] at *; omega), hM27.upd⟩ | exact ⟨bP (by simp only [goodP, stopP, dmgP] at *; omega), hM27.upd⟩
                    ·
                      refine gno rfl (by simp) ?_
                      refine gnol rfl (by simp) ?_
                      refine gno rfl (by simp) ?_
                      refine stp (v := .bool false) (o_pickF rfl rfl) ?_
                      refine stp (v := .bool false) (o_mv rfl) ?_
                      refine h26 _ _ ?_
                      clear h26
                      refine ⟨(.bool false), rfl, ?_⟩
                      first | exact ⟨bT (by simp only [goodP, stopP, dmgP] at *; omega), hM27.upd⟩ | exact ⟨bF (by simp only [goodP, stopP, dmgP] at *; omega), hM27.upd⟩ | exact ⟨bP (by simp only [goodP, stopP, dmgP] at *; omega), hM27.upd⟩
                  ·
                    refine gno rfl (by simp) ?_
                    refine gnol rfl (by simp) ?_
                    refine gno rfl (by simp) ?_
                    refine stp (v := .bool false) (o_pickF rfl rfl) ?_
                    refine stp (v := .bool false) (o_mv rfl) ?_
                    refine splitF rfl ?_
                    refine gno rfl (by simp) ?_
                    refine gnol rfl (by simp) ?_
                    refine gno rfl (by simp) ?_
                    refine stp (v := .bool false) (o_pickF rfl rfl) ?_
                    refine stp (v := .bool false) (o_mv rfl) ?_
                    refine h26 _ _ ?_
                    clear h26
                    refine ⟨(.bool false), rfl, ?_⟩
                    first | exact ⟨bT (by simp only [goodP, stopP, dmgP] at *; omega), hM27.upd⟩ | exact ⟨bF (by simp only [goodP, stopP, dmgP] at *; omega), hM27.upd⟩ | exact ⟨bP (by simp only [goodP, stopP, dmgP] at *; omega), hM27.upd⟩
                ·
                  refine gno rfl (by simp) ?_
                  refine gnol rfl (by simp) ?_
                  refine gno rfl (by simp) ?_
                  refine stp (v := .bool false) (o_pickF rfl rfl) ?_
                  refine stp (v := .bool false) (o_mv rfl) ?_
                  refine splitF rfl ?_
                  refine gno rfl (by simp) ?_
                  refine gnol rfl (by simp) ?_
                  refine gno rfl (by simp) ?_
                  refine stp (v := .bool false) (o_pickF rfl rfl) ?_
                  refine stp (v := .bool false) (o_mv rfl) ?_
                  refine splitF rfl ?_
                  refine gno rfl (by simp) ?_
                  refine gnol rfl (by simp) ?_
                  refine gno rfl (by simp) ?_
                  refine stp (v := .bool false) (o_pickF rfl rfl) ?_
                  refine stp (v := .bool false) (o_mv rfl) ?_
                  refine h26 _ _ ?_
                  clear h26
                  refine ⟨(.bool false), rfl, ?_⟩
                  first | exact ⟨bT (by simp only [goodP, stopP, dmgP] at *; omega), hM27.upd⟩ | exact ⟨bF (by simp only [goodP, stopP, dmgP] at *; omega), hM27.upd⟩ | exact ⟨bP (by simp only [goodP, stopP, dmgP] at *; omega), hM27.upd⟩
              ·
                refine gno rfl (by simp) ?_
                refine gnol rfl (by simp) ?_
                refine gno rfl (by simp) ?_
                refine stp (v := .bool false) (o_pickF rfl rfl) ?_
                refine stp (v := .bool false) (o_mv rfl) ?_
                refine splitF rfl ?_
                refine gno rfl (by simp) ?_
                refine gnol rfl (by simp) ?_
                refine gno rfl (by simp) ?_
                refine stp (v := .bool false) (o_pickF rfl rfl) ?_
                refine stp (v := .bool false) (o_mv rfl) ?_
                refine splitF rfl ?_
                refine gno rfl (by simp) ?_
                refine gnol rfl (by simp) ?_
                refine gno rfl (by simp) ?_
                refine stp (v := .bool false) (o_pickF rfl rfl) ?_
                refine stp (v := .bool false) (o_mv rfl) ?_
                refine splitF rfl ?_
                refine gno rfl (by simp) ?_
                refine gnol rfl (by simp) ?_
                refine gno rfl (by simp) ?_
                refine stp (v := .bool false) (o_pickF rfl rfl) ?_
                refine stp (v := .bool false) (o_mv rfl) ?_
                refine h26 _ _ ?_
                clear h26
                refine ⟨(.bool false), rfl, ?_⟩
                first | exact ⟨bT (by simp only [goodP, stopP, dmgP] at *; omega), hM27.upd⟩ | exact ⟨bF (by simp only [goodP, stopP, dmgP] at *; omega), hM27.upd⟩ | exact ⟨bP (by simp only [goodP, stopP, dmgP] at *; omega), hM27.upd⟩
            ·
              refine h12 _ _ ?_
              clear h12
              refine seq fun K32 h32 => ?_
              refine stp (v := .bool false) (o_mv rfl) ?_
              refine h32 _ _ ?_
              clear h32
              refine ⟨(.bool false), rfl, ?_⟩
              first | exact ⟨bT (by simp only [goodP, stopP, dmgP] at *; omega), hM3.upd⟩ | exact ⟨bF (by simp only [goodP, stopP, dmgP] at *; omega), hM3.upd⟩ | exact ⟨bP (by simp only [goodP, stopP, dmgP] at *; omega), hM3.upd⟩

/-- fault.right -/
theorem right_ok (f : Flt) (w : World) (hf : f.ok) : Calls Try.prog 37 [.agg (fltC f).toArray].toArray w (Rt fun r w' => r = .bool (decide (goodP f)) ∧ Upd [] w w') := by
  have hM0 : Mem w [] w [] := Mem.nil w []
  have hf0 := hf
  simp only [Flt.ok, inK] at hf
  refine calls_vc mixed Try.func37 rfl C37 (by simp [Try.ntmps37]) ?_
  refine seq fun K1 h1 => ?_
  refine m_bx (v := .agg ([.int .i64 f.kind, .int .i64 f.tk, .int .i64 f.task, .int .i64 f.att, .int .i64 f.mom, .int .i64 f.rd, .int .i64 f.at_, .int .u32 f.mask] : List Value).toArray) hM0 rfl rfl fun b2 w3 (hM3 : Mem w [] w3 [[⟨b2, 25, [.int .i64 f.kind, .int .i64 f.tk, .int .i64 f.task, .int .i64 f.att, .int .i64 f.mom, .int .i64 f.rd, .int .i64 f.at_, .int .u32 f.mask]⟩]]) => ?_
  refine stp (v := .bool false) (o_mv rfl) ?_
  refine h1 _ _ ?_
  clear h1
  refine seq fun K4 h4 => ?_
  refine stp (v := .agg [.func (.func 53) [].toArray [].toArray].toArray) (o_bld rfl rfl) ?_
  refine stp (v := .agg [.func (.func 54) [].toArray [].toArray].toArray) (o_bld rfl rfl) ?_
  refine stp (v := .agg [.func (.func 56) [].toArray [].toArray].toArray) (o_bld rfl rfl) ?_
  refine stp (v := .agg ([.func (.func 53) [].toArray [].toArray, .func (.func 54) [].toArray [].toArray, .func (.func 56) [].toArray [].toArray] : List Value).toArray) (o_bld rfl rfl) ?_
  refine m_al hM3 fun b5 w6 (hM6 : Mem w [] w6 [[⟨b2, 25, [.int .i64 f.kind, .int .i64 f.tk, .int .i64 f.task, .int .i64 f.att, .int .i64 f.mom, .int .i64 f.rd, .int .i64 f.at_, .int .u32 f.mask]⟩], [⟨b5, 91, [.nilFunc, .nilFunc, .nilFunc]⟩]]) => ?_
  refine m_stA (l := [.func (.func 53) [].toArray [].toArray, .func (.func 54) [].toArray [].toArray, .func (.func 56) [].toArray [].toArray]) hM6 (i := 1) rfl rfl rfl rfl (by simp [oneCells, Value.oneCell', byteV]) (by simp) fun w7 (hM7 : Mem w [] w7 [[⟨b2, 25, [.int .i64 f.kind, .int .i64 f.tk, .int .i64 f.task, .int .i64 f.att, .int .i64 f.mom, .int .i64 f.rd, .int .i64 f.at_, .int .u32 f.mask]⟩], [⟨b5, 91, [.func (.func 53) [].toArray [].toArray, .func (.func 54) [].toArray [].toArray, .func (.func 56) [].toArray [].toArray]⟩]]) => ?_
  refine h4 _ _ ?_
  clear h4
  refine seq fun K8 h8 => ?_
  intro wd e1 e2 e3 e4
  have hd := Upd.same e1 e2 e3 e4 []
  have hM9 := hM7.pure hd
  clear e1 e2 e3 e4
  refine ⟨(some [b2, b5]), ?_⟩
  show vd _ _ _ _ _ _ _
  refine dq (v := .pointer (some ⟨b2, 0, none⟩)) (o_fa rfl rfl) ?_
  refine dl (m_ld (v := .int .i64 f.kind) hM9 (i := 0) (j := 0) rfl rfl rfl rfl ?_)
  refine ⟨(fun b hb => rfl), ?_⟩
  refine dq (v := .bool (decide ((0 : Int) ≤ f.kind))) (o_bin rfl rfl rfl) ?_
  refine dq (v := .bool (decide ((0 : Int) ≤ f.kind))) (o_mv rfl) ?_
  refine dsplitP rfl (fun c10 => ?_) (fun c10 => ?_)
  ·
    refine dqg rfl (v := .pointer (some ⟨b2, 0, none⟩)) (o_fa rfl rfl) ?_
    refine dgyesl rfl ?_
    refine dl (m_ld (v := .int .i64 f.kind) hM9 (i := 0) (j := 0) rfl rfl rfl rfl ?_)
    refine ⟨(fun b hb => rfl), ?_⟩
    refine dqg rfl (v := .bool (decide (f.kind < 3))) (o_bin rfl rfl rfl) ?_
    refine dq (v := .bool (decide (f.kind < 3))) (o_pickT rfl rfl) ?_
    refine dq (v := .bool (decide (f.kind < 3))) (o_mv rfl) ?_
    refine dsplitP rfl (fun c11 => ?_) (fun c11 => ?_)
    ·
      refine dqg rfl (v := .pointer (some ⟨b2, 2, none⟩)) (o_fa rfl rfl) ?_
      refine dgyesl rfl ?_
      refine dl (m_ld (v := .int .i64 f.task) hM9 (i := 0) (j := 0) rfl rfl rfl rfl ?_)
      refine ⟨(fun b hb => rfl), ?_⟩
      refine dqg rfl (v := .bool (decide ((0 : Int) ≤ f.task))) (o_bin rfl rfl rfl) ?_
      refine dq (v := .bool (decide ((0 : Int) ≤ f.task))) (o_pickT rfl rfl) ?_
      refine dq (v := .bool (decide ((0 : Int) ≤ f.task))) (o_mv rfl) ?_
      refine dsplitP rfl (fun c12 => ?_) (fun c12 => ?_)
      ·
        refine dqg rfl (v := .pointer (some ⟨b2, 3, none⟩)) (o_fa rfl rfl) ?_
        refine dgyesl rfl ?_
        refine dl (m_ld (v := .int .i64 f.att) hM9 (i := 0) (j := 0) rfl rfl rfl rfl ?_)
        refine ⟨(fun b hb => rfl), ?_⟩
        refine dqg rfl (v := .bool (decide ((1 : Int) ≤ f.att))) (o_bin rfl rfl rfl) ?_
        refine dq (v := .bool (decide ((1 : Int) ≤ f.att))) (o_pickT rfl rfl) ?_
        refine dq (v := .bool (decide ((1 : Int) ≤ f.att))) (o_mv rfl) ?_
        refine dsplitP rfl (fun c13 => ?_) (fun c13 => ?_)
        ·
          refine dqg rfl (v := .pointer (some ⟨b2, 3, none⟩)) (o_fa rfl rfl) ?_
          refine dgyesl rfl ?_
          refine dl (m_ld (v := .int .i64 f.att) hM9 (i := 0) (j := 0) rfl rfl rfl rfl ?_)
          refine ⟨(fun b hb => rfl), ?_⟩
          refine dqg rfl (v := .bool (decide (f.att ≤ 16))) (o_bin rfl rfl rfl) ?_
          refine dq (v := .bool (decide (f.att ≤ 16))) (o_pickT rfl rfl) ?_
          refine dq (v := .bool (decide (f.att ≤ 16))) (o_mv rfl) ?_
          refine dsplitP rfl (fun c14 => ?_) (fun c14 => ?_)
          ·
            rcases (show f.kind = 0 ∨ f.kind = 1 ∨ f.kind = 2 by omega) with k | k | k
            ·
              refine dqg rfl (v := .pointer (some ⟨b2, 0, none⟩)) (o_fa rfl rfl) ?_
              refine dqgyes rfl rfl ?_
              refine dqldA (cs := [.int .i64 f.kind, .int .i64 f.tk, .int .i64 f.task, .int .i64 f.att, .int .i64 f.mom, .int .i64 f.rd, .int .i64 f.at_, .int .u32 f.mask]) rfl (by simp [isHeld]) rfl ((hM9.at (i := 0) (j := 0) rfl rfl).agg rfl rfl) ?_
              refine dgyesl rfl ?_
              refine dl (ld (v := .int .i64 0) rfl (by rw [← k]; exact (hM9.at (i := 0) (j := 0) rfl rfl).cell 0) ?_)
              refine ⟨(fun b hb => rfl), ?_⟩
              refine dqg rfl (v := .pointer (some ⟨b5, 0, none⟩)) (o_idxa rfl rfl (by omega) rfl) ?_
              refine dqg rfl (v := .pointer (some ⟨b5, 0, none⟩)) (o_fa rfl rfl) ?_
              refine dgyesl rfl ?_
              refine dl (m_ld (v := .func (.func 53) [].toArray [].toArray) hM9 (i := 1) (j := 0) rfl rfl rfl rfl ?_)
              refine ⟨(fun b hb => rfl), ?_⟩
              refine dgyesl rfl ?_
              refine dl (m_callv rfl (by kernel_rfl) (right1_ok f wd (by first | assumption | omega)) rfl fun v15 w15 ⟨hr15, hu15⟩ => ?_)
              have hM15 : Mem w [] w15 [[⟨b2, 25, [.int .i64 f.kind, .int .i64 f.tk, .int .i64 f.task, .int .i64 f.att, .int .i64 f.mom, .int .i64 f.rd, .int .i64 f.at_, .int .u32 f.mask]⟩], [⟨b5, 91, [.func (.func 53) [].toArray [].toArray, .func (.func 54) [].toArray [].toArray, .func (.func 56) [].toArray [].toArray]⟩]] := hM9.pure hu15
              subst hr15
              have hh15 := held_upd (wr := wd) (bs := [b2, b5]) hu15 (fun b hb => by
                simp only [List.mem_cons, List.not_mem_nil, or_false] at hb
                rcases hb with h | h
                · rw [h]; exact ⟨(hM9.at (i := 0) (j := 0) rfl rfl).lt, by simp⟩
                · rw [h]; exact ⟨(hM9.at (i := 1) (j := 0) rfl rfl).lt, by simp⟩) (fun b hb => rfl)
              refine ⟨hh15, ?_⟩
              refine dq (v := .bool (decide (goodS f))) (o_pickT rfl rfl) ?_
              refine dq (v := .bool (decide (goodS f))) (o_mv rfl) ?_
              refine h8 _ _ ?_
              clear h8
              refine ⟨(.bool (decide (goodS f))), rfl, ?_⟩
              first | exact ⟨bT (by simp only [goodP, goodS, goodF, goodL, stopP, dmgP] at *; omega), hM15.upd⟩ | exact ⟨bF (by simp only [goodP, goodS, goodF, goodL, stopP, dmgP] at *; omega), hM15.upd⟩ | exact ⟨bP (by simp only [goodP, goodS, goodF, goodL, stopP, dmgP] at *; omega), hM15.upd⟩
            ·
              refine dqg rfl (v := .pointer (some ⟨b2, 0, none⟩)) (o_fa rfl rfl) ?_
              refine dqgyes rfl rfl ?_
              refine dqldA (cs := [.int .i64 f.kind, .int .i64 f.tk, .int .i64 f.task, .int .i64 f.att, .int .i64 f.mom, .int .i64 f.rd, .int .i64 f.at_, .int .u32 f.mask]) rfl (by simp [isHeld]) rfl ((hM9.at (i := 0) (j := 0) rfl rfl).agg rfl rfl) ?_
              refine dgyesl rfl ?_
              refine dl (ld (v := .int .i64 1) rfl (by rw [← k]; exact (hM9.at (i := 0) (j := 0) rfl rfl).cell 0) ?_)
              refine ⟨(fun b hb => rfl), ?_⟩
              refine dqg rfl (v := .pointer (some ⟨b5, 1, none⟩)) (o_idxa rfl rfl (by omega) rfl) ?_
              refine dqg rfl (v := .pointer (some ⟨b5, 1, none⟩)) (o_fa rfl rfl) ?_
              refine dgyesl rfl ?_
              refine dl (m_ld (v := .func (.func 54) [].toArray [].toArray) hM9 (i := 1) (j := 0) rfl rfl rfl rfl ?_)
              refine ⟨(fun b hb => rfl), ?_⟩
              refine dgyesl rfl ?_
              refine dl (m_callv rfl (by kernel_rfl) (right2_ok f wd (by first | assumption | omega)) rfl fun v16 w16 ⟨hr16, hu16⟩ => ?_)
              have hM16 : Mem w [] w16 [[⟨b2, 25, [.int .i64 f.kind, .int .i64 f.tk, .int .i64 f.task, .int .i64 f.att, .int .i64 f.mom, .int .i64 f.rd, .int .i64 f.at_, .int .u32 f.mask]⟩], [⟨b5, 91, [.func (.func 53) [].toArray [].toArray, .func (.func 54) [].toArray [].toArray, .func (.func 56) [].toArray [].toArray]⟩]] := hM9.pure hu16
              subst hr16
              have hh16 := held_upd (wr := wd) (bs := [b2, b5]) hu16 (fun b hb => by
                simp only [List.mem_cons, List.not_mem_nil, or_false] at hb
                rcases hb with h | h
                · rw [h]; exact ⟨(hM9.at (i := 0) (j := 0) rfl rfl).lt, by simp⟩
                · rw [h]; exact ⟨(hM9.at (i := 1) (j := 0) rfl rfl).lt, by simp⟩) (fun b hb => rfl)
              refine ⟨hh16, ?_⟩
              refine dq (v := .bool (decide (goodF f))) (o_pickT rfl rfl) ?_
              refine dq (v := .bool (decide (goodF f))) (o_mv rfl) ?_
              refine h8 _ _ ?_
              clear h8
              refine ⟨(.bool (decide (goodF f))), rfl, ?_⟩
              first | exact ⟨bT (by simp only [goodP, goodS, goodF, goodL, stopP, dmgP] at *; omega), hM16.upd⟩ | exact ⟨bF (by simp only [goodP, goodS, goodF, goodL, stopP, dmgP] at *; omega), hM16.upd⟩ | exact ⟨bP (by simp only [goodP, goodS, goodF, goodL, stopP, dmgP] at *; omega), hM16.upd⟩
            ·
              refine dqg rfl (v := .pointer (some ⟨b2, 0, none⟩)) (o_fa rfl rfl) ?_
              refine dqgyes rfl rfl ?_
              refine dqldA (cs := [.int .i64 f.kind, .int .i64 f.tk, .int .i64 f.task, .int .i64 f.att, .int .i64 f.mom, .int .i64 f.rd, .int .i64 f.at_, .int .u32 f.mask]) rfl (by simp [isHeld]) rfl ((hM9.at (i := 0) (j := 0) rfl rfl).agg rfl rfl) ?_
              refine dgyesl rfl ?_
              refine dl (ld (v := .int .i64 2) rfl (by rw [← k]; exact (hM9.at (i := 0) (j := 0) rfl rfl).cell 0) ?_)
              refine ⟨(fun b hb => rfl), ?_⟩
              refine dqg rfl (v := .pointer (some ⟨b5, 2, none⟩)) (o_idxa rfl rfl (by omega) rfl) ?_
              refine dqg rfl (v := .pointer (some ⟨b5, 2, none⟩)) (o_fa rfl rfl) ?_
              refine dgyesl rfl ?_
              refine dl (m_ld (v := .func (.func 56) [].toArray [].toArray) hM9 (i := 1) (j := 0) rfl rfl rfl rfl ?_)
              refine ⟨(fun b hb => rfl), ?_⟩
              refine dgyesl rfl ?_
              refine dl (m_callv rfl (by kernel_rfl) (right3_ok f wd (by first | assumption | omega)) rfl fun v17 w17 ⟨hr17, hu17⟩ => ?_)
              have hM17 : Mem w [] w17 [[⟨b2, 25, [.int .i64 f.kind, .int .i64 f.tk, .int .i64 f.task, .int .i64 f.att, .int .i64 f.mom, .int .i64 f.rd, .int .i64 f.at_, .int .u32 f.mask]⟩], [⟨b5, 91, [.func (.func 53) [].toArray [].toArray, .func (.func 54) [].toArray [].toArray, .func (.func 56) [].toArray [].toArray]⟩]] := hM9.pure hu17
              subst hr17
              have hh17 := held_upd (wr := wd) (bs := [b2, b5]) hu17 (fun b hb => by
                simp only [List.mem_cons, List.not_mem_nil, or_false] at hb
                rcases hb with h | h
                · rw [h]; exact ⟨(hM9.at (i := 0) (j := 0) rfl rfl).lt, by simp⟩
                · rw [h]; exact ⟨(hM9.at (i := 1) (j := 0) rfl rfl).lt, by simp⟩) (fun b hb => rfl)
              refine ⟨hh17, ?_⟩
              refine dq (v := .bool (decide (goodL f))) (o_pickT rfl rfl) ?_
              refine dq (v := .bool (decide (goodL f))) (o_mv rfl) ?_
              refine h8 _ _ ?_
              clear h8
              refine ⟨(.bool (decide (goodL f))), rfl, ?_⟩
              first | exact ⟨bT (by simp only [goodP, goodS, goodF, goodL, stopP, dmgP] at *; omega), hM17.upd⟩ | exact ⟨bF (by simp only [goodP, goodS, goodF, goodL, stopP, dmgP] at *; omega), hM17.upd⟩ | exact ⟨bP (by simp only [goodP, goodS, goodF, goodL, stopP, dmgP] at *; omega), hM17.upd⟩
          ·
            refine dgno rfl (by simp) ?_
            refine dqgno rfl (by simp) ?_
            refine dgnol rfl (by simp) ?_
            refine dgno rfl (by simp) ?_
            refine dgno rfl (by simp) ?_
            refine dgnol rfl (by simp) ?_
            refine dgnol rfl (by simp) ?_
            refine dq (v := .bool false) (o_pickF rfl rfl) ?_
            refine dq (v := .bool false) (o_mv rfl) ?_
            refine h8 _ _ ?_
            clear h8
            refine ⟨(.bool false), rfl, ?_⟩
            first | exact ⟨bT (by simp only [goodP, goodS, goodF, goodL, stopP, dmgP] at *; omega), hM9.upd⟩ | exact ⟨bF (by simp only [goodP, goodS, goodF, goodL, stopP, dmgP] at *; omega), hM9.upd⟩ | exact ⟨bP (by simp only [goodP, goodS, goodF, goodL, stopP, dmgP] at *; omega), hM9.upd⟩
        ·
          refine dgno rfl (by simp) ?_
          refine dgnol rfl (by simp) ?_
          refine dgno rfl (by simp) ?_
          refine dq (v := .bool false) (o_pickF rfl rfl) ?_
          refine dq (v := .bool false) (o_mv rfl) ?_
          refine dsplitF rfl ?_
          refine dgno rfl (by simp) ?_
          refine dqgno rfl (by simp) ?_
          refine dgnol rfl (by simp) ?_
          refine dgno rfl (by simp) ?_
          refine dgno rfl (by simp) ?_
          refine dgnol rfl (by simp) ?_
          refine dgnol rfl (by simp) ?_
          refine dq (v := .bool false) (o_pickF rfl rfl) ?_
          refine dq (v := .bool false) (o_mv rfl) ?_
          refine h8 _ _ ?_
          clear h8
          refine ⟨(.bool false), rfl, ?_⟩
          first | exact ⟨bT (by simp only [goodP, goodS, goodF, goodL, stopP, dmgP] at *; omega), hM9.upd⟩ | exact ⟨bF (by simp only [goodP, goodS, goodF, goodL, stopP, dmgP] at *; omega), hM9.upd⟩ | exact ⟨bP (by simp only [goodP, goodS, goodF, goodL, stopP, dmgP] at *; omega), hM9.upd⟩
      ·
        refine dgno rfl (by simp) ?_
        refine dgnol rfl (by simp) ?_
        refine dgno rfl (by simp) ?_
        refine dq (v := .bool false) (o_pickF rfl rfl) ?_
        refine dq (v := .bool false) (o_mv rfl) ?_
        refine dsplitF rfl ?_
        refine dgno rfl (by simp) ?_
        refine dgnol rfl (by simp) ?_
        refine dgno rfl (by simp) ?_
        refine dq (v := .bool false) (o_pickF rfl rfl) ?_
        refine dq (v := .bool false) (o_mv rfl) ?_
        refine dsplitF rfl ?_
        refine dgno rfl (by simp) ?_
        refine dqgno rfl (by simp) ?_
        refine dgnol rfl (by simp) ?_
        refine dgno rfl (by simp) ?_
        refine dgno rfl (by simp) ?_
        refine dgnol rfl (by simp) ?_
        refine dgnol rfl (by simp) ?_
        refine dq (v := .bool false) (o_pickF rfl rfl) ?_
        refine dq (v := .bool false) (o_mv rfl) ?_
        refine h8 _ _ ?_
        clear h8
        refine ⟨(.bool false), rfl, ?_⟩
        first | exact ⟨bT (by simp only [goodP, goodS, goodF, goodL, stopP, dmgP] at *; omega), hM9.upd⟩ | exact ⟨bF (by simp only [goodP, goodS, goodF, goodL, stopP, dmgP] at *; omega), hM9.upd⟩ | exact ⟨bP (by simp only [goodP, goodS, goodF, goodL, stopP, dmgP] at *; omega), hM9.upd⟩
    ·
      refine dgno rfl (by simp) ?_
      refine dgnol rfl (by simp) ?_
      refine dgno rfl (by simp) ?_
      refine dq (v := .bool false) (o_pickF rfl rfl) ?_
      refine dq (v := .bool false) (o_mv rfl) ?_
      refine dsplitF rfl ?_
      refine dgno rfl (by simp) ?_
      refine dgnol rfl (by simp) ?_
      refine dgno rfl (by simp) ?_
      refine dq (v := .bool false) (o_pickF rfl rfl) ?_
      refine dq (v := .bool false) (o_mv rfl) ?_
      refine dsplitF rfl ?_
      refine dgno rfl (by simp) ?_
      refine dgnol rfl (by simp) ?_
      refine dgno rfl (by simp) ?_
      refine dq (v := .bool false) (o_pickF rfl rfl) ?_
      refine dq (v := .bool false) (o_mv rfl) ?_
      refine dsplitF rfl ?_
      refine dgno rfl (by simp) ?_
      refine dqgno rfl (by simp) ?_
      refine dgnol rfl (by simp) ?_
      refine dgno rfl (by simp) ?_
      refine dgno rfl (by simp) ?_
      refine dgnol rfl (by simp) ?_
      refine dgnol rfl (by simp) ?_
      refine dq (v := .bool false) (o_pickF rfl rfl) ?_
      refine dq (v := .bool false) (o_mv rfl) ?_
      refine h8 _ _ ?_
      clear h8
      refine ⟨(.bool false), rfl, ?_⟩
      first | exact ⟨bT (by simp only [goodP, goodS, goodF, goodL, stopP, dmgP] at *; omega), hM9.upd⟩ | exact ⟨bF (by simp only [goodP, goodS, goodF, goodL, stopP, dmgP] at *; omega), hM9.upd⟩ | exact ⟨bP (by simp only [goodP, goodS, goodF, goodL, stopP, dmgP] at *; omega), hM9.upd⟩
  ·
    refine dgno rfl (by simp) ?_
    refine dgnol rfl (by simp) ?_
    refine dgno rfl (by simp) ?_
    refine dq (v := .bool false) (o_pickF rfl rfl) ?_
    refine dq (v := .bool false) (o_mv rfl) ?_
    refine dsplitF rfl ?_
    refine dgno rfl (by simp) ?_
    refine dgnol rfl (by simp) ?_
    refine dgno rfl (by simp) ?_
    refine dq (v := .bool false) (o_pickF rfl rfl) ?_
    refine dq (v := .bool false) (o_mv rfl) ?_
    refine dsplitF rfl ?_
    refine dgno rfl (by simp) ?_
    refine dgnol rfl (by simp) ?_
    refine dgno rfl (by simp) ?_
    refine dq (v := .bool false) (o_pickF rfl rfl) ?_
    refine dq (v := .bool false) (o_mv rfl) ?_
    refine dsplitF rfl ?_
    refine dgno rfl (by simp) ?_
    refine dgnol rfl (by simp) ?_
    refine dgno rfl (by simp) ?_
    refine dq (v := .bool false) (o_pickF rfl rfl) ?_
    refine dq (v := .bool false) (o_mv rfl) ?_
    refine dsplitF rfl ?_
    refine dgno rfl (by simp) ?_
    refine dqgno rfl (by simp) ?_
    refine dgnol rfl (by simp) ?_
    refine dgno rfl (by simp) ?_
    refine dgno rfl (by simp) ?_
    refine dgnol rfl (by simp) ?_
    refine dgnol rfl (by simp) ?_
    refine dq (v := .bool false) (o_pickF rfl rfl) ?_
    refine dq (v := .bool false) (o_mv rfl) ?_
    refine h8 _ _ ?_
    clear h8
    refine ⟨(.bool false), rfl, ?_⟩
    first | exact ⟨bT (by simp only [goodP, goodS, goodF, goodL, stopP, dmgP] at *; omega), hM9.upd⟩ | exact ⟨bF (by simp only [goodP, goodS, goodF, goodL, stopP, dmgP] at *; omega), hM9.upd⟩ | exact ⟨bP (by simp only [goodP, goodS, goodF, goodL, stopP, dmgP] at *; omega), hM9.upd⟩
