/- Damages: the helpers of the laws, whether an entry may be. -/
import Derived.Test.YtnkilhmkegmenaaE17
import Derived.Test.YtnkilhmkegmenaaM
namespace Go.Proofs.Ytnkilhmkegmenaa.E
open Go
/-- an entry of a script -/
structure Flt where
  kind : Int
  tk : Int
  task : Int
  att : Int
  mom : Int
  rd : Int
  at_ : Int
  mask : Int
deriving DecidableEq
def dmgP (f : Flt) : Prop := f.tk = 0 ∧ f.task < 256 ∧ 0 ≤ f.mom ∧ f.mom ≤ 2 ∧ 0 ≤ f.rd ∧ f.rd < 65535 ∧ (f.mom = 2 ∨ f.rd = 0)
def stopP (f : Flt) : Prop := f.mom = 0 ∧ f.rd = 0 ∧ f.mask = 0 ∧ 0 ≤ f.at_ ∧ (f.tk = 0 ∧ f.task < 256 ∨ f.tk = 1 ∧ f.task < 65535)
def goodP (f : Flt) : Prop := 0 ≤ f.task ∧ 1 ≤ f.att ∧ f.att ≤ 16 ∧ (f.kind = 0 ∧ stopP f ∨ f.kind = 1 ∧ dmgP f ∧ 0 ≤ f.at_ ∧ f.mask % 2 = 1 ∨ f.kind = 2 ∧ dmgP f ∧ -268435456 ≤ f.at_ ∧ f.at_ ≤ 4096 ∧ ¬ f.at_ = 0 ∧ f.mask = 0)
instance (f : Flt) : Decidable (dmgP f) := by unfold dmgP; infer_instance
instance (f : Flt) : Decidable (stopP f) := by unfold stopP; infer_instance
instance (f : Flt) : Decidable (goodP f) := by unfold goodP; infer_instance
/-- the bit k turned, if bit is 1 -/
def flipStep (c : List UInt8) (k bit : Nat) : List UInt8 := c.set (k / 8) (c.getD (k / 8) 0 ^^^ (bit * 2 ^ (k % 8)).toUInt8)
/-- bit i of a mask -/
def mb (m i : Nat) : Nat := m / 2 ^ i % 2
theorem mb_le (m i : Nat) : mb m i ≤ 1 := by unfold mb; omega
/-- the mask's first bits laid from the bit p on -/
def flips (b : List UInt8) (p m : Nat) : Nat → List UInt8
  | 0 => b
  | i + 1 => if p + i < 8 * b.length then flipStep (flips b p m i) (p + i) (mb m i) else flips b p m i
theorem flips_length (b : List UInt8) (p m i : Nat) : (flips b p m i).length = b.length := by
  induction i with
  | zero => rfl
  | succ i ih => simp only [flips]; split <;> simp [flipStep, ih]
theorem flips_in {b : List UInt8} {p m i : Nat} (h : p + i < 8 * b.length) : flips b p m (i + 1) = flipStep (flips b p m i) (p + i) (mb m i) := by rw [flips, if_pos h]
theorem flips_out {b : List UInt8} {p m i : Nat} (h : ¬ p + i < 8 * b.length) : flips b p m (i + 1) = flips b p m i := by rw [flips, if_neg h]
theorem flips_end {b : List UInt8} {p m i : Nat} (h : ¬ p + i < 8 * b.length) : ∀ d, flips b p m (i + d) = flips b p m i := by
  intro d
  induction d with
  | zero => rfl
  | succ d ih => rw [← Nat.add_assoc, flips_out (by omega), ih]
theorem set_getD_self {c : List UInt8} {j : Nat} : c.set j (c.getD j 0) = c := by
  rw [List.getD_eq_getElem?_getD]
  by_cases h : j < c.length
  · rw [List.getElem?_eq_getElem h]; simp
  · rw [List.set_eq_of_length_le (by omega)]
theorem flipStep_zero (c : List UInt8) (k : Nat) : flipStep c k 0 = c := by
  unfold flipStep
  have : (0 * 2 ^ (k % 8)).toUInt8 = (0 : UInt8) := by simp
  rw [this, UInt8.xor_zero, set_getD_self]
theorem flips_skip {b : List UInt8} {p m i : Nat} (h : ¬ (mb m i = 1 ∧ p + i < 8 * b.length)) : flips b p m (i + 1) = flips b p m i := by
  by_cases h1 : p + i < 8 * b.length
  · rw [flips_in h1, show mb m i = 0 by have := mb_le m i; omega, flipStep_zero]
  · exact flips_out h1
/-- what a file is behind an entry -/
def damage (b : List UInt8) (f : Flt) : List UInt8 :=
  if goodP f then
    if f.kind = 1 then (if b.length = 0 then b else flips b (f.at_.toNat % (8 * b.length)) f.mask.toNat 32)
    else if f.kind = 2 then (if 0 < f.at_ then b ++ List.replicate f.at_.toNat 0 else b.take (b.length + f.at_).toNat)
    else b
  else b
theorem damage_bad {b : List UInt8} {f : Flt} (h : ¬ goodP f) : damage b f = b := by unfold damage; rw [if_neg h]
theorem damage_stop {b : List UInt8} {f : Flt} (h : ¬ f.kind = 1) (h2 : ¬ f.kind = 2) : damage b f = b := by unfold damage; rw [if_neg h, if_neg h2]; split <;> rfl
theorem damage_none {b : List UInt8} {f : Flt} (h : f.kind = 1) (h2 : b.length = 0) : damage b f = b := by unfold damage; rw [if_pos h, if_pos h2]; split <;> rfl
theorem damage_flip {b : List UInt8} {f : Flt} (g : goodP f) (h : f.kind = 1) (h2 : ¬ b.length = 0) : damage b f = flips b (f.at_.toNat % (8 * b.length)) f.mask.toNat 32 := by unfold damage; rw [if_pos g, if_pos h, if_neg h2]
theorem damage_more {b : List UInt8} {f : Flt} (g : goodP f) (h : f.kind = 2) (h2 : 0 < f.at_) : damage b f = b ++ List.replicate f.at_.toNat 0 := by unfold damage; rw [if_pos g, if_neg (by omega), if_pos h, if_pos h2]
theorem damage_less {b : List UInt8} {f : Flt} (g : goodP f) (h : f.kind = 2) (h2 : ¬ 0 < f.at_) : damage b f = b.take (b.length + f.at_).toNat := by unfold damage; rw [if_pos g, if_neg (by omega), if_pos h, if_neg h2]
theorem damage_length (b : List UInt8) (f : Flt) : (damage b f).length ≤ b.length + 4096 := by
  unfold damage
  split
  · rename_i g
    split
    · split
      · omega
      · rw [flips_length]; omega
    · split
      · rename_i h1 h2
        obtain ⟨_, _, _, g⟩ := g
        split
        · rw [List.length_append, List.length_replicate]; omega
        · rw [List.length_take]; omega
      · omega
  · omega

def fltC (f : Flt) : List Value := [.int .i64 f.kind, .int .i64 f.tk, .int .i64 f.task, .int .i64 f.att, .int .i64 f.mom, .int .i64 f.rd, .int .i64 f.at_, .int .u32 f.mask]
instance : Enc fltC 8 := ⟨fun _ => rfl, by omega, fun c => by intro v hv; simp only [fltC, List.mem_cons, List.not_mem_nil, or_false] at hv; rcases hv with rfl | rfl | rfl | rfl | rfl | rfl | rfl | rfl <;> rfl⟩
/-- its numbers are such as its fields hold -/
def Flt.ok (f : Flt) : Prop := inK .i64 f.kind ∧ inK .i64 f.tk ∧ inK .i64 f.task ∧ inK .i64 f.att ∧ inK .i64 f.mom ∧ inK .i64 f.rd ∧ inK .i64 f.at_ ∧ inK .u32 f.mask
theorem bT {p : Prop} [Decidable p] (h : p) : Value.bool true = .bool (decide p) := by rw [decide_eq_true h]
theorem bF {p : Prop} [Decidable p] (h : ¬ p) : Value.bool false = .bool (decide p) := by rw [decide_eq_false h]
theorem bP {p q : Prop} [Decidable p] [Decidable q] (h : q ↔ p) : Value.bool (decide q) = .bool (decide p) := by rw [decide_eq_decide.2 h]
/-- bytes of which each is another one from k up to i -/
def turnI (k i : Nat) (l : List UInt8) : List UInt8 := (List.range l.length).map fun j => if k ≤ j ∧ j < i then l.getD j 0 ^^^ 64 else l.getD j 0
def turn (k : Nat) (l : List UInt8) : List UInt8 := turnI k l.length l
theorem turnI_length (k i : Nat) (l : List UInt8) : (turnI k i l).length = l.length := by simp [turnI]
theorem turn_length (k : Nat) (l : List UInt8) : (turn k l).length = l.length := turnI_length k _ l
theorem turnI_getD {k i j : Nat} {l : List UInt8} (h : j < l.length) : (turnI k i l).getD j 0 = if k ≤ j ∧ j < i then l.getD j 0 ^^^ 64 else l.getD j 0 := by
  rw [turnI, List.getD_eq_getElem?_getD, List.getElem?_map, List.getElem?_range h]; rfl
theorem turnI_zero (k : Nat) (l : List UInt8) : turnI k k l = l := by
  refine ext_getD 0 (turnI_length _ _ _) fun j hj => ?_
  rw [turnI_length] at hj
  rw [turnI_getD hj, if_neg (by omega)]
theorem turnI_set {k i : Nat} {l : List UInt8} (hk : k ≤ i) (hi : i < l.length) : (turnI k i l).set i ((turnI k i l).getD i 0 ^^^ 64) = turnI k (i + 1) l := by
  refine ext_getD 0 (by simp [turnI_length]) fun j hj => ?_
  have hj' : j < l.length := by simpa [turnI_length] using hj
  rw [set_getD 0 (by rw [turnI_length]; exact hj'), turnI_getD hi, turnI_getD hj', turnI_getD hj', if_neg (show ¬ (k ≤ i ∧ i < i) by omega)]
  by_cases e : i = j
  · subst e; rw [if_pos rfl, if_pos (by omega)]
  · rw [if_neg e]
    by_cases c : k ≤ j ∧ j < i
    · rw [if_pos c, if_pos (by omega)]
    · rw [if_neg c, if_neg (by omega)]
theorem turnI_end {k i : Nat} {l : List UInt8} (h : l.length ≤ i) : turnI k i l = turn k l := by
  refine ext_getD 0 (by rw [turnI_length, turn_length]) fun j hj => ?_
  have hj' : j < l.length := by simpa [turnI_length] using hj
  unfold turn
  rw [turnI_getD hj', turnI_getD hj']
  by_cases c : k ≤ j ∧ j < i
  · rw [if_pos c, if_pos (by omega)]
  · rw [if_neg c, if_neg (by omega)]
theorem xor64 (c : UInt8) : xorI .u8 (c.toNat : Int) 64 = ((c ^^^ 64).toNat : Int) := by
  have hc := c.toNat_lt
  have h : c.toNat ^^^ 64 < 2 ^ 8 := Nat.xor_lt_two_pow hc (by decide)
  have := xorI_nat (k := .u8) (a := c.toNat) (b := 64) (by simpa [IntKind.bits] using hc) (by decide) (by simp only [inK]; omega)
  rw [show (64 : Int) = ((64 : Nat) : Int) from rfl, this]
  simp

/-- winnowlaw16.roomy -/
theorem roomy_ok (x : Value) (b : List UInt8) (w : World) (hx : RdE byteV w x b) (hl : b.length ≤ 140737488351232) : Calls Try.prog 10 [x].toArray w (Rt fun r w' => ∃ rs, SlE byteV 5 r (b ++ List.replicate 64 (165 : UInt8)) rs ∧ Mem w [] w' [rs]) := by
  have hM0 : Mem w [] w [] := Mem.nil w []
  refine calls_vc mixed Try.func10 rfl C10 (by simp [Try.ntmps10]) ?_
  refine seq fun K1 h1 => ?_
  refine stp (v := .slice none 0 0) (o_mv rfl) ?_
  refine h1 _ _ ?_
  clear h1
  refine seq fun K2 h2 => ?_
  refine stp (v := x) (o_mv rfl) ?_
  refine stp (v := .int .i64 (b.length : Nat)) (o_lenR (hx.upd hM0.upd) rfl rfl) ?_
  refine stp (v := .int .i64 ((b.length : Nat) + 64)) (o_bin rfl rfl (v_add64 (by constructor <;> omega))) ?_
  refine m_mksE (E := byteV) (z := 0) (n := (b.length + 64)) (c := (b.length + 64)) rfl hM0 (v_int (by omega)) (v_int (by omega)) (by omega) (by omega) (by omega) fun v3 w3 r3 hs3 (hM3 : Mem w [] w3 [r3]) => ?_
  refine stp (v := v3) (o_mv rfl) ?_
  refine h2 _ _ ?_
  clear h2
  refine seq fun K4 h4 => ?_
  refine seq fun K5 h5 => ?_
  refine stp (v := .int .i64 0) (o_mv rfl) ?_
  refine h5 _ _ ?_
  clear h5
  refine lp (n := fun _ _ => False) (ι := (Nat) × (Value) × (List Ent)) (fun ⟨i, g, r⟩ f w' => f 0 = x ∧ f 3 = g ∧ f 4 = .int .i64 (i : Nat) ∧ Mem w [] w' [r] ∧ (SlE byteV 5 g ((b ++ List.replicate 64 (165 : UInt8)).take i ++ List.replicate ((b.length + 64) - i) (0 : UInt8)) r) ∧ (i ≤ (b.length + 64)) ∧ (((b ++ List.replicate 64 (165 : UInt8)).take i ++ List.replicate ((b.length + 64) - i) (0 : UInt8)).length = (b.length + 64))) (fun ⟨i, g, r⟩ => (b.length + 64) - i) (0, v3, r3) ?_ ?_
  · exact ⟨rfl, rfl, by first | rfl | exact v_int (by omega) | exact v_int (by simp) | exact v_int (by simp; omega), hM3, by simpa using hs3, by omega, by simp⟩
  · rintro ⟨i, g, r⟩ f w6 ⟨e6_0, e6_3, e6_4, hM6, hs, hi, hq⟩ K7 h7
    obtain ⟨frm, rfl⟩ : ∃ frm, f = (upd (upd (upd frm 0 (x)) 3 (g)) 4 (.int .i64 (i : Nat))) := ⟨f, by rw [upd_self e6_0, upd_self e6_3, upd_self e6_4]⟩
    clear e6_0 e6_3 e6_4
    refine seq fun K8 h8 => ?_
    refine seq fun K9 h9 => ?_
    refine stp (v := .int .i64 (i : Nat)) (o_mv rfl) ?_
    refine stp (v := g) (o_mv rfl) ?_
    refine stp (v := .int .i64 (((b ++ List.replicate 64 (165 : UInt8)).take i ++ List.replicate ((b.length + 64) - i) (0 : UInt8)).length : Nat)) (o_lenR (hs.rd hM6 (i := 0) rfl) rfl rfl) ?_
    refine stp (v := .bool (decide (((i : Nat) : Int) < (((b ++ List.replicate 64 (165 : UInt8)).take i ++ List.replicate ((b.length + 64) - i) (0 : UInt8)).length : Nat)))) (o_bin rfl rfl rfl) ?_
    refine h9 _ _ ?_
    clear h9
    refine cndP rfl (fun c10 => ?_) (fun c10 => ?_)
    ·
      refine h8 _ _ ?_
      clear h8
      refine seq fun K11 h11 => ?_
      refine seq fun K12 h12 => ?_
      refine stp (v := g) (o_mv rfl) ?_
      refine stp (v := .int .i64 (i : Nat)) (o_mv rfl) ?_
      refine m_set (E := byteV) (q := 165) (j := i) hM6 (i := 0) rfl hs rfl rfl (by omega) (by simp) (rfl) fun w13 r13 u13 he13 hs13 (hM13 : Mem w [] w13 [r13]) => ?_
      refine h12 _ _ ?_
      clear h12
      refine seq fun K14 h14 => ?_
      refine stp (v := .int .i64 (i : Nat)) (o_mv rfl) ?_
      refine stp (v := x) (o_mv rfl) ?_
      refine stp (v := .int .i64 (b.length : Nat)) (o_lenR (hx.upd hM13.upd) rfl rfl) ?_
      refine stp (v := .bool (decide (((i : Nat) : Int) < (b.length : Nat)))) (o_bin rfl rfl rfl) ?_
      refine h14 _ _ ?_
      clear h14
      refine cndP rfl (fun c15 => ?_) (fun c15 => ?_)
      ·
        refine stp (v := g) (o_mv rfl) ?_
        refine stp (v := .int .i64 (i : Nat)) (o_mv rfl) ?_
        refine stp (v := x) (o_mv rfl) ?_
        refine stp (v := .int .i64 (i : Nat)) (o_mv rfl) ?_
        refine m_idxE 0 (j := i) (hx.upd hM13.upd) rfl rfl (by omega) fun b16 o16 hp16 => ?_
        refine ld (v := byteV (b.getD i 0)) rfl (hp16) ?_
        refine m_set (E := byteV) (q := b.getD i 0) (j := i) hM13 (i := 0) rfl hs13 rfl rfl (by simp; omega) (by simp) (rfl) fun w17 r17 u17 he17 hs17 (hM17 : Mem w [] w17 [r17]) => ?_
        refine h11 _ _ ?_
        clear h11
        refine stp (v := .int .i64 (i : Nat)) (o_mv rfl) ?_
        refine stp (v := .int .i64 ((i : Nat) + 1)) (o_bin rfl rfl (v_add64 (by constructor <;> omega))) ?_
        refine stp (v := .int .i64 ((i : Nat) + 1)) (o_mv rfl) ?_
        refine h7 (i + 1, g, r17) _ _ ⟨rfl, rfl, by first | rfl | exact v_int (by omega) | exact v_int (by simp) | exact v_int (by simp; omega), hM17, by rw [← setG 0 rfl (c := b.getD i 0) (by omega) rfl]; simpa [List.set_set] using hs17, by omega, by simp; omega⟩ (by (try dsimp only); omega)
      ·
        refine h11 _ _ ?_
        clear h11
        refine stp (v := .int .i64 (i : Nat)) (o_mv rfl) ?_
        refine stp (v := .int .i64 ((i : Nat) + 1)) (o_bin rfl rfl (v_add64 (by constructor <;> omega))) ?_
        refine stp (v := .int .i64 ((i : Nat) + 1)) (o_mv rfl) ?_
        refine h7 (i + 1, g, r13) _ _ ⟨rfl, rfl, by first | rfl | exact v_int (by omega) | exact v_int (by simp) | exact v_int (by simp; omega), hM13, by rw [← setG2 0 rfl (by omega) (by omega)]; exact hs13, by omega, by simp; omega⟩ (by (try dsimp only); omega)
    ·
      refine h4 _ _ ?_
      clear h4
      refine seq fun K18 h18 => ?_
      refine stp (v := g) (o_mv rfl) ?_
      refine stp (v := g) (o_mv rfl) ?_
      refine h18 _ _ ?_
      clear h18
      refine ⟨g, rfl, ?_⟩
      have e : i = (b.length + 64) := by omega
      subst e
      rw [Nat.sub_self, List.replicate_zero, List.append_nil, List.take_of_length_le (by simp)] at hs
      exact ⟨_, hs, hM6⟩

/-- winnowlaw16.same -/
theorem same_ok (x y : Value) (a b : List UInt8) (w : World) (hx : RdE byteV w x a) (hy : RdE byteV w y b) (hla : a.length ≤ 9223372036854775807) : Calls Try.prog 14 [x, y].toArray w (Rt fun r w' => r = .bool (decide (a = b)) ∧ Upd [] w w') := by
  have hM0 : Mem w [] w [] := Mem.nil w []
  refine calls_vc mixed Try.func14 rfl C14 (by simp [Try.ntmps14]) ?_
  refine seq fun K1 h1 => ?_
  refine stp (v := .bool false) (o_mv rfl) ?_
  refine h1 _ _ ?_
  clear h1
  refine seq fun K2 h2 => ?_
  refine seq fun K3 h3 => ?_
  refine stp (v := x) (o_mv rfl) ?_
  refine stp (v := .int .i64 (a.length : Nat)) (o_lenR (hx.upd hM0.upd) rfl rfl) ?_
  refine stp (v := y) (o_mv rfl) ?_
  refine stp (v := .int .i64 (b.length : Nat)) (o_lenR (hy.upd hM0.upd) rfl rfl) ?_
  refine stp (v := .bool (decide (¬ ((a.length : Nat) : Int) = (b.length : Nat)))) (o_bin rfl rfl v_neq) ?_
  refine h3 _ _ ?_
  clear h3
  refine cndP rfl (fun c4 => ?_) (fun c4 => ?_)
  ·
    refine seq fun K5 h5 => ?_
    refine stp (v := .bool false) (o_mv rfl) ?_
    refine h5 _ _ ?_
    clear h5
    refine ⟨(.bool false), rfl, ?_⟩
    exact ⟨by rw [decide_eq_false (fun e => c4 (by rw [e]))], hM0.upd⟩
  ·
    refine h2 _ _ ?_
    clear h2
    refine seq fun K6 h6 => ?_
    refine seq fun K7 h7 => ?_
    refine stp (v := .int .i64 0) (o_mv rfl) ?_
    refine h7 _ _ ?_
    clear h7
    refine lp (n := fun _ _ => False) (ι := (Nat)) (fun i f w' => f 0 = x ∧ f 1 = y ∧ f 5 = .int .i64 (i : Nat) ∧ Mem w [] w' [] ∧ (i ≤ a.length) ∧ (a.take i = b.take i)) (fun i => a.length - i) (0) ?_ ?_
    · exact ⟨rfl, rfl, by first | rfl | exact v_int (by omega) | exact v_int (by simp) | exact v_int (by simp; omega), hM0, by omega, by simp⟩
    · rintro i f w8 ⟨e8_0, e8_1, e8_5, hM8, hi, hp⟩ K9 h9
      obtain ⟨frm, rfl⟩ : ∃ frm, f = (upd (upd (upd frm 0 (x)) 1 (y)) 5 (.int .i64 (i : Nat))) := ⟨f, by rw [upd_self e8_0, upd_self e8_1, upd_self e8_5]⟩
      clear e8_0 e8_1 e8_5
      refine seq fun K10 h10 => ?_
      refine seq fun K11 h11 => ?_
      refine stp (v := .int .i64 (i : Nat)) (o_mv rfl) ?_
      refine stp (v := x) (o_mv rfl) ?_
      refine stp (v := .int .i64 (a.length : Nat)) (o_lenR (hx.upd hM8.upd) rfl rfl) ?_
      refine stp (v := .bool (decide (((i : Nat) : Int) < (a.length : Nat)))) (o_bin rfl rfl rfl) ?_
      refine h11 _ _ ?_
      clear h11
      refine cndP rfl (fun c12 => ?_) (fun c12 => ?_)
      ·
        refine h10 _ _ ?_
        clear h10
        refine seq fun K13 h13 => ?_
        refine seq fun K14 h14 => ?_
        intro wd e1 e2 e3 e4
        have hd := Upd.same e1 e2 e3 e4 []
        have hM15 := hM8.pure hd
        clear e1 e2 e3 e4
        refine ⟨none, ?_⟩
        show vd _ _ _ _ _ _ _
        refine dq (v := x) (o_mv rfl) ?_
        refine dq (v := .int .i64 (i : Nat)) (o_mv rfl) ?_
        refine dqp (m_idxE 0 (j := i) (hx.upd hM15.upd) rfl rfl (by omega) fun b16 o16 hp16 => ?_)
        show vd _ _ _ _ _ _ _
        refine dq (v := y) (o_mv rfl) ?_
        refine dq (v := .int .i64 (i : Nat)) (o_mv rfl) ?_
        refine dqp (m_idxE 0 (j := i) (hy.upd hM15.upd) rfl rfl (by omega) fun b17 o17 hp17 => ?_)
        show vd _ _ _ _ _ _ _
        refine dqld rfl (trivial) (v := byteV (b.getD i 0)) (hp17) ?_
        refine dl (ld (v := byteV (a.getD i 0)) rfl (hp16) ?_)
        refine ⟨rfl, ?_⟩
        refine dq (v := .bool (decide (¬ ((a.getD i 0).toNat : Int) = ((b.getD i 0).toNat : Int)))) (o_bin rfl rfl v_neq) ?_
        refine h14 _ _ ?_
        clear h14
        refine cndP rfl (fun c18 => ?_) (fun c18 => ?_)
        ·
          refine seq fun K19 h19 => ?_
          refine stp (v := .bool false) (o_mv rfl) ?_
          refine h19 _ _ ?_
          clear h19
          refine ⟨(.bool false), rfl, ?_⟩
          exact ⟨by rw [decide_eq_false (ne_atG 0 i (nat_neG (by assumption)))], hM15.upd⟩
        ·
          refine h13 _ _ ?_
          clear h13
          refine stp (v := .int .i64 (i : Nat)) (o_mv rfl) ?_
          refine stp (v := .int .i64 ((i : Nat) + 1)) (o_bin rfl rfl (v_add64 (by constructor <;> omega))) ?_
          refine stp (v := .int .i64 ((i : Nat) + 1)) (o_mv rfl) ?_
          refine h9 (i + 1) _ _ ⟨rfl, rfl, by first | rfl | exact v_int (by omega) | exact v_int (by simp) | exact v_int (by simp; omega), hM15, by omega, take_eqG 0 hp (by omega) (by omega) (u8_eq (by omega))⟩ (by (try dsimp only); omega)
      ·
        refine h6 _ _ ?_
        clear h6
        refine seq fun K20 h20 => ?_
        refine stp (v := .bool true) (o_mv rfl) ?_
        refine h20 _ _ ?_
        clear h20
        refine ⟨(.bool true), rfl, ?_⟩
        exact ⟨by rw [decide_eq_true]; rw [← List.take_of_length_le (l := a) (i := i) (by omega), ← List.take_of_length_le (l := b) (i := i) (by omega), hp], hM8.upd⟩

/-- winnowlaw16.fill -/
theorem fill_ok (x : Value) (l : List UInt8) (m : UInt8) (r0 : List Ent) (w : World) (hs0 : SlE byteV 5 x l r0) (hr : Res w r0) (hl : l.length ≤ 140737489403904) : Calls Try.prog 12 [x, byteV m].toArray w (Rt fun r w' => r = .int .i64 ((l.length + 64 : Nat) : Int) ∧ Mem w (ids r0) w' []) := by
  have hM0 : Mem w (ids r0) w [r0] := Mem.start hr
  refine calls_vc mixed Try.func12 rfl C12 (by simp [Try.ntmps12]) ?_
  refine seq fun K1 h1 => ?_
  refine stp (v := .int .i64 0) (o_mv rfl) ?_
  refine h1 _ _ ?_
  clear h1
  refine seq fun K2 h2 => ?_
  refine seq fun K3 h3 => ?_
  refine stp (v := .int .i64 0) (o_mv rfl) ?_
  refine h3 _ _ ?_
  clear h3
  refine lp (n := fun _ _ => False) (ι := (Nat) × (List UInt8) × (Value) × (List Ent)) (fun ⟨i, la, y0_, r0_⟩ f w' => f 0 = y0_ ∧ f 5 = .int .i64 (i : Nat) ∧ f 1 = byteV m ∧ Mem w (ids r0) w' [r0_] ∧ (la.length = l.length) ∧ (i ≤ la.length) ∧ (SlE byteV 5 y0_ (la) r0_)) (fun ⟨i, la, y0_, r0_⟩ => l.length - i) (0, l, x, r0) ?_ ?_
  · exact ⟨rfl, by first | rfl | exact v_int (by omega) | exact v_int (by simp) | exact v_int (by simp; omega), by first | rfl | exact v_int (by omega) | exact v_int (by simp) | exact v_int (by simp; omega), hM0, rfl, by omega, by first | exact hs0 | simpa using hs0⟩
  · rintro ⟨i, la, y0_, r0_⟩ f w4 ⟨e4_0, e4_5, e4_1, hM4, hla, hi, hy0_⟩ K5 h5
    obtain ⟨frm, rfl⟩ : ∃ frm, f = (upd (upd (upd frm 0 (y0_)) 5 (.int .i64 (i : Nat))) 1 (byteV m)) := ⟨f, by rw [upd_self e4_0, upd_self e4_5, upd_self e4_1]⟩
    clear e4_0 e4_5 e4_1
    refine seq fun K6 h6 => ?_
    refine seq fun K7 h7 => ?_
    refine stp (v := .int .i64 (i : Nat)) (o_mv rfl) ?_
    refine stp (v := y0_) (o_mv rfl) ?_
    refine stp (v := .int .i64 (la.length : Nat)) (o_lenR (hy0_.rd hM4 (i := 0) rfl) rfl rfl) ?_
    refine stp (v := .bool (decide (((i : Nat) : Int) < (la.length : Nat)))) (o_bin rfl rfl rfl) ?_
    refine h7 _ _ ?_
    clear h7
    refine cndP rfl (fun c8 => ?_) (fun c8 => ?_)
    ·
      refine h6 _ _ ?_
      clear h6
      refine seq fun K9 h9 => ?_
      refine stp (v := y0_) (o_mv rfl) ?_
      refine stp (v := .int .i64 (i : Nat)) (o_mv rfl) ?_
      refine stp (v := byteV m) (o_mv rfl) ?_
      refine m_set (E := byteV) (q := m) (j := i) hM4 (i := 0) rfl hy0_ rfl rfl (by omega) (by simp) (rfl) fun w10 r10 u10 he10 hs10 (hM10 : Mem w (ids r0) w10 [r10]) => ?_
      refine h9 _ _ ?_
      clear h9
      refine stp (v := .int .i64 (i : Nat)) (o_mv rfl) ?_
      refine stp (v := .int .i64 ((i : Nat) + 1)) (o_bin rfl rfl (v_add64 (by constructor <;> omega))) ?_
      refine stp (v := .int .i64 ((i : Nat) + 1)) (o_mv rfl) ?_
      refine h5 (i + 1, la.set i m, y0_, r10) _ _ ⟨rfl, by first | rfl | exact v_int (by omega) | exact v_int (by simp) | exact v_int (by simp; omega), by first | rfl | exact v_int (by omega) | exact v_int (by simp) | exact v_int (by simp; omega), hM10, by simp; omega, by simp; omega, by first | exact hs10 | simpa using hs10⟩ (by (try dsimp only); omega)
    ·
      refine h2 _ _ ?_
      clear h2
      refine seq fun K11 h11 => ?_
      refine seq fun K12 h12 => ?_
      refine stp (v := .int .i64 0) (o_mv rfl) ?_
      refine h12 _ _ ?_
      clear h12
      refine lp (n := fun _ _ => False) (ι := (Nat) × (List UInt8) × (Value) × (List Ent)) (fun ⟨i, lb, y0_, r0_⟩ f w' => f 0 = y0_ ∧ f 6 = .int .i64 (i : Nat) ∧ f 1 = byteV m ∧ Mem w (ids r0) w' [r0_] ∧ (lb.length = l.length + i) ∧ (i ≤ 64) ∧ (SlE byteV 5 y0_ (lb) r0_)) (fun ⟨i, lb, y0_, r0_⟩ => 64 - i) (0, la, y0_, r0_) ?_ ?_
      · exact ⟨rfl, by first | rfl | exact v_int (by omega) | exact v_int (by simp) | exact v_int (by simp; omega), by first | rfl | exact v_int (by omega) | exact v_int (by simp) | exact v_int (by simp; omega), hM4, by omega, by omega, by first | exact hy0_ | simpa using hy0_⟩
      · rintro ⟨i, lb, y0_, r0_⟩ f w13 ⟨e13_0, e13_6, e13_1, hM13, hlb, hi, hy0_⟩ K14 h14
        obtain ⟨frm, rfl⟩ : ∃ frm, f = (upd (upd (upd frm 0 (y0_)) 6 (.int .i64 (i : Nat))) 1 (byteV m)) := ⟨f, by rw [upd_self e13_0, upd_self e13_6, upd_self e13_1]⟩
        clear e13_0 e13_6 e13_1
        refine seq fun K15 h15 => ?_
        refine seq fun K16 h16 => ?_
        refine stp (v := .int .i64 (i : Nat)) (o_mv rfl) ?_
        refine stp (v := .bool (decide (((i : Nat) : Int) < 64))) (o_bin rfl rfl rfl) ?_
        refine h16 _ _ ?_
        clear h16
        refine cndP rfl (fun c17 => ?_) (fun c17 => ?_)
        ·
          refine h15 _ _ ?_
          clear h15
          refine seq fun K18 h18 => ?_
          refine stp (v := y0_) (o_mv rfl) ?_
          refine stp (v := byteV m) (o_mv rfl) ?_
          refine stp (v := .int .u8 (((m.toNat : Int) + 1) % 256)) (o_bin rfl rfl (v_u8 _)) ?_
          refine m_app1 (E := byteV) (q := (((m.toNat : Int) + 1) % 256).toNat.toUInt8) hM13 (i := 0) rfl hy0_ rfl (by simp) (byteV_of (by omega) (by omega)) (by omega) (by omega) fun v19 w19 r19 u19 (hs19 : SlE byteV 5 v19 (lb ++ [(((m.toNat : Int) + 1) % 256).toNat.toUInt8]) r19) (hM19 : Mem w (ids r0) w19 [r19]) => ?_
          refine stp (v := v19) (o_mv rfl) ?_
          refine h18 _ _ ?_
          clear h18
          refine stp (v := .int .i64 (i : Nat)) (o_mv rfl) ?_
          refine stp (v := .int .i64 ((i : Nat) + 1)) (o_bin rfl rfl (v_add64 (by constructor <;> omega))) ?_
          refine stp (v := .int .i64 ((i : Nat) + 1)) (o_mv rfl) ?_
          refine h14 (i + 1, lb ++ [((m.toNat : Int) + 1) % 256 |>.toNat.toUInt8], v19, r19) _ _ ⟨rfl, by first | rfl | exact v_int (by omega) | exact v_int (by simp) | exact v_int (by simp; omega), by first | rfl | exact v_int (by omega) | exact v_int (by simp) | exact v_int (by simp; omega), hM19, by simp; omega, by omega, by first | exact hs19 | simpa using hs19⟩ (by (try dsimp only); omega)
        ·
          refine h11 _ _ ?_
          clear h11
          refine seq fun K20 h20 => ?_
          refine stp (v := y0_) (o_mv rfl) ?_
          refine stp (v := .int .i64 (lb.length : Nat)) (o_lenR (hy0_.rd hM13 (i := 0) rfl) rfl rfl) ?_
          refine stp (v := .int .i64 (lb.length : Nat)) (o_mv rfl) ?_
          refine h20 _ _ ?_
          clear h20
          refine ⟨(.int .i64 (lb.length : Nat)), rfl, ?_⟩
          exact ⟨v_int (by omega), hM13.keep (by simp)⟩

/-- winnowlaw16.turned -/
theorem turned_ok (x : Value) (l : List UInt8) (k : Int) (r0 : List Ent) (w : World) (hs0 : SlE byteV 5 x l r0) (hr : Res w r0) (hl : l.length ≤ 140737488351232) : Calls Try.prog 15 [x, .int .i64 k].toArray w (Rt fun r w' => r = x ∧ Mem w (ids r0) w' [upR byteV (turn k.toNat l) r0]) := by
  have hM0 : Mem w (ids r0) w [r0] := Mem.start hr
  refine calls_vc mixed Try.func15 rfl C15 (by simp [Try.ntmps15]) ?_
  refine seq fun K1 h1 => ?_
  refine stp (v := .slice none 0 0) (o_mv rfl) ?_
  refine h1 _ _ ?_
  clear h1
  refine seq fun K2 h2 => ?_
  refine seq fun K3 h3 => ?_
  refine stp (v := .int .i64 k) (o_mv rfl) ?_
  refine stp (v := .int .i64 (max (k : Int) (0 : Int))) (o_mm rfl rfl rfl) ?_
  refine stp (v := .int .i64 (max (k : Int) (0 : Int))) (o_mv rfl) ?_
  refine h3 _ _ ?_
  clear h3
  refine lp (n := fun _ _ => False) (ι := (Nat) × (List Ent)) (fun ⟨i, r⟩ f w' => f 0 = x ∧ f 5 = .int .i64 (i : Nat) ∧ Mem w (ids r0) w' [r] ∧ (SlE byteV 5 x (turnI k.toNat i l) r) ∧ (r = upR byteV (turnI k.toNat i l) r0) ∧ ((turnI k.toNat i l).length = l.length) ∧ (k.toNat ≤ i)) (fun ⟨i, r⟩ => l.length - i) (k.toNat, r0) ?_ ?_
  · exact ⟨rfl, by first | rfl | exact v_int (by omega) | exact v_int (by simp) | exact v_int (by simp; omega), hM0, by rw [turnI_zero]; exact hs0, by rw [turnI_zero, up_self hs0], turnI_length _ _ _, by omega⟩
  · rintro ⟨i, r⟩ f w4 ⟨e4_0, e4_5, hM4, hs, he, hq, hk⟩ K5 h5
    obtain ⟨frm, rfl⟩ : ∃ frm, f = (upd (upd frm 0 (x)) 5 (.int .i64 (i : Nat))) := ⟨f, by rw [upd_self e4_0, upd_self e4_5]⟩
    clear e4_0 e4_5
    refine seq fun K6 h6 => ?_
    refine seq fun K7 h7 => ?_
    refine stp (v := .int .i64 (i : Nat)) (o_mv rfl) ?_
    refine stp (v := x) (o_mv rfl) ?_
    refine stp (v := .int .i64 ((turnI k.toNat i l).length : Nat)) (o_lenR (hs.rd hM4 (i := 0) rfl) rfl rfl) ?_
    refine stp (v := .bool (decide (((i : Nat) : Int) < ((turnI k.toNat i l).length : Nat)))) (o_bin rfl rfl rfl) ?_
    refine h7 _ _ ?_
    clear h7
    refine cndP rfl (fun c8 => ?_) (fun c8 => ?_)
    ·
      refine h6 _ _ ?_
      clear h6
      refine seq fun K9 h9 => ?_
      refine stp (v := x) (o_mv rfl) ?_
      refine stp (v := .int .i64 (i : Nat)) (o_mv rfl) ?_
      refine stp (v := x) (o_mv rfl) ?_
      refine stp (v := .int .i64 (i : Nat)) (o_mv rfl) ?_
      refine m_idxE 0 (j := i) (hs.rd hM4 (i := 0) rfl) rfl rfl (by omega) fun b10 o10 hp10 => ?_
      refine ld (v := byteV ((turnI k.toNat i l).getD i 0)) rfl (hp10) ?_
      refine stp (v := .int .u8 (((turnI k.toNat i l).getD i 0 ^^^ 64).toNat : Int)) (o_bin rfl rfl (v_int (xor64 _))) ?_
      refine m_set (E := byteV) (q := (turnI k.toNat i l).getD i 0 ^^^ 64) (j := i) hM4 (i := 0) rfl hs rfl rfl (by omega) (by simp) (rfl) fun w11 r11 u11 he11 hs11 (hM11 : Mem w (ids r0) w11 [r11]) => ?_
      refine h9 _ _ ?_
      clear h9
      refine stp (v := .int .i64 (i : Nat)) (o_mv rfl) ?_
      refine stp (v := .int .i64 ((i : Nat) + 1)) (o_bin rfl rfl (v_add64 (by constructor <;> omega))) ?_
      refine stp (v := .int .i64 ((i : Nat) + 1)) (o_mv rfl) ?_
      refine h5 (i + 1, r11) _ _ ⟨rfl, by first | rfl | exact v_int (by omega) | exact v_int (by simp) | exact v_int (by simp; omega), hM11, by rw [← turnI_set (by omega) (by omega)]; exact hs11, by rw [← turnI_set (by omega) (by omega), he11, he, upR_upR (by simp)], turnI_length _ _ _, by omega⟩ (by (try dsimp only); omega)
    ·
      refine h2 _ _ ?_
      clear h2
      refine seq fun K12 h12 => ?_
      refine stp (v := x) (o_mv rfl) ?_
      refine stp (v := x) (o_mv rfl) ?_
      refine h12 _ _ ?_
      clear h12
      refine ⟨x, rfl, ?_⟩
      rw [turnI_end (by omega)] at he
      subst he
      exact ⟨rfl, hM4⟩

def goodS (f : Flt) : Prop := (f.tk = 0 ∧ f.task < 256 ∨ f.tk = 1 ∧ f.task < 65535) ∧ f.mom = 0 ∧ f.rd = 0 ∧ 0 ≤ f.at_ ∧ f.mask = 0
def goodF (f : Flt) : Prop := dmgP f ∧ 0 ≤ f.at_ ∧ f.mask % 2 = 1
def goodL (f : Flt) : Prop := dmgP f ∧ -268435456 ≤ f.at_ ∧ f.at_ ≤ 4096 ∧ ¬ f.at_ = 0 ∧ f.mask = 0
instance (f : Flt) : Decidable (goodS f) := by unfold goodS; infer_instance
instance (f : Flt) : Decidable (goodF f) := by unfold goodF; infer_instance
instance (f : Flt) : Decidable (goodL f) := by unfold goodL; infer_instance
theorem and1 {m : Int} (h : 0 ≤ m ∧ m ≤ 4294967295) : andI .u32 m 1 = m % 2 := by
  have := andI_nat (k := .u32) (a := m.toNat) (b := 1) (by simp only [IntKind.bits]; omega) (by decide) (by rw [Nat.and_one_is_mod]; simp only [inK]; omega)
  rw [Nat.and_one_is_mod] at this
  rw [show m = ((m.toNat : Nat) : Int) by omega, show (1 : Int) = ((1 : Nat) : Int) from rfl, this]; omega

/-- fault.damages -/
theorem damages_ok (f : Flt) (w : World) (hf : f.ok) : Calls Try.prog 55 [.agg (fltC f).toArray].toArray w (Rt fun r w' => r = .bool (decide (dmgP f)) ∧ Upd [] w w') := by
  have hM0 : Mem w [] w [] := Mem.nil w []
  have hf0 := hf
  simp only [Flt.ok, inK] at hf
  refine calls_vc mixed Try.func55 rfl C55 (by simp [Try.ntmps55]) ?_
  refine seq fun K1 h1 => ?_
  refine m_bx (v := .agg ([.int .i64 f.kind, .int .i64 f.tk, .int .i64 f.task, .int .i64 f.att, .int .i64 f.mom, .int .i64 f.rd, .int .i64 f.at_, .int .u32 f.mask] : List Value).toArray) hM0 rfl rfl fun b2 w3 (hM3 : Mem w [] w3 [[⟨b2, 25, [.int .i64 f.kind, .int .i64 f.tk, .int .i64 f.task, .int .i64 f.att, .int .i64 f.mom, .int .i64 f.rd, .int .i64 f.at_, .int .u32 f.mask]⟩]]) => ?_
  refine stp (v := .bool false) (o_mv rfl) ?_
  refine h1 _ _ ?_
  clear h1
  refine seq fun K4 h4 => ?_
  refine seq fun K5 h5 => ?_
  refine stp (v := .pointer (some ⟨b2, 1, none⟩)) (o_fa rfl rfl) ?_
  refine m_ld (v := .int .i64 f.tk) hM3 (i := 0) (j := 0) rfl rfl rfl rfl ?_
  refine stp (v := .bool (decide (¬ f.tk = 0))) (o_bin rfl rfl v_neq) ?_
  refine stp (v := .bool (decide (¬ f.tk = 0))) (o_mv rfl) ?_
  refine splitP rfl (fun c6 => ?_) (fun c6 => ?_)
  ·
    refine gno rfl (by simp) ?_
    refine gnol rfl (by simp) ?_
    refine gno rfl (by simp) ?_
    refine stp (v := .bool true) (o_pickT rfl rfl) ?_
    refine stp (v := .bool true) (o_mv rfl) ?_
    refine splitT rfl ?_
    refine gno rfl (by simp) ?_
    refine gnol rfl (by simp) ?_
    refine gno rfl (by simp) ?_
    refine stp (v := .bool true) (o_pickT rfl rfl) ?_
    refine stp (v := .bool true) (o_mv rfl) ?_
    refine splitT rfl ?_
    refine gno rfl (by simp) ?_
    refine gnol rfl (by simp) ?_
    refine gno rfl (by simp) ?_
    refine stp (v := .bool true) (o_pickT rfl rfl) ?_
    refine h5 _ _ ?_
    clear h5
    refine cndT rfl ?_
    refine seq fun K7 h7 => ?_
    refine stp (v := .bool false) (o_mv rfl) ?_
    refine h7 _ _ ?_
    clear h7
    refine ⟨(.bool false), rfl, ?_⟩
    first | exact ⟨bT (by simp only [dmgP] at *; omega), hM3.upd⟩ | exact ⟨bF (by simp only [dmgP] at *; omega), hM3.upd⟩ | exact ⟨bP (by simp only [dmgP] at *; omega), hM3.upd⟩
  ·
    refine stg rfl (v := .pointer (some ⟨b2, 2, none⟩)) (o_fa rfl rfl) ?_
    refine gyesl rfl ?_
    refine m_ld (v := .int .i64 f.task) hM3 (i := 0) (j := 0) rfl rfl rfl rfl ?_
    refine stg rfl (v := .bool (decide ((256 : Int) ≤ f.task))) (o_bin rfl rfl rfl) ?_
    refine stp (v := .bool (decide ((256 : Int) ≤ f.task))) (o_pickF rfl rfl) ?_
    refine stp (v := .bool (decide ((256 : Int) ≤ f.task))) (o_mv rfl) ?_
    refine splitP rfl (fun c8 => ?_) (fun c8 => ?_)
    ·
      refine gno rfl (by simp) ?_
      refine gnol rfl (by simp) ?_
      refine gno rfl (by simp) ?_
      refine stp (v := .bool true) (o_pickT rfl rfl) ?_
      refine stp (v := .bool true) (o_mv rfl) ?_
      refine splitT rfl ?_
      refine gno rfl (by simp) ?_
      refine gnol rfl (by simp) ?_
      refine gno rfl (by simp) ?_
      refine stp (v := .bool true) (o_pickT rfl rfl) ?_
      refine h5 _ _ ?_
      clear h5
      refine cndT rfl ?_
      refine seq fun K9 h9 => ?_
      refine stp (v := .bool false) (o_mv rfl) ?_
      refine h9 _ _ ?_
      clear h9
      refine ⟨(.bool false), rfl, ?_⟩
      first | exact ⟨bT (by simp only [dmgP] at *; omega), hM3.upd⟩ | exact ⟨bF (by simp only [dmgP] at *; omega), hM3.upd⟩ | exact ⟨bP (by simp only [dmgP] at *; omega), hM3.upd⟩
    ·
      refine stg rfl (v := .pointer (some ⟨b2, 4, none⟩)) (o_fa rfl rfl) ?_
      refine gyesl rfl ?_
      refine m_ld (v := .int .i64 f.mom) hM3 (i := 0) (j := 0) rfl rfl rfl rfl ?_
      refine stg rfl (v := .bool (decide (f.mom < 0))) (o_bin rfl rfl rfl) ?_
      refine stp (v := .bool (decide (f.mom < 0))) (o_pickF rfl rfl) ?_
      refine stp (v := .bool (decide (f.mom < 0))) (o_mv rfl) ?_
      refine splitP rfl (fun c10 => ?_) (fun c10 => ?_)
      ·
        refine gno rfl (by simp) ?_
        refine gnol rfl (by simp) ?_
        refine gno rfl (by simp) ?_
        refine stp (v := .bool true) (o_pickT rfl rfl) ?_
        refine h5 _ _ ?_
        clear h5
        refine cndT rfl ?_
        refine seq fun K11 h11 => ?_
        refine stp (v := .bool false) (o_mv rfl) ?_
        refine h11 _ _ ?_
        clear h11
        refine ⟨(.bool false), rfl, ?_⟩
        first | exact ⟨bT (by simp only [dmgP] at *; omega), hM3.upd⟩ | exact ⟨bF (by simp only [dmgP] at *; omega), hM3.upd⟩ | exact ⟨bP (by simp only [dmgP] at *; omega), hM3.upd⟩
      ·
        refine stg rfl (v := .pointer (some ⟨b2, 4, none⟩)) (o_fa rfl rfl) ?_
        refine gyesl rfl ?_
        refine m_ld (v := .int .i64 f.mom) hM3 (i := 0) (j := 0) rfl rfl rfl rfl ?_
        refine stg rfl (v := .bool (decide ((2 : Int) < f.mom))) (o_bin rfl rfl rfl) ?_
        refine stp (v := .bool (decide ((2 : Int) < f.mom))) (o_pickF rfl rfl) ?_
        refine h5 _ _ ?_
        clear h5
        refine cndP rfl (fun c12 => ?_) (fun c12 => ?_)
        ·
          refine seq fun K13 h13 => ?_
          refine stp (v := .bool false) (o_mv rfl) ?_
          refine h13 _ _ ?_
          clear h13
          refine ⟨(.bool false), rfl, ?_⟩
          first | exact ⟨bT (by simp only [dmgP] at *; omega), hM3.upd⟩ | exact ⟨bF (by simp only [dmgP] at *; omega), hM3.upd⟩ | exact ⟨bP (by simp only [dmgP] at *; omega), hM3.upd⟩
        ·
          refine h4 _ _ ?_
          clear h4
          refine seq fun K14 h14 => ?_
          refine stp (v := .pointer (some ⟨b2, 5, none⟩)) (o_fa rfl rfl) ?_
          refine m_ld (v := .int .i64 f.rd) hM3 (i := 0) (j := 0) rfl rfl rfl rfl ?_
          refine stp (v := .bool (decide (f.rd = 0))) (o_bin rfl rfl rfl) ?_
          refine stp (v := .bool (decide (f.rd = 0))) (o_mv rfl) ?_
          refine splitP rfl (fun c15 => ?_) (fun c15 => ?_)
          ·
            refine gno rfl (by simp) ?_
            refine gnol rfl (by simp) ?_
            refine gno rfl (by simp) ?_
            refine gno rfl (by simp) ?_
            refine splitU rfl ?_
            refine gnou rfl ?_
            refine gnolu rfl ?_
            refine gnou rfl ?_
            refine gno rfl (by simp) ?_
            refine gno rfl (by simp) ?_
            refine splitU rfl ?_
            refine gnou rfl ?_
            refine gnolu rfl ?_
            refine gnou rfl ?_
            refine gno rfl (by simp) ?_
            refine stp (v := .bool true) (o_pickT rfl rfl) ?_
            refine stp (v := .bool true) (o_mv rfl) ?_
            refine h14 _ _ ?_
            clear h14
            refine ⟨(.bool true), rfl, ?_⟩
            first | exact ⟨bT (by simp only [dmgP] at *; omega), hM3.upd⟩ | exact ⟨bF (by simp only [dmgP] at *; omega), hM3.upd⟩ | exact ⟨bP (by simp only [dmgP] at *; omega), hM3.upd⟩
          ·
            refine stg rfl (v := .pointer (some ⟨b2, 4, none⟩)) (o_fa rfl rfl) ?_
            refine gyesl rfl ?_
            refine m_ld (v := .int .i64 f.mom) hM3 (i := 0) (j := 0) rfl rfl rfl rfl ?_
            refine stg rfl (v := .bool (decide (f.mom = 2))) (o_bin rfl rfl rfl) ?_
            refine stg rfl (v := .bool (decide (f.mom = 2))) (o_mv rfl) ?_
            refine splitP rfl (fun c16 => ?_) (fun c16 => ?_)
            ·
              refine stg rfl (v := .pointer (some ⟨b2, 5, none⟩)) (o_fa rfl rfl) ?_
              refine gyesl rfl ?_
              refine m_ld (v := .int .i64 f.rd) hM3 (i := 0) (j := 0) rfl rfl rfl rfl ?_
              refine stg rfl (v := .bool (decide ((0 : Int) < f.rd))) (o_bin rfl rfl rfl) ?_
              refine stg rfl (v := .bool (decide ((0 : Int) < f.rd))) (o_pickT rfl rfl) ?_
              refine stg rfl (v := .bool (decide ((0 : Int) < f.rd))) (o_mv rfl) ?_
              refine splitP rfl (fun c17 => ?_) (fun c17 => ?_)
              ·
                refine stg rfl (v := .pointer (some ⟨b2, 5, none⟩)) (o_fa rfl rfl) ?_
                refine gyesl rfl ?_
                refine m_ld (v := .int .i64 f.rd) hM3 (i := 0) (j := 0) rfl rfl rfl rfl ?_
                refine stg rfl (v := .bool (decide (f.rd < 65535))) (o_bin rfl rfl rfl) ?_
                refine stg rfl (v := .bool (decide (f.rd < 65535))) (o_pickT rfl rfl) ?_
                refine stp (v := .bool (decide (f.rd < 65535))) (o_pickF rfl rfl) ?_
                refine stp (v := .bool (decide (f.rd < 65535))) (o_mv rfl) ?_
                refine h14 _ _ ?_
                clear h14
                refine ⟨(.bool (decide (f.rd < 65535))), rfl, ?_⟩
                first | exact ⟨bT (by simp only [dmgP] at *; omega), hM3.upd⟩ | exact ⟨bF (by simp only [dmgP] at *; omega), hM3.upd⟩ | exact ⟨bP (by simp only [dmgP] at *; omega), hM3.upd⟩
              ·
                refine gno rfl (by simp) ?_
                refine gnol rfl (by simp) ?_
                refine gno rfl (by simp) ?_
                refine stg rfl (v := .bool false) (o_pickF rfl rfl) ?_
                refine stp (v := .bool false) (o_pickF rfl rfl) ?_
                refine stp (v := .bool false) (o_mv rfl) ?_
                refine h14 _ _ ?_
                clear h14
                refine ⟨(.bool false), rfl, ?_⟩
                first | exact ⟨bT (by simp only [dmgP] at *; omega), hM3.upd⟩ | exact ⟨bF (by simp only [dmgP] at *; omega), hM3.upd⟩ | exact ⟨bP (by simp only [dmgP] at *; omega), hM3.upd⟩
            ·
              refine gno rfl (by simp) ?_
              refine gnol rfl (by simp) ?_
              refine gno rfl (by simp) ?_
              refine stg rfl (v := .bool false) (o_pickF rfl rfl) ?_
              refine stg rfl (v := .bool false) (o_mv rfl) ?_
              refine splitF rfl ?_
              refine gno rfl (by simp) ?_
              refine gnol rfl (by simp) ?_
              refine gno rfl (by simp) ?_
              refine stg rfl (v := .bool false) (o_pickF rfl rfl) ?_
              refine stp (v := .bool false) (o_pickF rfl rfl) ?_
              refine stp (v := .bool false) (o_mv rfl) ?_
              refine h14 _ _ ?_
              clear h14
              refine ⟨(.bool false), rfl, ?_⟩
              first | exact ⟨bT (by simp only [dmgP] at *; omega), hM3.upd⟩ | exact ⟨bF (by simp only [dmgP] at *; omega), hM3.upd⟩ | exact ⟨bP (by simp only [dmgP] at *; omega), hM3.upd⟩

/-- winnowref16.damage -/
theorem refdamage_ok (f : Flt) (w : World) (hf : f.ok) : Calls Try.prog 58 [.agg (fltC f).toArray].toArray w (Rt fun r w' => r = .bool (decide (dmgP f)) ∧ Upd [] w w') := by
  have hM0 : Mem w [] w [] := Mem.nil w []
  have hf0 := hf
  simp only [Flt.ok, inK] at hf
  refine calls_vc mixed Try.func58 rfl C58 (by simp [Try.ntmps58]) ?_
  refine seq fun K1 h1 => ?_
  refine m_bx (v := .agg ([.int .i64 f.kind, .int .i64 f.tk, .int .i64 f.task, .int .i64 f.att, .int .i64 f.mom, .int .i64 f.rd, .int .i64 f.at_, .int .u32 f.mask] : List Value).toArray) hM0 rfl rfl fun b2 w3 (hM3 : Mem w [] w3 [[⟨b2, 25, [.int .i64 f.kind, .int .i64 f.tk, .int .i64 f.task, .int .i64 f.att, .int .i64 f.mom, .int .i64 f.rd, .int .i64 f.at_, .int .u32 f.mask]⟩]]) => ?_
  refine stp (v := .bool false) (o_mv rfl) ?_
  refine h1 _ _ ?_
  clear h1
  refine seq fun K4 h4 => ?_
  refine seq fun K5 h5 => ?_
  refine stp (v := .pointer (some ⟨b2, 1, none⟩)) (o_fa rfl rfl) ?_
  refine m_ld (v := .int .i64 f.tk) hM3 (i := 0) (j := 0) rfl rfl rfl rfl ?_
  refine stp (v := .bool (decide (¬ f.tk = 0))) (o_bin rfl rfl v_neq) ?_
  refine stp (v := .bool (decide (¬ f.tk = 0))) (o_mv rfl) ?_
  refine splitP rfl (fun c6 => ?_) (fun c6 => ?_)
  ·
    refine gno rfl (by simp) ?_
    refine gnol rfl (by simp) ?_
    refine gno rfl (by simp) ?_
    refine stp (v := .bool true) (o_pickT rfl rfl) ?_
    refine stp (v := .bool true) (o_mv rfl) ?_
    refine splitT rfl ?_
    refine gno rfl (by simp) ?_
    refine gnol rfl (by simp) ?_
    refine gno rfl (by simp) ?_
    refine stp (v := .bool true) (o_pickT rfl rfl) ?_
    refine stp (v := .bool true) (o_mv rfl) ?_
    refine splitT rfl ?_
    refine gno rfl (by simp) ?_
    refine gnol rfl (by simp) ?_
    refine gno rfl (by simp) ?_
    refine stp (v := .bool true) (o_pickT rfl rfl) ?_
    refine stp (v := .bool true) (o_mv rfl) ?_
    refine splitT rfl ?_
    refine gno rfl (by simp) ?_
    refine gnol rfl (by simp) ?_
    refine gno rfl (by simp) ?_
    refine stp (v := .bool true) (o_pickT rfl rfl) ?_
    refine stp (v := .bool true) (o_mv rfl) ?_
    refine splitT rfl ?_
    refine gno rfl (by simp) ?_
    refine gnol rfl (by simp) ?_
    refine gno rfl (by simp) ?_
    refine stp (v := .bool true) (o_pickT rfl rfl) ?_
    refine h5 _ _ ?_
    clear h5
    refine cndT rfl ?_
    refine seq fun K7 h7 => ?_
    refine stp (v := .bool false) (o_mv rfl) ?_
    refine h7 _ _ ?_
    clear h7
    refine ⟨(.bool false), rfl, ?_⟩
    first | exact ⟨bT (by simp only [dmgP] at *; omega), hM3.upd⟩ | exact ⟨bF (by simp only [dmgP] at *; omega), hM3.upd⟩ | exact ⟨bP (by simp only [dmgP] at *; omega), hM3.upd⟩
  ·
    refine stg rfl (v := .pointer (some ⟨b2, 2, none⟩)) (o_fa rfl rfl) ?_
    refine gyesl rfl ?_
    refine m_ld (v := .int .i64 f.task) hM3 (i := 0) (j := 0) rfl rfl rfl rfl ?_
    refine stg rfl (v := .bool (decide ((256 : Int) ≤ f.task))) (o_bin rfl rfl rfl) ?_
    refine stp (v := .bool (decide ((256 : Int) ≤ f.task))) (o_pickF rfl rfl) ?_
    refine stp (v := .bool (decide ((256 : Int) ≤ f.task))) (o_mv rfl) ?_
    refine splitP rfl (fun c8 => ?_) (fun c8 => ?_)
    ·
      refine gno rfl (by simp) ?_
      refine gnol rfl (by simp) ?_
      refine gno rfl (by simp) ?_
      refine stp (v := .bool true) (o_pickT rfl rfl) ?_
      refine stp (v := .bool true) (o_mv rfl) ?_
      refine splitT rfl ?_
      refine gno rfl (by simp) ?_
      refine gnol rfl (by simp) ?_
      refine gno rfl (by simp) ?_
      refine stp (v := .bool true) (o_pickT rfl rfl) ?_
      refine stp (v := .bool true) (o_mv rfl) ?_
      refine splitT rfl ?_
      refine gno rfl (by simp) ?_
      refine gnol rfl (by simp) ?_
      refine gno rfl (by simp) ?_
      refine stp (v := .bool true) (o_pickT rfl rfl) ?_
      refine stp (v := .bool true) (o_mv rfl) ?_
      refine splitT rfl ?_
      refine gno rfl (by simp) ?_
      refine gnol rfl (by simp) ?_
      refine gno rfl (by simp) ?_
      refine stp (v := .bool true) (o_pickT rfl rfl) ?_
      refine h5 _ _ ?_
      clear h5
      refine cndT rfl ?_
      refine seq fun K9 h9 => ?_
      refine stp (v := .bool false) (o_mv rfl) ?_
      refine h9 _ _ ?_
      clear h9
      refine ⟨(.bool false), rfl, ?_⟩
      first | exact ⟨bT (by simp only [dmgP] at *; omega), hM3.upd⟩ | exact ⟨bF (by simp only [dmgP] at *; omega), hM3.upd⟩ | exact ⟨bP (by simp only [dmgP] at *; omega), hM3.upd⟩
    ·
      refine stg rfl (v := .pointer (some ⟨b2, 4, none⟩)) (o_fa rfl rfl) ?_
      refine gyesl rfl ?_
      refine m_ld (v := .int .i64 f.mom) hM3 (i := 0) (j := 0) rfl rfl rfl rfl ?_
      refine stg rfl (v := .bool (decide (f.mom < 0))) (o_bin rfl rfl rfl) ?_
      refine stp (v := .bool (decide (f.mom < 0))) (o_pickF rfl rfl) ?_
      refine stp (v := .bool (decide (f.mom < 0))) (o_mv rfl) ?_
      refine splitP rfl (fun c10 => ?_) (fun c10 => ?_)
      ·
        refine gno rfl (by simp) ?_
        refine gnol rfl (by simp) ?_
        refine gno rfl (by simp) ?_
        refine stp (v := .bool true) (o_pickT rfl rfl) ?_
        refine stp (v := .bool true) (o_mv rfl) ?_
        refine splitT rfl ?_
        refine gno rfl (by simp) ?_
        refine gnol rfl (by simp) ?_
        refine gno rfl (by simp) ?_
        refine stp (v := .bool true) (o_pickT rfl rfl) ?_
        refine stp (v := .bool true) (o_mv rfl) ?_
        refine splitT rfl ?_
        refine gno rfl (by simp) ?_
        refine gnol rfl (by simp) ?_
        refine gno rfl (by simp) ?_
        refine stp (v := .bool true) (o_pickT rfl rfl) ?_
        refine h5 _ _ ?_
        clear h5
        refine cndT rfl ?_
        refine seq fun K11 h11 => ?_
        refine stp (v := .bool false) (o_mv rfl) ?_
        refine h11 _ _ ?_
        clear h11
        refine ⟨(.bool false), rfl, ?_⟩
        first | exact ⟨bT (by simp only [dmgP] at *; omega), hM3.upd⟩ | exact ⟨bF (by simp only [dmgP] at *; omega), hM3.upd⟩ | exact ⟨bP (by simp only [dmgP] at *; omega), hM3.upd⟩
      ·
        refine stg rfl (v := .pointer (some ⟨b2, 4, none⟩)) (o_fa rfl rfl) ?_
        refine gyesl rfl ?_
        refine m_ld (v := .int .i64 f.mom) hM3 (i := 0) (j := 0) rfl rfl rfl rfl ?_
        refine stg rfl (v := .bool (decide ((2 : Int) < f.mom))) (o_bin rfl rfl rfl) ?_
        refine stp (v := .bool (decide ((2 : Int) < f.mom))) (o_pickF rfl rfl) ?_
        refine stp (v := .bool (decide ((2 : Int) < f.mom))) (o_mv rfl) ?_
        refine splitP rfl (fun c12 => ?_) (fun c12 => ?_)
        ·
          refine gno rfl (by simp) ?_
          refine gnol rfl (by simp) ?_
          refine gno rfl (by simp) ?_
          refine stp (v := .bool true) (o_pickT rfl rfl) ?_
          refine stp (v := .bool true) (o_mv rfl) ?_
          refine splitT rfl ?_
          refine gno rfl (by simp) ?_
          refine gnol rfl (by simp) ?_
          refine gno rfl (by simp) ?_
          refine stp (v := .bool true) (o_pickT rfl rfl) ?_
          refine h5 _ _ ?_
          clear h5
          refine cndT rfl ?_
          refine seq fun K13 h13 => ?_
          refine stp (v := .bool false) (o_mv rfl) ?_
          refine h13 _ _ ?_
          clear h13
          refine ⟨(.bool false), rfl, ?_⟩
          first | exact ⟨bT (by simp only [dmgP] at *; omega), hM3.upd⟩ | exact ⟨bF (by simp only [dmgP] at *; omega), hM3.upd⟩ | exact ⟨bP (by simp only [dmgP] at *; omega), hM3.upd⟩
        ·
          refine stg rfl (v := .pointer (some ⟨b2, 5, none⟩)) (o_fa rfl rfl) ?_
          refine gyesl rfl ?_
          refine m_ld (v := .int .i64 f.rd) hM3 (i := 0) (j := 0) rfl rfl rfl rfl ?_
          refine stg rfl (v := .bool (decide (f.rd < 0))) (o_bin rfl rfl rfl) ?_
          refine stp (v := .bool (decide (f.rd < 0))) (o_pickF rfl rfl) ?_
          refine stp (v := .bool (decide (f.rd < 0))) (o_mv rfl) ?_
          refine splitP rfl (fun c14 => ?_) (fun c14 => ?_)
          ·
            refine gno rfl (by simp) ?_
            refine gnol rfl (by simp) ?_
            refine gno rfl (by simp) ?_
            refine stp (v := .bool true) (o_pickT rfl rfl) ?_
            refine h5 _ _ ?_
            clear h5
            refine cndT rfl ?_
            refine seq fun K15 h15 => ?_
            refine stp (v := .bool false) (o_mv rfl) ?_
            refine h15 _ _ ?_
            clear h15
            refine ⟨(.bool false), rfl, ?_⟩
            first | exact ⟨bT (by simp only [dmgP] at *; omega), hM3.upd⟩ | exact ⟨bF (by simp only [dmgP] at *; omega), hM3.upd⟩ | exact ⟨bP (by simp only [dmgP] at *; omega), hM3.upd⟩
          ·
            refine stg rfl (v := .pointer (some ⟨b2, 5, none⟩)) (o_fa rfl rfl) ?_
            refine gyesl rfl ?_
            refine m_ld (v := .int .i64 f.rd) hM3 (i := 0) (j := 0) rfl rfl rfl rfl ?_
            refine stg rfl (v := .bool (decide ((65535 : Int) ≤ f.rd))) (o_bin rfl rfl rfl) ?_
            refine stp (v := .bool (decide ((65535 : Int) ≤ f.rd))) (o_pickF rfl rfl) ?_
            refine h5 _ _ ?_
            clear h5
            refine cndP rfl (fun c16 => ?_) (fun c16 => ?_)
            ·
              refine seq fun K17 h17 => ?_
              refine stp (v := .bool false) (o_mv rfl) ?_
              refine h17 _ _ ?_
              clear h17
              refine ⟨(.bool false), rfl, ?_⟩
              first | exact ⟨bT (by simp only [dmgP] at *; omega), hM3.upd⟩ | exact ⟨bF (by simp only [dmgP] at *; omega), hM3.upd⟩ | exact ⟨bP (by simp only [dmgP] at *; omega), hM3.upd⟩
            ·
              refine h4 _ _ ?_
              clear h4
              refine seq fun K18 h18 => ?_
              refine stp (v := .pointer (some ⟨b2, 4, none⟩)) (o_fa rfl rfl) ?_
              refine m_ld (v := .int .i64 f.mom) hM3 (i := 0) (j := 0) rfl rfl rfl rfl ?_
              refine stp (v := .bool (decide (f.mom = 2))) (o_bin rfl rfl rfl) ?_
              refine stp (v := .bool (decide (f.mom = 2))) (o_mv rfl) ?_
              refine splitP rfl (fun c19 => ?_) (fun c19 => ?_)
              ·
                refine gno rfl (by simp) ?_
                refine gnol rfl (by simp) ?_
                refine gno rfl (by simp) ?_
                refine stp (v := .bool true) (o_pickT rfl rfl) ?_
                refine stp (v := .bool true) (o_mv rfl) ?_
                refine h18 _ _ ?_
                clear h18
                refine ⟨(.bool true), rfl, ?_⟩
                first | exact ⟨bT (by simp only [dmgP] at *; omega), hM3.upd⟩ | exact ⟨bF (by simp only [dmgP] at *; omega), hM3.upd⟩ | exact ⟨bP (by simp only [dmgP] at *; omega), hM3.upd⟩
              ·
                refine stg rfl (v := .pointer (some ⟨b2, 5, none⟩)) (o_fa rfl rfl) ?_
                refine gyesl rfl ?_
                refine m_ld (v := .int .i64 f.rd) hM3 (i := 0) (j := 0) rfl rfl rfl rfl ?_
                refine stg rfl (v := .bool (decide (f.rd = 0))) (o_bin rfl rfl rfl) ?_
                refine stp (v := .bool (decide (f.rd = 0))) (o_pickF rfl rfl) ?_
                refine stp (v := .bool (decide (f.rd = 0))) (o_mv rfl) ?_
                refine h18 _ _ ?_
                clear h18
                refine ⟨(.bool (decide (f.rd = 0))), rfl, ?_⟩
                first | exact ⟨bT (by simp only [dmgP] at *; omega), hM3.upd⟩ | exact ⟨bF (by simp only [dmgP] at *; omega), hM3.upd⟩ | exact ⟨bP (by simp only [dmgP] at *; omega), hM3.upd⟩

/-- winnowref16.stop -/
theorem refstop_ok (f : Flt) (w : World) (hf : f.ok) : Calls Try.prog 57 [.agg (fltC f).toArray].toArray w (Rt fun r w' => r = .bool (decide (stopP f)) ∧ Upd [] w w') := by
  have hM0 : Mem w [] w [] := Mem.nil w []
  have hf0 := hf
  simp only [Flt.ok, inK] at hf
  refine calls_vc mixed Try.func57 rfl C57 (by simp [Try.ntmps57]) ?_
  refine seq fun K1 h1 => ?_
  refine m_bx (v := .agg ([.int .i64 f.kind, .int .i64 f.tk, .int .i64 f.task, .int .i64 f.att, .int .i64 f.mom, .int .i64 f.rd, .int .i64 f.at_, .int .u32 f.mask] : List Value).toArray) hM0 rfl rfl fun b2 w3 (hM3 : Mem w [] w3 [[⟨b2, 25, [.int .i64 f.kind, .int .i64 f.tk, .int .i64 f.task, .int .i64 f.att, .int .i64 f.mom, .int .i64 f.rd, .int .i64 f.at_, .int .u32 f.mask]⟩]]) => ?_
  refine stp (v := .bool false) (o_mv rfl) ?_
  refine h1 _ _ ?_
  clear h1
  refine seq fun K4 h4 => ?_
  refine seq fun K5 h5 => ?_
  refine stp (v := .pointer (some ⟨b2, 1, none⟩)) (o_fa rfl rfl) ?_
  refine m_ld (v := .int .i64 f.tk) hM3 (i := 0) (j := 0) rfl rfl rfl rfl ?_
  refine stp (v := .bool (decide (¬ f.tk = 0))) (o_bin rfl rfl v_neq) ?_
  refine stp (v := .bool (decide (¬ f.tk = 0))) (o_mv rfl) ?_
  refine splitP rfl (fun c6 => ?_) (fun c6 => ?_)
  ·
    refine stg rfl (v := .pointer (some ⟨b2, 1, none⟩)) (o_fa rfl rfl) ?_
    refine gyesl rfl ?_
    refine m_ld (v := .int .i64 f.tk) hM3 (i := 0) (j := 0) rfl rfl rfl rfl ?_
    refine stg rfl (v := .bool (decide (¬ f.tk = 1))) (o_bin rfl rfl v_neq) ?_
    refine stp (v := .bool (decide (¬ f.tk = 1))) (o_pickT rfl rfl) ?_
    refine stp (v := .bool (decide (¬ f.tk = 1))) (o_mv rfl) ?_
    refine splitP rfl (fun c7 => ?_) (fun c7 => ?_)
    ·
      refine gno rfl (by simp) ?_
      refine gnol rfl (by simp) ?_
      refine gno rfl (by simp) ?_
      refine stp (v := .bool true) (o_pickT rfl rfl) ?_
      refine stp (v := .bool true) (o_mv rfl) ?_
      refine splitT rfl ?_
      refine gno rfl (by simp) ?_
      refine gnol rfl (by simp) ?_
      refine gno rfl (by simp) ?_
      refine stp (v := .bool true) (o_pickT rfl rfl) ?_
      refine stp (v := .bool true) (o_mv rfl) ?_
      refine splitT rfl ?_
      refine gno rfl (by simp) ?_
      refine gnol rfl (by simp) ?_
      refine gno rfl (by simp) ?_
      refine stp (v := .bool true) (o_pickT rfl rfl) ?_
      refine stp (v := .bool true) (o_mv rfl) ?_
      refine splitT rfl ?_
      refine gno rfl (by simp) ?_
      refine gnol rfl (by simp) ?_
      refine gno rfl (by simp) ?_
      refine stp (v := .bool true) (o_pickT rfl rfl) ?_
      refine h5 _ _ ?_
      clear h5
      refine cndT rfl ?_
      refine seq fun K8 h8 => ?_
      refine stp (v := .bool false) (o_mv rfl) ?_
      refine h8 _ _ ?_
      clear h8
      refine ⟨(.bool false), rfl, ?_⟩
      first | exact ⟨bT (by simp only [stopP] at *; omega), hM3.upd⟩ | exact ⟨bF (by simp only [stopP] at *; omega), hM3.upd⟩ | exact ⟨bP (by simp only [stopP] at *; omega), hM3.upd⟩
    ·
      refine stg rfl (v := .pointer (some ⟨b2, 4, none⟩)) (o_fa rfl rfl) ?_
      refine gyesl rfl ?_
      refine m_ld (v := .int .i64 f.mom) hM3 (i := 0) (j := 0) rfl rfl rfl rfl ?_
      refine stg rfl (v := .bool (decide (¬ f.mom = 0))) (o_bin rfl rfl v_neq) ?_
      refine stp (v := .bool (decide (¬ f.mom = 0))) (o_pickF rfl rfl) ?_
      refine stp (v := .bool (decide (¬ f.mom = 0))) (o_mv rfl) ?_
      refine splitP rfl (fun c9 => ?_) (fun c9 => ?_)
      ·
        refine gno rfl (by simp) ?_
        refine gnol rfl (by simp) ?_
        refine gno rfl (by simp) ?_
        refine stp (v := .bool true) (o_pickT rfl rfl) ?_
        refine stp (v := .bool true) (o_mv rfl) ?_
        refine splitT rfl ?_
        refine gno rfl (by simp) ?_
        refine gnol rfl (by simp) ?_
        refine gno rfl (by simp) ?_
        refine stp (v := .bool true) (o_pickT rfl rfl) ?_
        refine stp (v := .bool true) (o_mv rfl) ?_
        refine splitT rfl ?_
        refine gno rfl (by simp) ?_
        refine gnol rfl (by simp) ?_
        refine gno rfl (by simp) ?_
        refine stp (v := .bool true) (o_pickT rfl rfl) ?_
        refine h5 _ _ ?_
        clear h5
        refine cndT rfl ?_
        refine seq fun K10 h10 => ?_
        refine stp (v := .bool false) (o_mv rfl) ?_
        refine h10 _ _ ?_
        clear h10
        refine ⟨(.bool false), rfl, ?_⟩
        first | exact ⟨bT (by simp only [stopP] at *; omega), hM3.upd⟩ | exact ⟨bF (by simp only [stopP] at *; omega), hM3.upd⟩ | exact ⟨bP (by simp only [stopP] at *; omega), hM3.upd⟩
      ·
        refine stg rfl (v := .pointer (some ⟨b2, 5, none⟩)) (o_fa rfl rfl) ?_
        refine gyesl rfl ?_
        refine m_ld (v := .int .i64 f.rd) hM3 (i := 0) (j := 0) rfl rfl rfl rfl ?_
        refine stg rfl (v := .bool (decide (¬ f.rd = 0))) (o_bin rfl rfl v_neq) ?_
        refine stp (v := .bool (decide (¬ f.rd = 0))) (o_pickF rfl rfl) ?_
        refine stp (v := .bool (decide (¬ f.rd = 0))) (o_mv rfl) ?_
        refine splitP rfl (fun c11 => ?_) (fun c11 => ?_)
        ·
          refine gno rfl (by simp) ?_
          refine gnol rfl (by simp) ?_
          refine gno rfl (by simp) ?_
          refine stp (v := .bool true) (o_pickT rfl rfl) ?_
          refine stp (v := .bool true) (o_mv rfl) ?_
          refine splitT rfl ?_
          refine gno rfl (by simp) ?_
          refine gnol rfl (by simp) ?_
          refine gno rfl (by simp) ?_
          refine stp (v := .bool true) (o_pickT rfl rfl) ?_
          refine h5 _ _ ?_
          clear h5
          refine cndT rfl ?_
          refine seq fun K12 h12 => ?_
          refine stp (v := .bool false) (o_mv rfl) ?_
          refine h12 _ _ ?_
          clear h12
          refine ⟨(.bool false), rfl, ?_⟩
          first | exact ⟨bT (by simp only [stopP] at *; omega), hM3.upd⟩ | exact ⟨bF (by simp only [stopP] at *; omega), hM3.upd⟩ | exact ⟨bP (by simp only [stopP] at *; omega), hM3.upd⟩
        ·
          refine stg rfl (v := .pointer (some ⟨b2, 7, none⟩)) (o_fa rfl rfl) ?_
          refine gyesl rfl ?_
          refine m_ld (v := .int .u32 f.mask) hM3 (i := 0) (j := 0) rfl rfl rfl rfl ?_
          refine stg rfl (v := .bool (decide (¬ f.mask = 0))) (o_bin rfl rfl v_neq) ?_
          refine stp (v := .bool (decide (¬ f.mask = 0))) (o_pickF rfl rfl) ?_
          refine stp (v := .bool (decide (¬ f.mask = 0))) (o_mv rfl) ?_
          refine splitP rfl (fun c13 => ?_) (fun c13 => ?_)
          ·
            refine gno rfl (by simp) ?_
            refine gnol rfl (by simp) ?_
            refine gno rfl (by simp) ?_
            refine stp (v := .bool true) (o_pickT rfl rfl) ?_
            refine h5 _ _ ?_
            clear h5
            refine cndT rfl ?_
            refine seq fun K14 h14 => ?_
            refine stp (v := .bool false) (o_mv rfl) ?_
            refine h14 _ _ ?_
            clear h14
            refine ⟨(.bool false), rfl, ?_⟩
            first | exact ⟨bT (by simp only [stopP] at *; omega), hM3.upd⟩ | exact ⟨bF (by simp only [stopP] at *; omega), hM3.upd⟩ | exact ⟨bP (by simp only [stopP] at *; omega), hM3.upd⟩
          ·
            refine stg rfl (v := .pointer (some ⟨b2, 6, none⟩)) (o_fa rfl rfl) ?_
            refine gyesl rfl ?_
            refine m_ld (v := .int .i64 f.at_) hM3 (i := 0) (j := 0) rfl rfl rfl rfl ?_
            refine stg rfl (v := .bool (decide (f.at_ < 0))) (o_bin rfl rfl rfl) ?_
            refine stp (v := .bool (decide (f.at_ < 0))) (o_pickF rfl rfl) ?_
            refine h5 _ _ ?_
            clear h5
            refine cndP rfl (fun c15 => ?_) (fun c15 => ?_)
            ·
              refine seq fun K16 h16 => ?_
              refine stp (v := .bool false) (o_mv rfl) ?_
              refine h16 _ _ ?_
              clear h16
              refine ⟨(.bool false), rfl, ?_⟩
              first | exact ⟨bT (by simp only [stopP] at *; omega), hM3.upd⟩ | exact ⟨bF (by simp only [stopP] at *; omega), hM3.upd⟩ | exact ⟨bP (by simp only [stopP] at *; omega), hM3.upd⟩
            ·
              refine h4 _ _ ?_
              clear h4
              refine seq fun K17 h17 => ?_
              refine stp (v := .pointer (some ⟨b2, 1, none⟩)) (o_fa rfl rfl) ?_
              refine m_ld (v := .int .i64 f.tk) hM3 (i := 0) (j := 0) rfl rfl rfl rfl ?_
              refine stp (v := .bool (decide (f.tk = 0))) (o_bin rfl rfl rfl) ?_
              refine stp (v := .bool (decide (f.tk = 0))) (o_mv rfl) ?_
              refine splitP rfl (fun c18 => ?_) (fun c18 => ?_)
              ·
                refine stg rfl (v := .pointer (some ⟨b2, 2, none⟩)) (o_fa rfl rfl) ?_
                refine gyesl rfl ?_
                refine m_ld (v := .int .i64 f.task) hM3 (i := 0) (j := 0) rfl rfl rfl rfl ?_
                refine stg rfl (v := .bool (decide (f.task < 256))) (o_bin rfl rfl rfl) ?_
                refine stp (v := .bool (decide (f.task < 256))) (o_pickT rfl rfl) ?_
                refine stp (v := .bool (decide (f.task < 256))) (o_mv rfl) ?_
                refine splitP rfl (fun c19 => ?_) (fun c19 => ?_)
                ·
                  refine gno rfl (by simp) ?_
                  refine gnol rfl (by simp) ?_
                  refine gno rfl (by simp) ?_
                  refine gno rfl (by simp) ?_
                  refine splitU rfl ?_
                  refine gnou rfl ?_
                  refine gnolu rfl ?_
                  refine gnou rfl ?_
                  refine gno rfl (by simp) ?_
                  refine stp (v := .bool true) (o_pickT rfl rfl) ?_
                  refine stp (v := .bool true) (o_mv rfl) ?_
                  refine h17 _ _ ?_
                  clear h17
                  refine ⟨(.bool true), rfl, ?_⟩
                  first | exact ⟨bT (by simp only [stopP] at *; omega), hM3.upd⟩ | exact ⟨bF (by simp only [stopP] at *; omega), hM3.upd⟩ | exact ⟨bP (by simp only [stopP] at *; omega), hM3.upd⟩
                ·
                  refine stg rfl (v := .pointer (some ⟨b2, 1, none⟩)) (o_fa rfl rfl) ?_
                  refine gyesl rfl ?_
                  refine m_ld (v := .int .i64 f.tk) hM3 (i := 0) (j := 0) rfl rfl rfl rfl ?_
                  refine stg rfl (v := .bool (decide (f.tk = 1))) (o_bin rfl rfl rfl) ?_
                  refine stg rfl (v := .bool (decide (f.tk = 1))) (o_mv rfl) ?_
                  refine splitP rfl (fun c20 => ?_) (fun c20 => ?_)
                  ·
                    refine stg rfl (v := .pointer (some ⟨b2, 2, none⟩)) (o_fa rfl rfl) ?_
                    refine gyesl rfl ?_
                    refine m_ld (v := .int .i64 f.task) hM3 (i := 0) (j := 0) rfl rfl rfl rfl ?_
                    refine stg rfl (v := .bool (decide (f.task < 65535))) (o_bin rfl rfl rfl) ?_
                    refine stg rfl (v := .bool (decide (f.task < 65535))) (o_pickT rfl rfl) ?_
                    refine stp (v := .bool (decide (f.task < 65535))) (o_pickF rfl rfl) ?_
                    refine stp (v := .bool (decide (f.task < 65535))) (o_mv rfl) ?_
                    refine h17 _ _ ?_
                    clear h17
                    refine ⟨(.bool (decide (f.task < 65535))), rfl, ?_⟩
                    first | exact ⟨bT (by simp only [stopP] at *; omega), hM3.upd⟩ | exact ⟨bF (by simp only [stopP] at *; omega), hM3.upd⟩ | exact ⟨bP (by simp only [stopP] at *; omega), hM3.upd⟩
                  ·
                    refine gno rfl (by simp) ?_
                    refine gnol rfl (by simp) ?_
                    refine gno rfl (by simp) ?_
                    refine stg rfl (v := .bool false) (o_pickF rfl rfl) ?_
                    refine stp (v := .bool false) (o_pickF rfl rfl) ?_
                    refine stp (v := .bool false) (o_mv rfl) ?_
                    refine h17 _ _ ?_
                    clear h17
                    refine ⟨(.bool false), rfl, ?_⟩
                    first | exact ⟨bT (by simp only [stopP] at *; omega), hM3.upd⟩ | exact ⟨bF (by simp only [stopP] at *; omega), hM3.upd⟩ | exact ⟨bP (by simp only [stopP] at *; omega), hM3.upd⟩
              ·
                refine gno rfl (by simp) ?_
                refine gnol rfl (by simp) ?_
                refine gno rfl (by simp) ?_
                refine stp (v := .bool false) (o_pickF rfl rfl) ?_
                refine stp (v := .bool false) (o_mv rfl) ?_
                refine splitF rfl ?_
                refine stg rfl (v := .pointer (some ⟨b2, 1, none⟩)) (o_fa rfl rfl) ?_
                refine gyesl rfl ?_
                refine m_ld (v := .int .i64 f.tk) hM3 (i := 0) (j := 0) rfl rfl rfl rfl ?_
                refine stg rfl (v := .bool (decide (f.tk = 1))) (o_bin rfl rfl rfl) ?_
                refine stg rfl (v := .bool (decide (f.tk = 1))) (o_mv rfl) ?_
                refine splitP rfl (fun c21 => ?_) (fun c21 => ?_)
                ·
                  refine stg rfl (v := .pointer (some ⟨b2, 2, none⟩)) (o_fa rfl rfl) ?_
                  refine gyesl rfl ?_
                  refine m_ld (v := .int .i64 f.task) hM3 (i := 0) (j := 0) rfl rfl rfl rfl ?_
                  refine stg rfl (v := .bool (decide (f.task < 65535))) (o_bin rfl rfl rfl) ?_
                  refine stg rfl (v := .bool (decide (f.task < 65535))) (o_pickT rfl rfl) ?_
                  refine stp (v := .bool (decide (f.task < 65535))) (o_pickF rfl rfl) ?_
                  refine stp (v := .bool (decide (f.task < 65535))) (o_mv rfl) ?_
                  refine h17 _ _ ?_
                  clear h17
                  refine ⟨(.bool (decide (f.task < 65535))), rfl, ?_⟩
                  first | exact ⟨bT (by simp only [stopP] at *; omega), hM3.upd⟩ | exact ⟨bF (by simp only [stopP] at *; omega), hM3.upd⟩ | exact ⟨bP (by simp only [stopP] at *; omega), hM3.upd⟩
                ·
                  refine gno rfl (by simp) ?_
                  refine gnol rfl (by simp) ?_
                  refine gno rfl (by simp) ?_
                  refine stg rfl (v := .bool false) (o_pickF rfl rfl) ?_
                  refine stp (v := .bool false) (o_pickF rfl rfl) ?_
                  refine stp (v := .bool false) (o_mv rfl) ?_
                  refine h17 _ _ ?_
                  clear h17
                  refine ⟨(.bool false), rfl, ?_⟩
                  first | exact ⟨bT (by simp only [stopP] at *; omega), hM3.upd⟩ | exact ⟨bF (by simp only [stopP] at *; omega), hM3.upd⟩ | exact ⟨bP (by simp only [stopP] at *; omega), hM3.upd⟩
  ·
    refine gno rfl (by simp) ?_
    refine gnol rfl (by simp) ?_
    refine gno rfl (by simp) ?_
    refine stp (v := .bool false) (o_pickF rfl rfl) ?_
    refine stp (v := .bool false) (o_mv rfl) ?_
    refine splitF rfl ?_
    refine stg rfl (v := .pointer (some ⟨b2, 4, none⟩)) (o_fa rfl rfl) ?_
    refine gyesl rfl ?_
    refine m_ld (v := .int .i64 f.mom) hM3 (i := 0) (j := 0) rfl rfl rfl rfl ?_
    refine stg rfl (v := .bool (decide (¬ f.mom = 0))) (o_bin rfl rfl v_neq) ?_
    refine stp (v := .bool (decide (¬ f.mom = 0))) (o_pickF rfl rfl) ?_
    refine stp (v := .bool (decide (¬ f.mom = 0))) (o_mv rfl) ?_
    refine splitP rfl (fun c22 => ?_) (fun c22 => ?_)
    ·
      refine gno rfl (by simp) ?_
      refine gnol rfl (by simp) ?_
      refine gno rfl (by simp) ?_
      refine stp (v := .bool true) (o_pickT rfl rfl) ?_
      refine stp (v := .bool true) (o_mv rfl) ?_
      refine splitT rfl ?_
      refine gno rfl (by simp) ?_
      refine gnol rfl (by simp) ?_
      refine gno rfl (by simp) ?_
      refine stp (v := .bool true) (o_pickT rfl rfl) ?_
      refine stp (v := .bool true) (o_mv rfl) ?_
      refine splitT rfl ?_
      refine gno rfl (by simp) ?_
      refine gnol rfl (by simp) ?_
      refine gno rfl (by simp) ?_
      refine stp (v := .bool true) (o_pickT rfl rfl) ?_
      refine h5 _ _ ?_
      clear h5
      refine cndT rfl ?_
      refine seq fun K23 h23 => ?_
      refine stp (v := .bool false) (o_mv rfl) ?_
      refine h23 _ _ ?_
      clear h23
      refine ⟨(.bool false), rfl, ?_⟩
      first | exact ⟨bT (by simp only [stopP] at *; omega), hM3.upd⟩ | exact ⟨bF (by simp only [stopP] at *; omega), hM3.upd⟩ | exact ⟨bP (by simp only [stopP] at *; omega), hM3.upd⟩
    ·
      refine stg rfl (v := .pointer (some ⟨b2, 5, none⟩)) (o_fa rfl rfl) ?_
      refine gyesl rfl ?_
      refine m_ld (v := .int .i64 f.rd) hM3 (i := 0) (j := 0) rfl rfl rfl rfl ?_
      refine stg rfl (v := .bool (decide (¬ f.rd = 0))) (o_bin rfl rfl v_neq) ?_
      refine stp (v := .bool (decide (¬ f.rd = 0))) (o_pickF rfl rfl) ?_
      refine stp (v := .bool (decide (¬ f.rd = 0))) (o_mv rfl) ?_
      refine splitP rfl (fun c24 => ?_) (fun c24 => ?_)
      ·
        refine gno rfl (by simp) ?_
        refine gnol rfl (by simp) ?_
        refine gno rfl (by simp) ?_
        refine stp (v := .bool true) (o_pickT rfl rfl) ?_
        refine stp (v := .bool true) (o_mv rfl) ?_
        refine splitT rfl ?_
        refine gno rfl (by simp) ?_
        refine gnol rfl (by simp) ?_
        refine gno rfl (by simp) ?_
        refine stp (v := .bool true) (o_pickT rfl rfl) ?_
        refine h5 _ _ ?_
        clear h5
        refine cndT rfl ?_
        refine seq fun K25 h25 => ?_
        refine stp (v := .bool false) (o_mv rfl) ?_
        refine h25 _ _ ?_
        clear h25
        refine ⟨(.bool false), rfl, ?_⟩
        first | exact ⟨bT (by simp only [stopP] at *; omega), hM3.upd⟩ | exact ⟨bF (by simp only [stopP] at *; omega), hM3.upd⟩ | exact ⟨bP (by simp only [stopP] at *; omega), hM3.upd⟩
      ·
        refine stg rfl (v := .pointer (some ⟨b2, 7, none⟩)) (o_fa rfl rfl) ?_
        refine gyesl rfl ?_
        refine m_ld (v := .int .u32 f.mask) hM3 (i := 0) (j := 0) rfl rfl rfl rfl ?_
        refine stg rfl (v := .bool (decide (¬ f.mask = 0))) (o_bin rfl rfl v_neq) ?_
        refine stp (v := .bool (decide (¬ f.mask = 0))) (o_pickF rfl rfl) ?_
        refine stp (v := .bool (decide (¬ f.mask = 0))) (o_mv rfl) ?_
        refine splitP rfl (fun c26 => ?_) (fun c26 => ?_)
        ·
          refine gno rfl (by simp) ?_
          refine gnol rfl (by simp) ?_
          refine gno rfl (by simp) ?_
          refine stp (v := .bool true) (o_pickT rfl rfl) ?_
          refine h5 _ _ ?_
          clear h5
          refine cndT rfl ?_
          refine seq fun K27 h27 => ?_
          refine stp (v := .bool false) (o_mv rfl) ?_
          refine h27 _ _ ?_
          clear h27
          refine ⟨(.bool false), rfl, ?_⟩
          first | exact ⟨bT (by simp only [stopP] at *; omega), hM3.upd⟩ | exact ⟨bF (by simp only [stopP] at *; omega), hM3.upd⟩ | exact ⟨bP (by simp only [stopP] at *; omega), hM3.upd⟩
        ·
          refine stg rfl (v := .pointer (some ⟨b2, 6, none⟩)) (o_fa rfl rfl) ?_
          refine gyesl rfl ?_
          refine m_ld (v := .int .i64 f.at_) hM3 (i := 0) (j := 0) rfl rfl rfl rfl ?_
          refine stg rfl (v := .bool (decide (f.at_ < 0))) (o_bin rfl rfl rfl) ?_
          refine stp (v := .bool (decide (f.at_ < 0))) (o_pickF rfl rfl) ?_
          refine h5 _ _ ?_
          clear h5
          refine cndP rfl (fun c28 => ?_) (fun c28 => ?_)
          ·
            refine seq fun K29 h29 => ?_
            refine stp (v := .bool false) (o_mv rfl) ?_
            refine h29 _ _ ?_
            clear h29
            refine ⟨(.bool false), rfl, ?_⟩
            first | exact ⟨bT (by simp only [stopP] at *; omega), hM3.upd⟩ | exact ⟨bF (by simp only [stopP] at *; omega), hM3.upd⟩ | exact ⟨bP (by simp only [stopP] at *; omega), hM3.upd⟩
          ·
            refine h4 _ _ ?_
            clear h4
            refine seq fun K30 h30 => ?_
            refine stp (v := .pointer (some ⟨b2, 1, none⟩)) (o_fa rfl rfl) ?_
            refine m_ld (v := .int .i64 f.tk) hM3 (i := 0) (j := 0) rfl rfl rfl rfl ?_
            refine stp (v := .bool (decide (f.tk = 0))) (o_bin rfl rfl rfl) ?_
            refine stp (v := .bool (decide (f.tk = 0))) (o_mv rfl) ?_
            refine splitP rfl (fun c31 => ?_) (fun c31 => ?_)
            ·
              refine stg rfl (v := .pointer (some ⟨b2, 2, none⟩)) (o_fa rfl rfl) ?_
              refine gyesl rfl ?_
              refine m_ld (v := .int .i64 f.task) hM3 (i := 0) (j := 0) rfl rfl rfl rfl ?_
              refine stg rfl (v := .bool (decide (f.task < 256))) (o_bin rfl rfl rfl) ?_
              refine stp (v := .bool (decide (f.task < 256))) (o_pickT rfl rfl) ?_
              refine stp (v := .bool (decide (f.task < 256))) (o_mv rfl) ?_
              refine splitP rfl (fun c32 => ?_) (fun c32 => ?_)
              ·
                refine gno rfl (by simp) ?_
                refine gnol rfl (by simp) ?_
                refine gno rfl (by simp) ?_
                refine gno rfl (by simp) ?_
                refine splitU rfl ?_
                refine gnou rfl ?_
                refine gnolu rfl ?_
                refine gnou rfl ?_
                refine gno rfl (by simp) ?_
                refine stp (v := .bool true) (o_pickT rfl rfl) ?_
                refine stp (v := .bool true) (o_mv rfl) ?_
                refine h30 _ _ ?_
                clear h30
                refine ⟨(.bool true), rfl, ?_⟩
                first | exact ⟨bT (by simp only [stopP] at *; omega), hM3.upd⟩ | exact ⟨bF (by simp only [stopP] at *; omega), hM3.upd⟩ | exact ⟨bP (by simp only [stopP] at *; omega), hM3.upd⟩
              ·
                refine stg rfl (v := .pointer (some ⟨b2, 1, none⟩)) (o_fa rfl rfl) ?_
                refine gyesl rfl ?_
                refine m_ld (v := .int .i64 f.tk) hM3 (i := 0) (j := 0) rfl rfl rfl rfl ?_
                refine stg rfl (v := .bool (decide (f.tk = 1))) (o_bin rfl rfl rfl) ?_
                refine stg rfl (v := .bool (decide (f.tk = 1))) (o_mv rfl) ?_
                refine splitP rfl (fun c33 => ?_) (fun c33 => ?_)
                ·
                  refine stg rfl (v := .pointer (some ⟨b2, 2, none⟩)) (o_fa rfl rfl) ?_
                  refine gyesl rfl ?_
                  refine m_ld (v := .int .i64 f.task) hM3 (i := 0) (j := 0) rfl rfl rfl rfl ?_
                  refine stg rfl (v := .bool (decide (f.task < 65535))) (o_bin rfl rfl rfl) ?_
                  refine stg rfl (v := .bool (decide (f.task < 65535))) (o_pickT rfl rfl) ?_
                  refine stp (v := .bool (decide (f.task < 65535))) (o_pickF rfl rfl) ?_
                  refine stp (v := .bool (decide (f.task < 65535))) (o_mv rfl) ?_
                  refine h30 _ _ ?_
                  clear h30
                  refine ⟨(.bool (decide (f.task < 65535))), rfl, ?_⟩
                  first | exact ⟨bT (by simp only [stopP] at *; omega), hM3.upd⟩ | exact ⟨bF (by simp only [stopP] at *; omega), hM3.upd⟩ | exact ⟨bP (by simp only [stopP] at *; omega), hM3.upd⟩
                ·
                  refine gno rfl (by simp) ?_
                  refine gnol rfl (by simp) ?_
                  refine gno rfl (by simp) ?_
                  refine stg rfl (v := .bool false) (o_pickF rfl rfl) ?_
                  refine stp (v := .bool false) (o_pickF rfl rfl) ?_
                  refine stp (v := .bool false) (o_mv rfl) ?_
                  refine h30 _ _ ?_
                  clear h30
                  refine ⟨(.bool false), rfl, ?_⟩
                  first | exact ⟨bT (by simp only [stopP] at *; omega), hM3.upd⟩ | exact ⟨bF (by simp only [stopP] at *; omega), hM3.upd⟩ | exact ⟨bP (by simp only [stopP] at *; omega), hM3.upd⟩
            ·
              refine gno rfl (by simp) ?_
              refine gnol rfl (by simp) ?_
              refine gno rfl (by simp) ?_
              refine stp (v := .bool false) (o_pickF rfl rfl) ?_
              refine stp (v := .bool false) (o_mv rfl) ?_
              refine splitF rfl ?_
              refine stg rfl (v := .pointer (some ⟨b2, 1, none⟩)) (o_fa rfl rfl) ?_
              refine gyesl rfl ?_
              refine m_ld (v := .int .i64 f.tk) hM3 (i := 0) (j := 0) rfl rfl rfl rfl ?_
              refine stg rfl (v := .bool (decide (f.tk = 1))) (o_bin rfl rfl rfl) ?_
              refine stg rfl (v := .bool (decide (f.tk = 1))) (o_mv rfl) ?_
              refine splitP rfl (fun c34 => ?_) (fun c34 => ?_)
              ·
                refine stg rfl (v := .pointer (some ⟨b2, 2, none⟩)) (o_fa rfl rfl) ?_
                refine gyesl rfl ?_
                refine m_ld (v := .int .i64 f.task) hM3 (i := 0) (j := 0) rfl rfl rfl rfl ?_
                refine stg rfl (v := .bool (decide (f.task < 65535))) (o_bin rfl rfl rfl) ?_
                refine stg rfl (v := .bool (decide (f.task < 65535))) (o_pickT rfl rfl) ?_
                refine stp (v := .bool (decide (f.task < 65535))) (o_pickF rfl rfl) ?_
                refine stp (v := .bool (decide (f.task < 65535))) (o_mv rfl) ?_
                refine h30 _ _ ?_
                clear h30
                refine ⟨(.bool (decide (f.task < 65535))), rfl, ?_⟩
                first | exact ⟨bT (by simp only [stopP] at *; omega), hM3.upd⟩ | exact ⟨bF (by simp only [stopP] at *; omega), hM3.upd⟩ | exact ⟨bP (by simp only [stopP] at *; omega), hM3.upd⟩
              ·
                refine gno rfl (by simp) ?_
                refine gnol rfl (by simp) ?_
                refine gno rfl (by simp) ?_
                refine stg rfl (v := .bool false) (o_pickF rfl rfl) ?_
                refine stp (v := .bool false) (o_pickF rfl rfl) ?_
                refine stp (v := .bool false) (o_mv rfl) ?_
                refine h30 _ _ ?_
                clear h30
                refine ⟨(.bool false), rfl, ?_⟩
                first | exact ⟨bT (by simp only [stopP] at *; omega), hM3.upd⟩ | exact ⟨bF (by simp only [stopP] at *; omega), hM3.upd⟩ | exact ⟨bP (by simp only [stopP] at *; omega), hM3.upd⟩

/-- fault.right$1 -/
theorem right1_ok (f : Flt) (w : World) (hf : f.ok) : Calls Try.prog 53 [.agg (fltC f).toArray].toArray w (Rt fun r w' => r = .bool (decide (goodS f)) ∧ Upd [] w w') := by
  have hM0 : Mem w [] w [] := Mem.nil w []
  have hf0 := hf
  simp only [Flt.ok, inK] at hf
  refine calls_vc mixed Try.func53 rfl C53 (by simp [Try.ntmps53]) ?_
  refine seq fun K1 h1 => ?_
  refine m_bx (v := .agg ([.int .i64 f.kind, .int .i64 f.tk, .int .i64 f.task, .int .i64 f.att, .int .i64 f.mom, .int .i64 f.rd, .int .i64 f.at_, .int .u32 f.mask] : List Value).toArray) hM0 rfl rfl fun b2 w3 (hM3 : Mem w [] w3 [[⟨b2, 25, [.int .i64 f.kind, .int .i64 f.tk, .int .i64 f.task, .int .i64 f.att, .int .i64 f.mom, .int .i64 f.rd, .int .i64 f.at_, .int .u32 f.mask]⟩]]) => ?_
  refine stp (v := .bool false) (o_mv rfl) ?_
  refine h1 _ _ ?_
  clear h1
  refine seq fun K4 h4 => ?_
  refine stp (v := .int .i64 256) (o_mv rfl) ?_
  refine h4 _ _ ?_
  clear h4
  refine seq fun K5 h5 => ?_
  refine seq fun K6 h6 => ?_
  refine stp (v := .pointer (some ⟨b2, 1, none⟩)) (o_fa rfl rfl) ?_
  refine m_ld (v := .int .i64 f.tk) hM3 (i := 0) (j := 0) rfl rfl rfl rfl ?_
  refine stp (v := .bool (decide (f.tk = 1))) (o_bin rfl rfl rfl) ?_
  refine h6 _ _ ?_
  clear h6
  refine cndP rfl (fun c7 => ?_) (fun c7 => ?_)
  ·
    refine stp (v := .int .i64 65535) (o_mv rfl) ?_
    refine h5 _ _ ?_
    clear h5
    refine seq fun K8 h8 => ?_
    refine stp (v := .pointer (some ⟨b2, 1, none⟩)) (o_fa rfl rfl) ?_
    refine m_ld (v := .int .i64 f.tk) hM3 (i := 0) (j := 0) rfl rfl rfl rfl ?_
    refine stp (v := .bool (decide (f.tk = 0))) (o_bin rfl rfl rfl) ?_
    refine stp (v := .bool (decide (f.tk = 0))) (o_mv rfl) ?_
    refine splitP rfl (fun c9 => ?_) (fun c9 => ?_)
    ·
      refine gno rfl (by simp) ?_
      refine gnol rfl (by simp) ?_
      refine gno rfl (by simp) ?_
      refine stp (v := .bool true) (o_pickT rfl rfl) ?_
      refine stp (v := .bool true) (o_mv rfl) ?_
      refine splitT rfl ?_
      refine stg rfl (v := .pointer (some ⟨b2, 2, none⟩)) (o_fa rfl rfl) ?_
      refine gyesl rfl ?_
      refine m_ld (v := .int .i64 f.task) hM3 (i := 0) (j := 0) rfl rfl rfl rfl ?_
      refine stg rfl (v := .int .i64 65535) (o_mv rfl) ?_
      refine stg rfl (v := .bool (decide (f.task < 65535))) (o_bin rfl rfl rfl) ?_
      refine stp (v := .bool (decide (f.task < 65535))) (o_pickT rfl rfl) ?_
      refine stp (v := .bool (decide (f.task < 65535))) (o_mv rfl) ?_
      refine splitP rfl (fun c10 => ?_) (fun c10 => ?_)
      ·
        refine stg rfl (v := .pointer (some ⟨b2, 4, none⟩)) (o_fa rfl rfl) ?_
        refine gyesl rfl ?_
        refine m_ld (v := .int .i64 f.mom) hM3 (i := 0) (j := 0) rfl rfl rfl rfl ?_
        refine stg rfl (v := .bool (decide (f.mom = 0))) (o_bin rfl rfl rfl) ?_
        refine stp (v := .bool (decide (f.mom = 0))) (o_pickT rfl rfl) ?_
        refine stp (v := .bool (decide (f.mom = 0))) (o_mv rfl) ?_
        refine splitP rfl (fun c11 => ?_) (fun c11 => ?_)
        ·
          refine stg rfl (v := .pointer (some ⟨b2, 5, none⟩)) (o_fa rfl rfl) ?_
          refine gyesl rfl ?_
          refine m_ld (v := .int .i64 f.rd) hM3 (i := 0) (j := 0) rfl rfl rfl rfl ?_
          refine stg rfl (v := .bool (decide (f.rd = 0))) (o_bin rfl rfl rfl) ?_
          refine stp (v := .bool (decide (f.rd = 0))) (o_pickT rfl rfl) ?_
          refine stp (v := .bool (decide (f.rd = 0))) (o_mv rfl) ?_
          refine splitP rfl (fun c12 => ?_) (fun c12 => ?_)
          ·
            refine stg rfl (v := .pointer (some ⟨b2, 6, none⟩)) (o_fa rfl rfl) ?_
            refine gyesl rfl ?_
            refine m_ld (v := .int .i64 f.at_) hM3 (i := 0) (j := 0) rfl rfl rfl rfl ?_
            refine stg rfl (v := .bool (decide ((0 : Int) ≤ f.at_))) (o_bin rfl rfl rfl) ?_
            refine stp (v := .bool (decide ((0 : Int) ≤ f.at_))) (o_pickT rfl rfl) ?_
            refine stp (v := .bool (decide ((0 : Int) ≤ f.at_))) (o_mv rfl) ?_
            refine splitP rfl (fun c13 => ?_) (fun c13 => ?_)
            ·
              refine stg rfl (v := .pointer (some ⟨b2, 7, none⟩)) (o_fa rfl rfl) ?_
              refine gyesl rfl ?_
              refine m_ld (v := .int .u32 f.mask) hM3 (i := 0) (j := 0) rfl rfl rfl rfl ?_
              refine stg rfl (v := .bool (decide (f.mask = 0))) (o_bin rfl rfl rfl) ?_
              refine stp (v := .bool (decide (f.mask = 0))) (o_pickT rfl rfl) ?_
              refine stp (v := .bool (decide (f.mask = 0))) (o_mv rfl) ?_
              refine h8 _ _ ?_
              clear h8
              refine ⟨(.bool (decide (f.mask = 0))), rfl, ?_⟩
              first | exact ⟨bT (by simp only [goodS] at *; omega), hM3.upd⟩ | exact ⟨bF (by simp only [goodS] at *; omega), hM3.upd⟩ | exact ⟨bP (by simp only [goodS] at *; omega), hM3.upd⟩
            ·
              refine gno rfl (by simp) ?_
              refine gnol rfl (by simp) ?_
              refine gno rfl (by simp) ?_
              refine stp (v := .bool false) (o_pickF rfl rfl) ?_
              refine stp (v := .bool false) (o_mv rfl) ?_
              refine h8 _ _ ?_
              clear h8
              refine ⟨(.bool false), rfl, ?_⟩
              first | exact ⟨bT (by simp only [goodS] at *; omega), hM3.upd⟩ | exact ⟨bF (by simp only [goodS] at *; omega), hM3.upd⟩ | exact ⟨bP (by simp only [goodS] at *; omega), hM3.upd⟩
          ·
            refine gno rfl (by simp) ?_
            refine gnol rfl (by simp) ?_
            refine gno rfl (by simp) ?_
            refine stp (v := .bool false) (o_pickF rfl rfl) ?_
            refine stp (v := .bool false) (o_mv rfl) ?_
            refine splitF rfl ?_
            refine gno rfl (by simp) ?_
            refine gnol rfl (by simp) ?_
            refine gno rfl (by simp) ?_
            refine stp (v := .bool false) (o_pickF rfl rfl) ?_
            refine stp (v := .bool false) (o_mv rfl) ?_
            refine h8 _ _ ?_
            clear h8
            refine ⟨(.bool false), rfl, ?_⟩
            first | exact ⟨bT (by simp only [goodS] at *; omega), hM3.upd⟩ | exact ⟨bF (by simp only [goodS] at *; omega), hM3.upd⟩ | exact ⟨bP (by simp only [goodS] at *; omega), hM3.upd⟩
        ·
          refine gno rfl (by simp) ?_
          refine gnol rfl (by simp) ?_
          refine gno rfl (by simp) ?_
          refine stp (v := .bool false) (o_pickF rfl rfl) ?_
          refine stp (v := .bool false) (o_mv rfl) ?_
          refine splitF rfl ?_
          refine gno rfl (by simp) ?_
          refine gnol rfl (by simp) ?_
          refine gno rfl (by simp) ?_
          refine stp (v := .bool false) (o_pickF rfl rfl) ?_
          refine stp (v := .bool false) (o_mv rfl) ?_
          refine splitF rfl ?_
          refine gno rfl (by simp) ?_
          refine gnol rfl (by simp) ?_
          refine gno rfl (by simp) ?_
          refine stp (v := .bool false) (o_pickF rfl rfl) ?_
          refine stp (v := .bool false) (o_mv rfl) ?_
          refine h8 _ _ ?_
          clear h8
          refine ⟨(.bool false), rfl, ?_⟩
          first | exact ⟨bT (by simp only [goodS] at *; omega), hM3.upd⟩ | exact ⟨bF (by simp only [goodS] at *; omega), hM3.upd⟩ | exact ⟨bP (by simp only [goodS] at *; omega), hM3.upd⟩
      ·
        refine gno rfl (by simp) ?_
        refine gnol rfl (by simp) ?_
        refine gno rfl (by simp) ?_
        refine stp (v := .bool false) (o_pickF rfl rfl) ?_
        refine stp (v := .bool false) (o_mv rfl) ?_
        refine splitF rfl ?_
        refine gno rfl (by simp) ?_
        refine gnol rfl (by simp) ?_
        refine gno rfl (by simp) ?_
        refine stp (v := .bool false) (o_pickF rfl rfl) ?_
        refine stp (v := .bool false) (o_mv rfl) ?_
        refine splitF rfl ?_
        refine gno rfl (by simp) ?_
        refine gnol rfl (by simp) ?_
        refine gno rfl (by simp) ?_
        refine stp (v := .bool false) (o_pickF rfl rfl) ?_
        refine stp (v := .bool false) (o_mv rfl) ?_
        refine splitF rfl ?_
        refine gno rfl (by simp) ?_
        refine gnol rfl (by simp) ?_
        refine gno rfl (by simp) ?_
        refine stp (v := .bool false) (o_pickF rfl rfl) ?_
        refine stp (v := .bool false) (o_mv rfl) ?_
        refine h8 _ _ ?_
        clear h8
        refine ⟨(.bool false), rfl, ?_⟩
        first | exact ⟨bT (by simp only [goodS] at *; omega), hM3.upd⟩ | exact ⟨bF (by simp only [goodS] at *; omega), hM3.upd⟩ | exact ⟨bP (by simp only [goodS] at *; omega), hM3.upd⟩
    ·
      refine stg rfl (v := .pointer (some ⟨b2, 1, none⟩)) (o_fa rfl rfl) ?_
      refine gyesl rfl ?_
      refine m_ld (v := .int .i64 f.tk) hM3 (i := 0) (j := 0) rfl rfl rfl rfl ?_
      refine stg rfl (v := .bool (decide (f.tk = 1))) (o_bin rfl rfl rfl) ?_
      refine stp (v := .bool (decide (f.tk = 1))) (o_pickF rfl rfl) ?_
      refine stp (v := .bool (decide (f.tk = 1))) (o_mv rfl) ?_
      refine splitP rfl (fun c14 => ?_) (fun c14 => ?_)
      ·
        refine stg rfl (v := .pointer (some ⟨b2, 2, none⟩)) (o_fa rfl rfl) ?_
        refine gyesl rfl ?_
        refine m_ld (v := .int .i64 f.task) hM3 (i := 0) (j := 0) rfl rfl rfl rfl ?_
        refine stg rfl (v := .int .i64 65535) (o_mv rfl) ?_
        refine stg rfl (v := .bool (decide (f.task < 65535))) (o_bin rfl rfl rfl) ?_
        refine stp (v := .bool (decide (f.task < 65535))) (o_pickT rfl rfl) ?_
        refine stp (v := .bool (decide (f.task < 65535))) (o_mv rfl) ?_
        refine splitP rfl (fun c15 => ?_) (fun c15 => ?_)
        ·
          refine stg rfl (v := .pointer (some ⟨b2, 4, none⟩)) (o_fa rfl rfl) ?_
          refine gyesl rfl ?_
          refine m_ld (v := .int .i64 f.mom) hM3 (i := 0) (j := 0) rfl rfl rfl rfl ?_
          refine stg rfl (v := .bool (decide (f.mom = 0))) (o_bin rfl rfl rfl) ?_
          refine stp (v := .bool (decide (f.mom = 0))) (o_pickT rfl rfl) ?_
          refine stp (v := .bool (decide (f.mom = 0))) (o_mv rfl) ?_
          refine splitP rfl (fun c16 => ?_) (fun c16 => ?_)
          ·
            refine stg rfl (v := .pointer (some ⟨b2, 5, none⟩)) (o_fa rfl rfl) ?_
            refine gyesl rfl ?_
            refine m_ld (v := .int .i64 f.rd) hM3 (i := 0) (j := 0) rfl rfl rfl rfl ?_
            refine stg rfl (v := .bool (decide (f.rd = 0))) (o_bin rfl rfl rfl) ?_
            refine stp (v := .bool (decide (f.rd = 0))) (o_pickT rfl rfl) ?_
            refine stp (v := .bool (decide (f.rd = 0))) (o_mv rfl) ?_
            refine splitP rfl (fun c17 => ?_) (fun c17 => ?_)
            ·
              refine stg rfl (v := .pointer (some ⟨b2, 6, none⟩)) (o_fa rfl rfl) ?_
              refine gyesl rfl ?_
              refine m_ld (v := .int .i64 f.at_) hM3 (i := 0) (j := 0) rfl rfl rfl rfl ?_
              refine stg rfl (v := .bool (decide ((0 : Int) ≤ f.at_))) (o_bin rfl rfl rfl) ?_
              refine stp (v := .bool (decide ((0 : Int) ≤ f.at_))) (o_pickT rfl rfl) ?_
              refine stp (v := .bool (decide ((0 : Int) ≤ f.at_))) (o_mv rfl) ?_
              refine splitP rfl (fun c18 => ?_) (fun c18 => ?_)
              ·
                refine stg rfl (v := .pointer (some ⟨b2, 7, none⟩)) (o_fa rfl rfl) ?_
                refine gyesl rfl ?_
                refine m_ld (v := .int .u32 f.mask) hM3 (i := 0) (j := 0) rfl rfl rfl rfl ?_
                refine stg rfl (v := .bool (decide (f.mask = 0))) (o_bin rfl rfl rfl) ?_
                refine stp (v := .bool (decide (f.mask = 0))) (o_pickT rfl rfl) ?_
                refine stp (v := .bool (decide (f.mask = 0))) (o_mv rfl) ?_
                refine h8 _ _ ?_
                clear h8
                refine ⟨(.bool (decide (f.mask = 0))), rfl, ?_⟩
                first | exact ⟨bT (by simp only [goodS] at *; omega), hM3.upd⟩ | exact ⟨bF (by simp only [goodS] at *; omega), hM3.upd⟩ | exact ⟨bP (by simp only [goodS] at *; omega), hM3.upd⟩
              ·
                refine gno rfl (by simp) ?_
                refine gnol rfl (by simp) ?_
                refine gno rfl (by simp) ?_
                refine stp (v := .bool false) (o_pickF rfl rfl) ?_
                refine stp (v := .bool false) (o_mv rfl) ?_
                refine h8 _ _ ?_
                clear h8
                refine ⟨(.bool false), rfl, ?_⟩
                first | exact ⟨bT (by simp only [goodS] at *; omega), hM3.upd⟩ | exact ⟨bF (by simp only [goodS] at *; omega), hM3.upd⟩ | exact ⟨bP (by simp only [goodS] at *; omega), hM3.upd⟩
            ·
              refine gno rfl (by simp) ?_
              refine gnol rfl (by simp) ?_
              refine gno rfl (by simp) ?_
              refine stp (v := .bool false) (o_pickF rfl rfl) ?_
              refine stp (v := .bool false) (o_mv rfl) ?_
              refine splitF rfl ?_
              refine gno rfl (by simp) ?_
              refine gnol rfl (by simp) ?_
              refine gno rfl (by simp) ?_
              refine stp (v := .bool false) (o_pickF rfl rfl) ?_
              refine stp (v := .bool false) (o_mv rfl) ?_
              refine h8 _ _ ?_
              clear h8
              refine ⟨(.bool false), rfl, ?_⟩
              first | exact ⟨bT (by simp only [goodS] at *; omega), hM3.upd⟩ | exact ⟨bF (by simp only [goodS] at *; omega), hM3.upd⟩ | exact ⟨bP (by simp only [goodS] at *; omega), hM3.upd⟩
          ·
            refine gno rfl (by simp) ?_
            refine gnol rfl (by simp) ?_
            refine gno rfl (by simp) ?_
            refine stp (v := .bool false) (o_pickF rfl rfl) ?_
            refine stp (v := .bool false) (o_mv rfl) ?_
            refine splitF rfl ?_
            refine gno rfl (by simp) ?_
            refine gnol rfl (by simp) ?_
            refine gno rfl (by simp) ?_
            refine stp (v := .bool false) (o_pickF rfl rfl) ?_
            refine stp (v := .bool false) (o_mv rfl) ?_
            refine splitF rfl ?_
            refine gno rfl (by simp) ?_
            refine gnol rfl (by simp) ?_
            refine gno rfl (by simp) ?_
            refine stp (v := .bool false) (o_pickF rfl rfl) ?_
            refine stp (v := .bool false) (o_mv rfl) ?_
            refine h8 _ _ ?_
            clear h8
            refine ⟨(.bool false), rfl, ?_⟩
            first | exact ⟨bT (by simp only [goodS] at *; omega), hM3.upd⟩ | exact ⟨bF (by simp only [goodS] at *; omega), hM3.upd⟩ | exact ⟨bP (by simp only [goodS] at *; omega), hM3.upd⟩
        ·
          refine gno rfl (by simp) ?_
          refine gnol rfl (by simp) ?_
          refine gno rfl (by simp) ?_
          refine stp (v := .bool false) (o_pickF rfl rfl) ?_
          refine stp (v := .bool false) (o_mv rfl) ?_
          refine splitF rfl ?_
          refine gno rfl (by simp) ?_
          refine gnol rfl (by simp) ?_
          refine gno rfl (by simp) ?_
          refine stp (v := .bool false) (o_pickF rfl rfl) ?_
          refine stp (v := .bool false) (o_mv rfl) ?_
          refine splitF rfl ?_
          refine gno rfl (by simp) ?_
          refine gnol rfl (by simp) ?_
          refine gno rfl (by simp) ?_
          refine stp (v := .bool false) (o_pickF rfl rfl) ?_
          refine stp (v := .bool false) (o_mv rfl) ?_
          refine splitF rfl ?_
          refine gno rfl (by simp) ?_
          refine gnol rfl (by simp) ?_
          refine gno rfl (by simp) ?_
          refine stp (v := .bool false) (o_pickF rfl rfl) ?_
          refine stp (v := .bool false) (o_mv rfl) ?_
          refine h8 _ _ ?_
          clear h8
          refine ⟨(.bool false), rfl, ?_⟩
          first | exact ⟨bT (by simp only [goodS] at *; omega), hM3.upd⟩ | exact ⟨bF (by simp only [goodS] at *; omega), hM3.upd⟩ | exact ⟨bP (by simp only [goodS] at *; omega), hM3.upd⟩
      ·
        refine gno rfl (by simp) ?_
        refine gnol rfl (by simp) ?_
        refine gno rfl (by simp) ?_
        refine gno rfl (by simp) ?_
        refine stp (v := .bool false) (o_pickF rfl rfl) ?_
        refine stp (v := .bool false) (o_mv rfl) ?_
        refine splitF rfl ?_
        refine gno rfl (by simp) ?_
        refine gnol rfl (by simp) ?_
        refine gno rfl (by simp) ?_
        refine stp (v := .bool false) (o_pickF rfl rfl) ?_
        refine stp (v := .bool false) (o_mv rfl) ?_
        refine splitF rfl ?_
        refine gno rfl (by simp) ?_
        refine gnol rfl (by simp) ?_
        refine gno rfl (by simp) ?_
        refine stp (v := .bool false) (o_pickF rfl rfl) ?_
        refine stp (v := .bool false) (o_mv rfl) ?_
        refine splitF rfl ?_
        refine gno rfl (by simp) ?_
        refine gnol rfl (by simp) ?_
        refine gno rfl (by simp) ?_
        refine stp (v := .bool false) (o_pickF rfl rfl) ?_
        refine stp (v := .bool false) (o_mv rfl) ?_
        refine splitF rfl ?_
        refine gno rfl (by simp) ?_
        refine gnol rfl (by simp) ?_
        refine gno rfl (by simp) ?_
        refine stp (v := .bool false) (o_pickF rfl rfl) ?_
        refine stp (v := .bool false) (o_mv rfl) ?_
        refine h8 _ _ ?_
        clear h8
        refine ⟨(.bool false), rfl, ?_⟩
        first | exact ⟨bT (by simp only [goodS] at *; omega), hM3.upd⟩ | exact ⟨bF (by simp only [goodS] at *; omega), hM3.upd⟩ | exact ⟨bP (by simp only [goodS] at *; omega), hM3.upd⟩
  ·
    refine h5 _ _ ?_
    clear h5
    refine seq fun K19 h19 => ?_
    refine stp (v := .pointer (some ⟨b2, 1, none⟩)) (o_fa rfl rfl) ?_
    refine m_ld (v := .int .i64 f.tk) hM3 (i := 0) (j := 0) rfl rfl rfl rfl ?_
    refine stp (v := .bool (decide (f.tk = 0))) (o_bin rfl rfl rfl) ?_
    refine stp (v := .bool (decide (f.tk = 0))) (o_mv rfl) ?_
    refine splitP rfl (fun c20 => ?_) (fun c20 => ?_)
    ·
      refine gno rfl (by simp) ?_
      refine gnol rfl (by simp) ?_
      refine gno rfl (by simp) ?_
      refine stp (v := .bool true) (o_pickT rfl rfl) ?_
      refine stp (v := .bool true) (o_mv rfl) ?_
      refine splitT rfl ?_
      refine stg rfl (v := .pointer (some ⟨b2, 2, none⟩)) (o_fa rfl rfl) ?_
      refine gyesl rfl ?_
      refine m_ld (v := .int .i64 f.task) hM3 (i := 0) (j := 0) rfl rfl rfl rfl ?_
      refine stg rfl (v := .int .i64 256) (o_mv rfl) ?_
      refine stg rfl (v := .bool (decide (f.task < 256))) (o_bin rfl rfl rfl) ?_
      refine stp (v := .bool (decide (f.task < 256))) (o_pickT rfl rfl) ?_
      refine stp (v := .bool (decide (f.task < 256))) (o_mv rfl) ?_
      refine splitP rfl (fun c21 => ?_) (fun c21 => ?_)
      ·
        refine stg rfl (v := .pointer (some ⟨b2, 4, none⟩)) (o_fa rfl rfl) ?_
        refine gyesl rfl ?_
        refine m_ld (v := .int .i64 f.mom) hM3 (i := 0) (j := 0) rfl rfl rfl rfl ?_
        refine stg rfl (v := .bool (decide (f.mom = 0))) (o_bin rfl rfl rfl) ?_
        refine stp (v := .bool (decide (f.mom = 0))) (o_pickT rfl rfl) ?_
        refine stp (v := .bool (decide (f.mom = 0))) (o_mv rfl) ?_
        refine splitP rfl (fun c22 => ?_) (fun c22 => ?_)
        ·
          refine stg rfl (v := .pointer (some ⟨b2, 5, none⟩)) (o_fa rfl rfl) ?_
          refine gyesl rfl ?_
          refine m_ld (v := .int .i64 f.rd) hM3 (i := 0) (j := 0) rfl rfl rfl rfl ?_
          refine stg rfl (v := .bool (decide (f.rd = 0))) (o_bin rfl rfl rfl) ?_
          refine stp (v := .bool (decide (f.rd = 0))) (o_pickT rfl rfl) ?_
          refine stp (v := .bool (decide (f.rd = 0))) (o_mv rfl) ?_
          refine splitP rfl (fun c23 => ?_) (fun c23 => ?_)
          ·
            refine stg rfl (v := .pointer (some ⟨b2, 6, none⟩)) (o_fa rfl rfl) ?_
            refine gyesl rfl ?_
            refine m_ld (v := .int .i64 f.at_) hM3 (i := 0) (j := 0) rfl rfl rfl rfl ?_
            refine stg rfl (v := .bool (decide ((0 : Int) ≤ f.at_))) (o_bin rfl rfl rfl) ?_
            refine stp (v := .bool (decide ((0 : Int) ≤ f.at_))) (o_pickT rfl rfl) ?_
            refine stp (v := .bool (decide ((0 : Int) ≤ f.at_))) (o_mv rfl) ?_
            refine splitP rfl (fun c24 => ?_) (fun c24 => ?_)
            ·
              refine stg rfl (v := .pointer (some ⟨b2, 7, none⟩)) (o_fa rfl rfl) ?_
              refine gyesl rfl ?_
              refine m_ld (v := .int .u32 f.mask) hM3 (i := 0) (j := 0) rfl rfl rfl rfl ?_
              refine stg rfl (v := .bool (decide (f.mask = 0))) (o_bin rfl rfl rfl) ?_
              refine stp (v := .bool (decide (f.mask = 0))) (o_pickT rfl rfl) ?_
              refine stp (v := .bool (decide (f.mask = 0))) (o_mv rfl) ?_
              refine h19 _ _ ?_
              clear h19
              refine ⟨(.bool (decide (f.mask = 0))), rfl, ?_⟩
              first | exact ⟨bT (by simp only [goodS] at *; omega), hM3.upd⟩ | exact ⟨bF (by simp only [goodS] at *; omega), hM3.upd⟩ | exact ⟨bP (by simp only [goodS] at *; omega), hM3.upd⟩
            ·
              refine gno rfl (by simp) ?_
              refine gnol rfl (by simp) ?_
              refine gno rfl (by simp) ?_
              refine stp (v := .bool false) (o_pickF rfl rfl) ?_
              refine stp (v := .bool false) (o_mv rfl) ?_
              refine h19 _ _ ?_
              clear h19
              refine ⟨(.bool false), rfl, ?_⟩
              first | exact ⟨bT (by simp only [goodS] at *; omega), hM3.upd⟩ | exact ⟨bF (by simp only [goodS] at *; omega), hM3.upd⟩ | exact ⟨bP (by simp only [goodS] at *; omega), hM3.upd⟩
          ·
            refine gno rfl (by simp) ?_
            refine gnol rfl (by simp) ?_
            refine gno rfl (by simp) ?_
            refine stp (v := .bool false) (o_pickF rfl rfl) ?_
            refine stp (v := .bool false) (o_mv rfl) ?_
            refine splitF rfl ?_
            refine gno rfl (by simp) ?_
            refine gnol rfl (by simp) ?_
            refine gno rfl (by simp) ?_
            refine stp (v := .bool false) (o_pickF rfl rfl) ?_
            refine stp (v := .bool false) (o_mv rfl) ?_
            refine h19 _ _ ?_
            clear h19
            refine ⟨(.bool false), rfl, ?_⟩
            first | exact ⟨bT (by simp only [goodS] at *; omega), hM3.upd⟩ | exact ⟨bF (by simp only [goodS] at *; omega), hM3.upd⟩ | exact ⟨bP (by simp only [goodS] at *; omega), hM3.upd⟩
        ·
          refine gno rfl (by simp) ?_
          refine gnol rfl (by simp) ?_
          refine gno rfl (by simp) ?_
          refine stp (v := .bool false) (o_pickF rfl rfl) ?_
          refine stp (v := .bool false) (o_mv rfl) ?_
          refine splitF rfl ?_
          refine gno rfl (by simp) ?_
          refine gnol rfl (by simp) ?_
          refine gno rfl (by simp) ?_
          refine stp (v := .bool false) (o_pickF rfl rfl) ?_
          refine stp (v := .bool false) (o_mv rfl) ?_
          refine splitF rfl ?_
          refine gno rfl (by simp) ?_
          refine gnol rfl (by simp) ?_
          refine gno rfl (by simp) ?_
          refine stp (v := .bool false) (o_pickF rfl rfl) ?_
          refine stp (v := .bool false) (o_mv rfl) ?_
          refine h19 _ _ ?_
          clear h19
          refine ⟨(.bool false), rfl, ?_⟩
          first | exact ⟨bT (by simp only [goodS] at *; omega), hM3.upd⟩ | exact ⟨bF (by simp only [goodS] at *; omega), hM3.upd⟩ | exact ⟨bP (by simp only [goodS] at *; omega), hM3.upd⟩
      ·
        refine gno rfl (by simp) ?_
        refine gnol rfl (by simp) ?_
        refine gno rfl (by simp) ?_
        refine stp (v := .bool false) (o_pickF rfl rfl) ?_
        refine stp (v := .bool false) (o_mv rfl) ?_
        refine splitF rfl ?_
        refine gno rfl (by simp) ?_
        refine gnol rfl (by simp) ?_
        refine gno rfl (by simp) ?_
        refine stp (v := .bool false) (o_pickF rfl rfl) ?_
        refine stp (v := .bool false) (o_mv rfl) ?_
        refine splitF rfl ?_
        refine gno rfl (by simp) ?_
        refine gnol rfl (by simp) ?_
        refine gno rfl (by simp) ?_
        refine stp (v := .bool false) (o_pickF rfl rfl) ?_
        refine stp (v := .bool false) (o_mv rfl) ?_
        refine splitF rfl ?_
        refine gno rfl (by simp) ?_
        refine gnol rfl (by simp) ?_
        refine gno rfl (by simp) ?_
        refine stp (v := .bool false) (o_pickF rfl rfl) ?_
        refine stp (v := .bool false) (o_mv rfl) ?_
        refine h19 _ _ ?_
        clear h19
        refine ⟨(.bool false), rfl, ?_⟩
        first | exact ⟨bT (by simp only [goodS] at *; omega), hM3.upd⟩ | exact ⟨bF (by simp only [goodS] at *; omega), hM3.upd⟩ | exact ⟨bP (by simp only [goodS] at *; omega), hM3.upd⟩
    ·
      refine stg rfl (v := .pointer (some ⟨b2, 1, none⟩)) (o_fa rfl rfl) ?_
      refine gyesl rfl ?_
      refine m_ld (v := .int .i64 f.tk) hM3 (i := 0) (j := 0) rfl rfl rfl rfl ?_
      refine stg rfl (v := .bool (decide (f.tk = 1))) (o_bin rfl rfl rfl) ?_
      refine stp (v := .bool (decide (f.tk = 1))) (o_pickF rfl rfl) ?_
      refine stp (v := .bool (decide (f.tk = 1))) (o_mv rfl) ?_
      refine splitP rfl (fun c25 => ?_) (fun c25 => ?_)
      ·
        refine stg rfl (v := .pointer (some ⟨b2, 2, none⟩)) (o_fa rfl rfl) ?_
        refine gyesl rfl ?_
        refine m_ld (v := .int .i64 f.task) hM3 (i := 0) (j := 0) rfl rfl rfl rfl ?_
        refine stg rfl (v := .int .i64 256) (o_mv rfl) ?_
        refine stg rfl (v := .bool (decide (f.task < 256))) (o_bin rfl rfl rfl) ?_
        refine stp (v := .bool (decide (f.task < 256))) (o_pickT rfl rfl) ?_
        refine stp (v := .bool (decide (f.task < 256))) (o_mv rfl) ?_
        refine splitP rfl (fun c26 => ?_) (fun c26 => ?_)
        ·
          refine stg rfl (v := .pointer (some ⟨b2, 4, none⟩)) (o_fa rfl rfl) ?_
          refine gyesl rfl ?_
          refine m_ld (v := .int .i64 f.mom) hM3 (i := 0) (j := 0) rfl rfl rfl rfl ?_
          refine stg rfl (v := .bool (decide (f.mom = 0))) (o_bin rfl rfl rfl) ?_
          refine stp (v := .bool (decide (f.mom = 0))) (o_pickT rfl rfl) ?_
          refine stp (v := .bool (decide (f.mom = 0))) (o_mv rfl) ?_
          refine splitP rfl (fun c27 => ?_) (fun c27 => ?_)
          ·
            refine stg rfl (v := .pointer (some ⟨b2, 5, none⟩)) (o_fa rfl rfl) ?_
            refine gyesl rfl ?_
            refine m_ld (v := .int .i64 f.rd) hM3 (i := 0) (j := 0) rfl rfl rfl rfl ?_
            refine stg rfl (v := .bool (decide (f.rd = 0))) (o_bin rfl rfl rfl) ?_
            refine stp (v := .bool (decide (f.rd = 0))) (o_pickT rfl rfl) ?_
            refine stp (v := .bool (decide (f.rd = 0))) (o_mv rfl) ?_
            refine splitP rfl (fun c28 => ?_) (fun c28 => ?_)
            ·
              refine stg rfl (v := .pointer (some ⟨b2, 6, none⟩)) (o_fa rfl rfl) ?_
              refine gyesl rfl ?_
              refine m_ld (v := .int .i64 f.at_) hM3 (i := 0) (j := 0) rfl rfl rfl rfl ?_
              refine stg rfl (v := .bool (decide ((0 : Int) ≤ f.at_))) (o_bin rfl rfl rfl) ?_
              refine stp (v := .bool (decide ((0 : Int) ≤ f.at_))) (o_pickT rfl rfl) ?_
              refine stp (v := .bool (decide ((0 : Int) ≤ f.at_))) (o_mv rfl) ?_
              refine splitP rfl (fun c29 => ?_) (fun c29 => ?_)
              ·
                refine stg rfl (v := .pointer (some ⟨b2, 7, none⟩)) (o_fa rfl rfl) ?_
                refine gyesl rfl ?_
                refine m_ld (v := .int .u32 f.mask) hM3 (i := 0) (j := 0) rfl rfl rfl rfl ?_
                refine stg rfl (v := .bool (decide (f.mask = 0))) (o_bin rfl rfl rfl) ?_
                refine stp (v := .bool (decide (f.mask = 0))) (o_pickT rfl rfl) ?_
                refine stp (v := .bool (decide (f.mask = 0))) (o_mv rfl) ?_
                refine h19 _ _ ?_
                clear h19
                refine ⟨(.bool (decide (f.mask = 0))), rfl, ?_⟩
                first | exact ⟨bT (by simp only [goodS] at *; omega), hM3.upd⟩ | exact ⟨bF (by simp only [goodS] at *; omega), hM3.upd⟩ | exact ⟨bP (by simp only [goodS] at *; omega), hM3.upd⟩
              ·
                refine gno rfl (by simp) ?_
                refine gnol rfl (by simp) ?_
                refine gno rfl (by simp) ?_
                refine stp (v := .bool false) (o_pickF rfl rfl) ?_
                refine stp (v := .bool false) (o_mv rfl) ?_
                refine h19 _ _ ?_
                clear h19
                refine ⟨(.bool false), rfl, ?_⟩
                first | exact ⟨bT (by simp only [goodS] at *; omega), hM3.upd⟩ | exact ⟨bF (by simp only [goodS] at *; omega), hM3.upd⟩ | exact ⟨bP (by simp only [goodS] at *; omega), hM3.upd⟩
            ·
              refine gno rfl (by simp) ?_
              refine gnol rfl (by simp) ?_
              refine gno rfl (by simp) ?_
              refine stp (v := .bool false) (o_pickF rfl rfl) ?_
              refine stp (v := .bool false) (o_mv rfl) ?_
              refine splitF rfl ?_
              refine gno rfl (by simp) ?_
              refine gnol rfl (by simp) ?_
              refine gno rfl (by simp) ?_
              refine stp (v := .bool false) (o_pickF rfl rfl) ?_
              refine stp (v := .bool false) (o_mv rfl) ?_
              refine h19 _ _ ?_
              clear h19
              refine ⟨(.bool false), rfl, ?_⟩
              first | exact ⟨bT (by simp only [goodS] at *; omega), hM3.upd⟩ | exact ⟨bF (by simp only [goodS] at *; omega), hM3.upd⟩ | exact ⟨bP (by simp only [goodS] at *; omega), hM3.upd⟩
          ·
            refine gno rfl (by simp) ?_
            refine gnol rfl (by simp) ?_
            refine gno rfl (by simp) ?_
            refine stp (v := .bool false) (o_pickF rfl rfl) ?_
            refine stp (v := .bool false) (o_mv rfl) ?_
            refine splitF rfl ?_
            refine gno rfl (by simp) ?_
            refine gnol rfl (by simp) ?_
            refine gno rfl (by simp) ?_
            refine stp (v := .bool false) (o_pickF rfl rfl) ?_
            refine stp (v := .bool false) (o_mv rfl) ?_
            refine splitF rfl ?_
            refine gno rfl (by simp) ?_
            refine gnol rfl (by simp) ?_
            refine gno rfl (by simp) ?_
            refine stp (v := .bool false) (o_pickF rfl rfl) ?_
            refine stp (v := .bool false) (o_mv rfl) ?_
            refine h19 _ _ ?_
            clear h19
            refine ⟨(.bool false), rfl, ?_⟩
            first | exact ⟨bT (by simp only [goodS] at *; omega), hM3.upd⟩ | exact ⟨bF (by simp only [goodS] at *; omega), hM3.upd⟩ | exact ⟨bP (by simp only [goodS] at *; omega), hM3.upd⟩
        ·
          refine gno rfl (by simp) ?_
          refine gnol rfl (by simp) ?_
          refine gno rfl (by simp) ?_
          refine stp (v := .bool false) (o_pickF rfl rfl) ?_
          refine stp (v := .bool false) (o_mv rfl) ?_
          refine splitF rfl ?_
          refine gno rfl (by simp) ?_
          refine gnol rfl (by simp) ?_
          refine gno rfl (by simp) ?_
          refine stp (v := .bool false) (o_pickF rfl rfl) ?_
          refine stp (v := .bool false) (o_mv rfl) ?_
          refine splitF rfl ?_
          refine gno rfl (by simp) ?_
          refine gnol rfl (by simp) ?_
          refine gno rfl (by simp) ?_
          refine stp (v := .bool false) (o_pickF rfl rfl) ?_
          refine stp (v := .bool false) (o_mv rfl) ?_
          refine splitF rfl ?_
          refine gno rfl (by simp) ?_
          refine gnol rfl (by simp) ?_
          refine gno rfl (by simp) ?_
          refine stp (v := .bool false) (o_pickF rfl rfl) ?_
          refine stp (v := .bool false) (o_mv rfl) ?_
          refine h19 _ _ ?_
          clear h19
          refine ⟨(.bool false), rfl, ?_⟩
          first | exact ⟨bT (by simp only [goodS] at *; omega), hM3.upd⟩ | exact ⟨bF (by simp only [goodS] at *; omega), hM3.upd⟩ | exact ⟨bP (by simp only [goodS] at *; omega), hM3.upd⟩
      ·
        refine gno rfl (by simp) ?_
        refine gnol rfl (by simp) ?_
        refine gno rfl (by simp) ?_
        refine gno rfl (by simp) ?_
        refine stp (v := .bool false) (o_pickF rfl rfl) ?_
        refine stp (v := .bool false) (o_mv rfl) ?_
        refine splitF rfl ?_
        refine gno rfl (by simp) ?_
        refine gnol rfl (by simp) ?_
        refine gno rfl (by simp) ?_
        refine stp (v := .bool false) (o_pickF rfl rfl) ?_
        refine stp (v := .bool false) (o_mv rfl) ?_
        refine splitF rfl ?_
        refine gno rfl (by simp) ?_
        refine gnol rfl (by simp) ?_
        refine gno rfl (by simp) ?_
        refine stp (v := .bool false) (o_pickF rfl rfl) ?_
        refine stp (v := .bool false) (o_mv rfl) ?_
        refine splitF rfl ?_
        refine gno rfl (by simp) ?_
        refine gnol rfl (by simp) ?_
        refine gno rfl (by simp) ?_
        refine stp (v := .bool false) (o_pickF rfl rfl) ?_
        refine stp (v := .bool false) (o_mv rfl) ?_
        refine splitF rfl ?_
        refine gno rfl (by simp) ?_
        refine gnol rfl (by simp) ?_
        refine gno rfl (by simp) ?_
        refine stp (v := .bool false) (o_pickF rfl rfl) ?_
        refine stp (v := .bool false) (o_mv rfl) ?_
        refine h19 _ _ ?_
        clear h19
        refine ⟨(.bool false), rfl, ?_⟩
        first | exact ⟨bT (by simp only [goodS] at *; omega), hM3.upd⟩ | exact ⟨bF (by simp only [goodS] at *; omega), hM3.upd⟩ | exact ⟨bP (by simp only [goodS] at *; omega), hM3.upd⟩

/-- fault.right$2 -/
theorem right2_ok (f : Flt) (w : World) (hf : f.ok) : Calls Try.prog 54 [.agg (fltC f).toArray].toArray w (Rt fun r w' => r = .bool (decide (goodF f)) ∧ Upd [] w w') := by
  have hM0 : Mem w [] w [] := Mem.nil w []
  have hf0 := hf
  simp only [Flt.ok, inK] at hf
  refine calls_vc mixed Try.func54 rfl C54 (by simp [Try.ntmps54]) ?_
  refine seq fun K1 h1 => ?_
  refine m_bx (v := .agg ([.int .i64 f.kind, .int .i64 f.tk, .int .i64 f.task, .int .i64 f.att, .int .i64 f.mom, .int .i64 f.rd, .int .i64 f.at_, .int .u32 f.mask] : List Value).toArray) hM0 rfl rfl fun b2 w3 (hM3 : Mem w [] w3 [[⟨b2, 25, [.int .i64 f.kind, .int .i64 f.tk, .int .i64 f.task, .int .i64 f.att, .int .i64 f.mom, .int .i64 f.rd, .int .i64 f.at_, .int .u32 f.mask]⟩]]) => ?_
  refine stp (v := .bool false) (o_mv rfl) ?_
  refine h1 _ _ ?_
  clear h1
  refine seq fun K4 h4 => ?_
  refine m_ldA (l := [.int .i64 f.kind, .int .i64 f.tk, .int .i64 f.task, .int .i64 f.att, .int .i64 f.mom, .int .i64 f.rd, .int .i64 f.at_, .int .u32 f.mask]) hM3 (i := 0) (j := 0) rfl rfl rfl rfl rfl ?_
  refine m_call (damages_ok f w3 (by first | assumption | omega)) rfl fun v5 w5 ⟨hr5, hu5⟩ => ?_
  have hM5 : Mem w [] w5 [[⟨b2, 25, [.int .i64 f.kind, .int .i64 f.tk, .int .i64 f.task, .int .i64 f.att, .int .i64 f.mom, .int .i64 f.rd, .int .i64 f.at_, .int .u32 f.mask]⟩]] := hM3.pure hu5
  subst hr5
  refine stp (v := .bool (decide (dmgP f))) (o_mv rfl) ?_
  refine splitP rfl (fun c6 => ?_) (fun c6 => ?_)
  ·
    refine stg rfl (v := .pointer (some ⟨b2, 6, none⟩)) (o_fa rfl rfl) ?_
    refine gyesl rfl ?_
    refine m_ld (v := .int .i64 f.at_) hM5 (i := 0) (j := 0) rfl rfl rfl rfl ?_
    refine stg rfl (v := .bool (decide ((0 : Int) ≤ f.at_))) (o_bin rfl rfl rfl) ?_
    refine stp (v := .bool (decide ((0 : Int) ≤ f.at_))) (o_pickT rfl rfl) ?_
    refine stp (v := .bool (decide ((0 : Int) ≤ f.at_))) (o_mv rfl) ?_
    refine splitP rfl (fun c7 => ?_) (fun c7 => ?_)
    ·
      refine stg rfl (v := .pointer (some ⟨b2, 7, none⟩)) (o_fa rfl rfl) ?_
      refine gyesl rfl ?_
      refine m_ld (v := .int .u32 f.mask) hM5 (i := 0) (j := 0) rfl rfl rfl rfl ?_
      refine stg rfl (v := .int .u32 (f.mask % 2)) (o_bin rfl rfl (v_int (and1 (by omega)))) ?_
      refine stg rfl (v := .bool (decide ((f.mask % 2) = 1))) (o_bin rfl rfl rfl) ?_
      refine stp (v := .bool (decide ((f.mask % 2) = 1))) (o_pickT rfl rfl) ?_
      refine stp (v := .bool (decide ((f.mask % 2) = 1))) (o_mv rfl) ?_
      refine h4 _ _ ?_
      clear h4
      refine ⟨(.bool (decide ((f.mask % 2) = 1))), rfl, ?_⟩
      first | exact ⟨bT (by simp only [goodF, dmgP] at *; omega), hM5.upd⟩ | exact ⟨bF (by simp only [goodF, dmgP] at *; omega), hM5.upd⟩ | exact ⟨bP (by simp only [goodF, dmgP] at *; omega), hM5.upd⟩
    ·
      refine gno rfl (by simp) ?_
      refine gnol rfl (by simp) ?_
      refine gno rfl (by simp) ?_
      refine gno rfl (by simp) ?_
      refine stp (v := .bool false) (o_pickF rfl rfl) ?_
      refine stp (v := .bool false) (o_mv rfl) ?_
      refine h4 _ _ ?_
      clear h4
      refine ⟨(.bool false), rfl, ?_⟩
      first | exact ⟨bT (by simp only [goodF, dmgP] at *; omega), hM5.upd⟩ | exact ⟨bF (by simp only [goodF, dmgP] at *; omega), hM5.upd⟩ | exact ⟨bP (by simp only [goodF, dmgP] at *; omega), hM5.upd⟩
  ·
    refine gno rfl (by simp) ?_
    refine gnol rfl (by simp) ?_
    refine gno rfl (by simp) ?_
    refine stp (v := .bool false) (o_pickF rfl rfl) ?_
    refine stp (v := .bool false) (o_mv rfl) ?_
    refine splitF rfl ?_
    refine gno rfl (by simp) ?_
    refine gnol rfl (by simp) ?_
    refine gno rfl (by simp) ?_
    refine gno rfl (by simp) ?_
    refine stp (v := .bool false) (o_pickF rfl rfl) ?_
    refine stp (v := .bool false) (o_mv rfl) ?_
    refine h4 _ _ ?_
    clear h4
    refine ⟨(.bool false), rfl, ?_⟩
    first | exact ⟨bT (by simp only [goodF, dmgP] at *; omega), hM5.upd⟩ | exact ⟨bF (by simp only [goodF, dmgP] at *; omega), hM5.upd⟩ | exact ⟨bP (by simp only [goodF, dmgP] at *; omega), hM5.upd⟩

/-- fault.right$3 -/
theorem right3_ok (f : Flt) (w : World) (hf : f.ok) : Calls Try.prog 56 [.agg (fltC f).toArray].toArray w (Rt fun r w' => r = .bool (decide (goodL f)) ∧ Upd [] w w') := by
  have hM0 : Mem w [] w [] := Mem.nil w []
  have hf0 := hf
  simp only [Flt.ok, inK] at hf
  refine calls_vc mixed Try.func56 rfl C56 (by simp [Try.ntmps56]) ?_
  refine seq fun K1 h1 => ?_
  refine m_bx (v := .agg ([.int .i64 f.kind, .int .i64 f.tk, .int .i64 f.task, .int .i64 f.att, .int .i64 f.mom, .int .i64 f.rd, .int .i64 f.at_, .int .u32 f.mask] : List Value).toArray) hM0 rfl rfl fun b2 w3 (hM3 : Mem w [] w3 [[⟨b2, 25, [.int .i64 f.kind, .int .i64 f.tk, .int .i64 f.task, .int .i64 f.att, .int .i64 f.mom, .int .i64 f.rd, .int .i64 f.at_, .int .u32 f.mask]⟩]]) => ?_
  refine stp (v := .bool false) (o_mv rfl) ?_
  refine h1 _ _ ?_
  clear h1
  refine seq fun K4 h4 => ?_
  refine m_ldA (l := [.int .i64 f.kind, .int .i64 f.tk, .int .i64 f.task, .int .i64 f.att, .int .i64 f.mom, .int .i64 f.rd, .int .i64 f.at_, .int .u32 f.mask]) hM3 (i := 0) (j := 0) rfl rfl rfl rfl rfl ?_
  refine m_call (damages_ok f w3 (by first | assumption | omega)) rfl fun v5 w5 ⟨hr5, hu5⟩ => ?_
  have hM5 : Mem w [] w5 [[⟨b2, 25, [.int .i64 f.kind, .int .i64 f.tk, .int .i64 f.task, .int .i64 f.att, .int .i64 f.mom, .int .i64 f.rd, .int .i64 f.at_, .int .u32 f.mask]⟩]] := hM3.pure hu5
  subst hr5
  refine stp (v := .bool (decide (dmgP f))) (o_mv rfl) ?_
  refine splitP rfl (fun c6 => ?_) (fun c6 => ?_)
  ·
    refine stg rfl (v := .pointer (some ⟨b2, 6, none⟩)) (o_fa rfl rfl) ?_
    refine gyesl rfl ?_
    refine m_ld (v := .int .i64 f.at_) hM5 (i := 0) (j := 0) rfl rfl rfl rfl ?_
    refine stg rfl (v := .bool (decide ((-268435456) ≤ f.at_))) (o_bin rfl rfl rfl) ?_
    refine stp (v := .bool (decide ((-268435456) ≤ f.at_))) (o_pickT rfl rfl) ?_
    refine stp (v := .bool (decide ((-268435456) ≤ f.at_))) (o_mv rfl) ?_
    refine splitP rfl (fun c7 => ?_) (fun c7 => ?_)
    ·
      refine stg rfl (v := .pointer (some ⟨b2, 6, none⟩)) (o_fa rfl rfl) ?_
      refine gyesl rfl ?_
      refine m_ld (v := .int .i64 f.at_) hM5 (i := 0) (j := 0) rfl rfl rfl rfl ?_
      refine stg rfl (v := .bool (decide (f.at_ ≤ 4096))) (o_bin rfl rfl rfl) ?_
      refine stp (v := .bool (decide (f.at_ ≤ 4096))) (o_pickT rfl rfl) ?_
      refine stp (v := .bool (decide (f.at_ ≤ 4096))) (o_mv rfl) ?_
      refine splitP rfl (fun c8 => ?_) (fun c8 => ?_)
      ·
        refine stg rfl (v := .pointer (some ⟨b2, 6, none⟩)) (o_fa rfl rfl) ?_
        refine gyesl rfl ?_
        refine m_ld (v := .int .i64 f.at_) hM5 (i := 0) (j := 0) rfl rfl rfl rfl ?_
        refine stg rfl (v := .bool (decide (¬ f.at_ = 0))) (o_bin rfl rfl v_neq) ?_
        refine stp (v := .bool (decide (¬ f.at_ = 0))) (o_pickT rfl rfl) ?_
        refine stp (v := .bool (decide (¬ f.at_ = 0))) (o_mv rfl) ?_
        refine splitP rfl (fun c9 => ?_) (fun c9 => ?_)
        ·
          refine stg rfl (v := .pointer (some ⟨b2, 7, none⟩)) (o_fa rfl rfl) ?_
          refine gyesl rfl ?_
          refine m_ld (v := .int .u32 f.mask) hM5 (i := 0) (j := 0) rfl rfl rfl rfl ?_
          refine stg rfl (v := .bool (decide (f.mask = 0))) (o_bin rfl rfl rfl) ?_
          refine stp (v := .bool (decide (f.mask = 0))) (o_pickT rfl rfl) ?_
          refine stp (v := .bool (decide (f.mask = 0))) (o_mv rfl) ?_
          refine h4 _ _ ?_
          clear h4
          refine ⟨(.bool (decide (f.mask = 0))), rfl, ?_⟩
          first | exact ⟨bT (by simp only [goodL, dmgP] at *; omega), hM5.upd⟩ | exact ⟨bF (by simp only [goodL, dmgP] at *; omega), hM5.upd⟩ | exact ⟨bP (by simp only [goodL, dmgP] at *; omega), hM5.upd⟩
        ·
          refine gno rfl (by simp) ?_
          refine gnol rfl (by simp) ?_
          refine gno rfl (by simp) ?_
          refine stp (v := .bool false) (o_pickF rfl rfl) ?_
          refine stp (v := .bool false) (o_mv rfl) ?_
          refine h4 _ _ ?_
          clear h4
          refine ⟨(.bool false), rfl, ?_⟩
          first | exact ⟨bT (by simp only [goodL, dmgP] at *; omega), hM5.upd⟩ | exact ⟨bF (by simp only [goodL, dmgP] at *; omega), hM5.upd⟩ | exact ⟨bP (by simp only [goodL, dmgP] at *; omega), hM5.upd⟩
      ·
        refine gno rfl (by simp) ?_
        refine gnol rfl (by simp) ?_
        refine gno rfl (by simp) ?_
        refine stp (v := .bool false) (o_pickF rfl rfl) ?_
        refine stp (v := .bool false) (o_mv rfl) ?_
        refine splitF rfl ?_
        refine gno rfl (by simp) ?_
        refine gnol rfl (by simp) ?_
        refine gno rfl (by simp) ?_
        refine stp (v := .bool false) (o_pickF rfl rfl) ?_
        refine stp (v := .bool false) (o_mv rfl) ?_
        refine h4 _ _ ?_
        clear h4
        refine ⟨(.bool false), rfl, ?_⟩
        first | exact ⟨bT (by simp only [goodL, dmgP] at *; omega), hM5.upd⟩ | exact ⟨bF (by simp only [goodL, dmgP] at *; omega), hM5.upd⟩ | exact ⟨bP (by simp only [goodL, dmgP] at *; omega), hM5.upd⟩
    ·
      refine gno rfl (by simp) ?_
      refine gnol rfl (by simp) ?_
      refine gno rfl (by simp) ?_
      refine stp (v := .bool false) (o_pickF rfl rfl) ?_
      refine stp (v := .bool false) (o_mv rfl) ?_
      refine splitF rfl ?_
      refine gno rfl (by simp) ?_
      refine gnol rfl (by simp) ?_
      refine gno rfl (by simp) ?_
      refine stp (v := .bool false) (o_pickF rfl rfl) ?_
      refine stp (v := .bool false) (o_mv rfl) ?_
      refine splitF rfl ?_
      refine gno rfl (by simp) ?_
      refine gnol rfl (by simp) ?_
      refine gno rfl (by simp) ?_
      refine stp (v := .bool false) (o_pickF rfl rfl) ?_
      refine stp (v := .bool false) (o_mv rfl) ?_
      refine h4 _ _ ?_
      clear h4
      refine ⟨(.bool false), rfl, ?_⟩
      first | exact ⟨bT (by simp only [goodL, dmgP] at *; omega), hM5.upd⟩ | exact ⟨bF (by simp only [goodL, dmgP] at *; omega), hM5.upd⟩ | exact ⟨bP (by simp only [goodL, dmgP] at *; omega), hM5.upd⟩
  ·
    refine gno rfl (by simp) ?_
    refine gnol rfl (by simp) ?_
    refine gno rfl (by simp) ?_
    refine stp (v := .bool false) (o_pickF rfl rfl) ?_
    refine stp (v := .bool false) (o_mv rfl) ?_
    refine splitF rfl ?_
    refine gno rfl (by simp) ?_
    refine gnol rfl (by simp) ?_
    refine gno rfl (by simp) ?_
    refine stp (v := .bool false) (o_pickF rfl rfl) ?_
    refine stp (v := .bool false) (o_mv rfl) ?_
    refine splitF rfl ?_
    refine gno rfl (by simp) ?_
    refine gnol rfl (by simp) ?_
    refine gno rfl (by simp) ?_
    refine stp (v := .bool false) (o_pickF rfl rfl) ?_
    refine stp (v := .bool false) (o_mv rfl) ?_
    refine splitF rfl ?_
    refine gno rfl (by simp) ?_
    refine gnol rfl (by simp) ?_
    refine gno rfl (by simp) ?_
    refine stp (v := .bool false) (o_pickF rfl rfl) ?_
    refine stp (v := .bool false) (o_mv rfl) ?_
    refine h4 _ _ ?_
    clear h4
    refine ⟨(.bool false), rfl, ?_⟩
    first | exact ⟨bT (by simp only [goodL, dmgP] at *; omega), hM5.upd⟩ | exact ⟨bF (by simp only [goodL, dmgP] at *; omega), hM5.upd⟩ | exact ⟨bP (by simp only [goodL, dmgP] at *; omega), hM5.upd⟩

/-- winnowref16.good -/
theorem refgood_ok (f : Flt) (w : World) (hf : f.ok) : Calls Try.prog 38 [.agg (fltC f).toArray].toArray w (Rt fun r w' => r = .bool (decide (goodP f)) ∧ Upd [] w w') := by
  have hM0 : Mem w [] w [] := Mem.nil w []
  have hf0 := hf
  simp only [Flt.ok, inK] at hf
  refine calls_vc mixed Try.func38 rfl C38 (by simp [Try.ntmps38]) ?_
  refine seq fun K1 h1 => ?_
  refine m_bx (v := .agg ([.int .i64 f.kind, .int .i64 f.tk, .int .i64 f.task, .int .i64 f.att, .int .i64 f.mom, .int .i64 f.rd, .int .i64 f.at_, .int .u32 f.mask] : List Value).toArray) hM0 rfl rfl fun b2 w3 (hM3 : Mem w [] w3 [[⟨b2, 25, [.int .i64 f.kind, .int .i64 f.tk, .int .i64 f.task, .int .i64 f.att, .int .i64 f.mom, .int .i64 f.rd, .int .i64 f.at_, .int .u32 f.mask]⟩]]) => ?_
  refine stp (v := .bool false) (o_mv rfl) ?_
  refine h1 _ _ ?_
  clear h1
  refine seq fun K4 h4 => ?_
  refine seq fun K5 h5 => ?_
  refine stp (v := .pointer (some ⟨b2, 2, none⟩)) (o_fa rfl rfl) ?_
  refine m_ld (v := .int .i64 f.task) hM3 (i := 0) (j := 0) rfl rfl rfl rfl ?_
  refine stp (v := .bool (decide (f.task < 0))) (o_bin rfl rfl rfl) ?_
  refine stp (v := .bool (decide (f.task < 0))) (o_mv rfl) ?_
  refine splitP rfl (fun c6 => ?_) (fun c6 => ?_)
  ·
    refine gno rfl (by simp) ?_
    refine gnol rfl (by simp) ?_
    refine gno rfl (by simp) ?_
    refine stp (v := .bool true) (o_pickT rfl rfl) ?_
    refine stp (v := .bool true) (o_mv rfl) ?_
    refine splitT rfl ?_
    refine gno rfl (by simp) ?_
    refine gnol rfl (by simp) ?_
    refine gno rfl (by simp) ?_
    refine stp (v := .bool true) (o_pickT rfl rfl) ?_
    refine h5 _ _ ?_
    clear h5
    refine cndT rfl ?_
    refine seq fun K7 h7 => ?_
    refine stp (v := .bool false) (o_mv rfl) ?_
    refine h7 _ _ ?_
    clear h7
    refine ⟨(.bool false), rfl, ?_⟩
    first | exact ⟨bT (by simp only [goodP, stopP, dmgP] at *; omega), hM3.upd⟩ | exact ⟨bF (by simp only [goodP, stopP, dmgP] at *; omega), hM3.upd⟩ | exact ⟨bP (by simp only [goodP, stopP, dmgP] at *; omega), hM3.upd⟩
  ·
    refine stg rfl (v := .pointer (some ⟨b2, 3, none⟩)) (o_fa rfl rfl) ?_
    refine gyesl rfl ?_
    refine m_ld (v := .int .i64 f.att) hM3 (i := 0) (j := 0) rfl rfl rfl rfl ?_
    refine stg rfl (v := .bool (decide (f.att < 1))) (o_bin rfl rfl rfl) ?_
    refine stp (v := .bool (decide (f.att < 1))) (o_pickF rfl rfl) ?_
    refine stp (v := .bool (decide (f.att < 1))) (o_mv rfl) ?_
    refine splitP rfl (fun c8 => ?_) (fun c8 => ?_)
    ·
      refine gno rfl (by simp) ?_
      refine gnol rfl (by simp) ?_
      refine gno rfl (by simp) ?_
      refine stp (v := .bool true) (o_pickT rfl rfl) ?_
      refine h5 _ _ ?_
      clear h5
      refine cndT rfl ?_
      refine seq fun K9 h9 => ?_
      refine stp (v := .bool false) (o_mv rfl) ?_
      refine h9 _ _ ?_
      clear h9
      refine ⟨(.bool false), rfl, ?_⟩
      first | exact ⟨bT (by simp only [goodP, stopP, dmgP] at *; omega), hM3.upd⟩ | exact ⟨bF (by simp only [goodP, stopP, dmgP] at *; omega), hM3.upd⟩ | exact ⟨bP (by simp only [goodP, stopP, dmgP] at *; omega), hM3.upd⟩
    ·
      refine stg rfl (v := .pointer (some ⟨b2, 3, none⟩)) (o_fa rfl rfl) ?_
      refine gyesl rfl ?_
      refine m_ld (v := .int .i64 f.att) hM3 (i := 0) (j := 0) rfl rfl rfl rfl ?_
      refine stg rfl (v := .bool (decide ((16 : Int) < f.att))) (o_bin rfl rfl rfl) ?_
      refine stp (v := .bool (decide ((16 : Int) < f.att))) (o_pickF rfl rfl) ?_
      refine h5 _ _ ?_
      clear h5
      refine cndP rfl (fun c10 => ?_) (fun c10 => ?_)
      ·
        refine seq fun K11 h11 => ?_
        refine stp (v := .bool false) (o_mv rfl) ?_
        refine h11 _ _ ?_
        clear h11
        refine ⟨(.bool false), rfl, ?_⟩
        first | exact ⟨bT (by simp only [goodP, stopP, dmgP] at *; omega), hM3.upd⟩ | exact ⟨bF (by simp only [goodP, stopP, dmgP] at *; omega), hM3.upd⟩ | exact ⟨bP (by simp only [goodP, stopP, dmgP] at *; omega), hM3.upd⟩
      ·
        refine h4 _ _ ?_
        clear h4
        refine seq fun K12 h12 => ?_
        refine seq fun K13 h13 => ?_
        refine stp (v := .pointer (some ⟨b2, 0, none⟩)) (o_fa rfl rfl) ?_
        refine m_ld (v := .int .i64 f.kind) hM3 (i := 0) (j := 0) rfl rfl rfl rfl ?_
        refine h13 _ _ ?_
        clear h13
        refine seq fun K14 h14 => ?_
        refine stp (v := .bool (decide (f.kind = 0))) (o_bin rfl rfl rfl) ?_
        refine stp (v := .bool (decide (f.kind = 0))) (o_mv rfl) ?_
        refine h14 _ _ ?_
        clear h14
        refine cndP rfl (fun c15 => ?_) (fun c15 => ?_)
        ·
          refine seq fun K16 h16 => ?_
          refine m_ldA (l := [.int .i64 f.kind, .int .i64 f.tk, .int .i64 f.task, .int .i64 f.att, .int .i64 f.mom, .int .i64 f.rd, .int .i64 f.at_, .int .u32 f.mask]) hM3 (i := 0) (j := 0) rfl rfl rfl rfl rfl ?_
          refine m_call (refstop_ok f w3 (by first | assumption | omega)) rfl fun v17 w17 ⟨hr17, hu17⟩ => ?_
          have hM17 : Mem w [] w17 [[⟨b2, 25, [.int .i64 f.kind, .int .i64 f.tk, .int .i64 f.task, .int .i64 f.att, .int .i64 f.mom, .int .i64 f.rd, .int .i64 f.at_, .int .u32 f.mask]⟩]] := hM3.pure hu17
          subst hr17
          refine stp (v := .bool (decide (stopP f))) (o_mv rfl) ?_
          refine h16 _ _ ?_
          clear h16
          refine ⟨(.bool (decide (stopP f))), rfl, ?_⟩
          first | exact ⟨bT (by simp only [goodP, stopP, dmgP] at *; omega), hM17.upd⟩ | exact ⟨bF (by simp only [goodP, stopP, dmgP] at *; omega), hM17.upd⟩ | exact ⟨bP (by simp only [goodP, stopP, dmgP] at *; omega), hM17.upd⟩
        ·
          refine seq fun K18 h18 => ?_
          refine stp (v := .bool (decide (f.kind = 1))) (o_bin rfl rfl rfl) ?_
          refine stp (v := .bool (decide (f.kind = 1))) (o_mv rfl) ?_
          refine h18 _ _ ?_
          clear h18
          refine cndP rfl (fun c19 => ?_) (fun c19 => ?_)
          ·
            refine seq fun K20 h20 => ?_
            refine m_ldA (l := [.int .i64 f.kind, .int .i64 f.tk, .int .i64 f.task, .int .i64 f.att, .int .i64 f.mom, .int .i64 f.rd, .int .i64 f.at_, .int .u32 f.mask]) hM3 (i := 0) (j := 0) rfl rfl rfl rfl rfl ?_
            refine m_call (refdamage_ok f w3 (by first | assumption | omega)) rfl fun v21 w21 ⟨hr21, hu21⟩ => ?_
            have hM21 : Mem w [] w21 [[⟨b2, 25, [.int .i64 f.kind, .int .i64 f.tk, .int .i64 f.task, .int .i64 f.att, .int .i64 f.mom, .int .i64 f.rd, .int .i64 f.at_, .int .u32 f.mask]⟩]] := hM3.pure hu21
            subst hr21
            refine stp (v := .bool (decide (dmgP f))) (o_mv rfl) ?_
            refine splitP rfl (fun c22 => ?_) (fun c22 => ?_)
            ·
              refine stg rfl (v := .pointer (some ⟨b2, 6, none⟩)) (o_fa rfl rfl) ?_
              refine gyesl rfl ?_
              refine m_ld (v := .int .i64 f.at_) hM21 (i := 0) (j := 0) rfl rfl rfl rfl ?_
              refine stg rfl (v := .bool (decide ((0 : Int) ≤ f.at_))) (o_bin rfl rfl rfl) ?_
              refine stp (v := .bool (decide ((0 : Int) ≤ f.at_))) (o_pickT rfl rfl) ?_
              refine stp (v := .bool (decide ((0 : Int) ≤ f.at_))) (o_mv rfl) ?_
              refine splitP rfl (fun c23 => ?_) (fun c23 => ?_)
              ·
                refine stg rfl (v := .pointer (some ⟨b2, 7, none⟩)) (o_fa rfl rfl) ?_
                refine gyesl rfl ?_
                refine m_ld (v := .int .u32 f.mask) hM21 (i := 0) (j := 0) rfl rfl rfl rfl ?_
                refine stg rfl (v := .int .u32 (f.mask % 2)) (o_rem rfl rfl (by omega) (v_rem (by omega))) ?_
                refine stg rfl (v := .bool (decide ((f.mask % 2) = 1))) (o_bin rfl rfl rfl) ?_
                refine stp (v := .bool (decide ((f.mask % 2) = 1))) (o_pickT rfl rfl) ?_
                refine stp (v := .bool (decide ((f.mask % 2) = 1))) (o_mv rfl) ?_
                refine h20 _ _ ?_
                clear h20
                refine ⟨(.bool (decide ((f.mask % 2) = 1))), rfl, ?_⟩
                first | exact ⟨bT (by simp only [goodP, stopP, dmgP] at *; omega), hM21.upd⟩ | exact ⟨bF (by simp only [goodP, stopP, dmgP] at *; omega), hM21.upd⟩ | exact ⟨bP (by simp only [goodP, stopP, dmgP] at *; omega), hM21.upd⟩
              ·
                refine gno rfl (by simp) ?_
                refine gnol rfl (by simp) ?_
                refine gno rfl (by simp) ?_
                refine gno rfl (by simp) ?_
                refine stp (v := .bool false) (o_pickF rfl rfl) ?_
                refine stp (v := .bool false) (o_mv rfl) ?_
                refine h20 _ _ ?_
                clear h20
                refine ⟨(.bool false), rfl, ?_⟩
                first | exact ⟨bT (by simp only [goodP, stopP, dmgP] at *; omega), hM21.upd⟩ | exact ⟨bF (by simp only [goodP, stopP, dmgP] at *; omega), hM21.upd⟩ | exact ⟨bP (by simp only [goodP, stopP, dmgP] at *; omega), hM21.upd⟩
            ·
              refine gno rfl (by simp) ?_
              refine gnol rfl (by simp) ?_
              refine gno rfl (by simp) ?_
              refine stp (v := .bool false) (o_pickF rfl rfl) ?_
              refine stp (v := .bool false) (o_mv rfl) ?_
              refine splitF rfl ?_
              refine gno rfl (by simp) ?_
              refine gnol rfl (by simp) ?_
              refine gno rfl (by simp) ?_
              refine gno rfl (by simp) ?_
              refine stp (v := .bool false) (o_pickF rfl rfl) ?_
              refine stp (v := .bool false) (o_mv rfl) ?_
              refine h20 _ _ ?_
              clear h20
              refine ⟨(.bool false), rfl, ?_⟩
              first | exact ⟨bT (by simp only [goodP, stopP, dmgP] at *; omega), hM21.upd⟩ | exact ⟨bF (by simp only [goodP, stopP, dmgP] at *; omega), hM21.upd⟩ | exact ⟨bP (by simp only [goodP, stopP, dmgP] at *; omega), hM21.upd⟩
          ·
            refine seq fun K24 h24 => ?_
            refine stp (v := .bool (decide (f.kind = 2))) (o_bin rfl rfl rfl) ?_
            refine stp (v := .bool (decide (f.kind = 2))) (o_mv rfl) ?_
            refine h24 _ _ ?_
            clear h24
            refine cndP rfl (fun c25 => ?_) (fun c25 => ?_)
            ·
              refine seq fun K26 h26 => ?_
              refine m_ldA (l := [.int .i64 f.kind, .int .i64 f.tk, .int .i64 f.task, .int .i64 f.att, .int .i64 f.mom, .int .i64 f.rd, .int .i64 f.at_, .int .u32 f.mask]) hM3 (i := 0) (j := 0) rfl rfl rfl rfl rfl ?_
              refine m_call (refdamage_ok f w3 (by first | assumption | omega)) rfl fun v27 w27 ⟨hr27, hu27⟩ => ?_
              have hM27 : Mem w [] w27 [[⟨b2, 25, [.int .i64 f.kind, .int .i64 f.tk, .int .i64 f.task, .int .i64 f.att, .int .i64 f.mom, .int .i64 f.rd, .int .i64 f.at_, .int .u32 f.mask]⟩]] := hM3.pure hu27
              subst hr27
              refine stp (v := .bool (decide (dmgP f))) (o_mv rfl) ?_
              refine splitP rfl (fun c28 => ?_) (fun c28 => ?_)
              ·
                refine stg rfl (v := .pointer (some ⟨b2, 6, none⟩)) (o_fa rfl rfl) ?_
                refine gyesl rfl ?_
                refine m_ld (v := .int .i64 f.at_) hM27 (i := 0) (j := 0) rfl rfl rfl rfl ?_
                refine stg rfl (v := .bool (decide ((-268435456) ≤ f.at_))) (o_bin rfl rfl rfl) ?_
                refine stp (v := .bool (decide ((-268435456) ≤ f.at_))) (o_pickT rfl rfl) ?_
                refine stp (v := .bool (decide ((-268435456) ≤ f.at_))) (o_mv rfl) ?_
                refine splitP rfl (fun c29 => ?_) (fun c29 => ?_)
                ·
                  refine stg rfl (v := .pointer (some ⟨b2, 6, none⟩)) (o_fa rfl rfl) ?_
                  refine gyesl rfl ?_
                  refine m_ld (v := .int .i64 f.at_) hM27 (i := 0) (j := 0) rfl rfl rfl rfl ?_
                  refine stg rfl (v := .bool (decide (f.at_ ≤ 4096))) (o_bin rfl rfl rfl) ?_
                  refine stp (v := .bool (decide (f.at_ ≤ 4096))) (o_pickT rfl rfl) ?_
                  refine stp (v := .bool (decide (f.at_ ≤ 4096))) (o_mv rfl) ?_
                  refine splitP rfl (fun c30 => ?_) (fun c30 => ?_)
                  ·
                    refine stg rfl (v := .pointer (some ⟨b2, 6, none⟩)) (o_fa rfl rfl) ?_
                    refine gyesl rfl ?_
                    refine m_ld (v := .int .i64 f.at_) hM27 (i := 0) (j := 0) rfl rfl rfl rfl ?_
                    refine stg rfl (v := .bool (decide (¬ f.at_ = 0))) (o_bin rfl rfl v_neq) ?_
                    refine stp (v := .bool (decide (¬ f.at_ = 0))) (o_pickT rfl rfl) ?_
                    refine stp (v := .bool (decide (¬ f.at_ = 0))) (o_mv rfl) ?_
                    refine splitP rfl (fun c31 => ?_) (fun c31 => ?_)
                    ·
                      refine stg rfl (v := .pointer (some ⟨b2, 7, none⟩)) (o_fa rfl rfl) ?_
                      refine gyesl rfl ?_
                      refine m_ld (v := .int .u32 f.mask) hM27 (i := 0) (j := 0) rfl rfl rfl rfl ?_
                      refine stg rfl (v := .bool (decide (f.mask = 0))) (o_bin rfl rfl rfl) ?_
                      refine stp (v := .bool (decide (f.mask = 0))) (o_pickT rfl rfl) ?_
                      refine stp (v := .bool (decide (f.mask = 0))) (o_mv rfl) ?_
                      refine h26 _ _ ?_
                      clear h26
                      refine ⟨(.bool (decide (f.mask = 0))), rfl, ?_⟩
                      first | exact ⟨bT (by simp only [goodP, stopP, dmgP] at *; omega), hM27.upd⟩ | exact ⟨bF (by simp only [goodP, stopP, dmgP] at *; omega), hM27.upd⟩ | exact ⟨bP (by simp only [goodP, stopP, dmgP] at *; omega), hM27.upd⟩
                    ·
                      refine gno rfl (by simp) ?_
                      refine gnol rfl (by simp) ?_
                      refine gno rfl (by simp) ?_
                      refine stp (v := .bool false) (o_pickF rfl rfl) ?_
                      refine stp (v := .bool false) (o_mv rfl) ?_
                      refine h26 _ _ ?_
                      clear h26
                      refine ⟨(.bool false), rfl, ?_⟩
                      first | exact ⟨bT (by simp only [goodP, stopP, dmgP] at *; omega), hM27.upd⟩ | exact ⟨bF (by simp only [goodP, stopP, dmgP] at *; omega), hM27.upd⟩ | exact ⟨bP (by simp only [goodP, stopP, dmgP] at *; omega), hM27.upd⟩
                  ·
                    refine gno rfl (by simp) ?_
                    refine gnol rfl (by simp) ?_
                    refine gno rfl (by simp) ?_
                    refine stp (v := .bool false) (o_pickF rfl rfl) ?_
                    refine stp (v := .bool false) (o_mv rfl) ?_
                    refine splitF rfl ?_
                    refine gno rfl (by simp) ?_
                    refine gnol rfl (by simp) ?_
                    refine gno rfl (by simp) ?_
                    refine stp (v := .bool false) (o_pickF rfl rfl) ?_
                    refine stp (v := .bool false) (o_mv rfl) ?_
                    refine h26 _ _ ?_
                    clear h26
                    refine ⟨(.bool false), rfl, ?_⟩
                    first | exact ⟨bT (by simp only [goodP, stopP, dmgP] at *; omega), hM27.upd⟩ | exact ⟨bF (by simp only [goodP, stopP, dmgP] at *; omega), hM27.upd⟩ | exact ⟨bP (by simp only [goodP, stopP, dmgP] at *; omega), hM27.upd⟩
                ·
                  refine gno rfl (by simp) ?_
                  refine gnol rfl (by simp) ?_
                  refine gno rfl (by simp) ?_
                  refine stp (v := .bool false) (o_pickF rfl rfl) ?_
                  refine stp (v := .bool false) (o_mv rfl) ?_
                  refine splitF rfl ?_
                  refine gno rfl (by simp) ?_
                  refine gnol rfl (by simp) ?_
                  refine gno rfl (by simp) ?_
                  refine stp (v := .bool false) (o_pickF rfl rfl) ?_
                  refine stp (v := .bool false) (o_mv rfl) ?_
                  refine splitF rfl ?_
                  refine gno rfl (by simp) ?_
                  refine gnol rfl (by simp) ?_
                  refine gno rfl (by simp) ?_
                  refine stp (v := .bool false) (o_pickF rfl rfl) ?_
                  refine stp (v := .bool false) (o_mv rfl) ?_
                  refine h26 _ _ ?_
                  clear h26
                  refine ⟨(.bool false), rfl, ?_⟩
                  first | exact ⟨bT (by simp only [goodP, stopP, dmgP] at *; omega), hM27.upd⟩ | exact ⟨bF (by simp only [goodP, stopP, dmgP] at *; omega), hM27.upd⟩ | exact ⟨bP (by simp only [goodP, stopP, dmgP] at *; omega), hM27.upd⟩
              ·
                refine gno rfl (by simp) ?_
                refine gnol rfl (by simp) ?_
                refine gno rfl (by simp) ?_
                refine stp (v := .bool false) (o_pickF rfl rfl) ?_
                refine stp (v := .bool false) (o_mv rfl) ?_
                refine splitF rfl ?_
                refine gno rfl (by simp) ?_
                refine gnol rfl (by simp) ?_
                refine gno rfl (by simp) ?_
                refine stp (v := .bool false) (o_pickF rfl rfl) ?_
                refine stp (v := .bool false) (o_mv rfl) ?_
                refine splitF rfl ?_
                refine gno rfl (by simp) ?_
                refine gnol rfl (by simp) ?_
                refine gno rfl (by simp) ?_
                refine stp (v := .bool false) (o_pickF rfl rfl) ?_
                refine stp (v := .bool false) (o_mv rfl) ?_
                refine splitF rfl ?_
                refine gno rfl (by simp) ?_
                refine gnol rfl (by simp) ?_
                refine gno rfl (by simp) ?_
                refine stp (v := .bool false) (o_pickF rfl rfl) ?_
                refine stp (v := .bool false) (o_mv rfl) ?_
                refine h26 _ _ ?_
                clear h26
                refine ⟨(.bool false), rfl, ?_⟩
                first | exact ⟨bT (by simp only [goodP, stopP, dmgP] at *; omega), hM27.upd⟩ | exact ⟨bF (by simp only [goodP, stopP, dmgP] at *; omega), hM27.upd⟩ | exact ⟨bP (by simp only [goodP, stopP, dmgP] at *; omega), hM27.upd⟩
            ·
              refine h12 _ _ ?_
              clear h12
              refine seq fun K32 h32 => ?_
              refine stp (v := .bool false) (o_mv rfl) ?_
              refine h32 _ _ ?_
              clear h32
              refine ⟨(.bool false), rfl, ?_⟩
              first | exact ⟨bT (by simp only [goodP, stopP, dmgP] at *; omega), hM3.upd⟩ | exact ⟨bF (by simp only [goodP, stopP, dmgP] at *; omega), hM3.upd⟩ | exact ⟨bP (by simp only [goodP, stopP, dmgP] at *; omega), hM3.upd⟩

/-- fault.right -/
theorem right_ok (f : Flt) (w : World) (hf : f.ok) : Calls Try.prog 37 [.agg (fltC f).toArray].toArray w (Rt fun r w' => r = .bool (decide (goodP f)) ∧ Upd [] w w') := by
  have hM0 : Mem w [] w [] := Mem.nil w []
  have hf0 := hf
  simp only [Flt.ok, inK] at hf
  refine calls_vc mixed Try.func37 rfl C37 (by simp [Try.ntmps37]) ?_
  refine seq fun K1 h1 => ?_
  refine m_bx (v := .agg ([.int .i64 f.kind, .int .i64 f.tk, .int .i64 f.task, .int .i64 f.att, .int .i64 f.mom, .int .i64 f.rd, .int .i64 f.at_, .int .u32 f.mask] : List Value).toArray) hM0 rfl rfl fun b2 w3 (hM3 : Mem w [] w3 [[⟨b2, 25, [.int .i64 f.kind, .int .i64 f.tk, .int .i64 f.task, .int .i64 f.att, .int .i64 f.mom, .int .i64 f.rd, .int .i64 f.at_, .int .u32 f.mask]⟩]]) => ?_
  refine stp (v := .bool false) (o_mv rfl) ?_
  refine h1 _ _ ?_
  clear h1
  refine seq fun K4 h4 => ?_
  refine stp (v := .agg [.func (.func 53) [].toArray [].toArray].toArray) (o_bld rfl rfl) ?_
  refine stp (v := .agg [.func (.func 54) [].toArray [].toArray].toArray) (o_bld rfl rfl) ?_
  refine stp (v := .agg [.func (.func 56) [].toArray [].toArray].toArray) (o_bld rfl rfl) ?_
  refine stp (v := .agg ([.func (.func 53) [].toArray [].toArray, .func (.func 54) [].toArray [].toArray, .func (.func 56) [].toArray [].toArray] : List Value).toArray) (o_bld rfl rfl) ?_
  refine m_al hM3 fun b5 w6 (hM6 : Mem w [] w6 [[⟨b2, 25, [.int .i64 f.kind, .int .i64 f.tk, .int .i64 f.task, .int .i64 f.att, .int .i64 f.mom, .int .i64 f.rd, .int .i64 f.at_, .int .u32 f.mask]⟩], [⟨b5, 91, [.nilFunc, .nilFunc, .nilFunc]⟩]]) => ?_
  refine m_stA (l := [.func (.func 53) [].toArray [].toArray, .func (.func 54) [].toArray [].toArray, .func (.func 56) [].toArray [].toArray]) hM6 (i := 1) rfl rfl rfl rfl (by simp [oneCells, Value.oneCell', byteV]) (by simp) fun w7 (hM7 : Mem w [] w7 [[⟨b2, 25, [.int .i64 f.kind, .int .i64 f.tk, .int .i64 f.task, .int .i64 f.att, .int .i64 f.mom, .int .i64 f.rd, .int .i64 f.at_, .int .u32 f.mask]⟩], [⟨b5, 91, [.func (.func 53) [].toArray [].toArray, .func (.func 54) [].toArray [].toArray, .func (.func 56) [].toArray [].toArray]⟩]]) => ?_
  refine h4 _ _ ?_
  clear h4
  refine seq fun K8 h8 => ?_
  intro wd e1 e2 e3 e4
  have hd := Upd.same e1 e2 e3 e4 []
  have hM9 := hM7.pure hd
  clear e1 e2 e3 e4
  refine ⟨(some [b2, b5]), ?_⟩
  show vd _ _ _ _ _ _ _
  refine dq (v := .pointer (some ⟨b2, 0, none⟩)) (o_fa rfl rfl) ?_
  refine dl (m_ld (v := .int .i64 f.kind) hM9 (i := 0) (j := 0) rfl rfl rfl rfl ?_)
  refine ⟨(fun b hb => rfl), ?_⟩
  refine dq (v := .bool (decide ((0 : Int) ≤ f.kind))) (o_bin rfl rfl rfl) ?_
  refine dq (v := .bool (decide ((0 : Int) ≤ f.kind))) (o_mv rfl) ?_
  refine dsplitP rfl (fun c10 => ?_) (fun c10 => ?_)
  ·
    refine dqg rfl (v := .pointer (some ⟨b2, 0, none⟩)) (o_fa rfl rfl) ?_
    refine dgyesl rfl ?_
    refine dl (m_ld (v := .int .i64 f.kind) hM9 (i := 0) (j := 0) rfl rfl rfl rfl ?_)
    refine ⟨(fun b hb => rfl), ?_⟩
    refine dqg rfl (v := .bool (decide (f.kind < 3))) (o_bin rfl rfl rfl) ?_
    refine dq (v := .bool (decide (f.kind < 3))) (o_pickT rfl rfl) ?_
    refine dq (v := .bool (decide (f.kind < 3))) (o_mv rfl) ?_
    refine dsplitP rfl (fun c11 => ?_) (fun c11 => ?_)
    ·
      refine dqg rfl (v := .pointer (some ⟨b2, 2, none⟩)) (o_fa rfl rfl) ?_
      refine dgyesl rfl ?_
      refine dl (m_ld (v := .int .i64 f.task) hM9 (i := 0) (j := 0) rfl rfl rfl rfl ?_)
      refine ⟨(fun b hb => rfl), ?_⟩
      refine dqg rfl (v := .bool (decide ((0 : Int) ≤ f.task))) (o_bin rfl rfl rfl) ?_
      refine dq (v := .bool (decide ((0 : Int) ≤ f.task))) (o_pickT rfl rfl) ?_
      refine dq (v := .bool (decide ((0 : Int) ≤ f.task))) (o_mv rfl) ?_
      refine dsplitP rfl (fun c12 => ?_) (fun c12 => ?_)
      ·
        refine dqg rfl (v := .pointer (some ⟨b2, 3, none⟩)) (o_fa rfl rfl) ?_
        refine dgyesl rfl ?_
        refine dl (m_ld (v := .int .i64 f.att) hM9 (i := 0) (j := 0) rfl rfl rfl rfl ?_)
        refine ⟨(fun b hb => rfl), ?_⟩
        refine dqg rfl (v := .bool (decide ((1 : Int) ≤ f.att))) (o_bin rfl rfl rfl) ?_
        refine dq (v := .bool (decide ((1 : Int) ≤ f.att))) (o_pickT rfl rfl) ?_
        refine dq (v := .bool (decide ((1 : Int) ≤ f.att))) (o_mv rfl) ?_
        refine dsplitP rfl (fun c13 => ?_) (fun c13 => ?_)
        ·
          refine dqg rfl (v := .pointer (some ⟨b2, 3, none⟩)) (o_fa rfl rfl) ?_
          refine dgyesl rfl ?_
          refine dl (m_ld (v := .int .i64 f.att) hM9 (i := 0) (j := 0) rfl rfl rfl rfl ?_)
          refine ⟨(fun b hb => rfl), ?_⟩
          refine dqg rfl (v := .bool (decide (f.att ≤ 16))) (o_bin rfl rfl rfl) ?_
          refine dq (v := .bool (decide (f.att ≤ 16))) (o_pickT rfl rfl) ?_
          refine dq (v := .bool (decide (f.att ≤ 16))) (o_mv rfl) ?_
          refine dsplitP rfl (fun c14 => ?_) (fun c14 => ?_)
          ·
            rcases (show f.kind = 0 ∨ f.kind = 1 ∨ f.kind = 2 by omega) with k | k | k
            ·
              refine dqg rfl (v := .pointer (some ⟨b2, 0, none⟩)) (o_fa rfl rfl) ?_
              refine dqgyes rfl rfl ?_
              refine dqldA (cs := [.int .i64 f.kind, .int .i64 f.tk, .int .i64 f.task, .int .i64 f.att, .int .i64 f.mom, .int .i64 f.rd, .int .i64 f.at_, .int .u32 f.mask]) rfl (by simp [isHeld]) rfl ((hM9.at (i := 0) (j := 0) rfl rfl).agg rfl rfl) ?_
              refine dgyesl rfl ?_
              refine dl (ld (v := .int .i64 0) rfl (by rw [← k]; exact (hM9.at (i := 0) (j := 0) rfl rfl).cell 0) ?_)
              refine ⟨(fun b hb => rfl), ?_⟩
              refine dqg rfl (v := .pointer (some ⟨b5, 0, none⟩)) (o_idxa rfl rfl (by omega) rfl) ?_
              refine dqg rfl (v := .pointer (some ⟨b5, 0, none⟩)) (o_fa rfl rfl) ?_
              refine dgyesl rfl ?_
              refine dl (m_ld (v := .func (.func 53) [].toArray [].toArray) hM9 (i := 1) (j := 0) rfl rfl rfl rfl ?_)
              refine ⟨(fun b hb => rfl), ?_⟩
              refine dgyesl rfl ?_
              refine dl (m_callv rfl (by kernel_rfl) (right1_ok f wd (by first | assumption | omega)) rfl fun v15 w15 ⟨hr15, hu15⟩ => ?_)
              have hM15 : Mem w [] w15 [[⟨b2, 25, [.int .i64 f.kind, .int .i64 f.tk, .int .i64 f.task, .int .i64 f.att, .int .i64 f.mom, .int .i64 f.rd, .int .i64 f.at_, .int .u32 f.mask]⟩], [⟨b5, 91, [.func (.func 53) [].toArray [].toArray, .func (.func 54) [].toArray [].toArray, .func (.func 56) [].toArray [].toArray]⟩]] := hM9.pure hu15
              subst hr15
              have hh15 := held_upd (wr := wd) (bs := [b2, b5]) hu15 (fun b hb => by
                simp only [List.mem_cons, List.not_mem_nil, or_false] at hb
                rcases hb with h | h
                · rw [h]; exact ⟨(hM9.at (i := 0) (j := 0) rfl rfl).lt, by simp⟩
                · rw [h]; exact ⟨(hM9.at (i := 1) (j := 0) rfl rfl).lt, by simp⟩) (fun b hb => rfl)
              refine ⟨hh15, ?_⟩
              refine dq (v := .bool (decide (goodS f))) (o_pickT rfl rfl) ?_
              refine dq (v := .bool (decide (goodS f))) (o_mv rfl) ?_
              refine h8 _ _ ?_
              clear h8
              refine ⟨(.bool (decide (goodS f))), rfl, ?_⟩
              first | exact ⟨bT (by simp only [goodP, goodS, goodF, goodL, stopP, dmgP] at *; omega), hM15.upd⟩ | exact ⟨bF (by simp only [goodP, goodS, goodF, goodL, stopP, dmgP] at *; omega), hM15.upd⟩ | exact ⟨bP (by simp only [goodP, goodS, goodF, goodL, stopP, dmgP] at *; omega), hM15.upd⟩
            ·
              refine dqg rfl (v := .pointer (some ⟨b2, 0, none⟩)) (o_fa rfl rfl) ?_
              refine dqgyes rfl rfl ?_
              refine dqldA (cs := [.int .i64 f.kind, .int .i64 f.tk, .int .i64 f.task, .int .i64 f.att, .int .i64 f.mom, .int .i64 f.rd, .int .i64 f.at_, .int .u32 f.mask]) rfl (by simp [isHeld]) rfl ((hM9.at (i := 0) (j := 0) rfl rfl).agg rfl rfl) ?_
              refine dgyesl rfl ?_
              refine dl (ld (v := .int .i64 1) rfl (by rw [← k]; exact (hM9.at (i := 0) (j := 0) rfl rfl).cell 0) ?_)
              refine ⟨(fun b hb => rfl), ?_⟩
              refine dqg rfl (v := .pointer (some ⟨b5, 1, none⟩)) (o_idxa rfl rfl (by omega) rfl) ?_
              refine dqg rfl (v := .pointer (some ⟨b5, 1, none⟩)) (o_fa rfl rfl) ?_
              refine dgyesl rfl ?_
              refine dl (m_ld (v := .func (.func 54) [].toArray [].toArray) hM9 (i := 1) (j := 0) rfl rfl rfl rfl ?_)
              refine ⟨(fun b hb => rfl), ?_⟩
              refine dgyesl rfl ?_
              refine dl (m_callv rfl (by kernel_rfl) (right2_ok f wd (by first | assumption | omega)) rfl fun v16 w16 ⟨hr16, hu16⟩ => ?_)
              have hM16 : Mem w [] w16 [[⟨b2, 25, [.int .i64 f.kind, .int .i64 f.tk, .int .i64 f.task, .int .i64 f.att, .int .i64 f.mom, .int .i64 f.rd, .int .i64 f.at_, .int .u32 f.mask]⟩], [⟨b5, 91, [.func (.func 53) [].toArray [].toArray, .func (.func 54) [].toArray [].toArray, .func (.func 56) [].toArray [].toArray]⟩]] := hM9.pure hu16
              subst hr16
              have hh16 := held_upd (wr := wd) (bs := [b2, b5]) hu16 (fun b hb => by
                simp only [List.mem_cons, List.not_mem_nil, or_false] at hb
                rcases hb with h | h
                · rw [h]; exact ⟨(hM9.at (i := 0) (j := 0) rfl rfl).lt, by simp⟩
                · rw [h]; exact ⟨(hM9.at (i := 1) (j := 0) rfl rfl).lt, by simp⟩) (fun b hb => rfl)
              refine ⟨hh16, ?_⟩
              refine dq (v := .bool (decide (goodF f))) (o_pickT rfl rfl) ?_
              refine dq (v := .bool (decide (goodF f))) (o_mv rfl) ?_
              refine h8 _ _ ?_
              clear h8
              refine ⟨(.bool (decide (goodF f))), rfl, ?_⟩
              first | exact ⟨bT (by simp only [goodP, goodS, goodF, goodL, stopP, dmgP] at *; omega), hM16.upd⟩ | exact ⟨bF (by simp only [goodP, goodS, goodF, goodL, stopP, dmgP] at *; omega), hM16.upd⟩ | exact ⟨bP (by simp only [goodP, goodS, goodF, goodL, stopP, dmgP] at *; omega), hM16.upd⟩
            ·
              refine dqg rfl (v := .pointer (some ⟨b2, 0, none⟩)) (o_fa rfl rfl) ?_
              refine dqgyes rfl rfl ?_
              refine dqldA (cs := [.int .i64 f.kind, .int .i64 f.tk, .int .i64 f.task, .int .i64 f.att, .int .i64 f.mom, .int .i64 f.rd, .int .i64 f.at_, .int .u32 f.mask]) rfl (by simp [isHeld]) rfl ((hM9.at (i := 0) (j := 0) rfl rfl).agg rfl rfl) ?_
              refine dgyesl rfl ?_
              refine dl (ld (v := .int .i64 2) rfl (by rw [← k]; exact (hM9.at (i := 0) (j := 0) rfl rfl).cell 0) ?_)
              refine ⟨(fun b hb => rfl), ?_⟩
              refine dqg rfl (v := .pointer (some ⟨b5, 2, none⟩)) (o_idxa rfl rfl (by omega) rfl) ?_
              refine dqg rfl (v := .pointer (some ⟨b5, 2, none⟩)) (o_fa rfl rfl) ?_
              refine dgyesl rfl ?_
              refine dl (m_ld (v := .func (.func 56) [].toArray [].toArray) hM9 (i := 1) (j := 0) rfl rfl rfl rfl ?_)
              refine ⟨(fun b hb => rfl), ?_⟩
              refine dgyesl rfl ?_
              refine dl (m_callv rfl (by kernel_rfl) (right3_ok f wd (by first | assumption | omega)) rfl fun v17 w17 ⟨hr17, hu17⟩ => ?_)
              have hM17 : Mem w [] w17 [[⟨b2, 25, [.int .i64 f.kind, .int .i64 f.tk, .int .i64 f.task, .int .i64 f.att, .int .i64 f.mom, .int .i64 f.rd, .int .i64 f.at_, .int .u32 f.mask]⟩], [⟨b5, 91, [.func (.func 53) [].toArray [].toArray, .func (.func 54) [].toArray [].toArray, .func (.func 56) [].toArray [].toArray]⟩]] := hM9.pure hu17
              subst hr17
              have hh17 := held_upd (wr := wd) (bs := [b2, b5]) hu17 (fun b hb => by
                simp only [List.mem_cons, List.not_mem_nil, or_false] at hb
                rcases hb with h | h
                · rw [h]; exact ⟨(hM9.at (i := 0) (j := 0) rfl rfl).lt, by simp⟩
                · rw [h]; exact ⟨(hM9.at (i := 1) (j := 0) rfl rfl).lt, by simp⟩) (fun b hb => rfl)
              refine ⟨hh17, ?_⟩
              refine dq (v := .bool (decide (goodL f))) (o_pickT rfl rfl) ?_
              refine dq (v := .bool (decide (goodL f))) (o_mv rfl) ?_
              refine h8 _ _ ?_
              clear h8
              refine ⟨(.bool (decide (goodL f))), rfl, ?_⟩
              first | exact ⟨bT (by simp only [goodP, goodS, goodF, goodL, stopP, dmgP] at *; omega), hM17.upd⟩ | exact ⟨bF (by simp only [goodP, goodS, goodF, goodL, stopP, dmgP] at *; omega), hM17.upd⟩ | exact ⟨bP (by simp only [goodP, goodS, goodF, goodL, stopP, dmgP] at *; omega), hM17.upd⟩
          ·
            refine dgno rfl (by simp) ?_
            refine dqgno rfl (by simp) ?_
            refine dgnol rfl (by simp) ?_
            refine dgno rfl (by simp) ?_
            refine dgno rfl (by simp) ?_
            refine dgnol rfl (by simp) ?_
            refine dgnol rfl (by simp) ?_
            refine dq (v := .bool false) (o_pickF rfl rfl) ?_
            refine dq (v := .bool false) (o_mv rfl) ?_
            refine h8 _ _ ?_
            clear h8
            refine ⟨(.bool false), rfl, ?_⟩
            first | exact ⟨bT (by simp only [goodP, goodS, goodF, goodL, stopP, dmgP] at *; omega), hM9.upd⟩ | exact ⟨bF (by simp only [goodP, goodS, goodF, goodL, stopP, dmgP] at *; omega), hM9.upd⟩ | exact ⟨bP (by simp only [goodP, goodS, goodF, goodL, stopP, dmgP] at *; omega), hM9.upd⟩
        ·
          refine dgno rfl (by simp) ?_
          refine dgnol rfl (by simp) ?_
          refine dgno rfl (by simp) ?_
          refine dq (v := .bool false) (o_pickF rfl rfl) ?_
          refine dq (v := .bool false) (o_mv rfl) ?_
          refine dsplitF rfl ?_
          refine dgno rfl (by simp) ?_
          refine dqgno rfl (by simp) ?_
          refine dgnol rfl (by simp) ?_
          refine dgno rfl (by simp) ?_
          refine dgno rfl (by simp) ?_
          refine dgnol rfl (by simp) ?_
          refine dgnol rfl (by simp) ?_
          refine dq (v := .bool false) (o_pickF rfl rfl) ?_
          refine dq (v := .bool false) (o_mv rfl) ?_
          refine h8 _ _ ?_
          clear h8
          refine ⟨(.bool false), rfl, ?_⟩
          first | exact ⟨bT (by simp only [goodP, goodS, goodF, goodL, stopP, dmgP] at *; omega), hM9.upd⟩ | exact ⟨bF (by simp only [goodP, goodS, goodF, goodL, stopP, dmgP] at *; omega), hM9.upd⟩ | exact ⟨bP (by simp only [goodP, goodS, goodF, goodL, stopP, dmgP] at *; omega), hM9.upd⟩
      ·
        refine dgno rfl (by simp) ?_
        refine dgnol rfl (by simp) ?_
        refine dgno rfl (by simp) ?_
        refine dq (v := .bool false) (o_pickF rfl rfl) ?_
        refine dq (v := .bool false) (o_mv rfl) ?_
        refine dsplitF rfl ?_
        refine dgno rfl (by simp) ?_
        refine dgnol rfl (by simp) ?_
        refine dgno rfl (by simp) ?_
        refine dq (v := .bool false) (o_pickF rfl rfl) ?_
        refine dq (v := .bool false) (o_mv rfl) ?_
        refine dsplitF rfl ?_
        refine dgno rfl (by simp) ?_
        refine dqgno rfl (by simp) ?_
        refine dgnol rfl (by simp) ?_
        refine dgno rfl (by simp) ?_
        refine dgno rfl (by simp) ?_
        refine dgnol rfl (by simp) ?_
        refine dgnol rfl (by simp) ?_
        refine dq (v := .bool false) (o_pickF rfl rfl) ?_
        refine dq (v := .bool false) (o_mv rfl) ?_
        refine h8 _ _ ?_
        clear h8
        refine ⟨(.bool false), rfl, ?_⟩
        first | exact ⟨bT (by simp only [goodP, goodS, goodF, goodL, stopP, dmgP] at *; omega), hM9.upd⟩ | exact ⟨bF (by simp only [goodP, goodS, goodF, goodL, stopP, dmgP] at *; omega), hM9.upd⟩ | exact ⟨bP (by simp only [goodP, goodS, goodF, goodL, stopP, dmgP] at *; omega), hM9.upd⟩
    ·
      refine dgno rfl (by simp) ?_
      refine dgnol rfl (by simp) ?_
      refine dgno rfl (by simp) ?_
      refine dq (v := .bool false) (o_pickF rfl rfl) ?_
      refine dq (v := .bool false) (o_mv rfl) ?_
      refine dsplitF rfl ?_
      refine dgno rfl (by simp) ?_
      refine dgnol rfl (by simp) ?_
      refine dgno rfl (by simp) ?_
      refine dq (v := .bool false) (o_pickF rfl rfl) ?_
      refine dq (v := .bool false) (o_mv rfl) ?_
      refine dsplitF rfl ?_
      refine dgno rfl (by simp) ?_
      refine dgnol rfl (by simp) ?_
      refine dgno rfl (by simp) ?_
      refine dq (v := .bool false) (o_pickF rfl rfl) ?_
      refine dq (v := .bool false) (o_mv rfl) ?_
      refine dsplitF rfl ?_
      refine dgno rfl (by simp) ?_
      refine dqgno rfl (by simp) ?_
      refine dgnol rfl (by simp) ?_
      refine dgno rfl (by simp) ?_
      refine dgno rfl (by simp) ?_
      refine dgnol rfl (by simp) ?_
      refine dgnol rfl (by simp) ?_
      refine dq (v := .bool false) (o_pickF rfl rfl) ?_
      refine dq (v := .bool false) (o_mv rfl) ?_
      refine h8 _ _ ?_
      clear h8
      refine ⟨(.bool false), rfl, ?_⟩
      first | exact ⟨bT (by simp only [goodP, goodS, goodF, goodL, stopP, dmgP] at *; omega), hM9.upd⟩ | exact ⟨bF (by simp only [goodP, goodS, goodF, goodL, stopP, dmgP] at *; omega), hM9.upd⟩ | exact ⟨bP (by simp only [goodP, goodS, goodF, goodL, stopP, dmgP] at *; omega), hM9.upd⟩
  ·
    refine dgno rfl (by simp) ?_
    refine dgnol rfl (by simp) ?_
    refine dgno rfl (by simp) ?_
    refine dq (v := .bool false) (o_pickF rfl rfl) ?_
    refine dq (v := .bool false) (o_mv rfl) ?_
    refine dsplitF rfl ?_
    refine dgno rfl (by simp) ?_
    refine dgnol rfl (by simp) ?_
    refine dgno rfl (by simp) ?_
    refine dq (v := .bool false) (o_pickF rfl rfl) ?_
    refine dq (v := .bool false) (o_mv rfl) ?_
    refine dsplitF rfl ?_
    refine dgno rfl (by simp) ?_
    refine dgnol rfl (by simp) ?_
    refine dgno rfl (by simp) ?_
    refine dq (v := .bool false) (o_pickF rfl rfl) ?_
    refine dq (v := .bool false) (o_mv rfl) ?_
    refine dsplitF rfl ?_
    refine dgno rfl (by simp) ?_
    refine dgnol rfl (by simp) ?_
    refine dgno rfl (by simp) ?_
    refine dq (v := .bool false) (o_pickF rfl rfl) ?_
    refine dq (v := .bool false) (o_mv rfl) ?_
    refine dsplitF rfl ?_
    refine dgno rfl (by simp) ?_
    refine dqgno rfl (by simp) ?_
    refine dgnol rfl (by simp) ?_
    refine dgno rfl (by simp) ?_
    refine dgno rfl (by simp) ?_
    refine dgnol rfl (by simp) ?_
    refine dgnol rfl (by simp) ?_
    refine dq (v := .bool false) (o_pickF rfl rfl) ?_
    refine dq (v := .bool false) (o_mv rfl) ?_
    refine h8 _ _ ?_
    clear h8
    refine ⟨(.bool false), rfl, ?_⟩
    first | exact ⟨bT (by simp only [goodP, goodS, goodF, goodL, stopP, dmgP] at *; omega), hM9.upd⟩ | exact ⟨bF (by simp only [goodP, goodS, goodF, goodL, stopP, dmgP] at *; omega), hM9.upd⟩ | exact ⟨bP (by simp only [goodP, goodS, goodF, goodL, stopP, dmgP] at *; omega), hM9.upd⟩
