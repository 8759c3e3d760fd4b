/- Steps of a walk, part 3: each step with the value that it gives, told. -/
import Derived.Test.YtnkilhmkegmenaaE9
namespace Go.Proofs.Ytnkilhmkegmenaa.E
open Go

/-- A text of bytes. -/
def str (l : List UInt8) : ByteArray := ⟨l.toArray⟩
theorem str_size (l : List UInt8) : (str l).size = l.length := by simp [str, ByteArray.size]
theorem str_list (s : ByteArray) : str s.data.toList = s := by cases s; simp [str]
theorem toList_str (l : List UInt8) : (str l).toList = l := by
  rw [ByteArray.toList_eq]; simp [str]

abbrev PeV (o : PO) (f : Fr) (v : Value) : Prop := ∀ K : Value → Prop, K v → pe o f K

section
variable {f : Fr} {v : Value}
theorem o_mv {x : Operand} (hx : ev f x = v) : PeV (.mv x) f v := fun K h => by show K _; rw [hx]; exact h
theorem o_pickT {c a b : Operand} (hc : ev f c = .bool true) (ha : ev f a = v) : PeV (.pick c a b) f v := fun K h => by show kbool (ev f c) _; rw [hc]; show K (ev f a); rw [ha]; exact h
theorem o_pickF {c a b : Operand} (hc : ev f c = .bool false) (ha : ev f b = v) : PeV (.pick c a b) f v := fun K h => by show kbool (ev f c) _; rw [hc]; show K (ev f b); rw [ha]; exact h
theorem o_bin {op : BinOp} {k : IntKind} {x y : Operand} {a b : Int} (hx : ev f x = .int k a) (hy : ev f y = .int k b) (hv : binI op k a b = v) : PeV (.bin op k x y) f v := fun K h => by
  show kint k (ev f x) _; rw [hx]; refine ⟨rfl, ?_⟩; show kint k (ev f y) _; rw [hy]; refine ⟨rfl, ?_⟩; show K _; rw [hv]; exact h
theorem o_shl {x y : Operand} {k k' : IntKind} {a b : Int} (hx : ev f x = .int k a) (hy : ev f y = .int k' b) (hb : 0 ≤ b) (hv : Value.int k (k.wrap (a * 2 ^ min b.toNat k.bits)) = v) : PeV (.shf .shl x y) f v := fun K h => by
  show anyint (ev f x) _; rw [hx]; show anyint (ev f y) _; rw [hy]; refine ⟨hb, ?_⟩; show K _; rw [hv]; exact h
theorem o_shr {x y : Operand} {k k' : IntKind} {a b : Int} (hx : ev f x = .int k a) (hy : ev f y = .int k' b) (hb : 0 ≤ b) (hv : Value.int k (a.fdiv (2 ^ min b.toNat k.bits)) = v) : PeV (.shf .shr x y) f v := fun K h => by
  show anyint (ev f x) _; rw [hx]; show anyint (ev f y) _; rw [hy]; refine ⟨hb, ?_⟩; show K _; rw [hv]; exact h
theorem o_quo {x y : Operand} {k : IntKind} {a b : Int} (hx : ev f x = .int k a) (hy : ev f y = .int k b) (hb : b ≠ 0) (hv : Value.int k (k.wrap (a.tdiv b)) = v) : PeV (.div .quo k x y) f v := fun K h => by
  show kint k (ev f x) _; rw [hx]; refine ⟨rfl, ?_⟩; show kint k (ev f y) _; rw [hy]; refine ⟨rfl, hb, ?_⟩; show K _; rw [hv]; exact h
theorem o_rem {x y : Operand} {k : IntKind} {a b : Int} (hx : ev f x = .int k a) (hy : ev f y = .int k b) (hb : b ≠ 0) (hv : Value.int k (a.tmod b) = v) : PeV (.div .rem k x y) f v := fun K h => by
  show kint k (ev f x) _; rw [hx]; refine ⟨rfl, ?_⟩; show kint k (ev f y) _; rw [hy]; refine ⟨rfl, hb, ?_⟩; show K _; rw [hv]; exact h
theorem o_beq {n : Bool} {x y : Operand} {a b : Bool} (hx : ev f x = .bool a) (hy : ev f y = .bool b) (hv : Value.bool (if n then !decide (a = b) else decide (a = b)) = v) : PeV (.beq n x y) f v := fun K h => by
  show kbool (ev f x) _; rw [hx]; show kbool (ev f y) _; rw [hy]; show K _; rw [hv]; exact h
theorem o_sadd {x y : Operand} {a b : List UInt8} (hx : ev f x = .string (str a)) (hy : ev f y = .string (str b)) (hl : a.length + b.length ≤ 9223372036854775807) (hv : Value.string (str (a ++ b)) = v) : PeV (.sbin .add x y) f v := fun K h => by
  show kstr (ev f x) _; rw [hx]; show kstr (ev f y) _; rw [hy]; refine ⟨by rw [str_size, str_size]; exact hl, ?_⟩
  have : str a ++ str b = str (a ++ b) := by ext1; simp [str]
  rw [this, hv]; exact h
theorem o_seq {x y : Operand} {a b : List UInt8} (hx : ev f x = .string (str a)) (hy : ev f y = .string (str b)) (hv : Value.bool (decide (a = b)) = v) : PeV (.sbin .eql x y) f v := fun K h => by
  show kstr (ev f x) _; rw [hx]; show kstr (ev f y) _; rw [hy]; show K _; rw [toList_str, toList_str, hv]; exact h
theorem o_sne {x y : Operand} {a b : List UInt8} (hx : ev f x = .string (str a)) (hy : ev f y = .string (str b)) (hv : Value.bool (decide (¬ a = b)) = v) : PeV (.sbin .neq x y) f v := fun K h => by
  show kstr (ev f x) _; rw [hx]; show kstr (ev f y) _; rw [hy]; show K _; rw [toList_str, toList_str]; rw [decide_not] at hv; rw [hv]; exact h
theorem o_slss {x y : Operand} {a b : List UInt8} (hx : ev f x = .string (str a)) (hy : ev f y = .string (str b)) (hv : Value.bool (Op.bytesLess a b) = v) : PeV (.sbin .lss x y) f v := fun K h => by
  show kstr (ev f x) _; rw [hx]; show kstr (ev f y) _; rw [hy]; show K _; rw [toList_str, toList_str, hv]; exact h
theorem o_isnil {n : Bool} {kd : Nat} {x : Operand} {b : Bool} (hx : isNilV kd (ev f x) = some b) (hv : Value.bool (if n then !b else b) = v) : PeV (.isnil n kd x) f v := fun K h => by
  show match isNilV kd (ev f x) with | some b => _ | none => False
  rw [hx]; show K _; rw [hv]; exact h
theorem o_aeq {n : Bool} {ks : List Nat} {x y : Operand} {a b : Array Value} {t : Bool} (hx : ev f x = .agg a) (hy : ev f y = .agg b) (ht : eqCs ks a.toList b.toList = some t) (hv : Value.bool (if n then !t else t) = v) : PeV (.aeq n ks x y) f v := fun K h => by
  show kagg (ev f x) _; rw [hx]; show kagg (ev f y) _; rw [hy]
  show match eqCs ks a.toList b.toList with | some t => _ | none => False
  rw [ht]; show K _; rw [hv]; exact h
theorem o_not {x : Operand} {a : Bool} (hx : ev f x = .bool a) (hv : Value.bool (!a) = v) : PeV (.not x) f v := fun K h => by
  show kbool (ev f x) _; rw [hx]; show K _; rw [hv]; exact h
theorem o_neg {k : IntKind} {x : Operand} {a : Int} (hx : ev f x = .int k a) (hv : Value.int k (k.wrap (0 - a)) = v) : PeV (.neg k x) f v := fun K h => by
  show kint k (ev f x) _; rw [hx]; refine ⟨rfl, ?_⟩; show K _; rw [hv]; exact h
theorem o_conv {k k' : IntKind} {x : Operand} {a : Int} (hx : ev f x = .int k' a) (hv : Value.int k (k.wrap a) = v) : PeV (.conv k x) f v := fun K h => by
  show anyint (ev f x) _; rw [hx]; show K _; rw [hv]; exact h
theorem o_convId {x : Operand} {a : ByteArray} (hx : ev f x = .string a) (hv : Value.string a = v) : PeV (.convId x) f v := fun K h => by
  show kstr (ev f x) _; rw [hx]; show K _; rw [hv]; exact h
theorem o_fa {off : Nat} {x : Operand} {b o : Nat} (hx : ev f x = .pointer (some ⟨b, o, none⟩)) (hv : Value.pointer (some ⟨b, o + off, none⟩) = v) : PeV (.fa off x) f v := fun K h => by
  show kptr (ev f x) _; rw [hx]; show K _; rw [hv]; exact h
theorem o_fld {off : Nat} {x : Operand} {cs : Array Value} (hx : ev f x = .agg cs) (hv : cs[off]? = some v) : PeV (.fld off none x) f v := fun K h => by
  show kagg (ev f x) _; rw [hx]
  show match cs[off]? with | some v => _ | none => False
  rw [hv]; exact h
theorem o_fldA {off n : Nat} {x : Operand} {cs : Array Value} (hx : ev f x = .agg cs) (hv : Value.agg (cs.extract off (off + n)) = v) : PeV (.fld off (some n) x) f v := fun K h => by
  show kagg (ev f x) _; rw [hx]; show K _; rw [hv]; exact h
theorem o_ext {i : Nat} {x : Operand} {cs : Array Value} (hx : ev f x = .tuple cs) (hv : cs[i]? = some v) : PeV (.ext i x) f v := fun K h => by
  show ktuple (ev f x) _; rw [hx]
  show match cs[i]? with | some v => _ | none => False
  rw [hv]; exact h
theorem o_mkf {fn : Fn} {a c : List Operand} (hv : Value.func fn (a.map (ev f)).toArray (c.map (ev f)).toArray = v) : PeV (.mkf fn a c) f v := fun K h => by show K _; rw [hv]; exact h
theorem o_len {x : Operand} {a : Option Addr} {n c : Nat} (hx : ev f x = .slice a n c) (hv : Value.int .i64 n = v) : PeV (.len x) f v := fun K h => by
  show kslice (ev f x) _; rw [hx]; show K _; rw [hv]; exact h
theorem o_lens {x : Operand} {l : List UInt8} (hx : ev f x = .string (str l)) (hv : Value.int .i64 l.length = v) : PeV (.lens x) f v := fun K h => by
  show kstr (ev f x) _; rw [hx]; show K _; rw [str_size, hv]; exact h
theorem o_lenc {n : Nat} (hv : Value.int .i64 n = v) : PeV (.lenc n) f v := fun K h => by show K _; rw [hv]; exact h
theorem o_mm {mx : Bool} {k : IntKind} {x y : Operand} {a b : Int} (hx : ev f x = .int k a) (hy : ev f y = .int k b) (hv : Value.int k (if mx then max a b else min a b) = v) : PeV (.mm mx k x [y]) f v := fun K h => by
  show kint k (ev f x) _; rw [hx]; refine ⟨rfl, ?_⟩
  show kint k (ev f y) _; rw [hy]; refine ⟨rfl, ?_⟩
  show K (.int k (if mx then (if a < b then b else a) else (if b < a then b else a)))
  rw [← hv] at h
  have e1 : (if a < b then b else a) = max a b := by simp only [Int.max_def]; split <;> split <;> omega
  have e2 : (if b < a then b else a) = min a b := by simp only [Int.min_def]; split <;> split <;> omega
  rw [e1, e2]; exact h
theorem o_bld {z : List Value} {ps : List (Nat × Nat × Operand)} {cs : List Value} (hc : fillC z (ps.map fun (o, s, x) => (o, s, ev f x)) = some cs) (hv : Value.agg cs.toArray = v) : PeV (.bld z ps) f v := fun K h => by
  show match fillC z (ps.map fun (o, s, x) => (o, s, ev f x)) with | some cs => _ | none => False
  rw [hc]; show K _; rw [hv]; exact h
theorem o_nilchk {x : Operand} {b o : Nat} (hx : ev f x = .pointer (some ⟨b, o, none⟩)) (hv : Value.pointer (some ⟨b, o, none⟩) = v) : PeV (.nilchk x) f v := fun K h => by
  show kptr (ev f x) _; rw [hx]; show K _; rw [hv]; exact h
theorem o_idx {s : Nat} {x i : Operand} {b o n c : Nat} {k : IntKind} {j : Int} (hx : ev f x = .slice (some ⟨b, o, none⟩) n c) (hi : ev f i = .int k j) (hb : 0 ≤ j ∧ j < (n : Int)) (hv : Value.pointer (some ⟨b, o + j.toNat * s, none⟩) = v) : PeV (.idx s x i) f v := fun K h => by
  show kslice (ev f x) _; rw [hx]; show anyint (ev f i) _; rw [hi]; refine ⟨hb, ?_⟩; show K _; rw [hv]; exact h
theorem o_idxa {n s : Nat} {x i : Operand} {b o : Nat} {k : IntKind} {j : Int} (hx : ev f x = .pointer (some ⟨b, o, none⟩)) (hi : ev f i = .int k j) (hb : 0 ≤ j ∧ j < (n : Int)) (hv : Value.pointer (some ⟨b, o + j.toNat * s, none⟩) = v) : PeV (.idxa n s x i) f v := fun K h => by
  show kptr (ev f x) _; rw [hx]; show anyint (ev f i) _; rw [hi]; refine ⟨hb, ?_⟩; rw [hv]; exact h
theorem o_idxs {x i : Operand} {l : List UInt8} {k : IntKind} {j : Int} (hx : ev f x = .string (str l)) (hi : ev f i = .int k j) (hb : 0 ≤ j ∧ j < (l.length : Int)) (hv : byteV (l.getD j.toNat 0) = v) : PeV (.idxs x i) f v := fun K h => by
  show kstr (ev f x) _; rw [hx]; show anyint (ev f i) _; rw [hi]
  have hj : j.toNat < l.length := by omega
  refine ⟨⟨hb.1, by rw [str_size]; exact hj⟩, ?_⟩
  have : (str l)[j.toNat]'(by rw [str_size]; exact hj) = l.getD j.toNat 0 := by
    rw [List.getD_eq_getElem?_getD, List.getElem?_eq_getElem hj]; rfl
  rw [this]; rw [← hv] at h; exact h
theorem o_slcs {x : Operand} {lo hi : Option Operand} {l : List UInt8} {a b : Nat} (hx : ev f x = .string (str l)) (hb : b ≤ l.length ∧ a ≤ b) (hhi : match hi with | none => b = l.length | some y => ∃ k, ev f y = .int k b) (hlo : match lo with | none => a = 0 | some y => ∃ k, ev f y = .int k a) (hv : Value.string (str ((l.take b).drop a)) = v) : PeV (.slcs x lo hi) f v := fun K h => by
  show kstr (ev f x) _; rw [hx]
  have e : (str l).extract a b = str ((l.take b).drop a) := by
    ext1; simp [str, List.drop_take]
  have k2 : ∀ h' : Nat, h' = b → bnd (lo.map (ev f)) 0 h' fun l' => K (.string ((str l).extract l' h')) := by
    intro h' e'; subst e'
    cases lo with
    | none => simp only at hlo; subst hlo; show K _; rw [e, hv]; exact h
    | some y => obtain ⟨k, hy⟩ := hlo; refine bndS hy ⟨by omega, by omega⟩ ?_; show K _; rw [Int.toNat_natCast, e, hv]; exact h
  show bnd (hi.map (ev f)) (str l).size (str l).size fun h => bnd (lo.map (ev f)) 0 h fun l' => K (.string ((str l).extract l' h))
  cases hi with
  | none => simp only at hhi; refine bndN ?_; exact k2 _ (by rw [str_size, hhi])
  | some y => obtain ⟨k, hy⟩ := hhi; refine bndS hy ⟨by omega, by rw [str_size]; omega⟩ ?_; exact k2 _ (by simp)
end

/-! values of operations -/
theorem v_add64 {a b : Int} (h : -9223372036854775808 ≤ a + b ∧ a + b ≤ 9223372036854775807) : binI .add .i64 a b = .int .i64 (a + b) := by
  have : IntKind.i64.wrap (a + b) = a + b := wrap_same h
  simp [binI, this]
theorem v_sub64 {a b : Int} (h : -9223372036854775808 ≤ a - b ∧ a - b ≤ 9223372036854775807) : binI .sub .i64 a b = .int .i64 (a - b) := by
  have : IntKind.i64.wrap (a - b) = a - b := wrap_same h
  simp [binI, this]
theorem v_mul64 {a b : Int} (h : -9223372036854775808 ≤ a * b ∧ a * b ≤ 9223372036854775807) : binI .mul .i64 a b = .int .i64 (a * b) := by
  have : IntKind.i64.wrap (a * b) = a * b := wrap_same h
  simp [binI, this]
theorem v_eqT {k : IntKind} {a : Int} : binI .eql k a a = .bool true := by simp [binI]
theorem v_neF {k : IntKind} {a : Int} : binI .neq k a a = .bool false := by simp [binI]
theorem v_neq {k : IntKind} {a b : Int} : binI .neq k a b = .bool (decide (¬ a = b)) := by simp [binI]
theorem wrap_u8 (a : Int) : IntKind.u8.wrap a = a % 256 := by simp [IntKind.wrap, IntKind.bits, IntKind.signed]
theorem wrap_u16 (a : Int) : IntKind.u16.wrap a = a % 65536 := by simp [IntKind.wrap, IntKind.bits, IntKind.signed]
theorem wrap_u32 (a : Int) : IntKind.u32.wrap a = a % 4294967296 := by simp [IntKind.wrap, IntKind.bits, IntKind.signed]
theorem wrap_u64 (a : Int) : IntKind.u64.wrap a = a % 18446744073709551616 := by simp [IntKind.wrap, IntKind.bits, IntKind.signed]
theorem v_u8 (a : Int) : Value.int .u8 (IntKind.u8.wrap a) = .int .u8 (a % 256) := by rw [wrap_u8]
theorem v_u16 (a : Int) : Value.int .u16 (IntKind.u16.wrap a) = .int .u16 (a % 65536) := by rw [wrap_u16]
theorem v_u32 (a : Int) : Value.int .u32 (IntKind.u32.wrap a) = .int .u32 (a % 4294967296) := by rw [wrap_u32]
theorem v_u64 (a : Int) : Value.int .u64 (IntKind.u64.wrap a) = .int .u64 (a % 18446744073709551616) := by rw [wrap_u64]
theorem v_same {k : IntKind} {a : Int} (h : inK k a) : Value.int k (k.wrap a) = .int k a := by rw [wrap_same h]
theorem v_int {k : IntKind} {a b : Int} (h : a = b) : Value.int k a = .int k b := by rw [h]
theorem v_not {p : Prop} [Decidable p] : Value.bool (!decide p) = .bool (decide (¬ p)) := by simp
theorem v_shr {k : IntKind} {a : Int} (n : Nat) (hn : n ≤ k.bits) : Value.int k (a.fdiv (2 ^ min ((n : Int)).toNat k.bits)) = .int k (a / 2 ^ n) := by
  rw [Int.toNat_natCast, Nat.min_eq_left hn, Int.fdiv_eq_ediv_of_nonneg _ (by exact Int.le_of_lt (Int.pow_pos (by omega)))]
theorem v_quo {k : IntKind} {a b : Int} (ha : 0 ≤ a) (hb : 0 ≤ b) (h : inK k a) : Value.int k (k.wrap (a.tdiv b)) = .int k (a / b) := by
  rw [Int.tdiv_eq_ediv_of_nonneg ha, wrap_same]
  have h1 : a / b ≤ a := Int.ediv_le_self _ ha
  have h2 : 0 ≤ a / b := Int.ediv_nonneg ha hb
  cases k <;> simp only [inK] at h ⊢ <;> omega
theorem v_rem {k : IntKind} {a b : Int} (ha : 0 ≤ a) : Value.int k (a.tmod b) = .int k (a % b) := by rw [Int.tmod_eq_emod_of_nonneg ha]
/-- the operations on bits, on numbers -/
def andI (k : IntKind) (a b : Int) : Int := k.wrap (BitVec.ofInt k.bits a &&& BitVec.ofInt k.bits b).toNat
def orI (k : IntKind) (a b : Int) : Int := k.wrap (BitVec.ofInt k.bits a ||| BitVec.ofInt k.bits b).toNat
def xorI (k : IntKind) (a b : Int) : Int := k.wrap (BitVec.ofInt k.bits a ^^^ BitVec.ofInt k.bits b).toNat
def andNotI (k : IntKind) (a b : Int) : Int := k.wrap (BitVec.ofInt k.bits a &&& ~~~ BitVec.ofInt k.bits b).toNat
def shlI (k : IntKind) (a n : Int) : Int := k.wrap (a * 2 ^ min n.toNat k.bits)
def shrI (k : IntKind) (a n : Int) : Int := a.fdiv (2 ^ min n.toNat k.bits)

section
variable {P : Program} {r : List MI} {f : Fr} {w : World} {K : Fr → World → Prop} {d : Nat} {o : PO} {v : Value} {s : Nat} {b : Bool}
theorem stp (h : PeV o f v) (k : vr P r (upd f d v) w K) : vr P (.p none d o :: r) f w K := h (fun v => vr P r (upd f d v) w K) k
theorem stg (hs : f s = .bool b) (h : PeV o f v) (k : vr P r (upd f d v) w K) : vr P (.p (some (s, b)) d o :: r) f w K := gyes rfl hs (stp h k)
theorem splitP {p : Prop} [Decidable p] (hb : f s = .bool (decide p)) (ht : p → vr P r (upd f s (.bool true)) w K) (hf : ¬ p → vr P r (upd f s (.bool false)) w K) : vr P (.split s :: r) f w K :=
  split hb (fun h => ht (of_decide_eq_true h)) (fun h => hf (of_decide_eq_false h))
/-- a guarded operation that is not carried out -/
theorem gskip {c : Bool} (hs : f s = .bool c) (hc : (c = b) = False) (k : vr P r (upd f d undef) w K) : vr P (.p (some (s, b)) d o :: r) f w K := gno hs hc k
/-! reading slices that are not the call's own -/
theorem o_lenR {x : Operand} {u : Value} {n : Nat} {cs : List Value} (h : Rd w u n cs) (hx : ev f x = u) (hv : Value.int .i64 n = v) : PeV (.len x) f v := fun K hk => by
  obtain ⟨a, c, rfl, _⟩ := h.form
  exact o_len hx hv K hk
/-- The place of an element. -/
def At (w : World) (b o sz : Nat) (cs : List Value) (j : Nat) : Prop := ∀ i, i < sz → w.cell? ⟨b, o + i, none⟩ = cs[j * sz + i]?
theorem pe_idxR {x i : Operand} {u : Value} {n sz j : Nat} {cs : List Value} {k : IntKind} {T : Value → Prop} (h : Rd w u n cs) (hl : cs.length = n * sz) (hsz : 0 < sz) (hx : ev f x = u) (hi : ev f i = .int k j) (hj : j < n)
    (hk : ∀ b o, At w b o sz cs j → T (.pointer (some ⟨b, o, none⟩))) : pe (.idx sz x i) f T := by
  obtain ⟨a, c, rfl, h2, h3, h4⟩ := h.form
  show kslice (ev f x) _; rw [hx]; show anyint (ev f i) _; rw [hi]; refine ⟨⟨by omega, by omega⟩, ?_⟩
  cases a with
  | none => have := h4 rfl; omega
  | some a =>
    obtain ⟨b, o, m⟩ := a
    cases m with
    | some m =>
      simp only [Row] at h3
      subst h3
      simp only [List.length_nil] at hl
      rcases Nat.mul_eq_zero.1 hl.symm with h | h <;> omega
    | none =>
      refine hk _ _ fun i hi => ?_
      rw [Int.toNat_natCast]
      have hlt : j * sz + i < cs.length := by
        rw [hl]
        have : (j + 1) * sz ≤ n * sz := Nat.mul_le_mul_right _ hj
        rw [Nat.add_mul] at this; omega
      have := h3 (j * sz + i) hlt
      rw [← this]
      congr 2; omega

theorem v_byteTo {k : IntKind} {b : UInt8} (h : (k == .i8) = false) : Value.int k (k.wrap (b.toNat : Int)) = .int k (b.toNat : Int) := by
  rw [wrap_same]
  have := b.toNat_lt
  cases k <;> simp only [inK] <;> first | omega | simp at h
theorem v_ptr {b o o' : Nat} (h : o = o') : Value.pointer (some ⟨b, o, none⟩) = .pointer (some ⟨b, o', none⟩) := by rw [h]
theorem repC_one (z : Value) (n : Nat) : repC [z] n = List.replicate n z := by
  induction n with
  | zero => rfl
  | succ n ih => rw [repC, ih, List.replicate_succ]; rfl
theorem Mem.addNil {w0 w : World} {S : List Nat} {R : List (List Ent)} (h : Mem w0 S w R) : Mem w0 S w (R ++ [[]]) := ⟨h.upd, by simpa using h.own, by simpa using h.nd, by simpa using h.new⟩
theorem Rd.nilE {α : Type} (E : α → Value) (w : World) : Rd w (.slice none 0 0) ([] : List α).length (([] : List α).map E) := ⟨none, 0, rfl, Nat.le_refl _, rfl, fun _ => rfl⟩
theorem Own.agg {w : World} {en : Ent} (h : Own w en) {o n : Nat} {l : List Value} (hl : (en.cs.drop o).take n = l) (hn : l.length = n) : Row w (some ⟨en.b, o, none⟩) l :=
  h.row fun k hk => by subst hl; rw [List.getElem?_take_of_lt (by omega), List.getElem?_drop]
theorem m_idxR {x i : Operand} {u : Value} {n sz j : Nat} {cs : List Value} {k : IntKind} (h : Rd w u n cs) (hl : cs.length = n * sz) (hsz : 0 < sz) (hx : ev f x = u) (hi : ev f i = .int k j) (hj : j < n)
    (hk : ∀ b o, At w b o sz cs j → vr P r (upd f d (.pointer (some ⟨b, o, none⟩))) w K) : vr P (.p none d (.idx sz x i) :: r) f w K :=
  pe_idxR (T := fun v => vr P r (upd f d v) w K) h hl hsz hx hi hj hk

/-! calls and memory -/
variable {e : Option Nat} {w0 : World} {S : List Nat} {R : List (List Ent)}
theorem m_call {g : FuncId} {xs : List Operand} {args : List Value} {K0 : Value → World → Prop} (hc : Calls P g args.toArray w (Rt K0)) (ha : xs.map (ev f) = args) (h : ∀ v w', K0 v w' → vr P r (putO f e v) w' K) :
    vr P (.l none e (.call g xs) :: r) f w K := by
  subst ha
  exact hc.mono fun e' w' ⟨v, he, hk⟩ => ⟨v, he, h v w' hk⟩
theorem m_callv {g : FuncId} {x : Operand} {xs : List Operand} {first cap args : List Value} {K0 : Value → World → Prop} (hx : ev f x = .func (.func g) first.toArray cap.toArray) (ho : okFn P g = true) (hc : Calls P g args.toArray w (Rt K0)) (ha : first ++ xs.map (ev f) ++ cap = args) (h : ∀ v w', K0 v w' → vr P r (putO f e v) w' K) :
    vr P (.l none e (.callv x xs) :: r) f w K := by
  subst ha
  show match ev f x with | .func (.func g) first cap => _ | _ => False
  rw [hx]
  refine ⟨ho, ?_⟩
  have : (first.toArray ++ (xs.map (ev f)).toArray ++ cap.toArray) = (first ++ xs.map (ev f) ++ cap).toArray := by simp
  rw [this]
  exact hc.mono fun e' w' ⟨v, he, hk⟩ => ⟨v, he, h v w' hk⟩
theorem m_al {t : TypeId} {cs : List Value} (hM : Mem w0 S w R) (h : ∀ b w', Mem w0 S w' (R ++ [[⟨b, t, cs⟩]]) → vr P r (upd f d (.pointer (some ⟨b, 0, none⟩))) w' K) : vr P (.l none (some d) (.al t cs) :: r) f w K :=
  h _ _ (hM.add (mem_alloc w t cs))
theorem m_bx {t : TypeId} {x : Operand} {cs : List Value} (hM : Mem w0 S w R) (hx : ev f x = v) (hc : v.cells.toList = cs) (h : ∀ b w', Mem w0 S w' (R ++ [[⟨b, t, cs⟩]]) → vr P r (upd f d (.pointer (some ⟨b, 0, none⟩))) w' K) : vr P (.l none (some d) (.bx t x) :: r) f w K := by
  subst hx hc
  exact h _ _ (hM.add (mem_alloc w t _))
theorem m_bs {t : TypeId} {n q : Nat} {z : List Value} {ps : List (Nat × Nat × Operand)} {cs : List Value} (hM : Mem w0 S w R) (hc : fillC z (ps.map fun (o, s, x) => (o, s, ev f x)) = some cs) (h : ∀ b w', Mem w0 S w' (R ++ [[⟨b, t, cs⟩]]) → vr P r (upd f d (.slice (some ⟨b, 0, none⟩) n n)) w' K) :
    vr P (.l none (some d) (.bs t n q z ps) :: r) f w K := by
  show match fillC z (ps.map fun (o, s, x) => (o, s, ev f x)) with | some cs => _ | none => False
  rw [hc]
  exact h _ _ (hM.add (mem_alloc w t cs))
theorem m_mks {t : TypeId} {bytes q : Nat} {z : List Value} {x y : Operand} {k k' : IntKind} {n c : Nat} (hM : Mem w0 S w R) (hx : ev f x = .int k n) (hy : ev f y = .int k' c) (hn : n ≤ c) (hb : bytes * c ≤ 281474976710656) (hc : c < 9223372036854775808)
    (h : ∀ b w', Mem w0 S w' (R ++ [[⟨b, t, repC z c⟩]]) → vr P r (upd f d (.slice (some ⟨b, 0, none⟩) n c)) w' K) : vr P (.l none (some d) (.mks t bytes q z x y) :: r) f w K := by
  show anyint (ev f x) _; rw [hx]; show anyint (ev f y) _; rw [hy]
  refine ⟨⟨by omega, by omega, by omega, ?_⟩, ?_⟩
  · rw [show (2 : Int) ^ 48 = 281474976710656 from rfl, ← Int.natCast_mul]; exact Int.ofNat_le.2 hb
  · simp only [Int.toNat_natCast]; exact h _ _ (hM.add (mem_alloc w t _))
theorem m_st {i o b : Nat} {t : TypeId} {cs : List Value} {a x : Operand} (hM : Mem w0 S w R) (hi : R[i]? = some [⟨b, t, cs⟩]) (ha : ev f a = .pointer (some ⟨b, o, none⟩)) (hx : ev f x = v) (h1 : v.oneCell' = true) (ho : o < cs.length)
    (h : ∀ w', Mem w0 S w' (R.set i [⟨b, t, cs.set o v⟩]) → vr P r f w' K) : vr P (.l none none (.st 1 a x) :: r) f w K := by
  have hown := hM.at hi (j := 0) rfl
  exact st1 ha hx h1 (hown.writable (by simp only; omega)) (h _ (hM.step i hi (mem_stores hown o [v])))
theorem m_stA {i o b n : Nat} {t : TypeId} {cs l : List Value} {a x : Operand} (hM : Mem w0 S w R) (hi : R[i]? = some [⟨b, t, cs⟩]) (ha : ev f a = .pointer (some ⟨b, o, none⟩)) (hx : ev f x = .agg l.toArray) (hl : l.length = n) (h1 : oneCells l) (ho : o + n ≤ cs.length)
    (h : ∀ w', Mem w0 S w' (R.set i [⟨b, t, splice cs o l⟩]) → vr P r f w' K) : vr P (.l none none (.st n a x) :: r) f w K := by
  have hown := hM.at hi (j := 0) rfl
  exact stA ha hx (by simpa using hl) (by simpa using h1) (hown.writable (by simp only; omega)) (by simpa using h _ (hM.step i hi (mem_stores hown o l)))
theorem m_ld {i j o : Nat} {rs : List Ent} {en : Ent} {x : Operand} (hM : Mem w0 S w R) (hi : R[i]? = some rs) (hj : rs[j]? = some en) (hx : ev f x = .pointer (some ⟨en.b, o, none⟩)) (hv : en.cs[o]? = some v) (h : vr P r (upd f d v) w K) : vr P (.l none (some d) (.ld none x) :: r) f w K :=
  ld hx ((hM.at hi hj).cell o ▸ hv) h
theorem m_ldA {i j o n : Nat} {rs : List Ent} {en : Ent} {l : List Value} {x : Operand} (hM : Mem w0 S w R) (hi : R[i]? = some rs) (hj : rs[j]? = some en) (hx : ev f x = .pointer (some ⟨en.b, o, none⟩)) (hl : (en.cs.drop o).take n = l) (hn : l.length = n) (h : vr P r (upd f d (.agg l.toArray)) w K) :
    vr P (.l none (some d) (.ld (some n) x) :: r) f w K :=
  ldA hx hn ((hM.at hi hj).row fun k hk => by subst hl; rw [List.getElem?_take_of_lt (by omega), List.getElem?_drop]) h
/-! slices of elements that are single cells; bytes -/
/-- elements that can be read; elements of the call's own -/
abbrev RdE {α : Type} (E : α → Value) (w : World) (v : Value) (l : List α) : Prop := Rd w v l.length (l.map E)
abbrev SlE {α : Type} (E : α → Value) (t : TypeId) (v : Value) (l : List α) (r : List Ent) : Prop := Sl 1 t v l.length (l.map E) r
abbrev RdB (w : World) (v : Value) (l : List UInt8) : Prop := RdE byteV w v l
abbrev SlB (t : TypeId) (v : Value) (l : List UInt8) (r : List Ent) : Prop := SlE byteV t v l r
class One {α : Type} (E : α → Value) : Prop where
  one : ∀ a, (E a).oneCell' = true
def i64V (n : Int) : Value := .int .i64 n
def u64V (n : Int) : Value := .int .u64 n
def u32V (n : Int) : Value := .int .u32 n
def strV (l : List UInt8) : Value := .string (str l)
def boolV (b : Bool) : Value := .bool b
instance : One byteV := ⟨fun _ => rfl⟩
instance : One i64V := ⟨fun _ => rfl⟩
instance : One u64V := ⟨fun _ => rfl⟩
instance : One u32V := ⟨fun _ => rfl⟩
instance : One strV := ⟨fun _ => rfl⟩
instance : One boolV := ⟨fun _ => rfl⟩
theorem one_elems {α : Type} {E : α → Value} [One E] (l : List α) : oneCells (l.map E) := by
  intro c hc; obtain ⟨b, _, rfl⟩ := List.mem_map.1 hc; exact One.one b
theorem SlE.lit {α : Type} {E : α → Value} {t : TypeId} {b : Nat} {cs : List Value} {l : List α} (h : cs = l.map E) : SlE E t (.slice (some ⟨b, 0, none⟩) l.length l.length) l [⟨b, t, cs⟩] :=
  ⟨by simp, .inr ⟨b, l.length, [], rfl, by simp [h], Nat.le_refl _, by simp⟩⟩
theorem own_rdE {α : Type} {E : α → Value} {w : World} {b : Nat} {t : TypeId} {cs : List Value} {l : List α} (h : Own w ⟨b, t, cs⟩) (hc : cs = l.map E) : RdE E w (.slice (some ⟨b, 0, none⟩) l.length l.length) l :=
  ⟨some ⟨b, 0, none⟩, l.length, rfl, Nat.le_refl _, by subst hc; exact h.row fun j hj => by simp, fun h => by cases h⟩
theorem m_app1 {α : Type} {E : α → Value} [One E] {t : TypeId} {bytes : Nat} {z : Value} {x p : Operand} {l : List α} {q : α} {i c : Nat} {rs : List Ent} (hM : Mem w0 S w R) (hi : R[i]? = some rs) (hs : SlE E t v l rs) (hx : ev f x = v) (hxd : x ≠ .tmp d) (hp : ev f p = E q) (hb : (l.length + 1) * bytes ≤ 175921860444160) (hb0 : 0 < bytes ∧ bytes < 65536)
    (h : ∀ v' w' r' u, SlE E t v' (l ++ [q]) r' → Mem w0 S w' (R.set i r') → vr P r (upd (upd f d u) c v') w' K) :
    vr P (.l none (some d) (.bs t 1 1 [z] [(0, 1, p)]) :: .l none (some c) (.app t bytes 1 [z] x (.tmp d)) :: r) f w K :=
  app1 hM hi hs hx hxd hp (One.one q) hb hb0 fun v' w' r' u h1 h2 => h v' w' r' u (by simpa [SlE] using h1) h2
theorem src_str {w : World} (l : List UInt8) (n : Nat) (hn : n = l.length) : Src w (.string (str l)) n 1 (l.map byteV) := by
  subst hn
  show _ = _
  simp [Go.Proofs.Ytnkilhmkegmenaa.E.str, ByteArray.data_extract, byteV]
/-- append of elements that can be read -/
theorem m_appE {α : Type} {E : α → Value} [One E] {t : TypeId} {bytes : Nat} {z : Value} {x y : Operand} {l m : List α} {u : Value} {i c : Nat} {rs : List Ent} (hM : Mem w0 S w R) (hi : R[i]? = some rs) (hs : SlE E t v l rs) (hx : ev f x = v) (hy : ev f y = u) (hu : RdE E w u m) (hb : (l.length + m.length) * bytes ≤ 175921860444160) (hb0 : 0 < bytes ∧ bytes < 65536)
    (h : ∀ v' w' r', SlE E t v' (l ++ m) r' → Mem w0 S w' (R.set i r') → vr P r (upd f c v') w' K) : vr P (.l none (some c) (.app t bytes 1 [z] x y) :: r) f w K :=
  app hM hi hs hx (by rw [hy]; exact hu) (by simp) (one_elems m) rfl hb hb0 fun v' w' r' h1 h2 => h v' w' r' (by simpa [SlE] using h1) h2
/-- append of a text -/
theorem m_appS {t : TypeId} {z : Value} {x y : Operand} {l m : List UInt8} {i c : Nat} {rs : List Ent} (hM : Mem w0 S w R) (hi : R[i]? = some rs) (hs : SlB t v l rs) (hx : ev f x = v) (hy : ev f y = .string (str m)) (hb : l.length + m.length ≤ 175921860444160)
    (h : ∀ v' w' r', SlB t v' (l ++ m) r' → Mem w0 S w' (R.set i r') → vr P r (upd f c v') w' K) : vr P (.l none (some c) (.app t 1 1 [z] x y) :: r) f w K := by
  have hf : ∃ a c, v = .slice a l.length c := by
    rcases hs.form with ⟨rfl, h, _⟩ | ⟨b, c, _, rfl, _⟩
    · exact ⟨_, _, by rw [h]⟩
    · exact ⟨_, _, rfl⟩
  obtain ⟨a, cap, rfl⟩ := hf
  show kslice (ev f x) _
  rw [hx]
  have key : lenN (ev f y) fun k => ∃ new, Src w (ev f y) k 1 new ∧ growVC w t 1 1 [z] a l.length cap k new (fun v w' => vr P r (putO f (some c) v) w' K) := by
    rw [hy]
    show ∃ new, _
    refine ⟨m.map byteV, src_str m _ (str_size m), ?_⟩
    rw [str_size]
    exact grow_sl hM hi hs (by simp) (one_elems m) rfl (by omega) (by omega) fun v' w' r' h1 h2 => h v' w' r' (by simpa [SlB, SlE] using h1) h2
  exact key
theorem m_b2s {x : Operand} {u : Value} {l : List UInt8} (hx : ev f x = u) (h : RdB w u l) (k : vr P r (upd f d (.string (str l))) w K) : vr P (.l none (some d) (.b2s x) :: r) f w K := by
  obtain ⟨a, c, rfl, h2, h3, h4⟩ := h.form
  show kslice (ev f x) _; rw [hx]
  refine ⟨l, ?_, h3, k⟩
  cases a with
  | none => simpa using h4 rfl
  | some a => rfl
theorem m_s2b {t : TypeId} {x : Operand} {l : List UInt8} (hM : Mem w0 S w R) (hx : ev f x = .string (str l)) (h : ∀ v' w' r', SlB t v' l r' → Mem w0 S w' (R ++ [r']) → vr P r (upd f d v') w' K) : vr P (.l none (some d) (.s2b t x) :: r) f w K := by
  show kstr (ev f x) _; rw [hx]
  intro c hc
  rw [str_size] at hc ⊢
  have e0 : (str l).data.toList.map (fun b => Value.int .u8 b.toNat) = l.map byteV := rfl
  rw [e0]
  have hlen : (l.map byteV ++ List.replicate (c - l.length) (Value.int .u8 0)).length = c := by simp; omega
  have hm := mem_s2b w t (l.map byteV ++ List.replicate (c - l.length) (Value.int .u8 0))
  rw [hlen] at hm
  exact h _ _ _ ⟨by simp, .inr ⟨w.heap.size, c, List.replicate (c - l.length) (Value.int .u8 0), rfl, rfl, hc, by simp⟩⟩ (hM.add hm)
theorem At.elem {α : Type} {E : α → Value} {w : World} {b o j : Nat} {l : List α} (z : α) (h : At w b o 1 (l.map E) j) (hj : j < l.length) : w.cell? ⟨b, o, none⟩ = some (E (l.getD j z)) := by
  have := h 0 (by omega)
  simp only [Nat.add_zero, Nat.mul_one] at this
  rw [this, List.getElem?_map, List.getElem?_eq_getElem hj, List.getD_eq_getElem?_getD, List.getElem?_eq_getElem hj]; rfl
/-- an element that can be read: its place -/
theorem m_idxE {α : Type} {E : α → Value} (z : α) {x i : Operand} {u : Value} {l : List α} {j : Nat} {k : IntKind} (h : RdE E w u l) (hx : ev f x = u) (hi : ev f i = .int k j) (hj : j < l.length)
    (hk : ∀ b o, w.cell? ⟨b, o, none⟩ = some (E (l.getD j z)) → vr P r (upd f d (.pointer (some ⟨b, o, none⟩))) w K) : vr P (.p none d (.idx 1 x i) :: r) f w K :=
  pe_idxR (T := fun v => vr P r (upd f d v) w K) h (by simp) (by omega) hx hi hj fun b o ha => hk b o (ha.elem z hj)
/-- The blocks of an own slice, its first elements written anew. -/
def upR {α : Type} (E : α → Value) (l : List α) (r : List Ent) : List Ent := r.map fun e => ⟨e.b, e.t, l.map E ++ e.cs.drop l.length⟩
theorem upR_upR {α : Type} {E : α → Value} {l m : List α} {r : List Ent} (h : l.length = m.length) : upR E m (upR E l r) = upR E m r := by
  unfold upR
  rw [List.map_map]
  apply List.map_congr_left
  intro e _
  simp [h]
theorem SlE.eqL {α : Type} {E : α → Value} {t : TypeId} {v : Value} {l m : List α} {r : List Ent} (h : SlE E t v l r) (e : l = m) : SlE E t v m r := e ▸ h
theorem SlE.up {α : Type} {E : α → Value} {t : TypeId} {v : Value} {l m : List α} {r : List Ent} (h : SlE E t v l r) (hl : m.length = l.length) : SlE E t v m (upR E m r) := by
  rcases h.form with ⟨h1, h2, h3⟩ | ⟨b, cap, tail, h1, h2, h3, h4⟩
  · subst h3
    have : m = [] := List.length_eq_zero_iff.1 (by omega)
    subst this
    exact ⟨by simp, .inl ⟨h1, rfl, rfl⟩⟩
  · subst h2
    refine ⟨by simp, .inr ⟨b, cap, tail, by rw [h1, hl], ?_, by omega, by omega⟩⟩
    unfold upR
    simp only [List.map_cons, List.map_nil]
    rw [List.drop_left' (by simp [hl])]
/-- The whole slice, where its first elements were written anew. -/
theorem SlE.upFull {α : Type} {E : α → Value} {t : TypeId} {v : Value} {l m : List α} {r : List Ent} (h : SlE E t v l r) (hl : m.length ≤ l.length) : SlE E t v (m ++ l.drop m.length) (upR E m r) := by
  have h1 := h.up (m := m ++ l.drop m.length) (by simp; omega)
  have e : upR E (m ++ l.drop m.length) r = upR E m r := by
    rcases h.form with ⟨_, _, h3⟩ | ⟨b, cap, tail, _, h2, _, _⟩
    · subst h3; rfl
    · subst h2
      unfold upR
      simp only [List.map_cons, List.map_nil, List.map_append, List.length_append, List.length_drop]
      congr 2
      rw [List.append_assoc, List.drop_left' (by simp; omega), List.drop_append_of_le_length (by simpa using hl), List.map_drop]
  rwa [e] at h1
theorem SlE.cut {α : Type} {E : α → Value} {t : TypeId} {a : Option Addr} {n c : Nat} {l : List α} {r : List Ent} (h : SlE E t (.slice a n c) l r) (k : Nat) (hk : k ≤ l.length) : SlE E t (.slice a k c) (l.take k) r := by
  rcases h.form with ⟨h1, h2, h3⟩ | ⟨b, cap, tail, h1, h2, h3, h4⟩
  · injection h1 with e1 e2 e3
    subst e1 e3 h3
    have : k = 0 := by omega
    subst this
    exact ⟨by simp, .inl ⟨rfl, by simp, rfl⟩⟩
  · injection h1 with e1 e2 e3
    subst e1 e3
    refine ⟨by simp, .inr ⟨b, c, (l.drop k).map E ++ tail, by simp; omega, ?_, by simp; omega, by simp; omega⟩⟩
    rw [h2, ← List.append_assoc, ← List.map_append, List.take_append_drop]
/-- an element of the call's own slice is written -/
theorem m_set {α : Type} {E : α → Value} [One E] {t : TypeId} {x p y : Operand} {l : List α} {q : α} {i j : Nat} {k : IntKind} {rs : List Ent} (hM : Mem w0 S w R) (hi : R[i]? = some rs) (hs : SlE E t v l rs) (hx : ev f x = v) (hp : ev f p = .int k j) (hj : j < l.length) (hyd : y ≠ .tmp d) (hy : ev f y = E q)
    (h : ∀ w' r' u, r' = upR E (l.set j q) rs → SlE E t v (l.set j q) r' → Mem w0 S w' (R.set i r') → vr P r (upd f d u) w' K) : vr P (.p none d (.idx 1 x p) :: .l none none (.st 1 (.tmp d) y) :: r) f w K := by
  rcases hs.form with ⟨_, h0, _⟩ | ⟨b, cap, tail, rfl, rfl, h1, h2⟩
  · omega
  · refine idx hx hp ⟨by omega, by omega⟩ ?_
    have hown := hM.at hi (j := 0) rfl
    have hev : ev (upd f d (.pointer (some ⟨b, 0 + (j : Int).toNat * 1, none⟩))) y = E q := by
      cases y with
      | tmp a => show upd f d _ a = _; unfold upd; rw [if_neg (fun e => hyd (by rw [e]))]; exact hy
      | _ => exact hy
    have e1 : 0 + (j : Int).toNat * 1 = j := by simp
    refine st1 (by show upd f d _ d = _; unfold upd; rw [if_pos rfl]) hev (One.one q) (hown.writable (by simp; omega)) ?_
    have hM' := hM.step i hi (mem_stores hown (0 + (j : Int).toNat * 1) [E q])
    have e2 : splice (l.map E ++ tail) (0 + (j : Int).toNat * 1) [E q] = (l.set j q).map E ++ tail := by
      simp only [splice, e1]
      rw [List.set_append_left _ _ (by simpa using hj), List.map_set]
    rw [e2] at hM'
    refine h _ _ _ ?_ ⟨by simp, .inr ⟨b, cap, tail, by simp, rfl, by simpa using h1, by simpa using h2⟩⟩ hM'
    unfold upR
    simp only [List.map_cons, List.map_nil]
    rw [List.drop_left' (by simp)]
theorem m_mksE {α : Type} {E : α → Value} {t : TypeId} {bytes q : Nat} {z : α} {z' : Value} {x y : Operand} {k k' : IntKind} {n c : Nat} (hz : z' = E z) (hM : Mem w0 S w R) (hx : ev f x = .int k n) (hy : ev f y = .int k' c) (hn : n ≤ c) (hb : bytes * c ≤ 281474976710656) (hc : c < 9223372036854775808)
    (h : ∀ v' w' r', SlE E t v' (List.replicate n z) r' → Mem w0 S w' (R ++ [r']) → vr P r (upd f d v') w' K) : vr P (.l none (some d) (.mks t bytes q [z'] x y) :: r) f w K := by
  subst hz
  refine m_mks hM hx hy hn hb hc fun b w' hM' => ?_
  refine h _ _ _ ⟨by simp, .inr ⟨b, c, List.replicate (c - n) (E z), by simp, ?_, by simpa using hn, by simp⟩⟩ hM'
  rw [repC_one, List.map_replicate, List.replicate_append_replicate, Nat.add_sub_cancel' hn]
theorem Rd.sub {w : World} {a : Option Addr} {n c : Nat} {sz lo hi : Nat} {cs : List Value} (h : Rd w (.slice a n c) n cs) (hl : cs.length = n * sz) (hh : hi ≤ n) (hlo : lo ≤ hi) (hsz : 0 < sz) : Rd w (.slice (cutAt sz a lo c) (hi - lo) (c - lo)) (hi - lo) ((cs.take (hi * sz)).drop (lo * sz)) := by
  obtain ⟨a', c', he, h2, h3, h4⟩ := h.form
  injection he with e1 e2 e3
  subst e1 e3
  have hh2 : hi * sz ≤ n * sz := Nat.mul_le_mul_right _ hh
  refine ⟨_, _, rfl, by omega, ?_, ?_⟩
  · cases a with
    | none =>
      have := h4 rfl; subst this
      have : cs = [] := by simpa using hl
      subst this
      unfold cutAt; split <;> simp_all [Row]
    | some a =>
      obtain ⟨b, o, m⟩ := a
      cases m with
      | some m =>
        simp only [Row] at h3
        subst h3
        unfold cutAt; simp only; split
        · simp [Row]
        · simp only [List.take_nil, List.drop_nil, Option.map, Addr.add]; split <;> simp [Row]
      | none =>
        unfold cutAt; simp only
        split
        · intro i hi'
          rename_i hc
          simp at hi'
          have : c = lo := hc
          have e1 : hi = lo := by omega
          subst e1; omega
        · intro i hi'
          simp only [List.length_drop, List.length_take] at hi'
          have := h3 (lo * sz + i) (by omega)
          rw [List.getElem?_drop, List.getElem?_take_of_lt (by omega), ← this]
          congr 2
          omega
  · intro hn
    cases a with
    | none => have := h4 rfl; omega
    | some a => obtain ⟨b, o, m⟩ := a; unfold cutAt at hn; cases m <;> simp only at hn <;> split at hn <;> simp_all
/-- cutting a slice that can be read -/
theorem pe_slcR {w1 : World} {sz n A B : Nat} {x : Operand} {lo hi : Option Operand} {u : Value} {cs : List Value} {T : Value → Prop} (h : Rd w1 u n cs) (hl : cs.length = n * sz) (hsz : 0 < sz) (hx : ev f x = u) (hB : B ≤ n) (hA : A ≤ B)
    (hhi : match hi with | none => B = n | some y => ∃ k, ev f y = .int k B) (hlo : match lo with | none => A = 0 | some y => ∃ k, ev f y = .int k A)
    (hk : ∀ v', Rd w1 v' (B - A) ((cs.take (B * sz)).drop (A * sz)) → T v') : pe (.slc sz x lo hi none) f T := by
  obtain ⟨a, c, rfl, h2, h3, h4⟩ := h.form
  show kslice (ev f x) _; rw [hx]
  show bnd (hi.map (ev f)) n c fun h => bnd (lo.map (ev f)) 0 h fun l => T (.slice (cutAt sz a l c) (h - l) (c - l))
  have key := hk _ (Rd.sub h hl hB hA hsz)
  have k2 : bnd (lo.map (ev f)) 0 B fun l' => T (.slice (cutAt sz a l' c) (B - l') (c - l')) := by
    cases lo with
    | none => simp only at hlo; subst hlo; exact key
    | some y => obtain ⟨k, hy⟩ := hlo; refine bndS hy ⟨by omega, by omega⟩ ?_; rw [Int.toNat_natCast]; exact key
  cases hi with
  | none => simp only at hhi; subst hhi; exact k2
  | some y => obtain ⟨k, hy⟩ := hhi; refine bndS hy ⟨by omega, by omega⟩ ?_; rw [Int.toNat_natCast]; exact k2
/-- the first elements of the call's own slice -/
theorem m_slcO {α : Type} {E : α → Value} {t : TypeId} {x : Operand} {lo hi : Option Operand} {u : Value} {l : List α} {rs : List Ent} (B : Nat) (h : SlE E t u l rs) (hx : ev f x = u) (hB : B ≤ l.length)
    (hhi : match hi with | none => B = l.length | some y => ∃ k, ev f y = .int k B) (hlo : match lo with | none => True | some y => ∃ k, ev f y = .int k 0)
    (hk : ∀ v', SlE E t v' (l.take B) rs → vr P r (upd f d v') w K) : vr P (.p none d (.slc 1 x lo hi none) :: r) f w K := by
  have hf : ∃ a c, u = .slice a l.length c ∧ l.length ≤ c := by
    rcases h.form with ⟨rfl, h, _⟩ | ⟨b, c, _, rfl, _, h, _⟩
    · exact ⟨_, 0, by rw [h], by omega⟩
    · exact ⟨_, c, rfl, h⟩
  obtain ⟨a, c, rfl, hc⟩ := hf
  have key := hk _ (h.cut B hB)
  show kslice (ev f x) _; rw [hx]
  show bnd (hi.map (ev f)) l.length c fun h => bnd (lo.map (ev f)) 0 h fun l' => vr P r (upd f d (.slice (cutAt 1 a l' c) (h - l') (c - l'))) w K
  have e : cutAt 1 a 0 c = a := by
    cases a with
    | none => simp [cutAt]
    | some a =>
      obtain ⟨b, o, m⟩ := a
      cases m <;> simp [cutAt, Addr.add]
  have k2 : bnd (lo.map (ev f)) 0 B fun l' => vr P r (upd f d (.slice (cutAt 1 a l' c) (B - l') (c - l'))) w K := by
    cases lo with
    | none => show vr P r (upd f d (.slice (cutAt 1 a 0 c) (B - 0) (c - 0))) w K; rw [e]; exact key
    | some y => obtain ⟨k, hy⟩ := hlo; refine bndS hy ⟨by omega, by omega⟩ ?_; show vr P r (upd f d (.slice (cutAt 1 a 0 c) (B - 0) (c - 0))) w K; rw [e]; exact key
  cases hi with
  | none => simp only at hhi; subst hhi; exact k2
  | some y => obtain ⟨k, hy⟩ := hhi; refine bndS hy ⟨by omega, by omega⟩ ?_; rw [Int.toNat_natCast]; exact k2
theorem m_slcE {w1 : World} {α : Type} {E : α → Value} {x : Operand} {lo hi : Option Operand} {u : Value} {l : List α} (A B : Nat) (h : RdE E w1 u l) (hx : ev f x = u) (hB : B ≤ l.length) (hA : A ≤ B)
    (hhi : match hi with | none => B = l.length | some y => ∃ k, ev f y = .int k B) (hlo : match lo with | none => A = 0 | some y => ∃ k, ev f y = .int k A)
    (hk : ∀ v', RdE E w1 v' ((l.take B).drop A) → vr P r (upd f d v') w K) : vr P (.p none d (.slc 1 x lo hi none) :: r) f w K :=
  pe_slcR (T := fun v => vr P r (upd f d v) w K) h (by simp) (by omega) hx hB hA hhi hlo fun v' hv' => hk v' (by
    have : ((l.take B).drop A).length = B - A := by simp; omega
    show Rd w1 v' _ _
    rw [this]; simpa [← List.map_take, ← List.map_drop] using hv')
end

section
variable {P : Program} {hh : Option (List Nat)} {wr : World} {r : List SI} {f : Fr} {w : World} {K : Fr → World → Prop} {d i s : Nat} {o : PO} {v : Value} {b : Bool}
theorem dq (h : PeV o f v) (k : vd P hh wr r (upd f d v) w K) : vd P hh wr (.qp i none d o :: r) f w K := h (fun v => vd P hh wr r (upd f d v) w K) k
theorem dp' (h : PeV o f v) (k : vd P hh wr r (upd f d v) w K) : vd P hh wr (.lp i none d o :: r) f w K := h (fun v => vd P hh wr r (upd f d v) w K) k
theorem dqg (hs : f s = .bool b) (h : PeV o f v) (k : vd P hh wr r (upd f d v) w K) : vd P hh wr (.qp i (some (s, b)) d o :: r) f w K := dgyes rfl hs (dq h k)
theorem dpg (hs : f s = .bool b) (h : PeV o f v) (k : vd P hh wr r (upd f d v) w K) : vd P hh wr (.lp i (some (s, b)) d o :: r) f w K := dlgyes rfl hs (dp' h k)
theorem dsplitP {p : Prop} [Decidable p] (hb : f s = .bool (decide p)) (ht : p → vd P hh wr r (upd f s (.bool true)) w K) (hf : ¬ p → vd P hh wr r (upd f s (.bool false)) w K) : vd P hh wr (.split s :: r) f w K :=
  dsplit hb (fun h => ht (of_decide_eq_true h)) (fun h => hf (of_decide_eq_false h))
end
section
variable {P : Program} {nt : Nat} {n : Fr → World → Prop} {xs : List (Nat × (Fr → World → Prop))} {rt : Fr → World → Prop} {f : Fr} {w : World}
theorem cndP {p : Prop} [Decidable p] {x : Operand} {a b : MC} (hx : ev f x = .bool (decide p)) (h1 : p → VC P nt a n xs rt f w) (h2 : ¬ p → VC P nt b n xs rt f w) : VC P nt (.cond x a b) n xs rt f w :=
  cnd hx (fun h => h1 (of_decide_eq_true h)) (fun h => h2 (of_decide_eq_false h))
end
end Go.Proofs.Ytnkilhmkegmenaa.E
