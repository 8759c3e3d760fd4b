/- Steps of a walk over the intermediate code: one small lemma an operation. -/
import Derived.Test.YtnkilhmkegmenaaE7
namespace Go.Proofs.Ytnkilhmkegmenaa.E
open Go

variable {P : Program}
section
variable {r : List MI} {f : Fr} {w : World} {K : Fr → World → Prop} {d : Nat}

/-- A pure operation's step: what it gives, and what follows. -/
theorem st {o : PO} (h : pe o f fun v => vr P r (upd f d v) w K) : vr P (.p none d o :: r) f w K := h
theorem mv {x : Operand} (h : vr P r (upd f d (ev f x)) w K) : vr P (.p none d (.mv x) :: r) f w K := h
theorem mvv {x : Operand} {v : Value} (hx : ev f x = v) (h : vr P r (upd f d v) w K) : vr P (.p none d (.mv x) :: r) f w K := by subst hx; exact h
theorem pickB {c a b : Operand} {t : Bool} (hc : ev f c = .bool t) (h : vr P r (upd f d (if t then ev f a else ev f b)) w K) : vr P (.p none d (.pick c a b) :: r) f w K := by
  show kbool (ev f c) _; rw [hc]; exact h
theorem bin {op : BinOp} {k : IntKind} {x y : Operand} {a b : Int} (hx : ev f x = .int k a) (hy : ev f y = .int k b) (h : vr P r (upd f d (binI op k a b)) w K) :
    vr P (.p none d (.bin op k x y) :: r) f w K := by
  show kint k (ev f x) _; rw [hx]; refine ⟨rfl, ?_⟩; show kint k (ev f y) _; rw [hy]; exact ⟨rfl, h⟩
theorem add64 {x y : Operand} {a b : Int} (hx : ev f x = .int .i64 a) (hy : ev f y = .int .i64 b) (h1 : -9223372036854775808 ≤ a + b ∧ a + b ≤ 9223372036854775807) (h : vr P r (upd f d (.int .i64 (a + b))) w K) :
    vr P (.p none d (.bin .add .i64 x y) :: r) f w K := by
  refine bin hx hy ?_
  have : IntKind.i64.wrap (a + b) = a + b := by simp [IntKind.wrap, IntKind.bits, IntKind.signed]; omega
  simpa [binI, this] using h
theorem sub64 {x y : Operand} {a b : Int} (hx : ev f x = .int .i64 a) (hy : ev f y = .int .i64 b) (h1 : -9223372036854775808 ≤ a - b ∧ a - b ≤ 9223372036854775807) (h : vr P r (upd f d (.int .i64 (a - b))) w K) :
    vr P (.p none d (.bin .sub .i64 x y) :: r) f w K := by
  refine bin hx hy ?_
  have : IntKind.i64.wrap (a - b) = a - b := by simp [IntKind.wrap, IntKind.bits, IntKind.signed]; omega
  simpa [binI, this] using h
theorem mul64 {x y : Operand} {a b : Int} (hx : ev f x = .int .i64 a) (hy : ev f y = .int .i64 b) (h1 : -9223372036854775808 ≤ a * b ∧ a * b ≤ 9223372036854775807) (h : vr P r (upd f d (.int .i64 (a * b))) w K) :
    vr P (.p none d (.bin .mul .i64 x y) :: r) f w K := by
  refine bin hx hy ?_
  have : IntKind.i64.wrap (a * b) = a * b := by simp [IntKind.wrap, IntKind.bits, IntKind.signed]; omega
  simpa [binI, this] using h
/-- conversions that change no number -/
def inK : IntKind → Int → Prop
  | .i64, n => -9223372036854775808 ≤ n ∧ n ≤ 9223372036854775807
  | .u64, n => 0 ≤ n ∧ n ≤ 18446744073709551615
  | .i32, n => -2147483648 ≤ n ∧ n ≤ 2147483647
  | .u32, n => 0 ≤ n ∧ n ≤ 4294967295
  | .i16, n => -32768 ≤ n ∧ n ≤ 32767
  | .u16, n => 0 ≤ n ∧ n ≤ 65535
  | .i8, n => -128 ≤ n ∧ n ≤ 127
  | .u8, n => 0 ≤ n ∧ n ≤ 255
theorem wrap_same {k : IntKind} {n : Int} (h : inK k n) : k.wrap n = n := by
  cases k <;> simp only [inK] at h <;> simp [IntKind.wrap, IntKind.bits, IntKind.signed] <;> omega
theorem conv {k k' : IntKind} {x : Operand} {a : Int} (hx : ev f x = .int k' a) (h : vr P r (upd f d (.int k (k.wrap a))) w K) : vr P (.p none d (.conv k x) :: r) f w K := by
  show anyint (ev f x) _; rw [hx]; exact h
theorem conv_ {k k' : IntKind} {x : Operand} {a b : Int} (hx : ev f x = .int k' a) (hb : k.wrap a = b) (h : vr P r (upd f d (.int k b)) w K) : vr P (.p none d (.conv k x) :: r) f w K := by
  subst hb; exact conv hx h
theorem shl {x y : Operand} {k k' : IntKind} {a b : Int} (hx : ev f x = .int k a) (hy : ev f y = .int k' b) (hb : 0 ≤ b) (h : vr P r (upd f d (.int k (k.wrap (a * 2 ^ min b.toNat k.bits)))) w K) : vr P (.p none d (.shf .shl x y) :: r) f w K := by
  show anyint (ev f x) _; rw [hx]; show anyint (ev f y) _; rw [hy]; exact ⟨hb, h⟩
theorem shr {x y : Operand} {k k' : IntKind} {a b : Int} (hx : ev f x = .int k a) (hy : ev f y = .int k' b) (hb : 0 ≤ b) (h : vr P r (upd f d (.int k (a.fdiv (2 ^ min b.toNat k.bits)))) w K) : vr P (.p none d (.shf .shr x y) :: r) f w K := by
  show anyint (ev f x) _; rw [hx]; show anyint (ev f y) _; rw [hy]; exact ⟨hb, h⟩
theorem quo {x y : Operand} {k : IntKind} {a b : Int} (hx : ev f x = .int k a) (hy : ev f y = .int k b) (hb : b ≠ 0) (h : vr P r (upd f d (.int k (k.wrap (a.tdiv b)))) w K) : vr P (.p none d (.div .quo k x y) :: r) f w K := by
  show kint k (ev f x) _; rw [hx]; refine ⟨rfl, ?_⟩; show kint k (ev f y) _; rw [hy]; exact ⟨rfl, hb, h⟩
theorem rem {x y : Operand} {k : IntKind} {a b : Int} (hx : ev f x = .int k a) (hy : ev f y = .int k b) (hb : b ≠ 0) (h : vr P r (upd f d (.int k (a.tmod b))) w K) : vr P (.p none d (.div .rem k x y) :: r) f w K := by
  show kint k (ev f x) _; rw [hx]; refine ⟨rfl, ?_⟩; show kint k (ev f y) _; rw [hy]; exact ⟨rfl, hb, h⟩
theorem beq {n : Bool} {x y : Operand} {a b : Bool} (hx : ev f x = .bool a) (hy : ev f y = .bool b) (h : vr P r (upd f d (.bool (if n then !decide (a = b) else decide (a = b)))) w K) : vr P (.p none d (.beq n x y) :: r) f w K := by
  show kbool (ev f x) _; rw [hx]; show kbool (ev f y) _; rw [hy]; exact h
theorem sbin {op : BinOp} {x y : Operand} {a b : ByteArray} (hx : ev f x = .string a) (hy : ev f y = .string b) (h : binS op a b fun v => vr P r (upd f d v) w K) : vr P (.p none d (.sbin op x y) :: r) f w K := by
  show kstr (ev f x) _; rw [hx]; show kstr (ev f y) _; rw [hy]; exact h
theorem isnil {n : Bool} {kd : Nat} {x : Operand} {b : Bool} (hx : isNilV kd (ev f x) = some b) (h : vr P r (upd f d (.bool (if n then !b else b))) w K) : vr P (.p none d (.isnil n kd x) :: r) f w K := by
  show match isNilV kd (ev f x) with | some b => _ | none => False
  rw [hx]; exact h
theorem aeq {n : Bool} {ks : List Nat} {x y : Operand} {a b : Array Value} {t : Bool} (hx : ev f x = .agg a) (hy : ev f y = .agg b) (ht : eqCs ks a.toList b.toList = some t) (h : vr P r (upd f d (.bool (if n then !t else t))) w K) : vr P (.p none d (.aeq n ks x y) :: r) f w K := by
  show kagg (ev f x) _; rw [hx]; show kagg (ev f y) _; rw [hy]
  show match eqCs ks a.toList b.toList with | some t => _ | none => False
  rw [ht]; exact h
theorem notB {x : Operand} {a : Bool} (hx : ev f x = .bool a) (h : vr P r (upd f d (.bool (!a))) w K) : vr P (.p none d (.not x) :: r) f w K := by
  show kbool (ev f x) _; rw [hx]; exact h
theorem negI {k : IntKind} {x : Operand} {a : Int} (hx : ev f x = .int k a) (h : vr P r (upd f d (.int k (k.wrap (0 - a)))) w K) : vr P (.p none d (.neg k x) :: r) f w K := by
  show kint k (ev f x) _; rw [hx]; exact ⟨rfl, h⟩
theorem convId {x : Operand} {a : ByteArray} (hx : ev f x = .string a) (h : vr P r (upd f d (.string a)) w K) : vr P (.p none d (.convId x) :: r) f w K := by
  show kstr (ev f x) _; rw [hx]; exact h
theorem fa {off : Nat} {x : Operand} {b o : Nat} (hx : ev f x = .pointer (some ⟨b, o, none⟩)) (h : vr P r (upd f d (.pointer (some ⟨b, o + off, none⟩))) w K) : vr P (.p none d (.fa off x) :: r) f w K := by
  show kptr (ev f x) _; rw [hx]; exact h
theorem fld {off : Nat} {x : Operand} {cs : Array Value} {v : Value} (hx : ev f x = .agg cs) (hv : cs[off]? = some v) (h : vr P r (upd f d v) w K) : vr P (.p none d (.fld off none x) :: r) f w K := by
  show kagg (ev f x) _; rw [hx]
  show match cs[off]? with | some v => _ | none => False
  rw [hv]; exact h
theorem fldA {off n : Nat} {x : Operand} {cs : Array Value} (hx : ev f x = .agg cs) (h : vr P r (upd f d (.agg (cs.extract off (off + n)))) w K) : vr P (.p none d (.fld off (some n) x) :: r) f w K := by
  show kagg (ev f x) _; rw [hx]; exact h
theorem ext {i : Nat} {x : Operand} {cs : Array Value} {v : Value} (hx : ev f x = .tuple cs) (hv : cs[i]? = some v) (h : vr P r (upd f d v) w K) : vr P (.p none d (.ext i x) :: r) f w K := by
  show ktuple (ev f x) _; rw [hx]
  show match cs[i]? with | some v => _ | none => False
  rw [hv]; exact h
theorem mkf {fn : Fn} {a c : List Operand} (h : vr P r (upd f d (.func fn (a.map (ev f)).toArray (c.map (ev f)).toArray)) w K) : vr P (.p none d (.mkf fn a c) :: r) f w K := h
theorem len {x : Operand} {a : Option Addr} {n c : Nat} (hx : ev f x = .slice a n c) (h : vr P r (upd f d (.int .i64 n)) w K) : vr P (.p none d (.len x) :: r) f w K := by
  show kslice (ev f x) _; rw [hx]; exact h
theorem lens {x : Operand} {s : ByteArray} (hx : ev f x = .string s) (h : vr P r (upd f d (.int .i64 s.size)) w K) : vr P (.p none d (.lens x) :: r) f w K := by
  show kstr (ev f x) _; rw [hx]; exact h
theorem lenc {n : Nat} (h : vr P r (upd f d (.int .i64 n)) w K) : vr P (.p none d (.lenc n) :: r) f w K := h
theorem mm2 {mx : Bool} {k : IntKind} {x y : Operand} {a b : Int} (hx : ev f x = .int k a) (hy : ev f y = .int k b) (h : vr P r (upd f d (.int k (if mx then (if a < b then b else a) else (if b < a then b else a)))) w K) :
    vr P (.p none d (.mm mx k x [y]) :: r) f w K := by
  show kint k (ev f x) _; rw [hx]; refine ⟨rfl, ?_⟩
  show kint k (ev f y) _; rw [hy]; exact ⟨rfl, h⟩
theorem bld {z : List Value} {ps : List (Nat × Nat × Operand)} {cs : List Value} (hc : fillC z (ps.map fun (o, s, x) => (o, s, ev f x)) = some cs) (h : vr P r (upd f d (.agg cs.toArray)) w K) : vr P (.p none d (.bld z ps) :: r) f w K := by
  show match fillC z (ps.map fun (o, s, x) => (o, s, ev f x)) with | some cs => _ | none => False
  rw [hc]; exact h
theorem nilchk {x : Operand} {b o : Nat} (hx : ev f x = .pointer (some ⟨b, o, none⟩)) (h : vr P r (upd f d (.pointer (some ⟨b, o, none⟩))) w K) : vr P (.p none d (.nilchk x) :: r) f w K := by
  show kptr (ev f x) _; rw [hx]; exact h
theorem idx {s : Nat} {x i : Operand} {b o n c : Nat} {k : IntKind} {j : Int} (hx : ev f x = .slice (some ⟨b, o, none⟩) n c) (hi : ev f i = .int k j) (hb : 0 ≤ j ∧ j < (n : Int)) (h : vr P r (upd f d (.pointer (some ⟨b, o + j.toNat * s, none⟩))) w K) :
    vr P (.p none d (.idx s x i) :: r) f w K := by
  show kslice (ev f x) _; rw [hx]; show anyint (ev f i) _; rw [hi]; exact ⟨hb, h⟩
theorem idxa {n s : Nat} {x i : Operand} {b o : Nat} {k : IntKind} {j : Int} (hx : ev f x = .pointer (some ⟨b, o, none⟩)) (hi : ev f i = .int k j) (hb : 0 ≤ j ∧ j < (n : Int)) (h : vr P r (upd f d (.pointer (some ⟨b, o + j.toNat * s, none⟩))) w K) :
    vr P (.p none d (.idxa n s x i) :: r) f w K := by
  show kptr (ev f x) _; rw [hx]; show anyint (ev f i) _; rw [hi]; exact ⟨hb, h⟩
theorem idxs {x i : Operand} {s : ByteArray} {k : IntKind} {j : Int} (hx : ev f x = .string s) (hi : ev f i = .int k j) (hb : 0 ≤ j ∧ j.toNat < s.size) (h : vr P r (upd f d (.int .u8 (s[j.toNat]'hb.2).toNat)) w K) : vr P (.p none d (.idxs x i) :: r) f w K := by
  show kstr (ev f x) _; rw [hx]; show anyint (ev f i) _; rw [hi]; exact ⟨hb, h⟩
theorem slc {s : Nat} {x : Operand} {lo hi mx : Option Operand} {a : Option Addr} {n c : Nat} (hx : ev f x = .slice a n c) (h : bnd (mx.map (ev f)) c c fun m => bnd (hi.map (ev f)) n m fun h => bnd (lo.map (ev f)) 0 h fun l =>
      vr P r (upd f d (.slice (cutAt s a l m) (h - l) (m - l))) w K) : vr P (.p none d (.slc s x lo hi mx) :: r) f w K := by
  show kslice (ev f x) _; rw [hx]; exact h
theorem slcs {x : Operand} {lo hi : Option Operand} {t : ByteArray} (hx : ev f x = .string t) (h : bnd (hi.map (ev f)) t.size t.size fun h => bnd (lo.map (ev f)) 0 h fun l => vr P r (upd f d (.string (t.extract l h))) w K) : vr P (.p none d (.slcs x lo hi) :: r) f w K := by
  show kstr (ev f x) _; rw [hx]; exact h
theorem bndN {d y : Nat} {K : Nat → Prop} (h : K d) : bnd none d y K := h
theorem bndS {d y : Nat} {K : Nat → Prop} {v : Value} {k : IntKind} {i : Int} (hv : v = .int k i) (hb : 0 ≤ i ∧ i ≤ (y : Int)) (h : K i.toNat) : bnd (some v) d y K := by subst hv; exact ⟨hb, h⟩

/-- A test is decided. -/
theorem split {s : Nat} {b : Bool} (hb : f s = .bool b) (ht : b = true → vr P r (upd f s (.bool true)) w K) (hf : b = false → vr P r (upd f s (.bool false)) w K) : vr P (.split s :: r) f w K := by
  show spl _ _ _; unfold spl; rw [hb]; exact ⟨ht, hf⟩
theorem splitU {s : Nat} (hb : f s = undef) (h : vr P r f w K) : vr P (.split s :: r) f w K := by
  show spl _ _ _; unfold spl; rw [hb]; exact h
/-- A guarded operation that is carried out, or not. -/
theorem gyes {s : Nat} {b : Bool} {m : MI} {o : PO} (hm : m = .p (some (s, b)) d o) (hb : f s = .bool b) (h : vr P (.p none d o :: r) f w K) : vr P (m :: r) f w K := by
  subst hm; show grd _ _ _ _; unfold grd; simp only [hb, if_true]; exact h
theorem gno {s : Nat} {b c : Bool} {o : PO} (hb : f s = .bool c) (hc : (c = b) = False) (h : vr P r (upd f d undef) w K) : vr P (.p (some (s, b)) d o :: r) f w K := by
  show grd _ _ _ _; unfold grd; simp only [hb, hc, if_false]; exact h
theorem gnou {s : Nat} {b : Bool} {o : PO} (hb : f s = undef) (h : vr P r (upd f d undef) w K) : vr P (.p (some (s, b)) d o :: r) f w K := by
  show grd _ _ _ _; unfold grd; simp only [hb, undef]; exact h
theorem gyesl {s : Nat} {b : Bool} {o : LO} {e : Option Nat} (hb : f s = .bool b) (h : vr P (.l none e o :: r) f w K) : vr P (.l (some (s, b)) e o :: r) f w K := by
  show grd _ _ _ _; unfold grd; simp only [hb, if_true]; exact h
theorem gnol {s : Nat} {b c : Bool} {o : LO} {e : Option Nat} (hb : f s = .bool c) (hc : (c = b) = False) (h : vr P r (putO f e undef) w K) : vr P (.l (some (s, b)) e o :: r) f w K := by
  show grd _ _ _ _; unfold grd; simp only [hb, hc, if_false]; exact h
theorem gnolu {s : Nat} {b : Bool} {o : LO} {e : Option Nat} (hb : f s = undef) (h : vr P r (putO f e undef) w K) : vr P (.l (some (s, b)) e o :: r) f w K := by
  show grd _ _ _ _; unfold grd; simp only [hb, undef]; exact h

/-! memory -/
variable {e : Option Nat}
theorem lop {o : LO} (h : vl P o f w fun v w' => vr P r (putO f e v) w' K) : vr P (.l none e o :: r) f w K := h
theorem ld {x : Operand} {b o : Nat} {v : Value} (hx : ev f x = .pointer (some ⟨b, o, none⟩)) (hv : w.cell? ⟨b, o, none⟩ = some v) (h : vr P r (upd f d v) w K) : vr P (.l none (some d) (.ld none x) :: r) f w K := by
  show kptr (ev f x) _; rw [hx]; exact ⟨v, hv, h⟩
theorem ldA {x : Operand} {b o n : Nat} {cs : List Value} (hx : ev f x = .pointer (some ⟨b, o, none⟩)) (hl : cs.length = n) (hr : Row w (some ⟨b, o, none⟩) cs) (h : vr P r (upd f d (.agg cs.toArray)) w K) :
    vr P (.l none (some d) (.ld (some n) x) :: r) f w K := by
  show kptr (ev f x) _; rw [hx]; exact ⟨cs, hl, hr, h⟩
theorem st1 {a x : Operand} {b o : Nat} {v : Value} (ha : ev f a = .pointer (some ⟨b, o, none⟩)) (hx : ev f x = v) (h1 : v.oneCell' = true) (hw : Writable w b o 1) (h : vr P r f (World.stores w b o [v]) K) :
    vr P (.l none none (.st 1 a x) :: r) f w K := by
  have hc : v.cells = #[v] := by cases v <;> first | rfl | (simp [Value.oneCell'] at h1)
  show kptr (ev f a) _; rw [ha]
  refine ⟨by rw [hx, hc]; rfl, by rw [hx, hc]; simpa [oneCells] using h1, hw, ?_⟩
  rw [hx, hc]; exact h
theorem stA {a x : Operand} {b o n : Nat} {cs : Array Value} (ha : ev f a = .pointer (some ⟨b, o, none⟩)) (hx : ev f x = .agg cs) (hl : cs.size = n) (h1 : oneCells cs.toList) (hw : Writable w b o n) (h : vr P r f (World.stores w b o cs.toList) K) :
    vr P (.l none none (.st n a x) :: r) f w K := by
  show kptr (ev f a) _; rw [ha]
  refine ⟨by rw [hx]; exact hl, by rw [hx]; exact h1, hw, ?_⟩
  rw [hx]; exact h
theorem call {g : FuncId} {xs : List Operand} {args : List Value} (ha : xs.map (ev f) = args) (h : Calls P g args.toArray w (Rt fun v w' => vr P r (putO f e v) w' K)) : vr P (.l none e (.call g xs) :: r) f w K := by
  subst ha; exact h
end

section
variable {nt : Nat} {n : Fr → World → Prop} {xs : List (Nat × (Fr → World → Prop))} {rt : Fr → World → Prop} {f : Fr} {w : World}
/-- What follows a piece of code stands behind a letter. -/
theorem seq {a b : MC} (h : ∀ K : Fr → World → Prop, (∀ f w, VC P nt b n xs rt f w → K f w) → VC P nt a K xs rt f w) : VC P nt (.seq a b) n xs rt f w := h _ fun _ _ h => h
theorem cnd {x : Operand} {a b : MC} {t : Bool} (hx : ev f x = .bool t) (h1 : t = true → VC P nt a n xs rt f w) (h2 : t = false → VC P nt b n xs rt f w) : VC P nt (.cond x a b) n xs rt f w := by
  show kbool (ev f x) _; rw [hx]; exact ⟨h1, h2⟩
theorem cndT {x : Operand} {a b : MC} (hx : ev f x = .bool true) (h1 : VC P nt a n xs rt f w) : VC P nt (.cond x a b) n xs rt f w := cnd hx (fun _ => h1) (fun h => by cases h)
theorem cndF {x : Operand} {a b : MC} (hx : ev f x = .bool false) (h2 : VC P nt b n xs rt f w) : VC P nt (.cond x a b) n xs rt f w := cnd hx (fun h => by cases h) (fun _ => h2)
/-- A loop over states with an index: each round begins in one, and ends in one whose measure is less. -/
theorem lp {c : MC} {ι : Type} (I : ι → Fr → World → Prop) (μ : ι → Nat) (i0 : ι) (h0 : I i0 f w) (h : ∀ i f w, I i f w → ∀ K : Fr → World → Prop, (∀ j f' w', I j f' w' → μ j < μ i → K f' w') → VC P nt c K xs rt f w) : VC P nt (.loop c) n xs rt f w :=
  ⟨fun k f w => ∃ i, μ i = k ∧ I i f w, μ i0, ⟨i0, rfl, h0⟩, fun k f w ⟨i, hi, hI⟩ => h i f w hI _ fun j f' w' hj hlt => ⟨μ j, hi ▸ hlt, j, rfl, hj⟩⟩
end
end Go.Proofs.Ytnkilhmkegmenaa.E
