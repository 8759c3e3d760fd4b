/- Part 1 of the proof of what the last of these files says. -/
import Derived.Test.YtifnmbmijljhfaaGreatProg
import Derived.OrdersHeld
import Derived.Tactics
namespace Go.Proofs.YtifnmbmijljhfaaGreat.E
open Go
abbrev Fr := Nat → Value
def upd (f : Fr) (d : Nat) (v : Value) : Fr := fun i => if i = d then v else f i
def ev (f : Fr) : Operand → Value
 | .tmp t => f t
 | .const v => v
 | .global g => .pointer (some ⟨g, 0, none⟩)
 | .func g => .func (.func g) #[] #[]
inductive PO where
 | mv (x : Operand)
 | pick (c a b : Operand)
 | bin (op : BinOp) (k : IntKind) (x y : Operand)
 | shf (op : BinOp) (x y : Operand)
 | div (op : BinOp) (k : IntKind) (x y : Operand)
 | beq (neg : Bool) (x y : Operand)
 | sbin (op : BinOp) (x y : Operand)
 | isnil (neg : Bool) (kd : Nat) (x : Operand)
 | aeq (neg : Bool) (ks : List Nat) (x y : Operand)
 | not (x : Operand)
 | neg (k : IntKind) (x : Operand)
 | conv (k : IntKind) (x : Operand)
 | convId (x : Operand)
 | fa (off : Nat) (x : Operand)
 | fld (off : Nat) (sz : Option Nat) (x : Operand)
 | ext (i : Nat) (x : Operand)
 | mkf (fn : Fn) (first cap : List Operand)
 | len (x : Operand)
 | lens (x : Operand)
 | lenc (n : Nat)
 | mm (mx : Bool) (k : IntKind) (x : Operand) (xs : List Operand)
 | bld (zero : List Value) (parts : List (Nat × Nat × Operand))
 | nilchk (x : Operand)
 | idx (sz : Nat) (x i : Operand)
 | idxa (n sz : Nat) (x i : Operand)
 | idxs (x i : Operand)
 | idxv (n sz : Nat) (agg : Bool) (x i : Operand)
 | slc (sz : Nat) (x : Operand) (lo hi mx : Option Operand)
 | slca (n sz : Nat) (x : Operand) (lo hi : Option Operand)
 | slcs (x : Operand) (lo hi : Option Operand)
inductive LO where
 | ld (sz : Option Nat) (x : Operand)
 | st (sz : Nat) (a x : Operand)
 | al (t : TypeId) (cells : List Value)
 | bx (t : TypeId) (x : Operand)
 | bs (t : TypeId) (len size : Nat) (cells : List Value) (parts : List (Nat × Nat × Operand))
 | mks (t : TypeId) (bytes size : Nat) (zero : List Value) (l c : Operand)
 | app (t : TypeId) (bytes size : Nat) (zero : List Value) (x y : Operand)
 | appz (t : TypeId) (bytes size : Nat) (zero : List Value) (x y : Operand)
 | cpy (size : Nat) (x y : Operand)
 | b2s (x : Operand)
 | s2b (t : TypeId) (x : Operand)
 | call (g : FuncId) (xs : List Operand)
 | callv (f : Operand) (xs : List Operand)
 | mkmap
 | raw (o : Op)
inductive MI where
 | split (s : Nat)
 | p (g : Option (Nat × Bool)) (d : Nat) (o : PO)
 | l (g : Option (Nat × Bool)) (d : Option Nat) (o : LO)
inductive SI where
 | split (s : Nat)
 | qp (i : Nat) (g : Option (Nat × Bool)) (d : Nat) (o : PO)
 | ql (i : Nat) (g : Option (Nat × Bool)) (d : Nat) (sz : Option Nat) (x : Operand)
 | l (i : Nat) (g : Option (Nat × Bool)) (d : Option Nat) (o : LO)
 | lp (i : Nat) (g : Option (Nat × Bool)) (d : Nat) (o : PO)
inductive ST where
 | line (l : List SI)
 | fork (l : List SI) (a b : ST)
def ST.cons (xs : List SI) : ST → ST
 | .line l => .line (xs ++ l)
 | .fork l a b => .fork (xs ++ l) a b
def forkD : List (Option ST) → Option ST
 | [] => none
 | [x] => x
 | x :: y :: xs => match x, forkD (y :: xs) with
  | some a, some b => some (.fork [] a b)
  | _, _ => none
inductive MC where
 | skip
 | seq (a b : MC)
 | reg (ops : List MI)
 | dreg (ops : ST)
 | rreg (id : Nat) (ops : Array Oper) (draw : Bool)
 | cond (x : Operand) (a b : MC)
 | block (id : Nat) (c : MC)
 | exit (id : Nat)
 | loop (c : MC)
 | ret
section compile
variable (P : Program)
def sz? (t : TypeId) : Option Nat := (P.info? t).map (·.size)
def agg? (t : TypeId) : Option Bool := match P.underlying t with
 | some (.struct _) | some (.array _ _) => some true
 | some _ => some false
 | none => none
def ldsz (t : TypeId) : Option (Option Nat) :=
 match agg? P t, sz? P t with
 | some true, some n => some (some n)
 | some false, some _ => some none
 | _, _ => none
def zero? (t : TypeId) : Option Value := (P.info? t).bind (·.zero)
def kind? (t : TypeId) : Option IntKind := match P.underlying t with | some (.int k) => some k | _ => none
def flatK (t : TypeId) : Option Nat := match P.underlying t with
 | some .bool => if sz? P t == some 1 then some 0 else none
 | some (.int _) => if sz? P t == some 1 then some 1 else none
 | some .string => if sz? P t == some 1 then some 2 else none
 | _ => none
def fieldsFrom (k : Nat) : List Field → Option (List Nat)
 | [] => some []
 | f :: fs => match flatK P f.type, fieldsFrom (k + 1) fs with
  | some a, some l => if f.offset == k && f.name != "_" then some (a :: l) else none
  | _, _ => none
def isCmp : BinOp → Bool
 | .eql | .neq | .lss | .leq | .gtr | .geq => true
 | _ => false
def compBin (op : BinOp) (t : TypeId) (x y : Operand) : Option PO :=
 match P.underlying t with
 | some (.int k) =>
  match op with
  | .shl | .shr => some (.shf op x y)
  | .quo | .rem => some (.div op k x y)
  | .add | .sub | .mul | .and | .or | .xor | .andNot | .eql | .neq | .lss | .leq | .gtr | .geq => some (.bin op k x y)
 | some .bool => match op with | .eql => some (.beq false x y) | .neq => some (.beq true x y) | _ => none
 | some .string => match op with | .add | .eql | .neq | .lss | .leq | .gtr | .geq => some (.sbin op x y) | _ => none
 | some (.pointer _) => match y, op with
  | .const (.pointer none), .eql => some (.isnil false 0 x)
  | .const (.pointer none), .neq => some (.isnil true 0 x)
  | _, _ => none
 | some (.slice _) => match y, op with
  | .const (.slice none _ _), .eql => some (.isnil false 1 x)
  | .const (.slice none _ _), .neq => some (.isnil true 1 x)
  | _, _ => none
 | some (.func _ _ _) => match y, op with
  | .const .nilFunc, .eql => some (.isnil false 2 x)
  | .const .nilFunc, .neq => some (.isnil true 2 x)
  | _, _ => none
 | some (.struct fs) => match fieldsFrom P 0 fs.toList with
  | some ks => if !P.stoodInHeld t && !P.eqGuardType P.depth t then
   match op with | .eql => some (.aeq false ks x y) | .neq => some (.aeq true ks x y) | _ => none
   else none
  | none => none
 | _ => none
def compParts (place : Nat → Option (Nat × Nat)) : List (Nat × Operand) → Option (List (Nat × Nat × Operand))
 | [] => some []
 | (i, x) :: r => match place i, compParts place r with
  | some (o, s), some l => some ((o, s, x) :: l)
  | _, _ => none
def builtinOp (b : Builtin) (args : List Operand) (ts : List TypeId) : Option (PO ⊕ LO) :=
 match b, args, ts with
 | .len, [x], [t] => match P.underlying t with
  | some .string => some (.inl (.lens x))
  | some (.slice _) => some (.inl (.len x))
  | some (.array n _) => some (.inl (.lenc n))
  | _ => none
 | .append, [x, y], [t, u] => match P.underlying t with
  | some (.slice e) => match P.info? e, zero? P e, P.underlying u with
   | some i, some z, some d => match d with
    | .int _ => if i.size = z.cells.size then some (.inr (.appz e i.bytes i.size z.cells.toList x y)) else none
    | .slice _ | .string => some (.inr (.app e i.bytes i.size z.cells.toList x y))
    | _ => none
   | _, _, _ => none
  | _ => none
 | .copy, [x, y], [t, _] => match P.underlying t with
  | some (.slice e) => (sz? P e).map fun s => .inr (.cpy s x y)
  | _ => none
 | .min, x :: xs, t :: _ => (kind? P t).map fun k => .inl (.mm false k x xs)
 | .max, x :: xs, t :: _ => (kind? P t).map fun k => .inl (.mm true k x xs)
 | _, _, _ => none
def slcOk (hi mx : Option Operand) : Bool := hi.isSome || mx.isNone
def comp (o : Oper) : Option (PO ⊕ LO) :=
 match o.op with
 | .move x | .assign x => some (.inl (.mv x))
 | .pick c a b => some (.inl (.pick c a b))
 | .binOp op t x y _ => (compBin P op t x y).map .inl
 | .unOp .not _ x => some (.inl (.not x))
 | .unOp .neg t x => (kind? P t).map fun k => .inl (.neg k x)
 | .unOp .xor t x => (kind? P t).map fun k => .inl (.bin .xor k (.const (.int k (if k.signed then -1 else k.max))) x)
 | .convert s d x => match P.underlying s, P.underlying d with
  | some (.int _), some (.int k) => some (.inl (.conv k x))
  | some .string, some .string => some (.inl (.convId x))
  | some (.slice e), some .string => match P.underlying e with
   | some (.int .u8) => some (.inr (.b2s x))
   | _ => none
  | some .string, some (.slice e) => match P.underlying e with
   | some (.int .u8) => some (.inr (.s2b e x))
   | _ => none
  | some (.slice _), some (.slice _) => some (.inr (.raw o.op))
  | _, _ => none
 | .fieldAddr s x f => match P.underlying s with
  | some (.struct fs) => match fs[f]? with
   | some fl => match sz? P fl.type with
    | some n => if n = 0 then none else some (.inl (.fa fl.offset x))
    | none => none
   | none => none
  | _ => none
 | .field t x f => match P.underlying t with
  | some (.struct fs) => match fs[f]? with
   | some fl => (ldsz P fl.type).map fun s => .inl (.fld fl.offset s x)
   | none => none
  | _ => none
 | .extract x i => some (.inl (.ext i x))
 | .makeFunc fn first cap => some (.inl (.mkf fn first.toList cap.toList))
 | .nilCheck x => some (.inl (.nilchk x))
 | .build t parts => match P.underlying t, zero? P t with
  | some (.struct fs), some z => match (fs.toList.mapM fun f => (sz? P f.type).map fun s => (f.offset, s)) with
   | some pl => (compParts (fun i => pl[i]?) parts.toList).map fun l => .inl (.bld z.cells.toList l)
   | none => none
  | some (.array _ e), some z => match sz? P e with
   | some s => (compParts (fun i => some (i * s, s)) parts.toList).map fun l => .inl (.bld z.cells.toList l)
   | none => none
  | _, _ => none
 | .indexAddr t x i => match P.underlying t with
  | some (.slice e) => (sz? P e).map fun s => .inl (.idx s x i)
  | some (.array n e) => (sz? P e).map fun s => .inl (.idxa n s x i)
  | _ => none
 | .index t x i => match P.underlying t with
  | some .string => some (.inl (.idxs x i))
  | some (.array n e) => match agg? P e, sz? P e with
   | some b, some s => some (.inl (.idxv n s b x i))
   | _, _ => none
  | _ => none
 | .slice t x lo hi mx => match P.underlying t with
  | some (.slice e) => if slcOk hi mx then (sz? P e).map fun s => .inl (.slc s x lo hi mx) else none
  | some .string => if mx.isNone then some (.inl (.slcs x lo hi)) else none
  | some (.array n e) => if mx.isNone then (sz? P e).map fun s => .inl (.slca n s x lo hi) else none
  | _ => none
 | .load t x => (ldsz P t).map fun s => .inr (.ld s x)
 | .store t a x => (sz? P t).map fun s => .inr (.st s a x)
 | .alloc t => (zero? P t).map fun z => .inr (.al t z.cells.toList)
 | .box t x => some (.inr (.bx t x))
 | .buildSlice t n parts => match P.underlying t with
  | some (.slice e) => match sz? P e, zero? P e with
   | some s, some z => match compParts (fun i => some (i * s, s)) parts.toList with
    | some l => if n * s > 2 ^ 24 then none else
     let zc := if n * s = 0 then #[] else z.cells
     some (.inr (.bs e n s ((Array.range (n * s)).map (zc[· % zc.size]!)).toList l))
    | none => none
   | _, _ => none
  | _ => none
 | .makeSlice t l c => match P.underlying t with
  | some (.slice e) => match P.info? e, zero? P e with
   | some i, some z => if i.size = z.cells.size then some (.inr (.mks e i.bytes i.size z.cells.toList l c)) else none
   | _, _ => none
  | _ => none
 | .makeMap _ none => some (.inr .mkmap)
 | .lookup .. | .mapUpdate .. | .mapEntry .. | .entryStore .. => some (.inr (.raw o.op))
 | .call c => match c.callee with
  | .builtin b => builtinOp P b c.args.toList c.argTypes.toList
  | .value (.func g) => match P.funcs[g]? with
   | some fn => if fn.name == "runtime.NumGoroutine" || fn.body.isNone then none else some (.inr (.call g c.args.toList))
   | none => none
  | .value f => some (.inr (.callv f c.args.toList))
  | _ => none
 | _ => none
def gslot (ops : Array Oper) (n : Nat) : Option (Nat × Bool) → Option (Option (Nat × Bool))
 | none => some none
 | some (j, want) => match (ops[j]?).bind (·.dst) with
  | some s => if s < n then some (some (s, want)) else none
  | none => none
def splits (done : List Nat) (g : Option (Nat × Bool)) (o : PO ⊕ LO) : List Nat :=
 (match g with | some (s, _) => if done.contains s then [] else [s] | none => []) ++
 (match o with
  | .inl (.pick (.tmp s) _ _) => if done.contains s || (match g with | some (s', _) => s' == s | none => false) then [] else [s]
  | _ => [])
def okd (n : Nat) : Option Nat → Bool
 | some d => decide (d < n)
 | none => true
def compI (n : Nat) (ops : Array Oper) (o : Oper) : Option (Option (Nat × Bool) × (PO ⊕ LO)) :=
 match gslot ops n o.guard, comp P o with
 | some g, some r => if okd n o.dst then some (g, r) else none
 | _, _ => none
def compReg (n : Nat) (ops : Array Oper) : List Nat → List Oper → Option (List MI)
 | _, [] => some []
 | done, o :: rest => match compI P n ops o with
  | some (g, r) =>
   let s := splits done g r
   match compReg n ops (s ++ done) rest with
   | some l => match r, o.dst with
    | .inl p, some d => some (s.map .split ++ .p g d p :: l)
    | .inr q, d => some (s.map .split ++ .l g d q :: l)
    | .inl _, none => none
   | none => none
  | none => none
def isLd : PO ⊕ LO → Bool
 | .inr (.ld _ _) => true
 | _ => false
def isPure : PO ⊕ LO → Bool
 | .inl _ => true
 | _ => false
def fromIdx (ops : Array Oper) : PO ⊕ LO → Bool
 | .inr (.ld _ (.tmp t)) => ops.any fun o => o.dst == some t && (match o.op with | .indexAddr .. => true | _ => false)
 | _ => false
def clash (ops : Array Oper) : PO ⊕ LO → Bool
 | .inr (.ld z (.tmp t)) => (ops.any fun o => match o.op with | .store _ (.tmp s) _ => s == t | _ => false) || (isIdx t && 2 ≤ (ops.toList.filter fun o => match o.op with | .store _ (.tmp s) _ => isIdx s | _ => false).length && z.isSome) ||
  (z.isNone && (match fldOf t with
   | some g => ops.any fun o => match o.op with | .store _ (.tmp s) _ => fldOf s == some g | _ => false
   | none => false)) ||
  (match baseOf t with
   | some r => ops.any fun o => match o.op with | .store _ (.tmp s) _ => baseOf s == some r | _ => false
   | none => false)
 | _ => false
where
 isIdx (t : Nat) : Bool := ops.any fun o => o.dst == some t && (match o.op with | .indexAddr .. => true | _ => false)
 /-- the field of an element that an address names -/
 fldOf (t : Nat) : Option Nat := (ops.find? fun o => o.dst == some t).bind fun o => match o.op with
  | .fieldAddr _ (.tmp a) g => if isIdx a then some g else none
  | _ => none
 /-- the variable whose field an address names -/
 baseOf (t : Nat) : Option Nat := (src t).bind fun o => match o.op with
  | .fieldAddr _ (.tmp a) _ => (src a).bind fun o => nilOf o
  | _ => nilOf o
 nilOf (o : Oper) : Option Nat := match o.op with
  | .nilCheck (.tmp b) => (src b).bind fun o => match o.op with
   | .move (.tmp c) => some c
   | _ => none
  | _ => none
 src (t : Nat) : Option Oper := ops.find? fun o => o.dst == some t
def pickOp (ops : Array Oper) (listed : Array Bool) : Option (Nat × Bool) :=
 let rs := Region.ready .any ops listed
 let good := fun (rs : List Nat) (f : PO ⊕ LO → Bool) => rs.find? fun i => Region.free .any ops listed i && (match ops[i]? with
  | some o => (o.dst.isSome) && (match comp P o with | some r => f r | none => false)
  | none => false)
 match good rs isPure with
 | some i => some (i, true)
 | none => match rs with
  | [i] => some (i, false)
  | _ => match good rs.reverse (fun r => isLd r && !fromIdx ops r && !clash ops r) with
   | some i => some (i, true)
   | none => match good rs.reverse (fun r => isLd r && !clash ops r) with
    | some i => some (i, true)
    | none => none
def stepD (n : Nat) (ops : Array Oper) (done : List Nat) (i : Nat) (q : Bool) (k : List Nat → Option ST) : Option ST :=
 match ops[i]? with
 | none => none
 | some o => match compI P n ops o with
  | none => none
  | some (g, r) =>
   match k (splits done g r) with
   | none => none
   | some t => match q, r, o.dst with
    | true, .inl p, some d => some (t.cons ((splits done g r).map .split ++ [.qp i g d p]))
    | true, .inr (.ld z x), some d => some (t.cons ((splits done g r).map .split ++ [.ql i g d z x]))
    | false, .inl p, some d => some (t.cons ((splits done g r).map .split ++ [.lp i g d p]))
    | false, .inr p, d => some (t.cons ((splits done g r).map .split ++ [.l i g d p]))
    | _, _, _ => none
def compD (n : Nat) (ops : Array Oper) : Nat → List Nat → Array Bool → Option ST
 | 0, _, listed => if (Region.ready .any ops listed).isEmpty then some (.line []) else none
 | fuel + 1, done, listed =>
  match pickOp P ops listed with
  | none => if (Region.ready .any ops listed).isEmpty then some (.line []) else
   forkD ((Region.ready .any ops listed).map fun i => stepD P n ops done i false fun s => compD n ops fuel (s ++ done) (listed.setIfInBounds i true))
  | some (i, q) => stepD P n ops done i q fun s => compD n ops fuel (s ++ done) (listed.setIfInBounds i true)
def compile (n : Nat) : Code → Option MC
 | .skip => some .skip
 | .label _ => some .skip
 | .region id ops false => match compReg P n ops [] ops.toList with
  | some l => some (.reg l)
  | none => some (.rreg id ops false)
 | .region id ops true => match (if Region.noSelect ops then compD P n ops ops.size [] (Array.replicate ops.size false) else none) with
  | some l => some (.dreg l)
  | none => some (.rreg id ops true)
 | .seq a b => match compile n a, compile n b with
  | some x, some y => some (.seq x y)
  | _, _ => none
 | .cond c a b => match compile n a, compile n b with
  | some x, some y => some (.cond c x y)
  | _, _ => none
 | .block id c => (compile n c).map (.block id)
 | .exit id => some (.exit id)
 | .loop c => (compile n c).map .loop
 | .scope c => compile n c
 | .ret => some .ret
 | _ => none
end compile
end Go.Proofs.YtifnmbmijljhfaaGreat.E
namespace Go.Proofs.YtifnmbmijljhfaaGreat.E
open Go
def kint (k : IntKind) (x : Value) (K : Int → Prop) : Prop := match x with
 | .int k' n => k' = k ∧ K n
 | _ => False
def anyint (x : Value) (K : IntKind → Int → Prop) : Prop := match x with
 | .int k n => K k n
 | _ => False
def kbool (x : Value) (K : Bool → Prop) : Prop := match x with
 | .bool b => K b
 | _ => False
def kstr (x : Value) (K : ByteArray → Prop) : Prop := match x with
 | .string s => K s
 | _ => False
def kptr (x : Value) (K : Nat → Nat → Prop) : Prop := match x with
 | .pointer (some ⟨b, o, none⟩) => K b o
 | _ => False
def kslice (x : Value) (K : Option Addr → Nat → Nat → Prop) : Prop := match x with
 | .slice a n c => K a n c
 | _ => False
def kagg (x : Value) (K : Array Value → Prop) : Prop := match x with
 | .agg cs => K cs
 | _ => False
def ktuple (x : Value) (K : Array Value → Prop) : Prop := match x with
 | .tuple cs => K cs
 | _ => False
def binI (op : BinOp) (k : IntKind) (a b : Int) : Value := match op with
 | .add => .int k (k.wrap (a + b))
 | .sub => .int k (k.wrap (a - b))
 | .mul => .int k (k.wrap (a * b))
 | .and => .int k (k.wrap (BitVec.ofInt k.bits a &&& BitVec.ofInt k.bits b).toNat)
 | .or => .int k (k.wrap (BitVec.ofInt k.bits a ||| BitVec.ofInt k.bits b).toNat)
 | .xor => .int k (k.wrap (BitVec.ofInt k.bits a ^^^ BitVec.ofInt k.bits b).toNat)
 | .andNot => .int k (k.wrap (BitVec.ofInt k.bits a &&& ~~~ BitVec.ofInt k.bits b).toNat)
 | .eql => .bool (decide (a = b))
 | .neq => .bool (!decide (a = b))
 | .lss => .bool (decide (a < b))
 | .leq => .bool (decide (a ≤ b))
 | .gtr => .bool (decide (b < a))
 | .geq => .bool (decide (b ≤ a))
 | _ => undef
def binS (op : BinOp) (a b : ByteArray) (K : Value → Prop) : Prop := match op with
 | .add => a.size + b.size ≤ 9223372036854775807 ∧ K (.string (a ++ b))
 | .eql => K (.bool (decide (a.toList = b.toList)))
 | .neq => K (.bool (!decide (a.toList = b.toList)))
 | .lss => K (.bool (Op.bytesLess a.toList b.toList))
 | .leq => K (.bool (Op.bytesLess a.toList b.toList || decide (a.toList = b.toList)))
 | .gtr => K (.bool (!(Op.bytesLess a.toList b.toList || decide (a.toList = b.toList))))
 | .geq => K (.bool (!Op.bytesLess a.toList b.toList))
 | _ => False
def isNilV : Nat → Value → Option Bool
 | 0, .pointer none => some true
 | 0, .pointer (some _) => some false
 | 1, .slice none _ _ => some true
 | 1, .slice (some _) _ _ => some false
 | 2, .nilFunc => some true
 | 2, .func _ _ _ => some false
 | _, _ => none
def eqC : Nat → Value → Value → Option Bool
 | 0, .bool a, .bool b => some (decide (a = b))
 | 1, .int k a, .int k' b => if k = k' then some (decide (a = b)) else none
 | 2, .string a, .string b => some (decide (a.toList = b.toList))
 | _, _, _ => none
def eqCs : List Nat → List Value → List Value → Option Bool
 | [], _, _ => some true
 | k :: ks, a :: xs, b :: ys => match eqC k a b, eqCs ks xs ys with
  | some x, some y => some (x && y)
  | _, _ => none
 | _, _, _ => none
def fillC : List Value → List (Nat × Nat × Value) → Option (List Value)
 | cs, [] => some cs
 | cs, (o, s, v) :: r => if v.cells.size = s ∧ o + s ≤ cs.length then fillC (cs.take o ++ v.cells.toList ++ cs.drop (o + s)) r else none
def mmI (mx : Bool) (k : IntKind) : Int → List Value → (Value → Prop) → Prop
 | m, [], K => K (.int k m)
 | m, v :: vs, K => kint k v fun n => mmI mx k (if mx then (if m < n then n else m) else (if n < m then n else m)) vs K
def addrAt (a : Option Addr) (K : Nat → Nat → Prop) : Prop := match a with
 | some ⟨b, o, none⟩ => K b o
 | _ => False
def bnd (x : Option Value) (dflt : Nat) (y : Nat) (K : Nat → Prop) : Prop := match x with
 | none => K dflt
 | some v => anyint v fun _ i => (0 ≤ i ∧ i ≤ (y : Int)) ∧ K i.toNat
def cutAt (sz : Nat) (a : Option Addr) (l m : Nat) : Option Addr := match a with
 | some ⟨b, o, none⟩ => if m = l then some ⟨b, o, none⟩ else some ⟨b, o + l * sz, none⟩
 | x => if m = l then x else x.map (·.add (l * sz))
def pe (o : PO) (f : Fr) (K : Value → Prop) : Prop := match o with
 | .mv x => K (ev f x)
 | .pick c a b => kbool (ev f c) fun t => K (if t then ev f a else ev f b)
 | .bin op k x y => kint k (ev f x) fun a => kint k (ev f y) fun b => K (binI op k a b)
 | .shf op x y => anyint (ev f x) fun k a => anyint (ev f y) fun _ b => 0 ≤ b ∧ (match op with
  | .shl => K (.int k (k.wrap (a * 2 ^ min b.toNat k.bits)))
  | .shr => K (.int k (a.fdiv (2 ^ min b.toNat k.bits)))
  | _ => False)
 | .div op k x y => kint k (ev f x) fun a => kint k (ev f y) fun b => b ≠ 0 ∧ (match op with
  | .quo => K (.int k (k.wrap (a.tdiv b)))
  | .rem => K (.int k (a.tmod b))
  | _ => False)
 | .beq n x y => kbool (ev f x) fun a => kbool (ev f y) fun b => K (.bool (if n then !decide (a = b) else decide (a = b)))
 | .sbin op x y => kstr (ev f x) fun a => kstr (ev f y) fun b => binS op a b K
 | .isnil n kd x => match isNilV kd (ev f x) with
  | some b => K (.bool (if n then !b else b))
  | none => False
 | .aeq n ks x y => kagg (ev f x) fun a => kagg (ev f y) fun b => match eqCs ks a.toList b.toList with
  | some t => K (.bool (if n then !t else t))
  | none => False
 | .not x => kbool (ev f x) fun a => K (.bool (!a))
 | .neg k x => kint k (ev f x) fun a => K (.int k (k.wrap (0 - a)))
 | .conv k x => anyint (ev f x) fun _ a => K (.int k (k.wrap a))
 | .convId x => kstr (ev f x) fun a => K (.string a)
 | .fa off x => kptr (ev f x) fun b o => K (.pointer (some ⟨b, o + off, none⟩))
 | .fld off s x => kagg (ev f x) fun cs => match s with
  | some n => K (.agg (cs.extract off (off + n)))
  | none => match cs[off]? with
   | some v => K v
   | none => False
 | .ext i x => ktuple (ev f x) fun cs => match cs[i]? with
  | some v => K v
  | none => False
 | .mkf fn a c => K (.func fn (a.map (ev f)).toArray (c.map (ev f)).toArray)
 | .len x => kslice (ev f x) fun _ n _ => K (.int .i64 n)
 | .lens x => kstr (ev f x) fun s => K (.int .i64 s.size)
 | .lenc n => K (.int .i64 n)
 | .mm mx k x xs => kint k (ev f x) fun a => mmI mx k a (xs.map (ev f)) K
 | .bld z ps => match fillC z (ps.map fun (o, s, x) => (o, s, ev f x)) with
  | some cs => K (.agg cs.toArray)
  | none => False
 | .nilchk x => kptr (ev f x) fun b o => K (.pointer (some ⟨b, o, none⟩))
 | .idx s x i => kslice (ev f x) fun a n _ => anyint (ev f i) fun _ j => (0 ≤ j ∧ j < (n : Int)) ∧ addrAt a fun b o => K (.pointer (some ⟨b, o + j.toNat * s, none⟩))
 | .idxa n s x i => kptr (ev f x) fun b o => anyint (ev f i) fun _ j => (0 ≤ j ∧ j < (n : Int)) ∧ K (.pointer (some ⟨b, o + j.toNat * s, none⟩))
 | .idxs x i => kstr (ev f x) fun s => anyint (ev f i) fun _ j => ∃ h : 0 ≤ j ∧ j.toNat < s.size, K (.int .u8 (s[j.toNat]'h.2).toNat)
 | .idxv n s g x i => kagg (ev f x) fun cs => anyint (ev f i) fun _ j => (0 ≤ j ∧ j < (n : Int)) ∧ (match g with
  | true => K (.agg (cs.extract (j.toNat * s) (j.toNat * s + s)))
  | false => match cs[j.toNat * s]? with
   | some v => K v
   | none => False)
 | .slc s x lo hi mx => kslice (ev f x) fun a n c => bnd (mx.map (ev f)) c c fun m => bnd (hi.map (ev f)) n m fun h => bnd (lo.map (ev f)) 0 h fun l =>
  K (.slice (cutAt s a l m) (h - l) (m - l))
 | .slca n s x lo hi => kptr (ev f x) fun b o => bnd (hi.map (ev f)) n n fun h => bnd (lo.map (ev f)) 0 h fun l =>
  K (.slice (cutAt s (some ⟨b, o, none⟩) l n) (h - l) (n - l))
 | .slcs x lo hi => kstr (ev f x) fun t => bnd (hi.map (ev f)) t.size t.size fun h => bnd (lo.map (ev f)) 0 h fun l => K (.string (t.extract l h))
def World.stores (w : World) (b o : Nat) : List Value → World
 | [] => w
 | v :: vs => World.stores (w.setCell ⟨b, o, none⟩ v) b (o + 1) vs
def Rt (K : Value → World → Prop) : Ending → World → Prop := fun e w' => ∃ v, e = .returned v ∧ K v w'
def okFn (P : Program) (g : FuncId) : Bool := match P.funcs[g]? with
 | some fn => !(fn.name == "runtime.NumGoroutine") && fn.body.isSome
 | none => false
def putO (f : Fr) (d : Option Nat) (v : Value) : Fr := match d with
 | some d => upd f d v
 | none => f
def Row (w : World) (a : Option Addr) (cs : List Value) : Prop := match a with
 | some ⟨b, o, none⟩ => ∀ i, i < cs.length → w.cell? ⟨b, o + i, none⟩ = cs[i]?
 | _ => cs = []
def Writable (w : World) (b o n : Nat) : Prop := ∀ i, i < n → (∃ v, w.cell? ⟨b, o + i, none⟩ = some v) ∧ w.frozen? ⟨b, o + i, none⟩ = false
def oneCells (cs : List Value) : Prop := ∀ c ∈ cs, c.oneCell' = true
def Src (w : World) (x : Value) (n sz : Nat) (cs : List Value) : Prop := match x with
 | .slice a _ _ => cs.length = (if a.isNone then 0 else n * sz) ∧ Row w a cs
 | .string s => cs = (s.extract 0 n).data.toList.map fun b => .int .u8 b.toNat
 | _ => False
def lenN (x : Value) (K : Nat → Prop) : Prop := match x with
 | .string s => K s.size
 | .slice _ n _ => K n
 | _ => False
def repC (zero : List Value) : Nat → List Value
 | 0 => []
 | n + 1 => zero ++ repC zero n
def drewW (w : World) : World := w.drew
def allocW (w : World) (t : TypeId) (cs : List Value) : World := w.alloc (.cells cs.toArray t)
def growVC (w : World) (t : TypeId) (bytes sz : Nat) (zero : List Value) (a : Option Addr) (n c m : Nat) (new : List Value) (K : Value → World → Prop) : Prop :=
 (n + m ≤ c →
  match a with
  | some ⟨b, o, none⟩ => Writable w b (o + n * sz) new.length ∧ oneCells new ∧ K (.slice a (n + m) c) (World.stores w b (o + n * sz) new)
  | none => K (.slice none (n + m) c) w
  | _ => False) ∧
 (c < n + m →
  Builtin.nextslicecap (n + m) c * bytes ≤ 2 ^ 48 ∧ (bytes = 0 → ((n + m : Nat) : Int) ≤ IntKind.i64.max) ∧ ∃ old, Src w (.slice a n c) n sz old ∧
   ∀ c', n + m ≤ c' → K (.slice (some ⟨w.heap.size, 0, none⟩) (n + m) c') (allocW (drewW w) t (old ++ new ++ repC zero (c' - (n + m)))))
def vl (P : Program) (o : LO) (f : Fr) (w : World) (K : Value → World → Prop) : Prop := match o with
 | .ld none x => kptr (ev f x) fun b o => ∃ v, w.cell? ⟨b, o, none⟩ = some v ∧ K v w
 | .ld (some n) x => kptr (ev f x) fun b o => ∃ cs : List Value, cs.length = n ∧ Row w (some ⟨b, o, none⟩) cs ∧ K (.agg cs.toArray) w
 | .st n a x => kptr (ev f a) fun b o => (ev f x).cells.size = n ∧ oneCells (ev f x).cells.toList ∧ Writable w b o n ∧ K undef (World.stores w b o (ev f x).cells.toList)
 | .al t cs => K (.pointer (some ⟨w.heap.size, 0, none⟩)) (allocW w t cs)
 | .bx t x => K (.pointer (some ⟨w.heap.size, 0, none⟩)) (allocW w t (ev f x).cells.toList)
 | .bs t n _ z ps => match fillC z (ps.map fun (o, s, x) => (o, s, ev f x)) with
  | some cs => K (.slice (some ⟨w.heap.size, 0, none⟩) n n) (allocW w t cs)
  | none => False
 | .mks t bytes _ z l c => anyint (ev f l) fun _ l => anyint (ev f c) fun _ c => (0 ≤ l ∧ l ≤ c ∧ c < 9223372036854775808 ∧ bytes * c ≤ 2 ^ 48) ∧
  K (.slice (some ⟨w.heap.size, 0, none⟩) l.toNat c.toNat) (allocW w t (repC z c.toNat))
 | .app t bytes sz z x y => kslice (ev f x) fun a n c => lenN (ev f y) fun m => ∃ new, Src w (ev f y) m sz new ∧ growVC w t bytes sz z a n c m new K
 | .appz t bytes sz z x y => kslice (ev f x) fun a n c => anyint (ev f y) fun _ m => (0 ≤ m ∧ m < 9223372036854775808 ∧ bytes * m ≤ 2 ^ 48) ∧
  (((n + m.toNat : Nat) : Int) ≤ IntKind.i64.max) ∧ growVC w t bytes sz z a n c m.toNat (repC z m.toNat) K
 | .cpy sz x y => kslice (ev f x) fun a n _ => lenN (ev f y) fun m => ∃ new, Src w (ev f y) (min m n) sz new ∧
  (match a with
   | some ⟨b, o, none⟩ => Writable w b o new.length ∧ oneCells new ∧ K (.int .i64 ((min m n : Nat) : Int)) (World.stores w b o new)
   | none => K (.int .i64 ((min m n : Nat) : Int)) w
   | _ => False)
 | .b2s x => kslice (ev f x) fun a n _ => ∃ bs : List UInt8, bs.length = (if a.isNone then 0 else n) ∧ Row w a (bs.map fun b => .int .u8 b.toNat) ∧ K (.string ⟨bs.toArray⟩) w
 | .s2b t x => kstr (ev f x) fun s => ∀ c, s.size ≤ c →
  K (.slice (some ⟨w.heap.size, 0, none⟩) s.size c)
   ((allocW (drewW w) t ((s.data.toList.map fun b => .int .u8 b.toNat) ++ List.replicate (c - s.size) (.int .u8 0))).freeze ⟨w.heap.size, c, none⟩ 1)
 | .call g xs => Calls P g (xs.map (ev f)).toArray w (Rt K)
 | .callv x xs => match ev f x with
  | .func (.func g) first cap => okFn P g = true ∧ Calls P g (first ++ (xs.map (ev f)).toArray ++ cap) w (Rt K)
  | _ => False
 | .mkmap => K (.map (some w.heap.size)) (w.alloc (.map #[] 0))
 | .raw o => ∃ v w', (execOp (ev f) ⟨none, o, 0, "", #[], none⟩).run P w = .ok (.value v) w' ∧ K v w' ∨ (execOp (ev f) ⟨none, o, 0, "", #[], none⟩).run P w = .ok .skip w' ∧ K undef w'
def grd (g : Option (Nat × Bool)) (f : Fr) (yes no : Prop) : Prop := match g with
 | none => yes
 | some (s, want) => match f s with
  | .bool b => if b = want then yes else no
  | _ => no
def spl (s : Nat) (f : Fr) (K : Fr → Prop) : Prop := match f s with
 | .bool b => (b = true → K (upd f s (.bool true))) ∧ (b = false → K (upd f s (.bool false)))
 | _ => K f
def vr (P : Program) : List MI → Fr → World → (Fr → World → Prop) → Prop
 | [], f, w, K => K f w
 | .split s :: r, f, w, K => spl s f fun f => vr P r f w K
 | .p g d o :: r, f, w, K => grd g f (pe o f fun v => vr P r (upd f d v) w K) (vr P r (upd f d undef) w K)
 | .l g d o :: r, f, w, K => grd g f (vl P o f w fun v w' => vr P r (putO f d v) w' K) (vr P r (putO f d undef) w K)
def Held (h : Option (List Nat)) (w w' : World) : Prop := match h with
 | none => w'.heap = w.heap
 | some bs => ∀ b ∈ bs, w'.heap[b]? = w.heap[b]?
def isHeld (h : Option (List Nat)) (b : Nat) : Prop := match h with
 | none => True
 | some bs => b ∈ bs
def vd (P : Program) (h : Option (List Nat)) (w0 : World) : List SI → Fr → World → (Fr → World → Prop) → Prop
 | [], f, w, K => K f w
 | .split s :: r, f, w, K => spl s f fun f => vd P h w0 r f w K
 | .qp _ g d o :: r, f, w, K => grd g f (pe o f fun v => vd P h w0 r (upd f d v) w K) (vd P h w0 r (upd f d undef) w K)
 | .lp _ g d o :: r, f, w, K => grd g f (pe o f fun v => vd P h w0 r (upd f d v) w K) (vd P h w0 r (upd f d undef) w K)
 | .ql _ g d s x :: r, f, w, K => grd g f (kptr (ev f x) (fun b _ => isHeld h b) ∧ vl P (.ld s x) f w0 fun v _ => vd P h w0 r (upd f d v) w K) (vd P h w0 r (upd f d undef) w K)
 | .l _ g d o :: r, f, w, K => grd g f (vl P o f w fun v w' => Held h w0 w' ∧ vd P h w0 r (putO f d v) w' K) (vd P h w0 r (putO f d undef) w K)
def vt (P : Program) (h : Option (List Nat)) (w0 : World) : ST → Fr → World → (Fr → World → Prop) → Prop
 | .line l, f, w, K => vd P h w0 l f w K
 | .fork l a b, f, w, K => vd P h w0 l f w fun f w => vt P h w0 a f w K ∧ vt P h w0 b f w K
def exitK (id : Nat) : List (Nat × (Fr → World → Prop)) → Fr → World → Prop
 | [], _, _ => False
 | (i, K) :: r, f, w => if i = id then K f w else exitK id r f w
structure Frm (D : List Deferred) (nt : Nat) (f : Fr) (a : Act) : Prop where
 size : a.tmps.size = nt
 get : ∀ i, a.tmps.getD i undef = f i
 defers : a.defers = D
def QQ (D : List Deferred) (nt : Nat) (n : Fr → World → Prop) (xs : List (Nat × (Fr → World → Prop))) (r : Fr → World → Prop) : Exit → Act → World → Prop := fun e a w =>
 ∃ f : Fr, Frm D nt f a ∧ match e with
  | .normal => n f w
  | .exit i => exitK i xs f w
  | .ret => r f w
  | _ => False
def VC (P : Program) (nt : Nat) : MC → (Fr → World → Prop) → List (Nat × (Fr → World → Prop)) → (Fr → World → Prop) → Fr → World → Prop
 | .skip, n, _, _, f, w => n f w
 | .seq a b, n, xs, r, f, w => VC P nt a (fun f w => VC P nt b n xs r f w) xs r f w
 | .reg ops, n, _, _, f, w => vr P ops f w n
 | .dreg ops, n, _, _, f, w => ∀ w0, w0.heap = w.heap → w0.tape = w.tape → w0.os = w.os → w0.output = w.output → ∃ h, vt P h w0 ops f w0 n
 | .rreg id ops draw, n, xs, r, f, w => ∀ D a, Frm D nt f a → (Code.region id ops draw).wp P (QQ D nt n xs r) a w
 | .cond x a b, n, xs, r, f, w => kbool (ev f x) fun t => (t = true → VC P nt a n xs r f w) ∧ (t = false → VC P nt b n xs r f w)
 | .block id c, n, xs, r, f, w => VC P nt c n ((id, n) :: xs) r f w
 | .exit id, _, xs, _, f, w => exitK id xs f w
 | .loop c, _, xs, r, f, w => ∃ (I : Nat → Fr → World → Prop) (k : Nat), I k f w ∧
  ∀ k f w, I k f w → VC P nt c (fun f' w' => ∃ k', k' < k ∧ I k' f' w') xs r f w
 | .ret, _, _, r, f, w => r f w
def resV (P : Program) : List ResultVar → Fr → World → (List Value → Prop) → Prop
 | [], _, _, K => K []
 | .tmp t :: r, f, w, K => resV P r f w fun vs => K (f t :: vs)
 | .cell a t :: r, f, w, K => match ldsz P t with
  | some s => vl P (.ld s (.tmp a)) f w fun v _ => resV P r f w fun vs => K (v :: vs)
  | none => False
def tup : List Value → Value
 | [v] => v
 | vs => .tuple vs.toArray
def fr0 (args : List Value) : Fr := fun i => args.getD i undef
end Go.Proofs.YtifnmbmijljhfaaGreat.E
