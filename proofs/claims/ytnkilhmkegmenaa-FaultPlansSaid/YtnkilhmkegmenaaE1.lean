/- The engine, part 1: a small intermediate code for the operations that this program's functions use, and a translation into it of the model's code. -/
import Derived.Test.YtnkilhmkegmenaaProg
import Derived.OrdersHeld
import Derived.Tactics
namespace Go.Proofs.Ytnkilhmkegmenaa.E
open Go

/-- A frame: what each temporary holds. -/
abbrev Fr := Nat → Value
def upd (f : Fr) (d : Nat) (v : Value) : Fr := fun i => if i = d then v else f i
def ev (f : Fr) : Operand → Value
  | .tmp t => f t
  | .const v => v
  | .global g => .pointer (some ⟨g, 0, none⟩)
  | .func g => .func (.func g) #[] #[]

/-- Operations that read no memory. -/
inductive PO where
  | mv (x : Operand)
  | pick (c a b : Operand)
  | bin (op : BinOp) (k : IntKind) (x y : Operand)
  | shf (op : BinOp) (x y : Operand)
  | div (op : BinOp) (k : IntKind) (x y : Operand)
  | beq (neg : Bool) (x y : Operand)
  | sbin (op : BinOp) (x y : Operand)
  | isnil (neg : Bool) (kd : Nat) (x : Operand)
  | aeq (neg : Bool) (ks : List Nat) (x y : Operand)
  | not (x : Operand)
  | neg (k : IntKind) (x : Operand)
  | conv (k : IntKind) (x : Operand)
  | convId (x : Operand)
  | fa (off : Nat) (x : Operand)
  | fld (off : Nat) (sz : Option Nat) (x : Operand)
  | ext (i : Nat) (x : Operand)
  | mkf (fn : Fn) (first cap : List Operand)
  | len (x : Operand)
  | lens (x : Operand)
  | lenc (n : Nat)
  | mm (mx : Bool) (k : IntKind) (x : Operand) (xs : List Operand)
  | bld (zero : List Value) (parts : List (Nat × Nat × Operand))
  | nilchk (x : Operand)
  | idx (sz : Nat) (x i : Operand)
  | idxa (n sz : Nat) (x i : Operand)
  | idxs (x i : Operand)
  | idxv (n sz : Nat) (agg : Bool) (x i : Operand)
  | slc (sz : Nat) (x : Operand) (lo hi mx : Option Operand)
  | slca (n sz : Nat) (x : Operand) (lo hi : Option Operand)
  | slcs (x : Operand) (lo hi : Option Operand)

/-- Operations that read or change memory, or call. -/
inductive LO where
  | ld (sz : Option Nat) (x : Operand)
  | st (sz : Nat) (a x : Operand)
  | al (t : TypeId) (cells : List Value)
  | bx (t : TypeId) (x : Operand)
  | bs (t : TypeId) (len size : Nat) (cells : List Value) (parts : List (Nat × Nat × Operand))
  | mks (t : TypeId) (bytes size : Nat) (zero : List Value) (l c : Operand)
  | app (t : TypeId) (bytes size : Nat) (zero : List Value) (x y : Operand)
  | appz (t : TypeId) (bytes size : Nat) (zero : List Value) (x y : Operand)
  | cpy (size : Nat) (x y : Operand)
  | b2s (x : Operand)
  | s2b (t : TypeId) (x : Operand)
  | call (g : FuncId) (xs : List Operand)
  | callv (f : Operand) (xs : List Operand)
  | mkmap
  | raw (o : Op)

/-- One operation of a region: its guard (the slot that it asks, and the answer under which it is carried out), its slot. -/
inductive MI where
  | split (s : Nat)
  | p (g : Option (Nat × Bool)) (d : Nat) (o : PO)
  | l (g : Option (Nat × Bool)) (d : Option Nat) (o : LO)
/-- A step of a region that draws its order: q: taken first, whatever order is drawn; l: the only one that can come. -/
inductive SI where
  | split (s : Nat)
  | qp (i : Nat) (g : Option (Nat × Bool)) (d : Nat) (o : PO)
  | ql (i : Nat) (g : Option (Nat × Bool)) (d : Nat) (sz : Option Nat) (x : Operand)
  | l (i : Nat) (g : Option (Nat × Bool)) (d : Option Nat) (o : LO)
  | lp (i : Nat) (g : Option (Nat × Bool)) (d : Nat) (o : PO)

/-- The orders in which a region's operations can come: a line; or a line and then either of two. -/
inductive ST where
  | line (l : List SI)
  | fork (l : List SI) (a b : ST)
def ST.cons (xs : List SI) : ST → ST
  | .line l => .line (xs ++ l)
  | .fork l a b => .fork (xs ++ l) a b
def forkD : List (Option ST) → Option ST
  | [] => none
  | [x] => x
  | x :: y :: xs => match x, forkD (y :: xs) with
    | some a, some b => some (.fork [] a b)
    | _, _ => none

/-- The cells of a type's zero value, where they are many. -/
def zcOf (t : TypeInfo) : List Value := match t.zero with
  | some z => z.cells.toList
  | none => []
inductive MC where
  | skip
  | seq (a b : MC)
  | reg (ops : List MI)
  | dreg (ops : ST)
  | rreg (id : Nat) (ops : Array Oper) (draw : Bool)
  | cond (x : Operand) (a b : MC)
  | block (id : Nat) (c : MC)
  | exit (id : Nat)
  | loop (c : MC)
  | ret

section compile
variable (P : Program)

def sz? (t : TypeId) : Option Nat := (P.info? t).map (·.size)
def agg? (t : TypeId) : Option Bool := match P.underlying t with
  | some (.struct _) | some (.array _ _) => some true
  | some _ => some false
  | none => none
/-- none: not known; some none: a single cell; some (some n): n cells as one value. -/
def ldsz (t : TypeId) : Option (Option Nat) :=
  match agg? P t, sz? P t with
  | some true, some n => some (some n)
  | some false, some _ => some none
  | _, _ => none
def zero? (t : TypeId) : Option Value := (P.info? t).bind (·.zero)
def kind? (t : TypeId) : Option IntKind := match P.underlying t with | some (.int k) => some k | _ => none

/-- The kinds of a struct's fields, if they may be compared cell by cell: 0 bool, 1 a whole number, 2 a text. -/
def flatK (t : TypeId) : Option Nat := match P.underlying t with
  | some .bool => if sz? P t == some 1 then some 0 else none
  | some (.int _) => if sz? P t == some 1 then some 1 else none
  | some .string => if sz? P t == some 1 then some 2 else none
  | _ => none
def fieldsFrom (k : Nat) : List Field → Option (List Nat)
  | [] => some []
  | f :: fs => match flatK P f.type, fieldsFrom (k + 1) fs with
    | some a, some l => if f.offset == k && f.name != "_" then some (a :: l) else none
    | _, _ => none

def isCmp : BinOp → Bool
  | .eql | .neq | .lss | .leq | .gtr | .geq => true
  | _ => false
def compBin (op : BinOp) (t : TypeId) (x y : Operand) : Option PO :=
  match P.underlying t with
  | some (.int k) =>
    match op with
    | .shl | .shr => some (.shf op x y)
    | .quo | .rem => some (.div op k x y)
    | .add | .sub | .mul | .and | .or | .xor | .andNot | .eql | .neq | .lss | .leq | .gtr | .geq => some (.bin op k x y)
  | some .bool => match op with | .eql => some (.beq false x y) | .neq => some (.beq true x y) | _ => none
  | some .string => match op with | .add | .eql | .neq | .lss | .leq | .gtr | .geq => some (.sbin op x y) | _ => none
  | some (.pointer _) => match y, op with
    | .const (.pointer none), .eql => some (.isnil false 0 x)
    | .const (.pointer none), .neq => some (.isnil true 0 x)
    | _, _ => none
  | some (.slice _) => match y, op with
    | .const (.slice none _ _), .eql => some (.isnil false 1 x)
    | .const (.slice none _ _), .neq => some (.isnil true 1 x)
    | _, _ => none
  | some (.func _ _ _) => match y, op with
    | .const .nilFunc, .eql => some (.isnil false 2 x)
    | .const .nilFunc, .neq => some (.isnil true 2 x)
    | _, _ => none
  | some (.struct fs) => match fieldsFrom P 0 fs.toList with
    | some ks => if !P.stoodInHeld t && !P.eqGuardType P.depth t then
        match op with | .eql => some (.aeq false ks x y) | .neq => some (.aeq true ks x y) | _ => none
      else none
    | none => none
  | _ => none

def compParts (place : Nat → Option (Nat × Nat)) : List (Nat × Operand) → Option (List (Nat × Nat × Operand))
  | [] => some []
  | (i, x) :: r => match place i, compParts place r with
    | some (o, s), some l => some ((o, s, x) :: l)
    | _, _ => none

def builtinOp (b : Builtin) (args : List Operand) (ts : List TypeId) : Option (PO ⊕ LO) :=
  match b, args, ts with
  | .len, [x], [t] => match P.underlying t with
    | some .string => some (.inl (.lens x))
    | some (.slice _) => some (.inl (.len x))
    | some (.array n _) => some (.inl (.lenc n))
    | _ => none
  | .append, [x, y], [t, u] => match P.underlying t with
    | some (.slice e) => match P.info? e, zero? P e, P.underlying u with
      | some i, some z, some d => match d with
        | .int _ => if i.size = z.cells.size then some (.inr (.appz e i.bytes i.size z.cells.toList x y)) else none
        | .slice _ | .string => some (.inr (.app e i.bytes i.size z.cells.toList x y))
        | _ => none
      | _, _, _ => none
    | _ => none
  | .copy, [x, y], [t, _] => match P.underlying t with
    | some (.slice e) => (sz? P e).map fun s => .inr (.cpy s x y)
    | _ => none
  | .min, x :: xs, t :: _ => (kind? P t).map fun k => .inl (.mm false k x xs)
  | .max, x :: xs, t :: _ => (kind? P t).map fun k => .inl (.mm true k x xs)
  | _, _, _ => none

/-- A cut with a greatest capacity has a high bound. -/
def slcOk (hi mx : Option Operand) : Bool := hi.isSome || mx.isNone
def comp (o : Oper) : Option (PO ⊕ LO) :=
  match o.op with
  | .move x | .assign x => some (.inl (.mv x))
  | .pick c a b => some (.inl (.pick c a b))
  | .binOp op t x y _ => (compBin P op t x y).map .inl
  | .unOp .not _ x => some (.inl (.not x))
  | .unOp .neg t x => (kind? P t).map fun k => .inl (.neg k x)
  | .unOp .xor t x => (kind? P t).map fun k => .inl (.bin .xor k (.const (.int k (if k.signed then -1 else k.max))) x)
  | .convert s d x => match P.underlying s, P.underlying d with
    | some (.int _), some (.int k) => some (.inl (.conv k x))
    | some .string, some .string => some (.inl (.convId x))
    | some (.slice e), some .string => match P.underlying e with
      | some (.int .u8) => some (.inr (.b2s x))
      | _ => none
    | some .string, some (.slice e) => match P.underlying e with
      | some (.int .u8) => some (.inr (.s2b e x))
      | _ => none
    | some (.slice _), some (.slice _) => some (.inr (.raw o.op))
    | _, _ => none
  | .fieldAddr s x f => match P.underlying s with
    | some (.struct fs) => match fs[f]? with
      | some fl => match sz? P fl.type with
        | some n => if n = 0 then none else some (.inl (.fa fl.offset x))
        | none => none
      | none => none
    | _ => none
  | .field t x f => match P.underlying t with
    | some (.struct fs) => match fs[f]? with
      | some fl => (ldsz P fl.type).map fun s => .inl (.fld fl.offset s x)
      | none => none
    | _ => none
  | .extract x i => some (.inl (.ext i x))
  | .makeFunc fn first cap => some (.inl (.mkf fn first.toList cap.toList))
  | .nilCheck x => some (.inl (.nilchk x))
  | .build t parts => match P.underlying t, zero? P t with
    | some (.struct fs), some z => match (fs.toList.mapM fun f => (sz? P f.type).map fun s => (f.offset, s)) with
      | some pl => (compParts (fun i => pl[i]?) parts.toList).map fun l => .inl (.bld z.cells.toList l)
      | none => none
    | some (.array _ e), some z => match sz? P e with
      | some s => (compParts (fun i => some (i * s, s)) parts.toList).map fun l => .inl (.bld z.cells.toList l)
      | none => none
    | _, _ => none
  | .indexAddr t x i => match P.underlying t with
    | some (.slice e) => (sz? P e).map fun s => .inl (.idx s x i)
    | some (.array n e) => (sz? P e).map fun s => .inl (.idxa n s x i)
    | _ => none
  | .index t x i => match P.underlying t with
    | some .string => some (.inl (.idxs x i))
    | some (.array n e) => match agg? P e, sz? P e with
      | some b, some s => some (.inl (.idxv n s b x i))
      | _, _ => none
    | _ => none
  | .slice t x lo hi mx => match P.underlying t with
    | some (.slice e) => if slcOk hi mx then (sz? P e).map fun s => .inl (.slc s x lo hi mx) else none
    | some .string => if mx.isNone then some (.inl (.slcs x lo hi)) else none
    | some (.array n e) => if mx.isNone then (sz? P e).map fun s => .inl (.slca n s x lo hi) else none
    | _ => none
  | .load t x => (ldsz P t).map fun s => .inr (.ld s x)
  | .store t a x => (sz? P t).map fun s => .inr (.st s a x)
  | .alloc t => (zero? P t).map fun z => .inr (.al t z.cells.toList)
  | .box t x => some (.inr (.bx t x))
  | .buildSlice t n parts => match P.underlying t with
    | some (.slice e) => match sz? P e, zero? P e with
      | some s, some z => match compParts (fun i => some (i * s, s)) parts.toList with
        | some l => if n * s > 2 ^ 24 then none else
            let zc := if n * s = 0 then #[] else z.cells
            some (.inr (.bs e n s ((Array.range (n * s)).map (zc[· % zc.size]!)).toList l))
        | none => none
      | _, _ => none
    | _ => none
  | .makeSlice t l c => match P.underlying t with
    | some (.slice e) => match P.info? e, zero? P e with
      | some i, some z => if i.size = z.cells.size then some (.inr (.mks e i.bytes i.size z.cells.toList l c)) else none
      | _, _ => none
    | _ => none
  | .makeMap _ none => some (.inr .mkmap)
  | .lookup .. | .mapUpdate .. | .mapEntry .. | .entryStore .. => some (.inr (.raw o.op))
  | .call c => match c.callee with
    | .builtin b => builtinOp P b c.args.toList c.argTypes.toList
    | .value (.func g) => match P.funcs[g]? with
      | some fn => if fn.name == "runtime.NumGoroutine" || fn.body.isNone then none else some (.inr (.call g c.args.toList))
      | none => none
    | .value f => some (.inr (.callv f c.args.toList))
    | _ => none
  | _ => none

/-- The slot that an operation's guard asks. -/
def gslot (ops : Array Oper) (n : Nat) : Option (Nat × Bool) → Option (Option (Nat × Bool))
  | none => some none
  | some (j, want) => match (ops[j]?).bind (·.dst) with
    | some s => if s < n then some (some (s, want)) else none
    | none => none

def splits (done : List Nat) (g : Option (Nat × Bool)) (o : PO ⊕ LO) : List Nat :=
  (match g with | some (s, _) => if done.contains s then [] else [s] | none => []) ++
  (match o with
   | .inl (.pick (.tmp s) _ _) => if done.contains s || (match g with | some (s', _) => s' == s | none => false) then [] else [s]
   | _ => [])

def okd (n : Nat) : Option Nat → Bool
  | some d => decide (d < n)
  | none => true

def compI (n : Nat) (ops : Array Oper) (o : Oper) : Option (Option (Nat × Bool) × (PO ⊕ LO)) :=
  match gslot ops n o.guard, comp P o with
  | some g, some r => if okd n o.dst then some (g, r) else none
  | _, _ => none

def compReg (n : Nat) (ops : Array Oper) : List Nat → List Oper → Option (List MI)
  | _, [] => some []
  | done, o :: rest => match compI P n ops o with
    | some (g, r) =>
      let s := splits done g r
      match compReg n ops (s ++ done) rest with
      | some l => match r, o.dst with
        | .inl p, some d => some (s.map .split ++ .p g d p :: l)
        | .inr q, d => some (s.map .split ++ .l g d q :: l)
        | .inl _, none => none
      | none => none
    | none => none

def isLd : PO ⊕ LO → Bool
  | .inr (.ld _ _) => true
  | _ => false
def isPure : PO ⊕ LO → Bool
  | .inl _ => true
  | _ => false

/-- Is it a load of an element of a slice or an array? -/
def fromIdx (ops : Array Oper) : PO ⊕ LO → Bool
  | .inr (.ld _ (.tmp t)) => ops.any fun o => o.dst == some t && (match o.op with | .indexAddr .. => true | _ => false)
  | _ => false
/-- Is it a load of what the same region writes? -/
def clash (ops : Array Oper) : PO ⊕ LO → Bool
  | .inr (.ld z (.tmp t)) => (ops.any fun o => match o.op with | .store _ (.tmp s) _ => s == t | _ => false) || (isIdx t && 2 ≤ (ops.toList.filter fun o => match o.op with | .store _ (.tmp s) _ => isIdx s | _ => false).length && z.isSome) ||
      (z.isNone && (match fldOf t with
        | some g => ops.any fun o => match o.op with | .store _ (.tmp s) _ => fldOf s == some g | _ => false
        | none => false))
  | _ => false
where
  isIdx (t : Nat) : Bool := ops.any fun o => o.dst == some t && (match o.op with | .indexAddr .. => true | _ => false)
  /-- the field of an element that an address names -/
  fldOf (t : Nat) : Option Nat := (ops.find? fun o => o.dst == some t).bind fun o => match o.op with
    | .fieldAddr _ (.tmp a) g => if isIdx a then some g else none
    | _ => none
/-- One step of a schedule: which operation, and whether it is taken first. -/
def pickOp (ops : Array Oper) (listed : Array Bool) : Option (Nat × Bool) :=
  let rs := Region.ready .any ops listed
  let good := fun (rs : List Nat) (f : PO ⊕ LO → Bool) => rs.find? fun i => Region.free .any ops listed i && (match ops[i]? with
    | some o => (o.dst.isSome) && (match comp P o with | some r => f r | none => false)
    | none => false)
  match good rs isPure with
  | some i => some (i, true)
  | none => match rs with
    | [i] => some (i, false)
    | _ => match good rs.reverse (fun r => isLd r && !fromIdx ops r && !clash ops r) with
      | some i => some (i, true)
      | none => match good rs.reverse (fun r => isLd r && !clash ops r) with
        | some i => some (i, true)
        | none => none

def stepD (n : Nat) (ops : Array Oper) (done : List Nat) (i : Nat) (q : Bool) (k : List Nat → Option ST) : Option ST :=
  match ops[i]? with
  | none => none
  | some o => match compI P n ops o with
    | none => none
    | some (g, r) =>
      match k (splits done g r) with
      | none => none
      | some t => match q, r, o.dst with
        | true, .inl p, some d => some (t.cons ((splits done g r).map .split ++ [.qp i g d p]))
        | true, .inr (.ld z x), some d => some (t.cons ((splits done g r).map .split ++ [.ql i g d z x]))
        | false, .inl p, some d => some (t.cons ((splits done g r).map .split ++ [.lp i g d p]))
        | false, .inr p, d => some (t.cons ((splits done g r).map .split ++ [.l i g d p]))
        | _, _, _ => none

def compD (n : Nat) (ops : Array Oper) : Nat → List Nat → Array Bool → Option ST
  | 0, _, listed => if (Region.ready .any ops listed).isEmpty then some (.line []) else none
  | fuel + 1, done, listed =>
    match pickOp P ops listed with
    | none => if (Region.ready .any ops listed).isEmpty then some (.line []) else
        forkD ((Region.ready .any ops listed).map fun i => stepD P n ops done i false fun s => compD n ops fuel (s ++ done) (listed.setIfInBounds i true))
    | some (i, q) => stepD P n ops done i q fun s => compD n ops fuel (s ++ done) (listed.setIfInBounds i true)

def compile (n : Nat) : Code → Option MC
  | .skip => some .skip
  | .label _ => some .skip
  | .region id ops false => match compReg P n ops [] ops.toList with
    | some l => some (.reg l)
    | none => some (.rreg id ops false)
  | .region id ops true => match (if Region.noSelect ops then compD P n ops ops.size [] (Array.replicate ops.size false) else none) with
    | some l => some (.dreg l)
    | none => some (.rreg id ops true)
  | .seq a b => match compile n a, compile n b with
    | some x, some y => some (.seq x y)
    | _, _ => none
  | .cond c a b => match compile n a, compile n b with
    | some x, some y => some (.cond c x y)
    | _, _ => none
  | .block id c => (compile n c).map (.block id)
  | .exit id => some (.exit id)
  | .loop c => (compile n c).map .loop
  | .scope c => compile n c
  | .ret => some .ret
  | _ => none
end compile
/-- The operations of the region of that number. -/
def regOf (id : Nat) : Code → Option (Array Oper)
  | .region i ops _ => if i = id then some ops else none
  | .seq a b => match regOf id a with
    | some x => some x
    | none => regOf id b
  | .cond _ a b => match regOf id a with
    | some x => some x
    | none => regOf id b
  | .block _ c => regOf id c
  | .loop c => regOf id c
  | .scope c => regOf id c
  | _ => none

/-! ### The print of it, for whoever proves -/
end Go.Proofs.Ytnkilhmkegmenaa.E
