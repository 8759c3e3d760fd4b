/- The engine, part 2: what is to be shown of the intermediate code ('VC'), as a proposition that unfolds step by step. -/
import Derived.Test.YtnkilhmkegmenaaE1
namespace Go.Proofs.Ytnkilhmkegmenaa.E
open Go

theorem upd_apply (f : Fr) (d : Nat) (v : Value) (i : Nat) : upd f d v i = if i = d then v else f i := rfl

def kint (k : IntKind) (x : Value) (K : Int → Prop) : Prop := match x with
  | .int k' n => k' = k ∧ K n
  | _ => False
def anyint (x : Value) (K : IntKind → Int → Prop) : Prop := match x with
  | .int k n => K k n
  | _ => False
def kbool (x : Value) (K : Bool → Prop) : Prop := match x with
  | .bool b => K b
  | _ => False
def kstr (x : Value) (K : ByteArray → Prop) : Prop := match x with
  | .string s => K s
  | _ => False
def kptr (x : Value) (K : Nat → Nat → Prop) : Prop := match x with
  | .pointer (some ⟨b, o, none⟩) => K b o
  | _ => False
def kslice (x : Value) (K : Option Addr → Nat → Nat → Prop) : Prop := match x with
  | .slice a n c => K a n c
  | _ => False
def kagg (x : Value) (K : Array Value → Prop) : Prop := match x with
  | .agg cs => K cs
  | _ => False
def ktuple (x : Value) (K : Array Value → Prop) : Prop := match x with
  | .tuple cs => K cs
  | _ => False

def binI (op : BinOp) (k : IntKind) (a b : Int) : Value := match op with
  | .add => .int k (k.wrap (a + b))
  | .sub => .int k (k.wrap (a - b))
  | .mul => .int k (k.wrap (a * b))
  | .and => .int k (k.wrap (BitVec.ofInt k.bits a &&& BitVec.ofInt k.bits b).toNat)
  | .or => .int k (k.wrap (BitVec.ofInt k.bits a ||| BitVec.ofInt k.bits b).toNat)
  | .xor => .int k (k.wrap (BitVec.ofInt k.bits a ^^^ BitVec.ofInt k.bits b).toNat)
  | .andNot => .int k (k.wrap (BitVec.ofInt k.bits a &&& ~~~ BitVec.ofInt k.bits b).toNat)
  | .eql => .bool (decide (a = b))
  | .neq => .bool (!decide (a = b))
  | .lss => .bool (decide (a < b))
  | .leq => .bool (decide (a ≤ b))
  | .gtr => .bool (decide (b < a))
  | .geq => .bool (decide (b ≤ a))
  | _ => undef
def binS (op : BinOp) (a b : ByteArray) (K : Value → Prop) : Prop := match op with
  | .add => a.size + b.size ≤ 9223372036854775807 ∧ K (.string (a ++ b))
  | .eql => K (.bool (decide (a.toList = b.toList)))
  | .neq => K (.bool (!decide (a.toList = b.toList)))
  | .lss => K (.bool (Op.bytesLess a.toList b.toList))
  | .leq => K (.bool (Op.bytesLess a.toList b.toList || decide (a.toList = b.toList)))
  | .gtr => K (.bool (!(Op.bytesLess a.toList b.toList || decide (a.toList = b.toList))))
  | .geq => K (.bool (!Op.bytesLess a.toList b.toList))
  | _ => False
def isNilV : Nat → Value → Option Bool
  | 0, .pointer none => some true
  | 0, .pointer (some _) => some false
  | 1, .slice none _ _ => some true
  | 1, .slice (some _) _ _ => some false
  | 2, .nilFunc => some true
  | 2, .func _ _ _ => some false
  | _, _ => none
/-- Two cells of a kind, if they may be compared. -/
def eqC : Nat → Value → Value → Option Bool
  | 0, .bool a, .bool b => some (decide (a = b))
  | 1, .int k a, .int k' b => if k = k' then some (decide (a = b)) else none
  | 2, .string a, .string b => some (decide (a.toList = b.toList))
  | _, _, _ => none
def eqCs : List Nat → List Value → List Value → Option Bool
  | [], _, _ => some true
  | k :: ks, a :: xs, b :: ys => match eqC k a b, eqCs ks xs ys with
    | some x, some y => some (x && y)
    | _, _ => none
  | _, _, _ => none
def fillC : List Value → List (Nat × Nat × Value) → Option (List Value)
  | cs, [] => some cs
  | cs, (o, s, v) :: r => if v.cells.size = s ∧ o + s ≤ cs.length then fillC (cs.take o ++ v.cells.toList ++ cs.drop (o + s)) r else none
def mmI (mx : Bool) (k : IntKind) : Int → List Value → (Value → Prop) → Prop
  | m, [], K => K (.int k m)
  | m, v :: vs, K => kint k v fun n => mmI mx k (if mx then (if m < n then n else m) else (if n < m then n else m)) vs K

def addrAt (a : Option Addr) (K : Nat → Nat → Prop) : Prop := match a with
  | some ⟨b, o, none⟩ => K b o
  | _ => False
def bnd (x : Option Value) (dflt : Nat) (y : Nat) (K : Nat → Prop) : Prop := match x with
  | none => K dflt
  | some v => anyint v fun _ i => (0 ≤ i ∧ i ≤ (y : Int)) ∧ K i.toNat
/-- A slice's address behind a cut: unchanged where nothing can be left. -/
def cutAt (sz : Nat) (a : Option Addr) (l m : Nat) : Option Addr := match a with
  | some ⟨b, o, none⟩ => if m = l then some ⟨b, o, none⟩ else some ⟨b, o + l * sz, none⟩
  | x => if m = l then x else x.map (·.add (l * sz))

def pe (o : PO) (f : Fr) (K : Value → Prop) : Prop := match o with
  | .mv x => K (ev f x)
  | .pick c a b => kbool (ev f c) fun t => K (if t then ev f a else ev f b)
  | .bin op k x y => kint k (ev f x) fun a => kint k (ev f y) fun b => K (binI op k a b)
  | .shf op x y => anyint (ev f x) fun k a => anyint (ev f y) fun _ b => 0 ≤ b ∧ (match op with
      | .shl => K (.int k (k.wrap (a * 2 ^ min b.toNat k.bits)))
      | .shr => K (.int k (a.fdiv (2 ^ min b.toNat k.bits)))
      | _ => False)
  | .div op k x y => kint k (ev f x) fun a => kint k (ev f y) fun b => b ≠ 0 ∧ (match op with
      | .quo => K (.int k (k.wrap (a.tdiv b)))
      | .rem => K (.int k (a.tmod b))
      | _ => False)
  | .beq n x y => kbool (ev f x) fun a => kbool (ev f y) fun b => K (.bool (if n then !decide (a = b) else decide (a = b)))
  | .sbin op x y => kstr (ev f x) fun a => kstr (ev f y) fun b => binS op a b K
  | .isnil n kd x => match isNilV kd (ev f x) with
      | some b => K (.bool (if n then !b else b))
      | none => False
  | .aeq n ks x y => kagg (ev f x) fun a => kagg (ev f y) fun b => match eqCs ks a.toList b.toList with
      | some t => K (.bool (if n then !t else t))
      | none => False
  | .not x => kbool (ev f x) fun a => K (.bool (!a))
  | .neg k x => kint k (ev f x) fun a => K (.int k (k.wrap (0 - a)))
  | .conv k x => anyint (ev f x) fun _ a => K (.int k (k.wrap a))
  | .convId x => kstr (ev f x) fun a => K (.string a)
  | .fa off x => kptr (ev f x) fun b o => K (.pointer (some ⟨b, o + off, none⟩))
  | .fld off s x => kagg (ev f x) fun cs => match s with
      | some n => K (.agg (cs.extract off (off + n)))
      | none => match cs[off]? with
        | some v => K v
        | none => False
  | .ext i x => ktuple (ev f x) fun cs => match cs[i]? with
      | some v => K v
      | none => False
  | .mkf fn a c => K (.func fn (a.map (ev f)).toArray (c.map (ev f)).toArray)
  | .len x => kslice (ev f x) fun _ n _ => K (.int .i64 n)
  | .lens x => kstr (ev f x) fun s => K (.int .i64 s.size)
  | .lenc n => K (.int .i64 n)
  | .mm mx k x xs => kint k (ev f x) fun a => mmI mx k a (xs.map (ev f)) K
  | .bld z ps => match fillC z (ps.map fun (o, s, x) => (o, s, ev f x)) with
      | some cs => K (.agg cs.toArray)
      | none => False
  | .nilchk x => kptr (ev f x) fun b o => K (.pointer (some ⟨b, o, none⟩))
  | .idx s x i => kslice (ev f x) fun a n _ => anyint (ev f i) fun _ j => (0 ≤ j ∧ j < (n : Int)) ∧ addrAt a fun b o => K (.pointer (some ⟨b, o + j.toNat * s, none⟩))
  | .idxa n s x i => kptr (ev f x) fun b o => anyint (ev f i) fun _ j => (0 ≤ j ∧ j < (n : Int)) ∧ K (.pointer (some ⟨b, o + j.toNat * s, none⟩))
  | .idxs x i => kstr (ev f x) fun s => anyint (ev f i) fun _ j => ∃ h : 0 ≤ j ∧ j.toNat < s.size, K (.int .u8 (s[j.toNat]'h.2).toNat)
  | .idxv n s g x i => kagg (ev f x) fun cs => anyint (ev f i) fun _ j => (0 ≤ j ∧ j < (n : Int)) ∧ (match g with
      | true => K (.agg (cs.extract (j.toNat * s) (j.toNat * s + s)))
      | false => match cs[j.toNat * s]? with
        | some v => K v
        | none => False)
  | .slc s x lo hi mx => kslice (ev f x) fun a n c => bnd (mx.map (ev f)) c c fun m => bnd (hi.map (ev f)) n m fun h => bnd (lo.map (ev f)) 0 h fun l =>
      K (.slice (cutAt s a l m) (h - l) (m - l))
  | .slca n s x lo hi => kptr (ev f x) fun b o => bnd (hi.map (ev f)) n n fun h => bnd (lo.map (ev f)) 0 h fun l =>
      K (.slice (cutAt s (some ⟨b, o, none⟩) l n) (h - l) (n - l))
  | .slcs x lo hi => kstr (ev f x) fun t => bnd (hi.map (ev f)) t.size t.size fun h => bnd (lo.map (ev f)) 0 h fun l => K (.string (t.extract l h))

def World.stores (w : World) (b o : Nat) : List Value → World
  | [] => w
  | v :: vs => World.stores (w.setCell ⟨b, o, none⟩ v) b (o + 1) vs

/-- What is asked of a call's end. -/
def Rt (K : Value → World → Prop) : Ending → World → Prop := fun e w' => ∃ v, e = .returned v ∧ K v w'

def okFn (P : Program) (g : FuncId) : Bool := match P.funcs[g]? with
  | some fn => !(fn.name == "runtime.NumGoroutine") && fn.body.isSome
  | none => false

def putO (f : Fr) (d : Option Nat) (v : Value) : Fr := match d with
  | some d => upd f d v
  | none => f

/-- A row of cells that can be read. -/
def Row (w : World) (a : Option Addr) (cs : List Value) : Prop := match a with
  | some ⟨b, o, none⟩ => ∀ i, i < cs.length → w.cell? ⟨b, o + i, none⟩ = cs[i]?
  | _ => cs = []
/-- Cells that can be written. -/
def Writable (w : World) (b o n : Nat) : Prop := ∀ i, i < n → (∃ v, w.cell? ⟨b, o + i, none⟩ = some v) ∧ w.frozen? ⟨b, o + i, none⟩ = false
def oneCells (cs : List Value) : Prop := ∀ c ∈ cs, c.oneCell' = true
/-- The source of an append or a copy: its first n elements' cells. -/
def Src (w : World) (x : Value) (n sz : Nat) (cs : List Value) : Prop := match x with
  | .slice a _ _ => cs.length = (if a.isNone then 0 else n * sz) ∧ Row w a cs
  | .string s => cs = (s.extract 0 n).data.toList.map fun b => .int .u8 b.toNat
  | _ => False
def lenN (x : Value) (K : Nat → Prop) : Prop := match x with
  | .string s => K s.size
  | .slice _ n _ => K n
  | _ => False
def repC (zero : List Value) : Nat → List Value
  | 0 => []
  | n + 1 => zero ++ repC zero n
def drewW (w : World) : World := w.drew
def allocW (w : World) (t : TypeId) (cs : List Value) : World := w.alloc (.cells cs.toArray t)

def growVC (w : World) (t : TypeId) (bytes sz : Nat) (zero : List Value) (a : Option Addr) (n c m : Nat) (new : List Value) (K : Value → World → Prop) : Prop :=
  (n + m ≤ c →
    match a with
    | some ⟨b, o, none⟩ => Writable w b (o + n * sz) new.length ∧ oneCells new ∧ K (.slice a (n + m) c) (World.stores w b (o + n * sz) new)
    | none => K (.slice none (n + m) c) w
    | _ => False) ∧
  (c < n + m →
    Builtin.nextslicecap (n + m) c * bytes ≤ 2 ^ 48 ∧ (bytes = 0 → ((n + m : Nat) : Int) ≤ IntKind.i64.max) ∧ ∃ old, Src w (.slice a n c) n sz old ∧
      ∀ c', n + m ≤ c' → K (.slice (some ⟨w.heap.size, 0, none⟩) (n + m) c') (allocW (drewW w) t (old ++ new ++ repC zero (c' - (n + m)))))

def vl (P : Program) (o : LO) (f : Fr) (w : World) (K : Value → World → Prop) : Prop := match o with
  | .ld none x => kptr (ev f x) fun b o => ∃ v, w.cell? ⟨b, o, none⟩ = some v ∧ K v w
  | .ld (some n) x => kptr (ev f x) fun b o => ∃ cs : List Value, cs.length = n ∧ Row w (some ⟨b, o, none⟩) cs ∧ K (.agg cs.toArray) w
  | .st n a x => kptr (ev f a) fun b o => (ev f x).cells.size = n ∧ oneCells (ev f x).cells.toList ∧ Writable w b o n ∧ K undef (World.stores w b o (ev f x).cells.toList)
  | .al t cs => K (.pointer (some ⟨w.heap.size, 0, none⟩)) (allocW w t cs)
  | .bx t x => K (.pointer (some ⟨w.heap.size, 0, none⟩)) (allocW w t (ev f x).cells.toList)
  | .bs t n _ z ps => match fillC z (ps.map fun (o, s, x) => (o, s, ev f x)) with
      | some cs => K (.slice (some ⟨w.heap.size, 0, none⟩) n n) (allocW w t cs)
      | none => False
  | .mks t bytes _ z l c => anyint (ev f l) fun _ l => anyint (ev f c) fun _ c => (0 ≤ l ∧ l ≤ c ∧ c < 9223372036854775808 ∧ bytes * c ≤ 2 ^ 48) ∧
      K (.slice (some ⟨w.heap.size, 0, none⟩) l.toNat c.toNat) (allocW w t (repC z c.toNat))
  | .app t bytes sz z x y => kslice (ev f x) fun a n c => lenN (ev f y) fun m => ∃ new, Src w (ev f y) m sz new ∧ growVC w t bytes sz z a n c m new K
  | .appz t bytes sz z x y => kslice (ev f x) fun a n c => anyint (ev f y) fun _ m => (0 ≤ m ∧ m < 9223372036854775808 ∧ bytes * m ≤ 2 ^ 48) ∧
      (((n + m.toNat : Nat) : Int) ≤ IntKind.i64.max) ∧ growVC w t bytes sz z a n c m.toNat (repC z m.toNat) K
  | .cpy sz x y => kslice (ev f x) fun a n _ => lenN (ev f y) fun m => ∃ new, Src w (ev f y) (min m n) sz new ∧
      (match a with
       | some ⟨b, o, none⟩ => Writable w b o new.length ∧ oneCells new ∧ K (.int .i64 ((min m n : Nat) : Int)) (World.stores w b o new)
       | none => K (.int .i64 ((min m n : Nat) : Int)) w
       | _ => False)
  | .b2s x => kslice (ev f x) fun a n _ => ∃ bs : List UInt8, bs.length = (if a.isNone then 0 else n) ∧ Row w a (bs.map fun b => .int .u8 b.toNat) ∧ K (.string ⟨bs.toArray⟩) w
  | .s2b t x => kstr (ev f x) fun s => ∀ c, s.size ≤ c →
      K (.slice (some ⟨w.heap.size, 0, none⟩) s.size c)
        ((allocW (drewW w) t ((s.data.toList.map fun b => .int .u8 b.toNat) ++ List.replicate (c - s.size) (.int .u8 0))).freeze ⟨w.heap.size, c, none⟩ 1)
  | .call g xs => Calls P g (xs.map (ev f)).toArray w (Rt K)
  | .callv x xs => match ev f x with
      | .func (.func g) first cap => okFn P g = true ∧ Calls P g (first ++ (xs.map (ev f)).toArray ++ cap) w (Rt K)
      | _ => False
  | .mkmap => K (.map (some w.heap.size)) (w.alloc (.map #[] 0))
  | .raw o => ∃ v w', (execOp (ev f) ⟨none, o, 0, "", #[], none⟩).run P w = .ok (.value v) w' ∧ K v w' ∨ (execOp (ev f) ⟨none, o, 0, "", #[], none⟩).run P w = .ok .skip w' ∧ K undef w'

/-- Is an operation with this guard carried out? -/
def grd (g : Option (Nat × Bool)) (f : Fr) (yes no : Prop) : Prop := match g with
  | none => yes
  | some (s, want) => match f s with
    | .bool b => if b = want then yes else no
    | _ => no
/-- A test that is decided: its slot then holds the answer itself. -/
def spl (s : Nat) (f : Fr) (K : Fr → Prop) : Prop := match f s with
  | .bool b => (b = true → K (upd f s (.bool true))) ∧ (b = false → K (upd f s (.bool false)))
  | _ => K f

def vr (P : Program) : List MI → Fr → World → (Fr → World → Prop) → Prop
  | [], f, w, K => K f w
  | .split s :: r, f, w, K => spl s f fun f => vr P r f w K
  | .p g d o :: r, f, w, K => grd g f (pe o f fun v => vr P r (upd f d v) w K) (vr P r (upd f d undef) w K)
  | .l g d o :: r, f, w, K => grd g f (vl P o f w fun v w' => vr P r (putO f d v) w' K) (vr P r (putO f d undef) w K)

/-- The blocks that stay as they are while a region draws its order; none: nothing in memory is changed. -/
def Held (h : Option (List Nat)) (w w' : World) : Prop := match h with
  | none => w'.heap = w.heap
  | some bs => ∀ b ∈ bs, w'.heap[b]? = w.heap[b]?
def isHeld (h : Option (List Nat)) (b : Nat) : Prop := match h with
  | none => True
  | some bs => b ∈ bs

def vd (P : Program) (h : Option (List Nat)) (w0 : World) : List SI → Fr → World → (Fr → World → Prop) → Prop
  | [], f, w, K => K f w
  | .split s :: r, f, w, K => spl s f fun f => vd P h w0 r f w K
  | .qp _ g d o :: r, f, w, K => grd g f (pe o f fun v => vd P h w0 r (upd f d v) w K) (vd P h w0 r (upd f d undef) w K)
  | .lp _ g d o :: r, f, w, K => grd g f (pe o f fun v => vd P h w0 r (upd f d v) w K) (vd P h w0 r (upd f d undef) w K)
  | .ql _ g d s x :: r, f, w, K => grd g f (kptr (ev f x) (fun b _ => isHeld h b) ∧ vl P (.ld s x) f w0 fun v _ => vd P h w0 r (upd f d v) w K) (vd P h w0 r (upd f d undef) w K)
  | .l _ g d o :: r, f, w, K => grd g f (vl P o f w fun v w' => Held h w0 w' ∧ vd P h w0 r (putO f d v) w' K) (vd P h w0 r (putO f d undef) w K)

def vt (P : Program) (h : Option (List Nat)) (w0 : World) : ST → Fr → World → (Fr → World → Prop) → Prop
  | .line l, f, w, K => vd P h w0 l f w K
  | .fork l a b, f, w, K => vd P h w0 l f w fun f w => vt P h w0 a f w K ∧ vt P h w0 b f w K

def exitK (id : Nat) : List (Nat × (Fr → World → Prop)) → Fr → World → Prop
  | [], _, _ => False
  | (i, K) :: r, f, w => if i = id then K f w else exitK id r f w

/-- The frame f tells what the machine's frame holds. -/
structure Frm (nt : Nat) (f : Fr) (a : Act) : Prop where
  size : a.tmps.size = nt
  get : ∀ i, a.tmps.getD i undef = f i
  defers : a.defers = []

def QQ (nt : Nat) (n : Fr → World → Prop) (xs : List (Nat × (Fr → World → Prop))) (r : Fr → World → Prop) : Exit → Act → World → Prop := fun e a w =>
  ∃ f : Fr, Frm nt f a ∧ match e with
    | .normal => n f w
    | .exit i => exitK i xs f w
    | .ret => r f w
    | _ => False

def VC (P : Program) (nt : Nat) : MC → (Fr → World → Prop) → List (Nat × (Fr → World → Prop)) → (Fr → World → Prop) → Fr → World → Prop
  | .skip, n, _, _, f, w => n f w
  | .seq a b, n, xs, r, f, w => VC P nt a (fun f w => VC P nt b n xs r f w) xs r f w
  | .reg ops, n, _, _, f, w => vr P ops f w n
  | .dreg ops, n, _, _, f, w => ∀ w0, w0.heap = w.heap → w0.tape = w.tape → w0.os = w.os → w0.output = w.output → ∃ h, vt P h w0 ops f w0 n
  | .rreg id ops draw, n, xs, r, f, w => ∀ a, Frm nt f a → (Code.region id ops draw).wp P (QQ nt n xs r) a w
  | .cond x a b, n, xs, r, f, w => kbool (ev f x) fun t => (t = true → VC P nt a n xs r f w) ∧ (t = false → VC P nt b n xs r f w)
  | .block id c, n, xs, r, f, w => VC P nt c n ((id, n) :: xs) r f w
  | .exit id, _, xs, _, f, w => exitK id xs f w
  | .loop c, _, xs, r, f, w => ∃ (I : Nat → Fr → World → Prop) (k : Nat), I k f w ∧
      ∀ k f w, I k f w → VC P nt c (fun f' w' => ∃ k', k' < k ∧ I k' f' w') xs r f w
  | .ret, _, _, r, f, w => r f w

/-- What a function hands back. -/
def resV (P : Program) : List ResultVar → Fr → World → (List Value → Prop) → Prop
  | [], _, _, K => K []
  | .tmp t :: r, f, w, K => resV P r f w fun vs => K (f t :: vs)
  | .cell a t :: r, f, w, K => match ldsz P t with
    | some s => vl P (.ld s (.tmp a)) f w fun v _ => resV P r f w fun vs => K (v :: vs)
    | none => False
def tup : List Value → Value
  | [v] => v
  | vs => .tuple vs.toArray

/-- A frame at a function's beginning. -/
def fr0 (args : List Value) : Fr := fun i => args.getD i undef
end Go.Proofs.Ytnkilhmkegmenaa.E
