/- Part 2 of the proof of what the last of these files says. -/
import Derived.Test.YtifnmbmijljhfaaGreatPBo1
import Derived.Laws.Entries
import Derived.Laws.Slices
import Derived.Laws.World
import Derived.Laws.StructEq
import Derived.Laws.Cells
namespace Go.Proofs.YtifnmbmijljhfaaGreat.E
open Go
variable {P : Program}
theorem run_und {t : TypeId} {d : TypeDesc} {w : World} (h : P.underlying t = some d) : (underlying t).run P w = .ok d w := by
 simp [underlying, h]
theorem run_tinfo {t : TypeId} {d : TypeInfo} {w : World} (h : P.info? t = some d) : (typeInfo t).run P w = .ok d w := by
 simp [typeInfo, h]
theorem run_szo {t : TypeId} {n : Nat} {w : World} (h : sz? P t = some n) : (sizeOf t).run P w = .ok n w := by
 unfold sz? at h
 cases hi : P.info? t with
 | none => simp [hi] at h
 | some i => simp [hi] at h; simp [sizeOf, run_tinfo hi, h]
theorem run_zero {t : TypeId} {v : Value} {w : World} (h : zero? P t = some v) : (zeroValue t).run P w = .ok v w := by
 unfold zero? at h
 cases hi : P.info? t with
 | none => simp [hi] at h
 | some i => simp [hi] at h; simp [zeroValue, run_tinfo hi, h]
theorem run_isAgg {t : TypeId} {b : Bool} {w : World} (h : agg? P t = some b) : (isAgg t).run P w = .ok b w := by
 unfold agg? at h
 unfold isAgg
 split at h <;> simp_all [run_und]
theorem Addr_add (b o n : Nat) : Addr.add ⟨b, o, none⟩ n = ⟨b, o + n, none⟩ := by
 unfold Addr.add
 split
 ·simp_all
 rfl
theorem kint_inv {k : IntKind} {x : Value} {K : Int → Prop} (h : kint k x K) : ∃ n, x = .int k n ∧ K n := by
 unfold kint at h; split at h
 ·obtain ⟨rfl, h⟩ := h; exact ⟨_, rfl, h⟩
 exact h.elim
theorem anyint_inv {x : Value} {K : IntKind → Int → Prop} (h : anyint x K) : ∃ k n, x = .int k n ∧ K k n := by
 unfold anyint at h; split at h
 ·exact ⟨_, _, rfl, h⟩
 exact h.elim
theorem kbool_inv {x : Value} {K : Bool → Prop} (h : kbool x K) : ∃ n, x = .bool n ∧ K n := by
 unfold kbool at h; split at h
 ·exact ⟨_, rfl, h⟩
 exact h.elim
theorem kstr_inv {x : Value} {K : ByteArray → Prop} (h : kstr x K) : ∃ n, x = .string n ∧ K n := by
 unfold kstr at h; split at h
 ·exact ⟨_, rfl, h⟩
 exact h.elim
theorem kptr_inv {x : Value} {K : Nat → Nat → Prop} (h : kptr x K) : ∃ b o, x = .pointer (some ⟨b, o, none⟩) ∧ K b o := by
 unfold kptr at h; split at h
 ·exact ⟨_, _, rfl, h⟩
 exact h.elim
theorem kslice_inv {x : Value} {K : Option Addr → Nat → Nat → Prop} (h : kslice x K) : ∃ a n c, x = .slice a n c ∧ K a n c := by
 unfold kslice at h; split at h
 ·exact ⟨_, _, _, rfl, h⟩
 exact h.elim
theorem kagg_inv {x : Value} {K : Array Value → Prop} (h : kagg x K) : ∃ n, x = .agg n ∧ K n := by
 unfold kagg at h; split at h
 ·exact ⟨_, rfl, h⟩
 exact h.elim
theorem ktuple_inv {x : Value} {K : Array Value → Prop} (h : ktuple x K) : ∃ n, x = .tuple n ∧ K n := by
 unfold ktuple at h; split at h
 ·exact ⟨_, rfl, h⟩
 exact h.elim
theorem addrAt_inv {a : Option Addr} {K : Nat → Nat → Prop} (h : addrAt a K) : ∃ b o, a = some ⟨b, o, none⟩ ∧ K b o := by
 unfold addrAt at h; split at h
 ·exact ⟨_, _, rfl, h⟩
 exact h.elim
theorem beq_dec {α : Type} [DecidableEq α] [BEq α] [LawfulBEq α] (a b : α) : (a == b) = decide (a = b) := by
 by_cases h : a = b <;> simp [h]
theorem run_part {t : TypeId} {s : Option Nat} {cs : Array Value} {off : Nat} {v : Value} (hs : ldsz P t = some s)
 (h : match s with | some n => v = .agg (cs.extract off (off + n)) | none => cs[off]? = some v) (w : World) : (part t cs off).run P w = .ok v w := by
 unfold ldsz at hs
 split at hs
 ·rename_i n ha hz
  injection hs with hs; subst hs
  simp [part, run_isAgg ha, run_szo hz, h]
 ·rename_i n ha hz
  injection hs with hs; subst hs
  simp only at h
  simp [part, run_isAgg ha, h]
 cases hs
def Gives (P : Program) (f : Fr) (o : Oper) (K : Value → Prop) : Prop := ∃ v, K v ∧ ∀ w, (execOp (ev f) o).run P w = .ok (.value v) w
section
variable {f : Fr} {K : Value → Prop} {dst : Option Tmp} {ty : TypeId} {pos : String} {aft : Array Edge} {gd : Option (Nat × Bool)}
theorem g_mv {x : Operand} (h : pe (.mv x) f K) : Gives P f ⟨dst, .move x, ty, pos, aft, gd⟩ K ∧ Gives P f ⟨dst, .assign x, ty, pos, aft, gd⟩ K :=
 ⟨⟨_, h, fun _ => rfl⟩, ⟨_, h, fun _ => rfl⟩⟩
theorem g_pick {c a b : Operand} (h : pe (.pick c a b) f K) : Gives P f ⟨dst, .pick c a b, ty, pos, aft, gd⟩ K := by
 obtain ⟨t, hc, h⟩ := kbool_inv h
 refine ⟨_, h, fun w => ?_⟩
 simp [execOp, hc, asBool]
theorem g_bin {op : BinOp} {t u : TypeId} {k : IntKind} {x y : Operand} (hop : isCmp op = true ∨ op = .add ∨ op = .sub ∨ op = .mul ∨ op = .and ∨ op = .or ∨ op = .xor ∨ op = .andNot)
 (h : pe (.bin op k x y) f K) : Gives P f ⟨dst, .binOp op t x y u, ty, pos, aft, gd⟩ K := by
 obtain ⟨a, hx, h⟩ := kint_inv h
 obtain ⟨b, hy, h⟩ := kint_inv h
 refine ⟨_, h, fun w => ?_⟩
 have hg : ∀ w : World, (eqGuard op t x y (.int k a) (.int k b)).run P w = .ok () w := fun w => by cases op <;> simp [eqGuard]
 simp only [execOp, hx, hy]
 simp only [Sem.run_bind, hg, Result.andThen_ok]
 cases op <;> simp [isCmp] at hop <;> simp [binOp, binI, Op.intArith, Op.intBits, Op.intCmp] <;> rfl
theorem g_shf {op : BinOp} {t u : TypeId} {x y : Operand} (h : pe (.shf op x y) f K) : Gives P f ⟨dst, .binOp op t x y u, ty, pos, aft, gd⟩ K := by
 obtain ⟨k, a, hx, h⟩ := anyint_inv h
 obtain ⟨k2, b, hy, h0, h⟩ := anyint_inv h
 have hn : ¬ b < 0 := by omega
 have hg : ∀ w : World, (eqGuard op t x y (.int k a) (.int k2 b)).run P w = .ok () w := fun w => by cases op <;> simp [eqGuard]
 cases op <;> try exact h.elim
 ·refine ⟨_, h, fun w => ?_⟩
  simp only [execOp, hx, hy]
  simp only [Sem.run_bind, hg, Result.andThen_ok]
  simp [binOp, Op.shift, hn]
 refine ⟨_, h, fun w => ?_⟩
 simp only [execOp, hx, hy]
 simp only [Sem.run_bind, hg, Result.andThen_ok]
 simp [binOp, Op.shift, hn]
theorem g_div {op : BinOp} {t u : TypeId} {k : IntKind} {x y : Operand} (h : pe (.div op k x y) f K) : Gives P f ⟨dst, .binOp op t x y u, ty, pos, aft, gd⟩ K := by
 obtain ⟨a, hx, h⟩ := kint_inv h
 obtain ⟨b, hy, hn, h⟩ := kint_inv h
 have hg : ∀ w : World, (eqGuard op t x y (.int k a) (.int k b)).run P w = .ok () w := fun w => by cases op <;> simp [eqGuard]
 cases op <;> try exact h.elim
 ·refine ⟨_, h, fun w => ?_⟩
  simp only [execOp, hx, hy]
  simp only [Sem.run_bind, hg, Result.andThen_ok]
  simp [binOp, Op.intDiv, hn]
 refine ⟨_, h, fun w => ?_⟩
 simp only [execOp, hx, hy]
 simp only [Sem.run_bind, hg, Result.andThen_ok]
 simp [binOp, Op.intDiv, hn]
theorem run_eql_def (t : TypeId) (a b : Value) (w : World) (h : binOp .eql t a b = (do pure (.bool (← Op.equal t a b)))) {r : Bool} (hr : (Op.equalIn (9999 + 1) t a b).run P w = .ok r w) :
 (binOp .eql t a b).run P w = .ok (.bool r) w := by
 rw [h]
 have : (Op.equal t a b).run P w = .ok r w := hr
 simp [this]
theorem run_neq_def (t : TypeId) (a b : Value) (w : World) (h : binOp .neq t a b = (do pure (.bool (!(← Op.equal t a b))))) {r : Bool} (hr : (Op.equalIn (9999 + 1) t a b).run P w = .ok r w) :
 (binOp .neq t a b).run P w = .ok (.bool (!r)) w := by
 rw [h]
 have : (Op.equal t a b).run P w = .ok r w := hr
 simp [this]
theorem g_beq {n : Bool} {t u : TypeId} {x y : Operand} (ht : P.underlying t = some .bool) (h : pe (.beq n x y) f K) :
 Gives P f ⟨dst, .binOp (if n then .neq else .eql) t x y u, ty, pos, aft, gd⟩ K := by
 obtain ⟨a, hx, h⟩ := kbool_inv h
 obtain ⟨b, hy, h⟩ := kbool_inv h
 refine ⟨_, h, fun w => ?_⟩
 have hg : ∀ (op : BinOp) (w : World), (eqGuard op t x y (.bool a) (.bool b)).run P w = .ok () w := fun op w => by cases op <;> simp [eqGuard]
 have he := run_equalIn_bool' w 9999 t a b ht
 simp only [execOp, hx, hy]
 simp only [Sem.run_bind, hg, Result.andThen_ok]
 cases n
 ·simp only [Bool.false_eq_true, if_false]
  rw [run_eql_def t _ _ w rfl he]
  simp [beq_dec]
 simp only [if_true]
 rw [run_neq_def t _ _ w rfl he]
 simp [beq_dec]
theorem g_sbin {op : BinOp} {t u : TypeId} {x y : Operand} (h : pe (.sbin op x y) f K) : Gives P f ⟨dst, .binOp op t x y u, ty, pos, aft, gd⟩ K := by
 obtain ⟨a, hx, h⟩ := kstr_inv h
 obtain ⟨b, hy, h⟩ := kstr_inv h
 have hg : ∀ w : World, (eqGuard op t x y (.string a) (.string b)).run P w = .ok () w := fun w => by cases op <;> simp [eqGuard]
 cases op <;> simp only [binS] at h <;> try exact h.elim
 ·obtain ⟨hs, h⟩ := h
  refine ⟨_, h, fun w => ?_⟩
  simp only [execOp, hx, hy]
  simp only [Sem.run_bind, hg, Result.andThen_ok]
  have : ¬ (((a.size + b.size : Nat) : Int) > IntKind.i64.max) := by
   have : IntKind.i64.max = 9223372036854775807 := by decide
   omega
  simp only [binOp, Op.stringOp]
  rw [if_neg this]
  simp
 all_goals
  refine ⟨_, h, fun w => ?_⟩
  simp only [execOp, hx, hy]
  simp only [Sem.run_bind, hg, Result.andThen_ok]
  simp [binOp, Op.stringOp, beq_dec]
theorem g_isnil {n : Bool} {kd : Nat} {t u : TypeId} {x : Operand} {v : Value}
 (ht : (kd = 0 ∧ (∃ e, P.underlying t = some (.pointer e)) ∧ v = .pointer none) ∨ (kd = 1 ∧ (∃ e, P.underlying t = some (.slice e)) ∧ ∃ a b, v = .slice none a b) ∨
  (kd = 2 ∧ (∃ a b c, P.underlying t = some (.func a b c)) ∧ v = .nilFunc)) (h : pe (.isnil n kd x) f K) :
 Gives P f ⟨dst, .binOp (if n then .neq else .eql) t x (.const v) u, ty, pos, aft, gd⟩ K := by
 simp only [pe] at h
 split at h
 ·rename_i b hb
  refine ⟨_, h, fun w => ?_⟩
  have key : ∀ (a : Value), isNilV kd a = some b → (∀ (op : BinOp) (w : World), (eqGuard op t x (.const v) a v).run P w = .ok () w) ∧
   binOp .eql t a v = (do pure (.bool (← Op.equal t a v))) ∧ binOp .neq t a v = (do pure (.bool (!(← Op.equal t a v)))) ∧ (Op.equalIn (9999 + 1) t a v).run P w = .ok b w := by
   intro a ha
   rcases ht with ⟨rfl, ⟨e, hu⟩, rfl⟩ | ⟨rfl, ⟨e, hu⟩, p, q, rfl⟩ | ⟨rfl, ⟨e1, e2, e3, hu⟩, rfl⟩ <;>
    (unfold isNilV at ha; split at ha <;> first | cases ha | skip) <;>
    first
    | (exfalso; simp_all; done)
    | exact ⟨fun op w => by cases op <;> simp [eqGuard], rfl, rfl, by rw [Op.equalIn]; simp [run_und hu]⟩
  obtain ⟨hg, h1, h2, h3⟩ := key _ hb
  have hv : ev f (.const v) = v := rfl
  simp only [execOp, hv]
  simp only [Sem.run_bind, hg, Result.andThen_ok]
  cases n
  ·simp only [Bool.false_eq_true, if_false]
   rw [run_eql_def t _ _ w h1 h3]
   simp
  simp only [if_true]
  rw [run_neq_def t _ _ w h2 h3]
  simp
 exact h.elim
theorem flatK_spec {t : TypeId} {k : Nat} (h : flatK P t = some k) : sz? P t = some 1 ∧ ((k = 0 ∧ P.underlying t = some .bool) ∨ (k = 1 ∧ ∃ q, P.underlying t = some (.int q)) ∨ (k = 2 ∧ P.underlying t = some .string)) := by
 unfold flatK at h
 split at h <;> (try cases h) <;> (split at h <;> (try cases h) <;> simp_all)
theorem eqFields_run (d : Nat) (xs ys : Array Value) (w : World) : ∀ (fs : List Field) (k : Nat) (ks : List Nat) (b : Bool), fieldsFrom P k fs = some ks →
 eqCs ks (xs.toList.drop k) (ys.toList.drop k) = some b → (Op.eqFields (d + 1) xs ys fs).run P w = .ok b w := by
 intro fs
 induction fs with
 | nil => intro k ks b h1 h2; simp [fieldsFrom] at h1; subst h1; simp [eqCs] at h2; subst h2; simp [Op.eqFields]
 | cons f fs ih =>
  intro k ks b h1 h2
  simp only [fieldsFrom] at h1
  split at h1
  ·rename_i q l hq hl
   split at h1
   ·rename_i hc
    simp only [Bool.and_eq_true, beq_iff_eq, bne_iff_ne] at hc
    obtain ⟨ho, hn⟩ := hc
    cases h1
    cases hx : xs.toList.drop k with
    | nil => rw [hx] at h2; simp [eqCs] at h2
    | cons x xr =>
     cases hy : ys.toList.drop k with
     | nil => rw [hx, hy] at h2; simp [eqCs] at h2
     | cons y yr =>
      rw [hx, hy] at h2
      simp only [eqCs] at h2
      split at h2
      ·rename_i b1 b2 e1 e2
       cases h2
       have px : xs[k]? = some x := by
        have := congrArg List.head? hx
        simpa [List.head?_drop] using this
       have py : ys[k]? = some y := by
        have := congrArg List.head? hy
        simpa [List.head?_drop] using this
       have dx : xs.toList.drop (k + 1) = xr := by rw [← List.drop_drop, hx]; rfl
       have dy : ys.toList.drop (k + 1) = yr := by rw [← List.drop_drop, hy]; rfl
       obtain ⟨hz, hk⟩ := flatK_spec hq
       have hld : ldsz P f.type = some none := by
        unfold ldsz agg?
        rcases hk with ⟨_, hu⟩ | ⟨_, q2, hu⟩ | ⟨_, hu⟩ <;> simp [hu, hz]
       have p1 := fun w => run_part (P := P) hld (cs := xs) (off := f.offset) (v := x) (by simpa [ho] using px) w
       have p2 := fun w => run_part (P := P) hld (cs := ys) (off := f.offset) (v := y) (by simpa [ho] using py) w
       have p3 : ∀ w, (Op.equalIn (d + 1) f.type x y).run P w = .ok b1 w := by
        intro w
        rcases hk with ⟨rfl, hu⟩ | ⟨rfl, q2, hu⟩ | ⟨rfl, hu⟩
        ·unfold eqC at e1; split at e1 <;> (try cases e1) <;> (try simp_all; done)
         rename_i a b _ _
         rw [run_equalIn_bool' w d _ _ _ hu, beq_dec]
        ·unfold eqC at e1; split at e1 <;> (try cases e1) <;> (try simp_all; done)
         split at e1
         ·rename_i heq; subst heq; cases e1
          rw [run_equalIn_int w d _ _ _ _ _ hu, beq_dec]
         cases e1
        unfold eqC at e1; split at e1 <;> (try cases e1) <;> (try simp_all; done)
        rw [run_equalIn_string w d _ _ _ hu, beq_dec]
       simp only [Op.eqFields, hn, ne_eq, not_false_eq_true, if_true, Sem.run_bind, p1, p2, p3, Result.andThen_ok]
       cases b1
       ·simp
       simp only [Bool.not_true, Bool.false_eq_true, if_false, Bool.true_and]
       exact ih (k + 1) l b2 hl (by rw [dx, dy]; exact e2)
      cases h2
   cases h1
  cases h1
theorem g_aeq {n : Bool} {ks : List Nat} {t u : TypeId} {x y : Operand} {fs : Array Field} (ht : P.underlying t = some (.struct fs)) (hf : fieldsFrom P 0 fs.toList = some ks)
 (h1 : P.stoodInHeld t = false) (h2 : P.eqGuardType P.depth t = false) (h : pe (.aeq n ks x y) f K) :
 Gives P f ⟨dst, .binOp (if n then .neq else .eql) t x y u, ty, pos, aft, gd⟩ K := by
 obtain ⟨xs, hx, h⟩ := kagg_inv h
 obtain ⟨ys, hy, h⟩ := kagg_inv h
 split at h
 ·rename_i b hb
  refine ⟨_, h, fun w => ?_⟩
  have hfo : P.fieldsOf t = fs := by simp [Program.fieldsOf, ht]
  have he : (Op.equalIn (9998 + 1 + 1) t (.agg xs) (.agg ys)).run P w = .ok b w := by
   rw [run_equalIn_struct w (9998 + 1) t xs ys (by rw [hfo]; exact ht) h1, hfo]
   exact eqFields_run 9998 xs ys w fs.toList 0 ks b hf (by simpa using hb)
  have hg := fun op => run_eqGuard_agg (P := P) w op t x y xs ys h2
  simp only [execOp, hx, hy]
  simp only [Sem.run_bind, hg, Result.andThen_ok]
  cases n
  ·simp only [Bool.false_eq_true, if_false]
   rw [run_eql_def t _ _ w rfl he]
   simp
  simp only [if_true]
  rw [run_neq_def t _ _ w rfl he]
  simp
 exact h.elim
theorem g_not {t : TypeId} {x : Operand} (h : pe (.not x) f K) : Gives P f ⟨dst, .unOp .not t x, ty, pos, aft, gd⟩ K := by
 obtain ⟨a, hx, h⟩ := kbool_inv h
 exact ⟨_, h, fun w => by simp [execOp, hx, Op.unary]⟩
theorem g_neg {t : TypeId} {k : IntKind} {x : Operand} (h : pe (.neg k x) f K) : Gives P f ⟨dst, .unOp .neg t x, ty, pos, aft, gd⟩ K := by
 obtain ⟨a, hx, h⟩ := kint_inv h
 exact ⟨_, h, fun w => by simp [execOp, hx, Op.unary, Op.intArith]⟩
theorem g_cpl {t : TypeId} {k : IntKind} {x : Operand} (h : pe (.bin .xor k (.const (.int k (if k.signed then -1 else k.max))) x) f K) : Gives P f ⟨dst, .unOp .xor t x, ty, pos, aft, gd⟩ K := by
 have h1 : kint k (Value.int k (if k.signed then -1 else k.max)) (fun a => kint k (ev f x) fun b => K (binI .xor k a b)) := h
 obtain ⟨_, h2⟩ := h1
 obtain ⟨b, hx, h3⟩ := kint_inv h2
 exact ⟨_, h3, fun w => by simp [execOp, hx, Op.unary, Op.intBits, binI]⟩
theorem g_conv {s d : TypeId} {k : IntKind} {x : Operand} (hs : ∃ k', P.underlying s = some (.int k')) (hd : P.underlying d = some (.int k)) (h : pe (.conv k x) f K) :
 Gives P f ⟨dst, .convert s d x, ty, pos, aft, gd⟩ K := by
 obtain ⟨k', a, hx, h⟩ := anyint_inv h
 obtain ⟨k2, hs⟩ := hs
 exact ⟨_, h, fun w => by simp [execOp, hx, convert, run_und hs, run_und hd, Conv.intToInt]⟩
theorem g_convId {s d : TypeId} {x : Operand} (hs : P.underlying s = some .string) (hd : P.underlying d = some .string) (h : pe (.convId x) f K) :
 Gives P f ⟨dst, .convert s d x, ty, pos, aft, gd⟩ K := by
 obtain ⟨a, hx, h⟩ := kstr_inv h
 exact ⟨_, h, fun w => by simp [execOp, hx, convert, run_und hs, run_und hd]⟩
theorem g_fa {s : TypeId} {x : Operand} {j n : Nat} {fs : Array Field} {fl : Field} (hs : P.underlying s = some (.struct fs)) (hf : fs[j]? = some fl) (hn : sz? P fl.type = some n) (h0 : n ≠ 0)
 (h : pe (.fa fl.offset x) f K) : Gives P f ⟨dst, .fieldAddr s x j, ty, pos, aft, gd⟩ K := by
 obtain ⟨b, o, hx, h⟩ := kptr_inv h
 exact ⟨_, h, fun w => by simp [execOp, hx, Instr.fieldAt, run_und hs, hf, Instr.sureAddr, fieldPlace, run_szo hn, h0, Addr_add]⟩
theorem g_fld {t : TypeId} {x : Operand} {j : Nat} {s : Option Nat} {fs : Array Field} {fl : Field} (ht : P.underlying t = some (.struct fs)) (hf : fs[j]? = some fl) (hn : ldsz P fl.type = some s)
 (h : pe (.fld fl.offset s x) f K) : Gives P f ⟨dst, .field t x j, ty, pos, aft, gd⟩ K := by
 obtain ⟨cs, hx, h⟩ := kagg_inv h
 cases s with
 | some n => exact ⟨_, h, fun w => by simp [execOp, hx, Instr.field, run_und ht, hf, asAgg, run_part hn (s := some n) rfl]⟩
 | none =>
  simp only at h
  split at h
  ·rename_i v hv
   exact ⟨_, h, fun w => by simp [execOp, hx, Instr.field, run_und ht, hf, asAgg, run_part hn (s := none) hv]⟩
  exact h.elim
theorem g_ext {x : Operand} {i : Nat} (h : pe (.ext i x) f K) : Gives P f ⟨dst, .extract x i, ty, pos, aft, gd⟩ K := by
 obtain ⟨cs, hx, h⟩ := ktuple_inv h
 split at h
 ·rename_i v hv
  exact ⟨_, h, fun w => by simp [execOp, hx, Instr.extract, hv]⟩
 exact h.elim
theorem g_mkf {fn : Fn} {a c : Array Operand} (h : pe (.mkf fn a.toList c.toList) f K) : Gives P f ⟨dst, .makeFunc fn a c, ty, pos, aft, gd⟩ K :=
 ⟨_, h, fun w => by cases a; cases c; simp [execOp, Instr.makeFunc]⟩
theorem g_nilchk {x : Operand} (h : pe (.nilchk x) f K) : Gives P f ⟨dst, .nilCheck x, ty, pos, aft, gd⟩ K := by
 obtain ⟨b, o, hx, h⟩ := kptr_inv h
 exact ⟨_, h, fun w => by simp [execOp, hx]⟩
theorem g_idx {t e : TypeId} {s : Nat} {x i : Operand} (ht : P.underlying t = some (.slice e)) (hs : sz? P e = some s) (h : pe (.idx s x i) f K) :
 Gives P f ⟨dst, .indexAddr t x i, ty, pos, aft, gd⟩ K := by
 obtain ⟨a, n, c, hx, h⟩ := kslice_inv h
 obtain ⟨k, j, hi, ⟨h0, h1⟩, h⟩ := anyint_inv h
 obtain ⟨b, o, rfl, h⟩ := addrAt_inv h
 exact ⟨_, h, fun w => by simp [execOp, hx, hi, Instr.indexAt, asIntOf, run_und ht, h0, h1, run_szo hs, Addr_add]⟩
theorem g_idxa {t e : TypeId} {n s : Nat} {x i : Operand} (ht : P.underlying t = some (.array n e)) (hs : sz? P e = some s) (h : pe (.idxa n s x i) f K) :
 Gives P f ⟨dst, .indexAddr t x i, ty, pos, aft, gd⟩ K := by
 obtain ⟨b, o, hx, h⟩ := kptr_inv h
 obtain ⟨k, j, hi, ⟨h0, h1⟩, h⟩ := anyint_inv h
 exact ⟨_, h, fun w => by simp [execOp, hx, hi, Instr.indexAt, asIntOf, run_und ht, h0, h1, run_szo hs, Addr_add, Instr.sureAddr]⟩
theorem g_idxs {t : TypeId} {x i : Operand} (ht : P.underlying t = some .string) (h : pe (.idxs x i) f K) :
 Gives P f ⟨dst, .index t x i, ty, pos, aft, gd⟩ K := by
 obtain ⟨s, hx, h⟩ := kstr_inv h
 obtain ⟨k, j, hi, ⟨h0, h1⟩, h⟩ := anyint_inv h
 refine ⟨_, h, fun w => ?_⟩
 have : s[j.toNat]? = some s[j.toNat] := by simp [h1]
 simp [execOp, hx, hi, Instr.index, asIntOf, run_und ht, h0, this]
theorem g_idxv {t e : TypeId} {n s : Nat} {g : Bool} {x i : Operand} (ht : P.underlying t = some (.array n e)) (hg : agg? P e = some g) (hs : sz? P e = some s) (h : pe (.idxv n s g x i) f K) :
 Gives P f ⟨dst, .index t x i, ty, pos, aft, gd⟩ K := by
 obtain ⟨cs, hx, h⟩ := kagg_inv h
 obtain ⟨k, j, hi, ⟨h0, h1⟩, h⟩ := anyint_inv h
 cases g with
 | true =>
  have hl : ldsz P e = some (some s) := by simp [ldsz, hg, hs]
  exact ⟨_, h, fun w => by simp [execOp, hx, hi, Instr.index, asIntOf, run_und ht, h0, h1, run_szo hs, run_part hl (s := some s) rfl]⟩
 | false =>
  have hl : ldsz P e = some none := by simp [ldsz, hg, hs]
  simp only at h
  split at h
  ·rename_i v hv
   exact ⟨_, h, fun w => by simp [execOp, hx, hi, Instr.index, asIntOf, run_und ht, h0, h1, run_szo hs, run_part hl (s := none) hv]⟩
  exact h.elim
theorem g_lenc {t e : TypeId} {n : Nat} {x : Operand} {ats : Array TypeId} (ha : ats[0]? = some t) (ht : P.underlying t = some (.array n e)) (h : pe (.lenc n) f K) :
 Gives P f ⟨dst, .call ⟨.builtin .len, #[x], ats⟩, ty, pos, aft, gd⟩ K := by
 refine ⟨_, h, fun w => ?_⟩
 simp [execOp, resolve, invoke, builtin, Builtin.len_, ha, run_und ht, goInt]
theorem g_len {t e : TypeId} {x : Operand} {ats : Array TypeId} (ha : ats[0]? = some t) (ht : P.underlying t = some (.slice e)) (h : pe (.len x) f K) :
 Gives P f ⟨dst, .call ⟨.builtin .len, #[x], ats⟩, ty, pos, aft, gd⟩ K := by
 obtain ⟨a, n, c, hs, h⟩ := kslice_inv h
 exact ⟨_, h, fun w => by simp [execOp, resolve, invoke, builtin, Builtin.len_, ha, run_und ht, goInt, hs]⟩
theorem g_lens {t : TypeId} {x : Operand} {ats : Array TypeId} (ha : ats[0]? = some t) (ht : P.underlying t = some .string) (h : pe (.lens x) f K) :
 Gives P f ⟨dst, .call ⟨.builtin .len, #[x], ats⟩, ty, pos, aft, gd⟩ K := by
 obtain ⟨s, hs, h⟩ := kstr_inv h
 exact ⟨_, h, fun w => by simp [execOp, resolve, invoke, builtin, Builtin.len_, ha, run_und ht, goInt, hs]⟩
end
end Go.Proofs.YtifnmbmijljhfaaGreat.E
