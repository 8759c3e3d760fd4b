/- Part 11 of the proof of what the last of these files says. -/
import Derived.Test.YtifnmbmijljhfaaGreatPBo10
import Derived.RangeFuncFrom
import Derived.RangeFuncLeaves
import Derived.TacticsIn
namespace Go.Proofs.YtifnmbmijljhfaaGreat.E
open Go
variable {P : Program} {D : List Deferred}
theorem oper_in {o : Oper} {a : Act} {w : World} {next : Act → World → Prop} {Q : Exit → Act → World → Prop} {ro : Option Nat} {n : Nat} (hd : ∀ c, o.op ≠ .defer c) (h : o.wp P a w next Q) : o.wpIn { Fence.wide with round := ro } n P a w next Q := by
 refine ⟨fun _ _ => trivial, ?_⟩
 rw [Oper.semAt_eq _ _ _ hd]
 unfold Oper.wp at h
 generalize (execOp a.eval o).run P w = r at h ⊢
 unfold Oper.upon at h
 unfold Oper.uponIn
 split at h
 ·exact h
 ·exact h
 ·exact h
 ·exact ⟨fun q => (by cases q), callsIn_wide.2 h⟩
 ·exact ⟨fun q => (by cases q), fun c cs _ => by obtain ⟨v, w', r, s⟩ := h c cs; exact ⟨v, w', r, stepsIn_wide.2 s⟩⟩
 ·exact h
 exact h.elim
theorem comp_nodefer {o : Oper} {r : PO ⊕ LO} (h : comp P o = some r) : ∀ c, o.op ≠ .defer c := fun c e => by
 simp [comp, e] at h
theorem reg_soundIn {nt n : Nat} {ro : Option Nat} {ops : Array Oper} {K : Fr → World → Prop} {Q : Exit → Act → World → Prop} {l2 : List Oper} (hQ : ∀ f a w, Frm D nt f a → K f w → wpListIn { Fence.wide with round := ro } n P ops Q l2 a w) :
 ∀ (l : List Oper) (done : List Nat) (ms : List MI) (f : Fr) (a : Act) (w : World), compReg P nt ops done l = some ms → Frm D nt f a → vr P ms f w K → wpListIn { Fence.wide with round := ro } n P ops Q (l ++ l2) a w := by
 intro l
 induction l with
 | nil => intro done ms f a w hc hf h; simp only [compReg, Option.some.injEq] at hc; subst hc; exact hQ f a w hf h
 | cons o l ih =>
  intro done ms f a w hc hf h
  simp only [compReg] at hc
  split at hc
  ·rename_i g r hci
   obtain ⟨hg, hcomp, hd⟩ := compI_inv hci
   have hnd := comp_nodefer hcomp
   split at hc
   ·rename_i l' hl'
    split at hc
    ·rename_i p d hdst
     cases hc
     obtain ⟨f', hf', h⟩ := vr_splits _ hf h
     rw [List.cons_append]
     unfold wpListIn
     rcases grd_inv hf' hg h with ⟨hw, hy⟩ | ⟨hw, hn⟩
     ·rw [if_pos hw]
      obtain ⟨v, hv, hr⟩ := pure_sound hcomp hy
      refine oper_in hnd (wp_val hf'.eval (hr w) ?_)
      have := hf'.put hd v
      rw [hdst] at this ⊢
      exact ih _ _ _ _ _ hl' this hv
     rw [hw]
     simp only [Bool.false_eq_true, if_false]
     have := hf'.put hd undef
     rw [hdst] at this ⊢
     exact ⟨fun _ _ => trivial, ih _ _ _ _ _ hl' this hn⟩
    ·rename_i q hdst
     cases hc
     obtain ⟨f', hf', h⟩ := vr_splits _ hf h
     rw [List.cons_append]
     unfold wpListIn
     rcases grd_inv hf' hg h with ⟨hw, hy⟩ | ⟨hw, hn⟩
     ·rw [if_pos hw]
      exact oper_in hnd (loud_sound hcomp hf'.eval hy fun v w' hv => ih _ _ _ _ _ hl' (hf'.put hd v) hv)
     rw [hw]
     simp only [Bool.false_eq_true, if_false]
     exact ⟨fun _ _ => trivial, ih _ _ _ _ _ hl' (hf'.put hd undef) hn⟩
    cases hc
   cases hc
  cases hc
def plainM : MC → Bool
 | .skip | .reg _ | .exit _ | .ret => true
 | .seq a b => plainM a && plainM b
 | .cond _ a b => plainM a && plainM b
 | .block _ c => plainM c
 | _ => false
def plainC : Code → Bool
 | .scope _ => false
 | .seq a b => plainC a && plainC b
 | .cond _ a b => plainC a && plainC b
 | .block _ c => plainC c
 | _ => true
theorem code_soundIn {nt n : Nat} {ro : Option Nat} : ∀ (c : Code) (m : MC) (N : Fr → World → Prop) (xs : List (Nat × (Fr → World → Prop))) (r : Fr → World → Prop) (f : Fr) (a : Act) (w : World),
 compile P nt c = some m → plainC c = true → plainM m = true → VC P nt m N xs r f w → Frm D nt f a → c.wpIn { Fence.wide with round := ro } n P (QQ D nt N xs r) a w := by
 intro c
 induction c with
 | skip => intro m N xs r f a w hc _ _ h hf; cases hc; exact wpIn_skip ⟨f, hf, h⟩
 | region id ops draw =>
  intro m N xs r f a w hc hs hp h hf
  cases draw with
  | false =>
   simp only [compile] at hc
   cases hr : compReg P nt ops [] ops.toList with
   | none => simp [hr] at hc; subst hc; cases hp
   | some ms =>
    simp [hr] at hc
    subst hc
    refine wpIn_region_list ?_
    have := reg_soundIn (l2 := []) (Q := QQ D nt N xs r) (n := n) (ro := ro) (fun f a w hf h => ⟨f, hf, h⟩) ops.toList _ _ _ _ _ hr hf h
    rwa [List.append_nil] at this
  | true =>
   simp only [compile] at hc
   by_cases hs2 : Region.noSelect ops = true
   ·rw [if_pos hs2] at hc
    cases hr : compD P nt ops ops.size [] (Array.replicate ops.size false) with
    | none => simp [hr] at hc; subst hc; cases hp
    | some ms => simp [hr] at hc; subst hc; cases hp
   rw [if_neg hs2] at hc
   simp at hc
   subst hc
   cases hp
 | seq x y ihx ihy =>
  intro m N xs r f a w hc hs hp h hf
  simp only [compile] at hc
  split at hc
  ·rename_i mx my hx hy
   cases hc
   simp only [plainM, Bool.and_eq_true] at hp
   simp only [plainC, Bool.and_eq_true] at hs
   refine wpIn_seq (wpIn_mono (ihx _ _ _ _ _ _ _ hx hs.1 hp.1 h hf) ?_)
   rintro e a' w' ⟨f', hf', h'⟩
   cases e <;> first | exact ihy _ _ _ _ _ _ _ hy hs.2 hp.2 h' hf' | exact ⟨f', hf', h'⟩
  cases hc
 | cond c x y ihx ihy =>
  intro m N xs r f a w hc hs hp h hf
  simp only [compile] at hc
  split at hc
  ·rename_i mx my hx hy
   cases hc
   simp only [plainM, Bool.and_eq_true] at hp
   simp only [plainC, Bool.and_eq_true] at hs
   obtain ⟨t, ht, h1, h2⟩ := kbool_inv h
   exact wpIn_cond_split (t := t) (by rw [hf.eval]; exact ht) (fun e => ihx _ _ _ _ _ _ _ hx hs.1 hp.1 (h1 e) hf) (fun e => ihy _ _ _ _ _ _ _ hy hs.2 hp.2 (h2 e) hf)
  cases hc
 | block id c ih =>
  intro m N xs r f a w hc hs hp h hf
  simp only [compile] at hc
  cases hx : compile P nt c with
  | none => simp [hx] at hc
  | some mc =>
   simp [hx] at hc
   subst hc
   refine wpIn_block (wpIn_mono (ih _ _ _ _ _ _ _ hx hs hp h hf) ?_)
   rintro e a' w' ⟨f', hf', h'⟩
   cases e with
   | exit id' =>
    simp only [Exit.inBlock]
    simp only [exitK] at h'
    split at h'
    ·rename_i he; subst he; rw [if_pos rfl]; exact ⟨f', hf', h'⟩
    rename_i he; rw [if_neg (fun e => he e.symm)]; exact ⟨f', hf', h'⟩
   | _ => exact ⟨f', hf', h'⟩
 | exit id => intro m N xs r f a w hc _ _ h hf; cases hc; exact wpIn_exit ⟨f, hf, h⟩
 | ret => intro m N xs r f a w hc _ _ h hf; cases hc; exact wpIn_ret ⟨f, hf, h⟩
 | loop c ih =>
  intro m N xs r f a w hc hs hp h hf
  simp only [compile] at hc
  cases hx : compile P nt c with
  | none => simp [hx] at hc
  | some mc => simp [hx] at hc; subst hc; cases hp
 | scope c ih =>
  intro m N xs r f a w hc hs hp h hf
  cases hs
 | label l => intro m N xs r f a w hc _ _ h hf; cases hc; exact wpIn_label ⟨f, hf, h⟩
 | _ => intro m N xs r f a w hc _ _ h hf; cases hc
theorem Frm.uniq {nt : Nat} {f : Fr} {a a' : Act} (h : Frm D nt f a) (h' : Frm D nt f a') : a = a' := by
 obtain ⟨t, d⟩ := a
 obtain ⟨t', d'⟩ := a'
 have e1 : t = t' := by
  apply Array.ext (h.size.trans h'.size.symm)
  intro i h1 h2
  have q1 := h.get i
  have q2 := h'.get i
  simp only [Array.getD_eq_getD_getElem?] at q1 q2
  rw [Array.getElem?_eq_getElem h1] at q1
  rw [Array.getElem?_eq_getElem h2] at q2
  simp only [Option.getD_some] at q1 q2
  rw [q1, q2]
 have e2 : d = d' := h.defers.trans h'.defers.symm
 rw [e1, e2]
theorem calls_body {g : FuncId} {fn : Func} {c : Code} {args : List Value} {w : World} {R : Ending → World → Prop} (hf : P.funcs[g]? = some fn) (hb : fn.body = some c) (hn : args.length ≤ fn.ntmps)
 (h : ∀ a, Frm [] fn.ntmps (fr0 args) a → c.wp P (bodyPostM Fence.wide 9 P fn R) a w) : Calls P g args.toArray w R := by
 refine callsIn_wide.1 (callsIn_of_wp_marks (n := 9) hf hb trivial (wpIn_wide.2 (h _ ?_)) rfl)
 refine ⟨by simp; omega, fun i => ?_, rfl⟩
 simp only [fr0, Array.getD_eq_getD_getElem?, List.getD_eq_getElem?_getD]
 by_cases hi : i < args.length
 ·rw [Array.getElem?_append_left (by simpa using hi)]; simp
 rw [Array.getElem?_append_right (by simpa using hi)]
 simp only [List.getElem?_eq_none (by omega : args.length ≤ i), Option.getD_none, Array.getElem?_replicate]
 split <;> rfl
theorem piece {nt : Nat} (hm : P.follows .mixedOrders = true) {c rest : Code} {m : MC} {N r : Fr → World → Prop} {xs : List (Nat × (Fr → World → Prop))} {Q : Exit → Act → World → Prop} {f : Fr} {a : Act} {w : World} (hc : compile P nt c = some m) (hf : Frm D nt f a)
 (hv : VC P nt m N xs r f w) (hn : ∀ f a w, Frm D nt f a → N f w → rest.wp P Q a w) (hr : ∀ f a w, Frm D nt f a → r f w → Q .ret a w) (hx : ∀ i f a w, Frm D nt f a → exitK i xs f w → Q (.exit i) a w) : (Code.seq c rest).wp P Q a w := by
 refine wp_seq (Code.wp_mono ?_ (code_sound hm c m _ _ _ _ _ _ hc hv hf))
 rintro e a' w' ⟨f', hf', h'⟩
 cases e with
 | normal => exact hn _ _ _ hf' h'
 | ret => exact hr _ _ _ hf' h'
 | exit i => exact hx i _ _ _ hf' h'
 | _ => exact h'.elim
theorem KeepsOthers.of_upd {S : List Nat} {w w' : World} (u : Upd S w w') (hS : ∀ b ∈ S, ∃ o : Obj, w.heap[b]? = some o ∧ o.isCells = true) : KeepsOthers w w' :=
 ⟨u.size, fun k o hk ho => by
  have h1 := (Array.getElem?_eq_some_iff.1 hk).1
  rw [u.block k h1 (fun q => by
   obtain ⟨o', h2, h3⟩ := hS k q
   rw [hk] at h2
   cases h2
   rw [ho] at h3
   cases h3)]
  exact hk⟩
end Go.Proofs.YtifnmbmijljhfaaGreat.E
namespace Go.Proofs.YtifnmbmijljhfaaGreat.E
open Go
def sub : List Nat → Code → Code
 | [], c => c
 | 0 :: p, .seq a _ => sub p a
 | 1 :: p, .seq _ b => sub p b
 | 2 :: p, .block _ b => sub p b
 | 3 :: p, .loop b => sub p b
 | 4 :: p, .rangeFunc _ _ a _ => sub p a
 | 5 :: p, .rangeFunc _ _ _ b => sub p b
 | _, _ => .skip
noncomputable def MP_pA77 : MC :=
 (.seq (.reg [.l none (some 5) (.ld none (.tmp 1)),
  .p none 6 (.isnil false 0 (.tmp 5))])
 (.cond (.tmp 6)
  .ret
  .skip))
set_option maxRecDepth 100000 in
theorem pA77 {xs : List (Nat × (Fr → World → Prop))} {rt : Fr → World → Prop} (frm : Fr) (bx br R : Nat) (v y : Value) (es : List Pr2) (w : World) (hx : Own w ⟨bx, 44, [.pointer (some ⟨br, 0, none⟩)]⟩) (ho : Own w ⟨br, 101, [.int .i64 (R : Nat), v]⟩) (hv : RdS pairC w v es) (K : Fr → World → Prop) (hK : ∀ (f' : Fr) (w' : World), (f' 0 = y ∧ f' 1 = .pointer (some ⟨bx, 0, none⟩) ∧ Upd [] w w') → K f' w') : VC Tryz.prog 24 MP_pA77 K xs rt (upd (upd frm 0 y) 1 (.pointer (some ⟨bx, 0, none⟩))) w := by
 have hM0 : Mem w [] w [] := Mem.nil w []
 unfold MP_pA77
 refine seq fun _ h1 => ld (v := .pointer (some ⟨br, 0, none⟩)) rfl ((hx.upd hM0.upd (by simp)).cell 0) <| stp (v := .bool false) (o_isnil rfl rfl) <| h1 _ _ <| cndF rfl <| hK _ _ <| ⟨rfl, rfl, hM0.upd⟩
noncomputable def MP_pB77 : MC :=
 (.reg [.l none (some 7) (.ld none (.tmp 1)),
  .p none 8 (.nilchk (.tmp 7)),
  .p none 9 (.fa 1 (.tmp 8)),
  .l none (some 10) (.ld none (.tmp 9)),
  .p none 11 (.len (.tmp 10)),
  .p none 12 (.mv (.const (.int .i64 0)))])
set_option maxRecDepth 100000 in
theorem pB77 {xs : List (Nat × (Fr → World → Prop))} {rt : Fr → World → Prop} (frm : Fr) (bx br R : Nat) (v y : Value) (es : List Pr2) (w : World) (hx : Own w ⟨bx, 44, [.pointer (some ⟨br, 0, none⟩)]⟩) (ho : Own w ⟨br, 101, [.int .i64 (R : Nat), v]⟩) (hv : RdS pairC w v es) (K : Fr → World → Prop) (hK : ∀ (f' : Fr) (w' : World), (f' 0 = y ∧ f' 10 = v ∧ f' 11 = .int .i64 (es.length : Nat) ∧ f' 12 = .int .i64 ((0 : Nat) : Int) ∧ Upd [] w w') → K f' w') : VC Tryz.prog 24 MP_pB77 K xs rt (upd (upd frm 0 y) 1 (.pointer (some ⟨bx, 0, none⟩))) w := by
 have hM0 : Mem w [] w [] := Mem.nil w []
 unfold MP_pB77
 refine ld (v := .pointer (some ⟨br, 0, none⟩)) rfl ((hx.upd hM0.upd (by simp)).cell 0) <| nilchk rfl <| fa rfl <| ld (v := v) rfl ((ho.upd hM0.upd (by simp)).cell 1) <| stp (v := .int .i64 (es.length : Nat)) (o_lenR (hv.upd hM0.upd) rfl rfl) <| mv <| hK _ _ <| ⟨rfl, rfl, rfl, rfl, hM0.upd⟩
noncomputable def MP_pD77 : MC :=
 (.seq (.reg [.p none 14 (.idx 2 (.tmp 10) (.tmp 12)),
  .l none (some 15) (.ld (some 2) (.tmp 14)),
  .l none (some 4) (.al 107 [(.string ⟨#[]⟩), (.string ⟨#[]⟩)]),
  .l none none (.st 2 (.tmp 4) (.tmp 15))])
  (.reg [.p none 16 (.mv (.tmp 0)),
   .p none 17 (.fa 0 (.tmp 4)),
   .l none (some 18) (.ld none (.tmp 17)),
   .p none 19 (.fa 1 (.tmp 4)),
   .l none (some 20) (.ld none (.tmp 19))]))
set_option maxRecDepth 100000 in
theorem pD77 {xs : List (Nat × (Fr → World → Prop))} {rt : Fr → World → Prop} (frm : Fr) (v y : Value) (es : List Pr2) (i : Nat) (hi : i < es.length) (hn : es.length ≤ 65536) (w : World) (hv : RdS pairC w v es) (K : Fr → World → Prop) (hK : ∀ (f' : Fr) (w' : World), (f' 0 = y ∧ f' 10 = v ∧ f' 11 = .int .i64 (es.length : Nat) ∧ f' 12 = .int .i64 (i : Nat) ∧ f' 16 = y ∧ f' 18 = .string (str (es.getD i ([], [])).1) ∧ f' 20 = .string (str (es.getD i ([], [])).2) ∧ Upd [] w w') → K f' w') : VC Tryz.prog 24 MP_pD77 K xs rt (upd (upd (upd (upd frm 0 y) 10 v) 11 (.int .i64 (es.length : Nat))) 12 (.int .i64 (i : Nat))) w := by
 have hM0 : Mem w [] w [] := Mem.nil w []
 unfold MP_pD77
 refine seq fun _ h1 => m_idxS ([], []) (j := i) (hv.upd hM0.upd) rfl rfl (by omega) fun b2 o2 hp2 => ldA (cs := [.string (str ((es.getD i ([], [])).1)), .string (str ((es.getD i ([], [])).2))]) rfl rfl (hp2.row (k := 0) rfl rfl) <| m_al hM0 fun b3 w4 (hM4 : Mem _ _ w4 [[⟨b3, 107, [.string (str ([])), .string (str ([]))]⟩]]) => m_stA (l := [.string (str ((es.getD i ([], [])).1)), .string (str ((es.getD i ([], [])).2))]) hM4 (i := 0) rfl rfl rfl rfl (by simp [oneCells, Value.oneCell', byteV]) (by simp) fun w5 (hM5 : Mem _ _ w5 [[⟨b3, 107, [.string (str ((es.getD i ([], [])).1)), .string (str ((es.getD i ([], [])).2))]⟩]]) => h1 _ _ <| mv <| fa rfl <| m_ld (v := .string (str ((es.getD i ([], [])).1))) hM5 (i := 0) (j := 0) rfl rfl rfl rfl <| fa rfl <| m_ld (v := .string (str ((es.getD i ([], [])).2))) hM5 (i := 0) (j := 0) rfl rfl rfl rfl <| hK _ _ <| ⟨rfl, rfl, rfl, rfl, rfl, rfl, rfl, hM5.upd⟩
noncomputable def MP_pC77 : MC :=
 (.reg [.p none 13 (.bin .lss .i64 (.tmp 12) (.tmp 11))])
set_option maxRecDepth 100000 in
theorem pC77 {xs : List (Nat × (Fr → World → Prop))} {rt : Fr → World → Prop} (frm : Fr) (v y : Value) (n i : Nat) (hn : n ≤ 65536) (hi : i ≤ n) (w : World) (K : Fr → World → Prop) (hK : ∀ (f' : Fr) (w' : World), (f' 0 = y ∧ f' 10 = v ∧ f' 11 = .int .i64 (n : Nat) ∧ f' 12 = .int .i64 (i : Nat) ∧ f' 13 = .bool (decide ((i : Nat) < n)) ∧ w' = w) → K f' w') : VC Tryz.prog 24 MP_pC77 K xs rt (upd (upd (upd (upd frm 0 y) 10 v) 11 (.int .i64 (n : Nat))) 12 (.int .i64 (i : Nat))) w := by
 have hM0 : Mem w [] w [] := Mem.nil w []
 unfold MP_pC77
 refine bn rfl rfl <| hK _ _ <| ⟨rfl, rfl, rfl, rfl, (by show Value.bool _ = Value.bool _; congr 1; simp), rfl⟩
noncomputable def MP_pE77 : MC :=
 (.reg [.p none 23 (.bin .add .i64 (.tmp 12) (.const (.int .i64 1))),
  .p none 12 (.mv (.tmp 23))])
set_option maxRecDepth 100000 in
theorem pE77 {xs : List (Nat × (Fr → World → Prop))} {rt : Fr → World → Prop} (frm : Fr) (v y : Value) (n i : Nat) (hn : n ≤ 65536) (hi : i ≤ n) (w : World) (K : Fr → World → Prop) (hK : ∀ (f' : Fr) (w' : World), (f' 0 = y ∧ f' 10 = v ∧ f' 11 = .int .i64 (n : Nat) ∧ f' 12 = .int .i64 ((i + 1 : Nat) : Int) ∧ w' = w) → K f' w') : VC Tryz.prog 24 MP_pE77 K xs rt (upd (upd (upd (upd frm 0 y) 10 v) 11 (.int .i64 (n : Nat))) 12 (.int .i64 (i : Nat))) w := by
 have hM0 : Mem w [] w [] := Mem.nil w []
 unfold MP_pE77
 refine stp (v := .int .i64 ((i : Nat) + 1)) (o_bin rfl rfl (v_add64 (by omega))) <| mv <| hK _ _ <| ⟨rfl, rfl, rfl, (by show Value.int _ _ = Value.int _ _; congr 1), rfl⟩
noncomputable def MP_pN77 : MC :=
 (.seq (.reg [.l none (some 5) (.ld none (.tmp 1)),
  .p none 6 (.isnil false 0 (.tmp 5))])
 (.cond (.tmp 6)
  .ret
  .skip))
set_option maxRecDepth 100000 in
theorem pN77 {xs : List (Nat × (Fr → World → Prop))} {rt : Fr → World → Prop} (frm : Fr) (bx : Nat) (y : Value) (w : World) (hx : Own w ⟨bx, 44, [.pointer none]⟩) (hrt : ∀ f' w', Upd [] w w' → rt f' w') (K : Fr → World → Prop) (hK : ∀ (f' : Fr) (w' : World), (False) → K f' w') : VC Tryz.prog 24 MP_pN77 K xs rt (upd (upd frm 0 y) 1 (.pointer (some ⟨bx, 0, none⟩))) w := by
 have hM0 : Mem w [] w [] := Mem.nil w []
 unfold MP_pN77
 refine seq fun _ h1 => ld (v := .pointer none) rfl ((hx.upd hM0.upd (by simp)).cell 0) <| stp (v := .bool true) (o_isnil rfl rfl) <| h1 _ _ <| cndT rfl <| hrt _ _ hM0.upd
end Go.Proofs.YtifnmbmijljhfaaGreat.E
namespace Go.Proofs.YtifnmbmijljhfaaGreat.E
open Go Go.RowKit
theorem Upd.of_below {n : Nat} {w0 w w' : World} (u : Upd [] w0 w) (h : Below n w w') (hn : w0.heap.size ≤ n) : Upd [] w0 w' :=
 ⟨h.os.trans u.os, h.tape.trans u.tape, h.output.trans u.output, Nat.le_trans u.size h.size, fun b hb hS => (h.block b (by omega)).trans (u.block b hb hS)⟩
theorem Upd.grown {w w' : World} (u : Upd [] w w') : w.grownBy w' none := ⟨u.os, u.tape, u.output, u.size, fun k hk _ => u.block k hk (by simp)⟩
theorem frm0 (args : List Value) (nt : Nat) (hn : args.length ≤ nt) : Frm [] nt (fr0 args) { tmps := args.toArray ++ Array.replicate (nt - args.toArray.size) undef, defers := [] } := by
 refine ⟨by simp; omega, fun i => ?_, rfl⟩
 simp only [fr0, Array.getD_eq_getD_getElem?, List.getD_eq_getElem?_getD]
 by_cases hi : i < args.length
 ·rw [Array.getElem?_append_left (by simpa using hi)]; simp
 rw [Array.getElem?_append_right (by simpa using hi)]
 simp only [List.getElem?_eq_none (by omega : args.length ≤ i), Option.getD_none, Array.getElem?_replicate]
 split <;> rfl
theorem pieceIn {P : Program} {D : List Deferred} {ro : Option Nat} {nt n : Nat} {c rest : Code} {m : MC} {N r : Fr → World → Prop} {xs : List (Nat × (Fr → World → Prop))} {Q : Exit → Act → World → Prop} {f : Fr} {a : Act} {w : World} (hc : compile P nt c = some m) (hp1 : plainC c = true) (hp2 : plainM m = true) (hf : Frm D nt f a)
 (hv : VC P nt m N xs r f w) (hn : ∀ f a w, Frm D nt f a → N f w → rest.wpIn { Fence.wide with round := ro } n P Q a w) (hr : ∀ f a w, Frm D nt f a → r f w → Q .ret a w) (hx : ∀ i f a w, Frm D nt f a → exitK i xs f w → Q (.exit i) a w) : (Code.seq c rest).wpIn { Fence.wide with round := ro } n P Q a w := by
 refine wpIn_seq (wpIn_mono (code_soundIn c m _ _ _ _ _ _ hc hp1 hp2 hv hf) ?_)
 rintro e a' w' ⟨f', hf', h'⟩
 cases e with
 | normal => exact hn _ _ _ hf' h'
 | ret => exact hr _ _ _ hf' h'
 | exit i => exact hx i _ _ _ hf' h'
 | _ => exact h'.elim
theorem callv_yield {P : Program} {ro : Option Nat} {n l : Nat} {dst : Option Tmp} {q : Operand} {av : Array Operand} {ats : Array TypeId} {ty : TypeId} {pos : String} {aft : Array Edge} {gd : Option (Nat × Bool)} {f : Fr} {a : Act} {w : World} {R : Ending → World → Prop} {next : Act → World → Prop} {Q : Exit → Act → World → Prop}
 (ha : a.eval = ev f) (hq : ev f q = .func (.yield l) #[] #[]) (hy : YieldAt { Fence.wide with round := ro } (n - 1) P l (av.map (ev f)) w R) (hR : ∀ e w', R e w' → ∃ v, e = .returned v ∧ next (a.put dst v) w') :
 (⟨dst, .call ⟨.value q, av, ats⟩, ty, pos, aft, gd⟩ : Oper).wpIn { Fence.wide with round := ro } n P a w next Q := by
 obtain ⟨fn, tmps, assign, body, h1, h2⟩ := hy
 refine ⟨fun _ _ => trivial, ?_⟩
 rw [Oper.semAt_eq _ _ _ (fun c h => by cases h)]
 have e : (execOp a.eval (⟨dst, .call ⟨.value q, av, ats⟩, ty, pos, aft, gd⟩ : Oper)).run P w = .ok (.round l fn tmps assign body) w := by
  rw [ha, ← h1]
  simp [execOp, resolve, hq, Deferred.ofValue, invoke]
 rw [e, Oper.uponIn_round]
 refine ⟨fun h => (nomatch h), RoundIn.mono h2 ?_⟩
 intro e w' h
 obtain ⟨v, rfl, hn⟩ := hR e w' h
 exact hn
noncomputable def b77 : Code := Tryz.f77.body.getD .skip
theorem k0 : compile Tryz.prog 24 (sub [0] b77) = some MP_pA77 := by kernel_rfl
theorem k1 : compile Tryz.prog 24 (sub [1, 0] b77) = some MP_pB77 := by kernel_rfl
theorem k2 : compile Tryz.prog 24 (sub [1, 1, 2, 3, 0] b77) = some MP_pC77 := by kernel_rfl
theorem k3 : compile Tryz.prog 24 (sub [1, 1, 2, 3, 1, 0] b77) = some (.cond (.tmp 13) .skip (.exit 0)) := by kernel_rfl
theorem k6 : compile Tryz.prog 24 (sub [1, 1, 2, 3, 1, 1, 1] b77) = some MP_pE77 := by kernel_rfl
theorem s77 : b77 = .seq (sub [0] b77) (.seq (sub [1, 0] b77) (.block 0 (.loop (.seq (sub [1, 1, 2, 3, 0] b77) (.seq (sub [1, 1, 2, 3, 1, 0] b77) (.seq (.block 1 (sub [1, 1, 2, 3, 1, 1, 0, 2] b77)) (sub [1, 1, 2, 3, 1, 1, 1] b77))))))) := by kernel_rfl
def regOps : Code → Array Oper
 | .region _ o _ => o
 | _ => #[]
def regId : Code → Nat
 | .region i _ _ => i
 | _ => 0
def mcR : MC → List MI
 | .reg l => l
 | _ => []
def mcA : MC → MC
 | .seq a _ => a
 | _ => .skip
def mcB : MC → MC
 | .seq _ b => b
 | _ => .skip
noncomputable def e77 : Code := sub [1, 1, 2, 3, 1, 1, 0, 2, 1, 0] b77
theorem s77b : sub [1, 1, 2, 3, 1, 1, 0, 2] b77 = .seq (sub [1, 1, 2, 3, 1, 1, 0, 2, 0] b77) (.seq (.region (regId e77) (regOps e77) false) (sub [1, 1, 2, 3, 1, 1, 0, 2, 1, 1] b77)) := by kernel_rfl
theorem k4 : compile Tryz.prog 24 (sub [1, 1, 2, 3, 1, 1, 0, 2, 0] b77) = some (mcA MP_pD77) := by kernel_rfl
theorem k5 : compReg Tryz.prog 24 (regOps e77) [] ((regOps e77).toList.take 5) = some (mcR (mcB MP_pD77)) := by kernel_rfl
theorem k7 : compile Tryz.prog 24 (sub [1, 1, 2, 3, 1, 1, 0, 2, 1, 1] b77) = some (.cond (.tmp 22) .ret .skip) := by kernel_rfl
theorem l77 : ∃ ats ty pos aft t ty2 pos2 aft2, (regOps e77).toList = (regOps e77).toList.take 5 ++ [⟨some 21, .call ⟨.value (.tmp 16), #[.tmp 18, .tmp 20], ats⟩, ty, pos, aft, none⟩, ⟨some 22, .unOp .not t (.tmp 21), ty2, pos2, aft2, none⟩] := ⟨_, _, _, _, _, _, _, _, rfl⟩
end Go.Proofs.YtifnmbmijljhfaaGreat.E
