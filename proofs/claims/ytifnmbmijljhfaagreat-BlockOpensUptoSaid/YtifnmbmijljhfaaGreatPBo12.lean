/- Part 12 of the proof of what the last of these files says. -/
import Derived.Test.YtifnmbmijljhfaaGreatPBo11
import Derived.LoopNIn
namespace Go.Proofs.YtifnmbmijljhfaaGreat.E
open Go Go.RowKit
theorem exit1 {K : Fr → World → Prop} {id i : Nat} {f : Fr} {w : World} (h : exitK i [(id, K)] f w) : i = id ∧ K f w := by
 simp only [exitK] at h
 split at h
 ·rename_i e; exact ⟨e.symm, h⟩
 exact h.elim
def KD77 (l : Nat) (v : Value) (es : List Pr2) (i : Nat) (w : World) (f' : Fr) (w' : World) : Prop := f' 0 = .func (.yield l) #[] #[] ∧ f' 10 = v ∧ f' 11 = .int .i64 (es.length : Nat) ∧ f' 12 = .int .i64 (i : Nat) ∧ f' 16 = .func (.yield l) #[] #[] ∧ f' 18 = .string (str (es.getD i ([], [])).1) ∧ f' 20 = .string (str (es.getD i ([], [])).2) ∧ Upd [] w w'
set_option maxRecDepth 100000 in
theorem rounds77 {n l : Nat} {w1 W0 : World} {v : Value} {es : List Pr2} (hn : es.length ≤ 65536) (hv : RdS pairC w1 v es) {J Jx : List Pr2 → World → Prop} (hJ : AbidesFrom W0.heap.size J)
 (hY : ∀ (pre : List Pr2) (x : Pr2) (W : World), J pre W → pre.length < es.length → YieldAt Fence.wide (n - 1) Tryz.prog l #[.string (str x.1), .string (str x.2)] W fun e W' => (e = .returned (.bool true) ∧ J (pre ++ [x]) W' ∧ Below w1.heap.size W W') ∨ (e = .returned (.bool false) ∧ Jx (pre ++ [x]) W'))
 {R : Ending → World → Prop} (hdone : ∀ W, J es W → R (.returned (.tuple #[])) W) (hstop : ∀ pre W, pre <+: es → Jx pre W → R (.returned (.tuple #[])) W) :
 ∀ (m i : Nat) (f : Fr) (a : Act) (wr : World), m + i = es.length + 1 → i ≤ es.length → Frm [] 24 f a → f 0 = .func (.yield l) #[] #[] → f 10 = v → f 11 = .int .i64 (es.length : Nat) → f 12 = .int .i64 (i : Nat) → J (es.take i) wr → Upd [] w1 wr →
  Code.roundsIn Fence.wide n Tryz.prog (.seq (sub [1, 1, 2, 3, 0] b77) (.seq (sub [1, 1, 2, 3, 1, 0] b77) (.seq (.block 1 (sub [1, 1, 2, 3, 1, 1, 0, 2] b77)) (sub [1, 1, 2, 3, 1, 1, 1] b77)))) (Exit.inBlock 0 (bodyPost Tryz.prog Tryz.f77 R)) m a wr := by
 intro m
 induction m with
 | zero => intro i f a wr hm hi; omega
 | succ m ih =>
  intro i f a wr hm hi hf h0 h10 h11 h12 hJi u
  rw [roundsIn_succ]
  obtain ⟨frm, rfl⟩ := re4 h0 h10 h11 h12
  refine pieceIn (ro := none) (xs := []) (r := fun _ _ => False) k2 (by kernel_rfl) (by kernel_rfl) hf (pC77 frm v _ es.length i hn hi wr _ fun _ _ h => h) ?_ (fun _ _ _ _ h => h.elim) (fun _ _ _ _ _ h => h.elim)
  rintro f1 a1 w0 hf1 ⟨e0, e10, e11, e12, e13, hw0⟩
  subst w0
  by_cases hlt : i < es.length
  ·refine pieceIn (ro := none) (N := fun f' w' => f' = f1 ∧ w' = wr) (xs := []) (r := fun _ _ => False) k3 (by kernel_rfl) rfl hf1 (cndT (by show f1 13 = _; rw [e13, decide_eq_true hlt]) ⟨rfl, rfl⟩) ?_ (fun _ _ _ _ h => h.elim) (fun _ _ _ _ _ h => h.elim)
   rintro f2 a2 w0 hf2 ⟨hf0, hw0⟩
   subst w0
   subst f2
   refine wpIn_seq (wpIn_block ?_)
   rw [s77b]
   obtain ⟨frm1, rfl⟩ : ∃ frm, f1 = upd (upd (upd (upd frm 0 (.func (.yield l) #[] #[])) 10 v) 11 (.int .i64 (es.length : Nat))) 12 (.int .i64 (i : Nat)) := ⟨f1, by rw [upd_self e0, upd_self e10, upd_self e11, upd_self e12]⟩
   have hD := pD77 (xs := []) (rt := fun _ _ => False) frm1 v (.func (.yield l) #[] #[]) es i hlt hn wr (hv.upd u) (KD77 l v es i wr) fun _ _ h => h
   refine wpIn_seq (wpIn_mono (code_soundIn (ro := none) (xs := []) (r := fun _ _ => False) _ (mcA MP_pD77) (fun f w => vr Tryz.prog (mcR (mcB MP_pD77)) f w (KD77 l v es i wr)) _ _ _ k4 (by kernel_rfl) (by kernel_rfl) hD hf2) ?_)
   rintro e a3 w3 ⟨f3, hf3, h3⟩
   cases e with
   | normal =>
    refine wpIn_seq (wpIn_region_list ?_)
    obtain ⟨ats, ty, pos, aft, t, ty2, pos2, aft2, hl⟩ := l77
    rw [hl]
    refine reg_soundIn (ro := none) ?_ _ _ _ _ _ _ k5 hf3 h3
    rintro f4 a4 w4 hf4 ⟨d0, d10, d11, d12, d16, d18, d20, u4⟩
    refine wpListIn_plain rfl fun K hK => ?_
    have hy := hY (es.take i) (es.getD i ([], [])) w4 (hJ _ _ _ none hJi u4.grown (fun r e => by cases e)) (by rw [List.length_take]; omega)
    have hav : (#[Operand.tmp 18, Operand.tmp 20]).map (ev f4) = #[.string (str (es.getD i ([], [])).1), .string (str (es.getD i ([], [])).2)] := by
     simp [show ev f4 (.tmp 18) = _ from d18, show ev f4 (.tmp 20) = _ from d20]
    rw [← hav] at hy
    refine callv_yield (ro := none) hf4.eval d16 hy ?_
    have htk : es.take i ++ [es.getD i ([], [])] = es.take (i + 1) := by
     rw [List.take_add_one, List.getElem?_eq_getElem hlt, List.getD_eq_getElem?_getD, List.getElem?_eq_getElem hlt]; rfl
    rintro e w5 (⟨rfl, hJ5, hk5⟩ | ⟨rfl, hJx5⟩)
    ·refine ⟨_, rfl, hK _ _ ?_⟩
     have hf5 := hf4.put (d := some 21) (by decide) (.bool true)
     refine reg_soundIn (ro := none) (l2 := []) (K := fun f w => f 22 = .bool false ∧ f 0 = .func (.yield l) #[] #[] ∧ f 10 = v ∧ f 11 = .int .i64 (es.length : Nat) ∧ f 12 = .int .i64 (i : Nat) ∧ w = w5) ?_ [_] [] [.p none 22 (.not (.tmp 21))] _ _ _ rfl hf5 ⟨rfl, d0, d10, d11, d12, rfl⟩
     rintro f6 a6 w6 hf6 ⟨g22, g0, g10, g11, g12, hw6⟩
     subst w6
     refine wpIn_mono (code_soundIn (ro := none) (xs := []) (r := fun _ _ => False) _ _ (fun f w => f = f6 ∧ w = w5) _ _ _ k7 (by kernel_rfl) rfl (cndF g22 ⟨rfl, rfl⟩) hf6) ?_
     rintro e a7 w7 ⟨f7, hf7, h7⟩
     cases e with
     | normal =>
      obtain ⟨hf0, hw0⟩ := h7
      subst w7
      subst f7
      obtain ⟨frm2, rfl⟩ : ∃ frm, f6 = upd (upd (upd (upd frm 0 (.func (.yield l) #[] #[])) 10 v) 11 (.int .i64 (es.length : Nat))) 12 (.int .i64 (i : Nat)) := ⟨f6, by rw [upd_self g0, upd_self g10, upd_self g11, upd_self g12]⟩
      refine wpIn_mono (code_soundIn (ro := none) (xs := []) (r := fun _ _ => False) _ _ _ _ _ _ k6 (by kernel_rfl) (by kernel_rfl) (pE77 frm2 v _ es.length i hn hi w5 _ fun _ _ h => h) hf7) ?_
      rintro e a8 w8 ⟨f8, hf8, h8⟩
      cases e with
      | normal =>
       obtain ⟨q0, q10, q11, q12, hw8⟩ := h8
       subst w8
       exact ih (i + 1) f8 a8 w5 (by omega) (by omega) hf8 q0 q10 q11 q12 (htk ▸ hJ5) ((u.trans u4).of_below hk5 (Nat.le_refl _))
      | _ => exact h8.elim
     | _ => exact h7.elim
    refine ⟨_, rfl, hK _ _ ?_⟩
    have hf5 := hf4.put (d := some 21) (by decide) (.bool false)
    refine reg_soundIn (ro := none) (l2 := []) (K := fun f w => f 22 = .bool true ∧ f 0 = .func (.yield l) #[] #[] ∧ f 10 = v ∧ f 11 = .int .i64 (es.length : Nat) ∧ f 12 = .int .i64 (i : Nat) ∧ w = w5) ?_ [_] [] [.p none 22 (.not (.tmp 21))] _ _ _ rfl hf5 ⟨rfl, d0, d10, d11, d12, rfl⟩
    rintro f6 a6 w6 hf6 ⟨g22, g0, g10, g11, g12, hw6⟩
    subst w6
    refine wpIn_mono (code_soundIn (ro := none) (xs := []) (r := fun _ w => w = w5) _ _ (fun _ _ => False) _ _ _ k7 (by kernel_rfl) rfl (cndT g22 rfl) hf6) ?_
    rintro e a7 w7 ⟨f7, hf7, h7⟩
    cases e with
    | ret =>
     have hw7 : w7 = w5 := h7
     subst w7
     exact bodyPost_ret (results_none rfl _ _ _) hf7.defers (hstop (es.take (i + 1)) _ (List.take_prefix _ _) (htk ▸ hJx5))
    | _ => exact h7.elim
   | _ => exact h3.elim
  refine pieceIn (ro := none) (N := fun _ _ => False) (xs := [(0, fun f' w' => f' = f1 ∧ w' = wr)]) (r := fun _ _ => False) k3 (by kernel_rfl) rfl hf1 (cndF (by show f1 13 = _; rw [e13, decide_eq_false hlt]) (show exitK 0 _ _ _ from by simp [exitK])) (fun _ _ _ _ h => h.elim) (fun _ _ _ _ h => h.elim) ?_
  rintro id f2 a2 w2 hf2 h2
  obtain ⟨hid, hf0, hw0⟩ := exit1 h2
  subst id
  subst w2
  refine bodyPost_end (results_none rfl _ _ _) hf2.defers (hdone _ ?_)
  rw [List.take_of_length_le (by omega)] at hJi
  exact hJi
theorem k0n : compile Tryz.prog 24 (sub [0] b77) = some MP_pN77 := by kernel_rfl
set_option maxRecDepth 100000 in
theorem All_stops (n : Nat) (w1 w : World) (bx R : Nat) (g : Bool) (rv : Value) (es : List Pr2) (hn : es.length ≤ 65536) (hbx : Own w ⟨bx, 44, [rv]⟩) (hP : PX R es w1 g rv) (u : Upd [] w1 w) :
 SeqStopsK Fence.wide n Tryz.prog 77 #[.pointer (some ⟨bx, 0, none⟩)] (fun x : Pr2 => #[.string (str x.1), .string (str x.2)]) (Below w1.heap.size) (fun xs => xs = es) (fun pre => pre <+: es) es.length w := by
 intro l J Jx W hW hJ hJx hY h0
 have u1 : Upd [] w1 W := u.of_below hW u.size
 have uw : Upd [] w W := (Upd.refl [] w).of_below hW (Nat.le_refl _)
 have hf := frm0 [.func (.yield l) #[] #[], .pointer (some ⟨bx, 0, none⟩)] 24 (by simp)
 have z0 : fr0 [.func (.yield l) #[] #[], .pointer (some ⟨bx, 0, none⟩)] 0 = .func (.yield l) #[] #[] := rfl
 have z1 : fr0 [.func (.yield l) #[] #[], .pointer (some ⟨bx, 0, none⟩)] 1 = .pointer (some ⟨bx, 0, none⟩) := rfl
 obtain ⟨frm, hfr⟩ : ∃ frm, fr0 [.func (.yield l) #[] #[], .pointer (some ⟨bx, 0, none⟩)] = upd (upd frm 0 (.func (.yield l) #[] #[])) 1 (.pointer (some ⟨bx, 0, none⟩)) := ⟨fr0 [.func (.yield l) #[] #[], .pointer (some ⟨bx, 0, none⟩)], by rw [upd_self z0, upd_self z1]⟩
 rw [hfr] at hf
 rcases hP with ⟨rfl, br, v, rfl, ho, hv⟩ | ⟨rfl, rfl, rfl⟩
 ·refine callsIn_of_wp (c := b77) Tryz.func77 (by kernel_rfl) trivial ?_ rfl
  rw [s77]
  refine pieceIn (ro := none) (xs := []) (r := fun _ _ => False) k0 (by kernel_rfl) (by kernel_rfl) hf (pA77 frm bx br R v _ es W (hbx.upd uw (by simp)) (ho.upd u1 (by simp)) (hv.upd u1) _ fun _ _ h => h) ?_ (fun _ _ _ _ h => h.elim) (fun _ _ _ _ _ h => h.elim)
  rintro f1 a1 w2 hf1 ⟨e0, e1, u2⟩
  have u12 := u1.trans u2
  obtain ⟨frm1, rfl⟩ : ∃ frm, f1 = upd (upd frm 0 (.func (.yield l) #[] #[])) 1 (.pointer (some ⟨bx, 0, none⟩)) := ⟨f1, by rw [upd_self e0, upd_self e1]⟩
  refine pieceIn (ro := none) (xs := []) (r := fun _ _ => False) k1 (by kernel_rfl) (by kernel_rfl) hf1 (pB77 frm1 bx br R v _ es w2 (hbx.upd (uw.trans u2) (by simp)) (ho.upd u12 (by simp)) (hv.upd u12) _ fun _ _ h => h) ?_ (fun _ _ _ _ h => h.elim) (fun _ _ _ _ _ h => h.elim)
  rintro f2 a2 w3 hf2 ⟨g0, g10, g11, g12, u3⟩
  refine wpIn_block (wpIn_loop_rounds (es.length + 1) <| rounds77 hn hv hJ hY (fun W' h => ⟨⟨_, rfl⟩, .inl ⟨es, rfl, h⟩⟩) (fun pre W' h1 h2 => ⟨⟨_, rfl⟩, .inr ⟨pre, h1, h2⟩⟩) (es.length + 1) 0 f2 a2 w3 rfl (Nat.zero_le _) hf2 g0 g10 g11 g12 (hJ _ _ _ none h0 (u2.trans u3).grown (fun r e => by cases e)) (u12.trans u3))
 refine callsIn_of_wp (c := b77) Tryz.func77 (by kernel_rfl) trivial ?_ rfl
 rw [s77]
 refine pieceIn (ro := none) (xs := []) (r := fun _ w' => Upd [] W w') (N := fun _ _ => False) k0n (by kernel_rfl) (by kernel_rfl) hf (pN77 frm bx _ W (hbx.upd uw (by simp)) (fun _ _ h => h) _ fun _ _ h => h) (fun _ _ _ _ h => h.elim) ?_ (fun _ _ _ _ _ h => h.elim)
 intro f1 a1 w2 hf1 u2
 exact bodyPost_ret (results_none rfl _ _ _) hf1.defers ⟨⟨_, rfl⟩, .inl ⟨[], rfl, hJ _ _ _ none h0 u2.grown (fun r e => by cases e)⟩⟩
end Go.Proofs.YtifnmbmijljhfaaGreat.E
namespace Go.Proofs.YtifnmbmijljhfaaGreat.E
open Go
theorem PAll_ok (R : Nat) (es : List Pr2) (w : World) (g : Bool) (b : Value) (h : PX R es w g b) : Calls Tryz.prog 42 [b].toArray w (Rt fun r w' => ∃ bx, r = .func (.func 77) #[] #[.pointer (some ⟨bx, 0, none⟩)] ∧ Mem w [] w' [[⟨bx, 44, [b]⟩]]) := by
 rcases h with ⟨rfl, br, v, rfl, h1, h2⟩ | ⟨rfl, rfl, rfl⟩
 ·exact All_ok _ w
 exact All_ok _ w
theorem QAtIn_ok (es : List Pr2) (i : Nat) (hi : i < es.length) (hn : es.length ≤ 65536) (w : World) (g : Bool) (b : Value) (h : QX es w g b) : Calls Tryz.prog 43 [b, .int .i64 (i : Nat)].toArray w (Rt fun r w' => r = .tuple [.string (str (es.getD i ([], [])).1), .string (str (es.getD i ([], [])).2), .int .i64 0].toArray ∧ Upd [] w w') := by
 rcases h with ⟨rfl, br, v, rfl, h1, h2⟩ | ⟨rfl, rfl, rfl⟩
 ·refine (QAt_1 br v es i (by simp only [inK]; omega) w h1 h2).mono fun en w2 h => h.elim fun v h => ⟨v, h.1, ?_, h.2.2⟩
  rw [h.2.1, atX_in rfl hi]
 exact absurd hi (by simp)
def earlyF (k v : List UInt8) : Int := IntKind.i64.wrap (IntKind.i64.wrap (IntKind.i64.wrap (0 + (k.length : Nat)) + (v.length : Nat)) + 1)
noncomputable def MP_pP1 : MC :=
 (.seq (.reg [.l none (some 4) (.bx 47 (.tmp 1)),
  .l none (some 6) (.al 4 [(.bool false)])])
 (.seq (.seq (.dreg (.line [.qp 0 none 25 (.mv (.tmp 0)),
  .ql 2 none 27 none (.tmp 4),
  .l 1 none (some 26) (.call 40 [(.tmp 25)]),
  .l 3 none (some 28) (.call 41 [(.tmp 27)]),
  .qp 4 none 29 (.bin .neq .i64 (.tmp 26) (.tmp 28))]))
 (.cond (.tmp 29)
  (.seq (.reg [.l none none (.st 1 (.tmp 6) (.const (.bool false)))])
  .ret)
  .skip))
 (.seq (.reg [.p none 30 (.mv (.tmp 0)),
  .l none (some 31) (.call 42 [(.tmp 30)]),
  .p none 7 (.mv (.tmp 31))])
 (.seq (.seq (.reg [.p none 32 (.mv (.tmp 7)),
  .p none 33 (.isnil false 2 (.tmp 32))])
 (.cond (.tmp 33)
  (.seq (.reg [.l none none (.st 1 (.tmp 6) (.const (.bool false)))])
  .ret)
  .skip))
 (.seq (.reg [.l none (some 8) (.al 3 [(.int .i64 0)]),
  .l none none (.st 1 (.tmp 8) (.const (.int .i64 0)))])
 (.reg [.p none 34 (.mv (.tmp 7))]))))))
set_option maxRecDepth 100000 in
theorem pP1 {xs : List (Nat × (Fr → World → Prop))} {rt : Fr → World → Prop} (frm : Fr) (R : Nat) (es : List Pr2) (g : Bool) (rp wp : Option Addr) (kv : Value) (ks : List (List UInt8)) (hn : es.length ≤ 65536) (w0 w : World) (S : List Nat) (hP : ∀ w', Upd S w0 w' → PX R es w' g (.pointer rp)) (hQ : ∀ w', Upd S w0 w' → QX es w' g (.pointer wp)) (hk : ∀ w', Upd S w0 w' → RdE strV w' kv ks) (hM : Mem w0 S w []) (K : Fr → World → Prop) (hK : ∀ (f' : Fr) (w' : World), (∃ b4 b6 bx b8, f' 0 = .pointer rp ∧ f' 2 = kv ∧ f' 4 = .pointer (some ⟨b4, 0, none⟩) ∧ f' 6 = .pointer (some ⟨b6, 0, none⟩) ∧ f' 7 = .func (.func 77) #[] #[.pointer (some ⟨bx, 0, none⟩)] ∧ f' 8 = .pointer (some ⟨b8, 0, none⟩) ∧ f' 34 = .func (.func 77) #[] #[.pointer (some ⟨bx, 0, none⟩)] ∧ Mem w0 S w' [[⟨b4, 47, [.pointer wp]⟩], [⟨b6, 4, [.bool false]⟩], [⟨bx, 44, [.pointer rp]⟩], [⟨b8, 3, [.int .i64 0]⟩]]) → K f' w') : VC Tryz.prog 131 MP_pP1 K xs rt (upd (upd (upd frm 0 ((.pointer rp))) 1 ((.pointer wp))) 2 kv) w := by
 have hM0 : Mem w0 S w [] := hM
 unfold MP_pP1
 refine seq fun _ h1 => m_bx (v := (.pointer wp)) hM0 rfl rfl fun b2 w3 (hM3 : Mem _ _ w3 [[⟨b2, 47, [(.pointer wp)]⟩]]) => m_al hM3 fun b4 w5 (hM5 : Mem _ _ w5 [_, [⟨b4, 4, [.bool false]⟩]]) => h1 _ _ <| seq fun _ h6 => seq fun _ h7 => ?_
 intro wd e1 e2 e3 e4
 have hd := Upd.same e1 e2 e3 e4 []
 have hM8 := hM5.pure hd
 clear e1 e2 e3 e4
 refine ⟨(some [b2]), ?_⟩
 show vd _ _ _ _ _ _ _
 refine dmv <| dqld rfl (by simp [isHeld]) (v := (.pointer wp)) ((hM8.at (i := 0) (j := 0) rfl rfl).cell 0) <| dl (m_call (PLen_ok R es wd g _ (hP _ hM8.upd)) rfl fun v9 w9 ⟨hr9, hu9⟩ => ?_)
 have hM9 : Mem w0 S w9 [[⟨b2, 47, [(.pointer wp)]⟩], [⟨b4, 4, [.bool false]⟩]] := hM8.pure hu9
 subst hr9
 have hh9 := held_upd (wr := wd) (bs := [b2]) hu9 (fun b hb => by
  simp only [List.mem_cons, List.not_mem_nil, or_false] at hb
  rw [hb]; exact ⟨(hM8.at (i := 0) (j := 0) rfl rfl).lt, by simp⟩) (fun b hb => rfl)
 refine ⟨hh9, dl (m_call (QLen_ok es w9 g _ (hQ _ hM9.upd)) rfl fun v10 w10 ⟨hr10, hu10⟩ => ?_)⟩
 have hM10 : Mem _ _ w10 [_, _] := hM9.pure hu10
 subst hr10
 have hh10 := held_upd (wr := wd) (bs := [b2]) hu10 (fun b hb => by
  simp only [List.mem_cons, List.not_mem_nil, or_false] at hb
  rw [hb]; exact ⟨(hM9.at (i := 0) (j := 0) rfl rfl).lt, by simp⟩) hh9
 refine ⟨hh10, dq (v := .bool false) (o_bin rfl rfl v_neF) <| h7 _ _ <| cndF rfl <| h6 _ _ <| seq fun _ h11 => mv <| m_call (PAll_ok R es w10 g _ (hP _ hM10.upd)) rfl fun v12 w12 ⟨bx, hr12, hm12⟩ => ?_⟩
 have hM12 : Mem _ _ w12 [_, _, [⟨bx, 44, [(.pointer rp)]⟩]] := hM10.add hm12
 subst hr12
 refine mv <| h11 _ _ <| seq fun _ h13 => seq fun _ h14 => mv <| stp (v := .bool false) (o_isnil rfl rfl) <| h14 _ _ <| cndF rfl <| h13 _ _ <| seq fun _ h15 => m_al hM12 fun b16 w17 (hM17 : Mem _ _ w17 [_, _, _, [⟨b16, 3, [.int .i64 0]⟩]]) => m_st (v := .int .i64 0) hM17 (i := 3) rfl rfl rfl rfl (by simp) fun w18 (hM18 : Mem _ _ w18 [_, _, _, _]) => h15 _ _ <| mv ?_
 refine hK _ _ <| ⟨_, _, _, _, rfl, rfl, rfl, rfl, rfl, rfl, rfl, hM18⟩
noncomputable def MP_pS1 : MC :=
 (.seq (.reg [.p none 9 (.mv (.tmp 35))])
 (.reg [.p none 10 (.mv (.tmp 36))]))
noncomputable def MP_pS2 : MC :=
 (.seq (.reg [.p none 12 (.mv (.tmp 52))])
 (.reg [.p none 13 (.mv (.tmp 53))]))
noncomputable def MP_pR1 : MC :=
 (.reg [.l none (some 37) (.ld none (.tmp 8)),
  .p none 38 (.mv (.tmp 9)),
  .p none 39 (.lens (.tmp 38)),
  .p none 40 (.bin .add .i64 (.tmp 37) (.tmp 39)),
  .p none 41 (.mv (.tmp 10)),
  .p none 42 (.lens (.tmp 41)),
  .p none 43 (.bin .add .i64 (.tmp 40) (.tmp 42)),
  .p none 44 (.bin .add .i64 (.tmp 43) (.const (.int .i64 1))),
  .l none none (.st 1 (.tmp 8) (.tmp 44))])
set_option maxRecDepth 100000 in
theorem pR1 {xs : List (Nat × (Fr → World → Prop))} {rt : Fr → World → Prop} (frm : Fr) (xk xv : List UInt8) (rp wp : Option Addr) (b4 b6 bx b8 : Nat) (w0 w : World) (S : List Nat) (hM : Mem w0 S w [[⟨b4, 47, [.pointer wp]⟩], [⟨b6, 4, [.bool false]⟩], [⟨bx, 44, [.pointer rp]⟩], [⟨b8, 3, [.int .i64 0]⟩]]) (K : Fr → World → Prop) (hK : ∀ (f' : Fr) (w' : World), (Mem w0 S w' [[⟨b4, 47, [.pointer wp]⟩], [⟨b6, 4, [.bool false]⟩], [⟨bx, 44, [.pointer rp]⟩], [⟨b8, 3, [.int .i64 (earlyF xk xv)]⟩]]) → K f' w') : VC Tryz.prog 131 MP_pR1 K xs rt (upd (upd (upd frm 8 (.pointer (some ⟨b8, 0, none⟩))) 9 (.string (str xk))) 10 (.string (str xv))) w := by
 have hM0 : Mem w0 S w [[⟨b4, 47, [(.pointer wp)]⟩], [⟨b6, 4, [.bool false]⟩], [⟨bx, 44, [(.pointer rp)]⟩], [⟨b8, 3, [.int .i64 0]⟩]] := hM
 unfold MP_pR1
 refine m_ld (v := .int .i64 0) hM0 (i := 3) (j := 0) rfl rfl rfl rfl <| mv <| stp (v := .int .i64 (xk.length : Nat)) (o_lens rfl rfl) <| stp (v := .int .i64 (IntKind.i64.wrap (0 + (xk.length : Nat)))) (o_bin rfl rfl rfl) <| mv <| stp (v := .int .i64 (xv.length : Nat)) (o_lens rfl rfl) <| stp (v := .int .i64 (IntKind.i64.wrap (IntKind.i64.wrap (0 + (xk.length : Nat)) + (xv.length : Nat)))) (o_bin rfl rfl rfl) <| stp (v := .int .i64 (earlyF xk xv)) (o_bin rfl rfl rfl) <| m_st (v := .int .i64 (earlyF xk xv)) hM0 (i := 3) rfl rfl rfl rfl (by simp) fun w1 (hM1 : Mem _ _ w1 [_, _, _, [⟨b8, 3, [.int .i64 (earlyF xk xv)]⟩]]) => hK _ _ <| hM1
noncomputable def MP_pP3 : MC :=
 (.seq (.seq (.dreg (.line [.ql 2 none 47 none (.tmp 4),
  .ql 0 none 45 none (.tmp 8),
  .qp 1 none 46 (.bin .gtr .i64 (.tmp 45) (.const (.int .i64 0))),
  .l 3 none (some 48) (.call 41 [(.tmp 47)]),
  .qp 4 none 49 (.bin .gtr .i64 (.tmp 48) (.const (.int .i64 0))),
  .qp 5 none 50 (.beq true (.tmp 46) (.tmp 49))]))
 (.cond (.tmp 50)
  (.seq (.reg [.l none none (.st 1 (.tmp 6) (.const (.bool false)))])
  .ret)
  .skip))
 (.seq (.reg [.l none (some 11) (.al 3 [(.int .i64 0)]),
  .l none none (.st 1 (.tmp 11) (.const (.int .i64 0)))])
 (.reg [.p none 51 (.mv (.tmp 7))])))
set_option maxRecDepth 100000 in
theorem pP3 {xs : List (Nat × (Fr → World → Prop))} {rt : Fr → World → Prop} (frm : Fr) (R : Nat) (es : List Pr2) (g : Bool) (rp wp : Option Addr) (kv : Value) (ks : List (List UInt8)) (hn : es.length ≤ 65536) (b4 b6 bx b8 : Nat) (E : Int) (hE : 0 < E ↔ 0 < es.length) (w0 w : World) (S : List Nat) (hP : ∀ w', Upd S w0 w' → PX R es w' g (.pointer rp)) (hQ : ∀ w', Upd S w0 w' → QX es w' g (.pointer wp)) (hk : ∀ w', Upd S w0 w' → RdE strV w' kv ks) (hM : Mem w0 S w [[⟨b4, 47, [.pointer wp]⟩], [⟨b6, 4, [.bool false]⟩], [⟨bx, 44, [.pointer rp]⟩], [⟨b8, 3, [.int .i64 E]⟩]]) (K : Fr → World → Prop) (hK : ∀ (f' : Fr) (w' : World), (∃ b11, f' 0 = .pointer rp ∧ f' 2 = kv ∧ f' 4 = .pointer (some ⟨b4, 0, none⟩) ∧ f' 6 = .pointer (some ⟨b6, 0, none⟩) ∧ f' 7 = .func (.func 77) #[] #[.pointer (some ⟨bx, 0, none⟩)] ∧ f' 11 = .pointer (some ⟨b11, 0, none⟩) ∧ f' 51 = .func (.func 77) #[] #[.pointer (some ⟨bx, 0, none⟩)] ∧ Mem w0 S w' [[⟨b4, 47, [.pointer wp]⟩], [⟨b6, 4, [.bool false]⟩], [⟨bx, 44, [.pointer rp]⟩], [⟨b8, 3, [.int .i64 E]⟩], [⟨b11, 3, [.int .i64 ((0 : Nat) : Int)]⟩]]) → K f' w') : VC Tryz.prog 131 MP_pP3 K xs rt (upd (upd (upd (upd (upd (upd frm 0 ((.pointer rp))) 2 kv) 4 (.pointer (some ⟨b4, 0, none⟩))) 6 (.pointer (some ⟨b6, 0, none⟩))) 7 (.func (.func 77) [].toArray [.pointer (some ⟨bx, 0, none⟩)].toArray)) 8 (.pointer (some ⟨b8, 0, none⟩))) w := by
 have hM0 : Mem w0 S w [[⟨b4, 47, [(.pointer wp)]⟩], [⟨b6, 4, [.bool false]⟩], [⟨bx, 44, [(.pointer rp)]⟩], [⟨b8, 3, [.int .i64 E]⟩]] := hM
 unfold MP_pP3
 refine seq fun _ h1 => seq fun _ h2 => ?_
 intro wd e1 e2 e3 e4
 have hd := Upd.same e1 e2 e3 e4 []
 have hM3 := hM0.pure hd
 clear e1 e2 e3 e4
 refine ⟨(some [b4, b8]), ?_⟩
 show vd _ _ _ _ _ _ _
 refine dqld rfl (by simp [isHeld]) (v := (.pointer wp)) ((hM3.at (i := 0) (j := 0) rfl rfl).cell 0) <| dqld rfl (by simp [isHeld]) (v := .int .i64 E) ((hM3.at (i := 3) (j := 0) rfl rfl).cell 0) <| dbn rfl rfl <| dl (m_call (QLen_ok es wd g _ (hQ _ hM3.upd)) rfl fun v4 w4 ⟨hr4, hu4⟩ => ?_)
 have hM4 : Mem w0 S w4 [[⟨b4, 47, [(.pointer wp)]⟩], [⟨b6, 4, [.bool false]⟩], [⟨bx, 44, [(.pointer rp)]⟩], [⟨b8, 3, [.int .i64 E]⟩]] := hM3.pure hu4
 subst hr4
 have hh4 := held_upd (wr := wd) (bs := [b4, b8]) hu4 (fun b hb => by
  simp only [List.mem_cons, List.not_mem_nil, or_false] at hb
  rcases hb with h | h
  ·rw [h]; exact ⟨(hM3.at (i := 0) (j := 0) rfl rfl).lt, by simp⟩
  rw [h]; exact ⟨(hM3.at (i := 3) (j := 0) rfl rfl).lt, by simp⟩) (fun b hb => rfl)
 refine ⟨hh4, dbn rfl rfl <| dq (v := .bool (decide (¬ (decide ((0 : Int) < E)) = (decide ((0 : Int) < ((es.length : Nat) : Int)) : Bool)))) (o_beq rfl rfl (by simp)) <| h2 _ _ <| cndP rfl (fun c5 => absurd c5 (by
  have := hE
  by_cases q : 0 < es.length <;> simp <;> omega)) (fun c5 => ?_)⟩
 refine h1 _ _ <| seq fun _ h6 => m_al hM4 fun b7 w8 (hM8 : Mem _ _ w8 [_, _, _, _, [⟨b7, 3, [.int .i64 0]⟩]]) => m_st (v := .int .i64 0) hM8 (i := 4) rfl rfl rfl rfl (by simp) fun w9 (hM9 : Mem _ _ w9 [_, _, _, _, _]) => h6 _ _ <| mv <| hK _ _ <| ⟨_, rfl, rfl, rfl, rfl, rfl, rfl, rfl, hM9⟩
noncomputable def MP_pR2 : MC :=
 (.seq (.reg [.l none (some 55) (.ld none (.tmp 4)),
  .l none (some 56) (.ld none (.tmp 11)),
  .l none (some 57) (.call 43 [(.tmp 55), (.tmp 56)]),
  .p none 54 (.mv (.tmp 57)),
  .p none 58 (.ext 0 (.tmp 54)),
  .p none 59 (.ext 1 (.tmp 54)),
  .p none 60 (.ext 2 (.tmp 54)),
  .p none 14 (.mv (.tmp 58)),
  .p none 15 (.mv (.tmp 59)),
  .p none 16 (.mv (.tmp 60))])
  (.seq (.seq (.reg [.p none 61 (.mv (.tmp 16)),
   .p none 62 (.bin .neq .i64 (.tmp 61) (.const (.int .i64 0))),
   .p none 63 (.mv (.tmp 62)),
   .split 63,
   .p (some (63, false)) 64 (.mv (.tmp 12)),
   .p (some (63, false)) 65 (.mv (.tmp 14)),
   .p (some (63, false)) 66 (.sbin .neq (.tmp 64) (.tmp 65)),
   .p none 67 (.pick (.tmp 63) (.const (.bool true)) (.tmp 66)),
   .p none 68 (.mv (.tmp 67)),
   .split 68,
   .p (some (68, false)) 69 (.mv (.tmp 13)),
   .p (some (68, false)) 70 (.mv (.tmp 15)),
   .p (some (68, false)) 71 (.sbin .neq (.tmp 69) (.tmp 70)),
   .p none 72 (.pick (.tmp 68) (.const (.bool true)) (.tmp 71))])
  (.cond (.tmp 72)
   (.seq (.reg [.l none none (.st 1 (.tmp 6) (.const (.bool false)))])
   .ret)
   .skip))
  (.reg [.l none (some 73) (.ld none (.tmp 11)),
   .p none 74 (.bin .add .i64 (.tmp 73) (.const (.int .i64 1))),
   .l none none (.st 1 (.tmp 11) (.tmp 74))])))
set_option maxRecDepth 100000 in
theorem pR2 {xs : List (Nat × (Fr → World → Prop))} {rt : Fr → World → Prop} (frm : Fr) (R : Nat) (es : List Pr2) (g : Bool) (rp wp : Option Addr) (kv : Value) (ks : List (List UInt8)) (hn : es.length ≤ 65536) (xk xv : List UInt8) (i : Nat) (hi : i < es.length) (b4 b6 bx b8 b11 : Nat) (E : Int) (w0 w : World) (S : List Nat) (hP : ∀ w', Upd S w0 w' → PX R es w' g (.pointer rp)) (hQ : ∀ w', Upd S w0 w' → QX es w' g (.pointer wp)) (hk : ∀ w', Upd S w0 w' → RdE strV w' kv ks) (hM : Mem w0 S w [[⟨b4, 47, [.pointer wp]⟩], [⟨b6, 4, [.bool false]⟩], [⟨bx, 44, [.pointer rp]⟩], [⟨b8, 3, [.int .i64 E]⟩], [⟨b11, 3, [.int .i64 ((i : Nat) : Int)]⟩]]) (hrt : ∀ f' w', ¬ (xk = (es.getD i ([], [])).1 ∧ xv = (es.getD i ([], [])).2) → Upd S w0 w' → rt f' w') (K : Fr → World → Prop) (hK : ∀ (f' : Fr) (w' : World), (xk = (es.getD i ([], [])).1 ∧ xv = (es.getD i ([], [])).2 ∧ Mem w0 S w' [[⟨b4, 47, [.pointer wp]⟩], [⟨b6, 4, [.bool false]⟩], [⟨bx, 44, [.pointer rp]⟩], [⟨b8, 3, [.int .i64 E]⟩], [⟨b11, 3, [.int .i64 ((i + 1 : Nat) : Int)]⟩]]) → K f' w') : VC Tryz.prog 131 MP_pR2 K xs rt (upd (upd (upd (upd (upd frm 4 (.pointer (some ⟨b4, 0, none⟩))) 6 (.pointer (some ⟨b6, 0, none⟩))) 11 (.pointer (some ⟨b11, 0, none⟩))) 12 (.string (str xk))) 13 (.string (str xv))) w := by
 have hM0 : Mem w0 S w [[⟨b4, 47, [(.pointer wp)]⟩], [⟨b6, 4, [.bool false]⟩], [⟨bx, 44, [(.pointer rp)]⟩], [⟨b8, 3, [.int .i64 E]⟩], [⟨b11, 3, [.int .i64 (i : Nat)]⟩]] := hM
 unfold MP_pR2
 refine seq fun _ h1 => m_ld (v := (.pointer wp)) hM0 (i := 0) (j := 0) rfl rfl rfl rfl <| m_ld (v := .int .i64 (i : Nat)) hM0 (i := 4) (j := 0) rfl rfl rfl rfl <| m_call (QAtIn_ok es i hi hn w g _ (hQ _ hM0.upd)) rfl fun v2 w2 ⟨hr2, hu2⟩ => ?_
 have hM2 : Mem _ _ w2 [_, _, _, _, _] := hM0.pure hu2
 subst hr2
 refine mv <| ext rfl rfl <| ext rfl rfl <| ext rfl rfl <| mv <| mv <| mv <| h1 _ _ <| seq fun _ h3 => seq fun _ h4 => mv <| stp (v := .bool false) (o_bin rfl rfl v_neF) <| mv <| splitF rfl ?_
 refine gmv rfl <| gmv rfl <| stg rfl (v := .bool (decide (¬ xk = ((es.getD i ([], [])).1)))) (o_sne rfl rfl rfl) <| pkF rfl <| mv <| splitP rfl (fun c5 => ?_) (fun c5 => ?_)
 ·refine gx rfl <| gx rfl <| gx rfl <| pkT rfl <| h4 _ _ <| cndT rfl <| seq fun _ h6 => m_st (v := .bool false) hM2 (i := 1) rfl rfl rfl rfl (by simp) fun w7 (hM7 : Mem _ _ w7 [_, _, _, _, _]) => h6 _ _ <| hrt _ _ (fun q => absurd q.1 (by assumption)) hM7.upd
 refine gmv rfl <| gmv rfl <| stg rfl (v := .bool (decide (¬ xv = ((es.getD i ([], [])).2)))) (o_sne rfl rfl rfl) <| pkF rfl <| h4 _ _ <| cndP rfl (fun c8 => ?_) (fun c8 => ?_)
 ·refine seq fun _ h9 => m_st (v := .bool false) hM2 (i := 1) rfl rfl rfl rfl (by simp) fun w10 (hM10 : Mem _ _ w10 [_, _, _, _, _]) => h9 _ _ <| hrt _ _ (fun q => absurd q.2 (by assumption)) hM10.upd
 refine h3 _ _ <| m_ld (v := .int .i64 (i : Nat)) hM2 (i := 4) (j := 0) rfl rfl rfl rfl <| stp (v := .int .i64 ((i : Nat) + 1)) (o_bin rfl rfl (v_add64 (by omega))) <| m_st (v := .int .i64 ((i : Nat) + 1)) hM2 (i := 4) rfl rfl rfl rfl (by simp) fun w11 (hM11 : Mem _ _ w11 [_, _, _, _, [⟨b11, 3, [.int .i64 ((i : Nat) + 1)]⟩]]) => hK _ _ <| ⟨by first | assumption | exact Decidable.not_not.1 (by assumption), by first | assumption | exact Decidable.not_not.1 (by assumption), hM11⟩
noncomputable def MP_pP4 : MC :=
 (.seq (.seq (.dreg (.line [.ql 1 none 76 none (.tmp 4),
  .ql 0 none 75 none (.tmp 11),
  .l 2 none (some 77) (.call 41 [(.tmp 76)]),
  .qp 3 none 78 (.bin .neq .i64 (.tmp 75) (.tmp 77))]))
 (.cond (.tmp 78)
  (.seq (.reg [.l none none (.st 1 (.tmp 6) (.const (.bool false)))])
  .ret)
  .skip))
 (.seq (.seq (.reg [.p none 17 (.mv (.const (.int .i64 (-1))))])
 (.block 4
  (.loop
   (.seq (.seq (.reg [.p none 79 (.mv (.tmp 17)),
    .l none (some 80) (.ld none (.tmp 4)),
    .l none (some 81) (.call 41 [(.tmp 80)]),
    .p none 82 (.bin .leq .i64 (.tmp 79) (.tmp 81))])
   (.cond (.tmp 82)
    .skip
    (.exit 4)))
   (.seq (.block 5
    (.seq (.reg [.p none 86 (.mv (.tmp 0)),
     .p none 87 (.mv (.tmp 17)),
     .l none (some 88) (.call 44 [(.tmp 86), (.tmp 87)]),
     .p none 85 (.mv (.tmp 88)),
     .p none 89 (.ext 0 (.tmp 85)),
     .p none 90 (.ext 1 (.tmp 85)),
     .p none 91 (.ext 2 (.tmp 85)),
     .p none 18 (.mv (.tmp 89)),
     .p none 19 (.mv (.tmp 90)),
     .p none 20 (.mv (.tmp 91))])
    (.seq (.reg [.l none (some 93) (.ld none (.tmp 4)),
     .p none 94 (.mv (.tmp 17)),
     .l none (some 95) (.call 43 [(.tmp 93), (.tmp 94)]),
     .p none 92 (.mv (.tmp 95)),
     .p none 96 (.ext 0 (.tmp 92)),
     .p none 97 (.ext 1 (.tmp 92)),
     .p none 98 (.ext 2 (.tmp 92)),
     .p none 21 (.mv (.tmp 96)),
     .p none 22 (.mv (.tmp 97)),
     .p none 23 (.mv (.tmp 98))])
    (.seq (.reg [.p none 99 (.mv (.tmp 18)),
     .p none 100 (.mv (.tmp 21)),
     .p none 101 (.sbin .neq (.tmp 99) (.tmp 100)),
     .p none 102 (.mv (.tmp 101)),
     .split 102,
     .p (some (102, false)) 103 (.mv (.tmp 19)),
     .p (some (102, false)) 104 (.mv (.tmp 22)),
     .p (some (102, false)) 105 (.sbin .neq (.tmp 103) (.tmp 104)),
     .p none 106 (.pick (.tmp 102) (.const (.bool true)) (.tmp 105)),
     .p none 107 (.mv (.tmp 106)),
     .split 107,
     .p (some (107, false)) 108 (.mv (.tmp 20)),
     .p (some (107, false)) 109 (.mv (.tmp 23)),
     .p (some (107, false)) 110 (.bin .neq .i64 (.tmp 108) (.tmp 109)),
     .p none 111 (.pick (.tmp 107) (.const (.bool true)) (.tmp 110))])
    (.cond (.tmp 111)
     (.seq (.reg [.l none none (.st 1 (.tmp 6) (.const (.bool false)))])
     .ret)
     .skip)))))
   (.reg [.p none 83 (.mv (.tmp 17)),
    .p none 84 (.bin .add .i64 (.tmp 83) (.const (.int .i64 1))),
    .p none 17 (.mv (.tmp 84))]))))))
 (.seq (.seq (.reg [.p none 24 (.mv (.const (.int .i64 0)))])
 (.block 6
  (.loop
   (.seq (.seq (.reg [.p none 112 (.mv (.tmp 24)),
    .p none 113 (.mv (.tmp 2)),
    .p none 114 (.len (.tmp 113)),
    .p none 115 (.bin .lss .i64 (.tmp 112) (.tmp 114))])
   (.cond (.tmp 115)
    .skip
    (.exit 6)))
   (.seq (.block 7
    (.seq (.dreg (.line [.qp 0 none 118 (.mv (.tmp 0)),
     .qp 1 none 119 (.mv (.tmp 2)),
     .qp 2 none 120 (.mv (.tmp 24)),
     .qp 3 none 121 (.idx 1 (.tmp 119) (.tmp 120)),
     .qp 7 none 125 (.mv (.tmp 2)),
     .qp 8 none 126 (.mv (.tmp 24)),
     .qp 9 none 127 (.idx 1 (.tmp 125) (.tmp 126)),
     .ql 6 none 124 none (.tmp 4),
     .ql 10 none 128 none (.tmp 127),
     .l 4 none (some 122) (.ld none (.tmp 121)),
     .l 5 none (some 123) (.call 45 [(.tmp 118), (.tmp 122)]),
     .l 11 none (some 129) (.call 46 [(.tmp 124), (.tmp 128)]),
     .qp 12 none 130 (.bin .neq .i64 (.tmp 123) (.tmp 129))]))
    (.cond (.tmp 130)
     (.seq (.reg [.l none none (.st 1 (.tmp 6) (.const (.bool false)))])
     .ret)
     .skip)))
   (.reg [.p none 116 (.mv (.tmp 24)),
    .p none 117 (.bin .add .i64 (.tmp 116) (.const (.int .i64 1))),
    .p none 24 (.mv (.tmp 117))]))))))
 (.seq (.reg [.l none none (.st 1 (.tmp 6) (.const (.bool true)))])
 .ret))))
set_option maxRecDepth 100000 in
theorem pP4 {xs : List (Nat × (Fr → World → Prop))} {rt : Fr → World → Prop} (frm : Fr) (R : Nat) (es : List Pr2) (g : Bool) (rp wp : Option Addr) (kv : Value) (ks : List (List UInt8)) (hn : es.length ≤ 65536) (hox : OX R es) (hkn : ks.length ≤ 1152921504606846976) (hkl : ∀ i, (ks.getD i []).length ≤ 140737488355328) (b4 b6 bx b8 b11 : Nat) (E : Int) (w0 w : World) (S : List Nat) (hP : ∀ w', Upd S w0 w' → PX R es w' g (.pointer rp)) (hQ : ∀ w', Upd S w0 w' → QX es w' g (.pointer wp)) (hk : ∀ w', Upd S w0 w' → RdE strV w' kv ks) (hM : Mem w0 S w [[⟨b4, 47, [.pointer wp]⟩], [⟨b6, 4, [.bool false]⟩], [⟨bx, 44, [.pointer rp]⟩], [⟨b8, 3, [.int .i64 E]⟩], [⟨b11, 3, [.int .i64 ((es.length : Nat) : Int)]⟩]]) (hrt : ∀ f' w', f' 6 = .pointer (some ⟨b6, 0, none⟩) → Mem w0 S w' [[⟨b4, 47, [.pointer wp]⟩], [⟨b6, 4, [.bool true]⟩], [⟨bx, 44, [.pointer rp]⟩], [⟨b8, 3, [.int .i64 E]⟩], [⟨b11, 3, [.int .i64 ((es.length : Nat) : Int)]⟩]] → rt f' w') (K : Fr → World → Prop) (hK : ∀ (f' : Fr) (w' : World), (False) → K f' w') : VC Tryz.prog 131 MP_pP4 K xs rt (upd (upd (upd (upd (upd frm 0 ((.pointer rp))) 2 kv) 4 (.pointer (some ⟨b4, 0, none⟩))) 6 (.pointer (some ⟨b6, 0, none⟩))) 11 (.pointer (some ⟨b11, 0, none⟩))) w := by
 have hM0 : Mem w0 S w [[⟨b4, 47, [(.pointer wp)]⟩], [⟨b6, 4, [.bool false]⟩], [⟨bx, 44, [(.pointer rp)]⟩], [⟨b8, 3, [.int .i64 E]⟩], [⟨b11, 3, [.int .i64 (es.length : Nat)]⟩]] := hM
 unfold MP_pP4
 refine seq fun _ h1 => seq fun _ h2 => ?_
 intro wd e1 e2 e3 e4
 have hd := Upd.same e1 e2 e3 e4 []
 have hM3 := hM0.pure hd
 clear e1 e2 e3 e4
 refine ⟨(some [b4, b11]), ?_⟩
 show vd _ _ _ _ _ _ _
 refine dqld rfl (by simp [isHeld]) (v := (.pointer wp)) ((hM3.at (i := 0) (j := 0) rfl rfl).cell 0) <| dqld rfl (by simp [isHeld]) (v := .int .i64 (es.length : Nat)) ((hM3.at (i := 4) (j := 0) rfl rfl).cell 0) <| dl (m_call (QLen_ok es wd g _ (hQ _ hM3.upd)) rfl fun v4 w4 ⟨hr4, hu4⟩ => ?_)
 have hM4 : Mem w0 S w4 [[⟨b4, 47, [(.pointer wp)]⟩], [⟨b6, 4, [.bool false]⟩], [⟨bx, 44, [(.pointer rp)]⟩], [⟨b8, 3, [.int .i64 E]⟩], [⟨b11, 3, [.int .i64 (es.length : Nat)]⟩]] := hM3.pure hu4
 subst hr4
 have hh4 := held_upd (wr := wd) (bs := [b4, b11]) hu4 (fun b hb => by
  simp only [List.mem_cons, List.not_mem_nil, or_false] at hb
  rcases hb with h | h
  ·rw [h]; exact ⟨(hM3.at (i := 0) (j := 0) rfl rfl).lt, by simp⟩
  rw [h]; exact ⟨(hM3.at (i := 4) (j := 0) rfl rfl).lt, by simp⟩) (fun b hb => rfl)
 refine ⟨hh4, dq (v := .bool false) (o_bin rfl rfl v_neF) <| h2 _ _ <| cndF rfl <| h1 _ _ <| seq fun _ h5 => seq fun _ h6 => mv <| h6 _ _ <| lp (n := fun _ _ => False) (ι := (Nat)) (fun m f w' => f 17 = .int .i64 (((m : Nat) : Int) - 1) ∧ f 0 = (.pointer rp) ∧ f 2 = kv ∧ f 4 = .pointer (some ⟨b4, 0, none⟩) ∧ f 6 = .pointer (some ⟨b6, 0, none⟩) ∧ Mem w0 S w' [[⟨b4, 47, [(.pointer wp)]⟩], [⟨b6, 4, [.bool false]⟩], [⟨bx, 44, [(.pointer rp)]⟩], [⟨b8, 3, [.int .i64 E]⟩], [⟨b11, 3, [.int .i64 (es.length : Nat)]⟩]] ∧ (m ≤ es.length + 2)) (fun m => es.length + 2 - m) (0) ?_ ?_⟩
 ·exact ⟨vi, rfl, rfl, rfl, rfl, hM4, by omega⟩
 rintro m f w7 ⟨e7_17, e7_0, e7_2, e7_4, e7_6, hM7, hm⟩ K8 h8
 obtain ⟨frm, rfl⟩ := re5 e7_17 e7_0 e7_2 e7_4 e7_6
 refine seq fun _ h9 => seq fun _ h10 => mv <| m_ld (v := (.pointer wp)) hM7 (i := 0) (j := 0) rfl rfl rfl rfl <| m_call (QLen_ok es w7 g _ (hQ _ hM7.upd)) rfl fun v11 w11 ⟨hr11, hu11⟩ => ?_
 have hM11 : Mem w0 S w11 [[⟨b4, 47, [(.pointer wp)]⟩], [⟨b6, 4, [.bool false]⟩], [⟨bx, 44, [(.pointer rp)]⟩], [⟨b8, 3, [.int .i64 E]⟩], [⟨b11, 3, [.int .i64 (es.length : Nat)]⟩]] := hM7.pure hu11
 subst hr11
 refine bn rfl rfl <| h10 _ _ <| cndP rfl (fun c12 => ?_) (fun c12 => ?_)
 ·refine h9 _ _ <| seq fun _ h13 => seq fun _ h14 => mv <| mv <| m_call (PAt_ok R es (((m : Nat) : Int) - 1) w11 g _ (hP _ hM11.upd) (by simp only [inK]; omega)) rfl fun v15 w15 ⟨hr15, hu15⟩ => ?_
  have hM15 : Mem _ _ w15 [_, _, _, _, _] := hM11.pure hu15
  subst hr15
  refine mv <| ext rfl rfl <| ext rfl rfl <| ext rfl rfl <| mv <| mv <| mv <| h14 _ _ <| seq fun _ h16 => m_ld (v := (.pointer wp)) hM15 (i := 0) (j := 0) rfl rfl rfl rfl <| mv <| m_call (QAt_ok es (((m : Nat) : Int) - 1) w15 g _ (hQ _ hM15.upd) (by simp only [inK]; omega)) rfl fun v17 w17 ⟨hr17, hu17⟩ => ?_
  have hM17 : Mem _ _ w17 [_, _, _, _, _] := hM15.pure hu17
  subst hr17
  refine mv <| ext rfl rfl <| ext rfl rfl <| ext rfl rfl <| mv <| mv <| mv <| h16 _ _ <| seq fun _ h18 => mv <| mv <| stp (v := .bool (decide (¬ ((atP g es (((m : Nat) : Int) - 1)).1) = ((atP g es (((m : Nat) : Int) - 1)).1)))) (o_sne rfl rfl rfl) <| mv <| splitP rfl (fun c19 => absurd c19 (by simp)) (fun c19 => ?_)
  refine gmv rfl <| gmv rfl <| stg rfl (v := .bool (decide (¬ ((atP g es (((m : Nat) : Int) - 1)).2) = ((atP g es (((m : Nat) : Int) - 1)).2)))) (o_sne rfl rfl rfl) <| pkF rfl <| mv <| splitP rfl (fun c20 => absurd c20 (by simp)) (fun c20 => gmv rfl <| gmv rfl <| stg rfl (v := .bool false) (o_bin rfl rfl v_neF) <| pkF rfl <| h18 _ _ <| cndF rfl <| h13 _ _ <| mv ?_)
  refine stp (v := .int .i64 ((((m : Nat) : Int) - 1) + 1)) (o_bin rfl rfl (v_add64 (by omega))) <| mv <| h8 (m + 1) _ _ ⟨vi, rfl, rfl, rfl, rfl, hM17, by omega⟩ (by (try dsimp only); omega)
 refine h5 _ _ <| seq fun _ h21 => seq fun _ h22 => mv <| h22 _ _ <| lp (n := fun _ _ => False) (ι := (Nat)) (fun j f w' => f 24 = .int .i64 (j : Nat) ∧ f 0 = (.pointer rp) ∧ f 2 = kv ∧ f 4 = .pointer (some ⟨b4, 0, none⟩) ∧ f 6 = .pointer (some ⟨b6, 0, none⟩) ∧ Mem w0 S w' [[⟨b4, 47, [(.pointer wp)]⟩], [⟨b6, 4, [.bool false]⟩], [⟨bx, 44, [(.pointer rp)]⟩], [⟨b8, 3, [.int .i64 E]⟩], [⟨b11, 3, [.int .i64 (es.length : Nat)]⟩]] ∧ (j ≤ ks.length)) (fun j => ks.length - j) (0) ?_ ?_
 ·exact ⟨vi, rfl, rfl, rfl, rfl, hM11, by omega⟩
 rintro j f w23 ⟨e23_24, e23_0, e23_2, e23_4, e23_6, hM23, hj⟩ K24 h24
 obtain ⟨frm, rfl⟩ := re5 e23_24 e23_0 e23_2 e23_4 e23_6
 refine seq fun _ h25 => seq fun _ h26 => mv <| mv <| stp (v := .int .i64 (ks.length : Nat)) (o_lenR (hk _ hM23.upd) rfl rfl) <| bn rfl rfl <| h26 _ _ <| cndP rfl (fun c27 => ?_) (fun c27 => ?_)
 ·refine h25 _ _ <| seq fun _ h28 => seq fun _ h29 => ?_
  intro wd e1 e2 e3 e4
  have hd := Upd.same e1 e2 e3 e4 []
  have hM30 := hM23.pure hd
  clear e1 e2 e3 e4
  refine ⟨(some [b4, (blkV kv)]), ?_⟩
  show vd _ _ _ _ _ _ _
  refine dmv <| dmv <| dmv <| dqp (m_idxE2 [] (j := j) (hk _ hM30.upd) rfl rfl (by omega) fun b31 o31 hp31 hbb31 => ?_)
  show vd _ _ _ _ _ _ _
  subst hbb31
  refine dmv <| dmv <| dqp (m_idxE2 [] (j := j) (hk _ hM30.upd) rfl rfl (by omega) fun b32 o32 hp32 hbb32 => ?_)
  show vd _ _ _ _ _ _ _
  subst hbb32
  refine dqld rfl (by simp [isHeld]) (v := (.pointer wp)) ((hM30.at (i := 0) (j := 0) rfl rfl).cell 0) <| dqld rfl (by simp [isHeld]) (v := .string (str (ks.getD j []))) (hp32) <| dl (ld (v := .string (str (ks.getD j []))) rfl (hp31) <| ⟨(fun b hb => rfl), dl (m_call (PSeek_ok R es (ks.getD j []) wd g _ (hP _ hM30.upd) hox (hkl _)) rfl fun v33 w33 ⟨s1, hr33, hs1, hu33⟩ => ?_)⟩)
  have hM33 : Mem w0 S w33 [[⟨b4, 47, [(.pointer wp)]⟩], [⟨b6, 4, [.bool false]⟩], [⟨bx, 44, [(.pointer rp)]⟩], [⟨b8, 3, [.int .i64 E]⟩], [⟨b11, 3, [.int .i64 (es.length : Nat)]⟩]] := hM30.pure hu33
  subst hr33
  have hh33 := held_upd (wr := wd) (bs := [b4, (blkV kv)]) hu33 (fun b hb => by
   simp only [List.mem_cons, List.not_mem_nil, or_false] at hb
   rcases hb with h | h
   ·rw [h]; exact ⟨(hM30.at (i := 0) (j := 0) rfl rfl).lt, by simp⟩
   rw [h]; exact ⟨Rd.blkV_lt (hk _ hM30.upd) (by omega), by simp⟩) (fun b hb => rfl)
  refine ⟨hh33, dl (m_call (QSeek_ok R es (ks.getD j []) w33 g _ (hQ _ hM33.upd) hox (hkl _)) rfl fun v34 w34 ⟨s2, hr34, hs2, hu34⟩ => ?_)⟩
  have hM34 : Mem _ _ w34 [_, _, _, _, _] := hM33.pure hu34
  subst hr34
  obtain rfl := seek_eq hox.2.2 hs1 hs2
  have hh34 := held_upd (wr := wd) (bs := [b4, (blkV kv)]) hu34 (fun b hb => by
   simp only [List.mem_cons, List.not_mem_nil, or_false] at hb
   rcases hb with h | h
   ·rw [h]; exact ⟨(hM33.at (i := 0) (j := 0) rfl rfl).lt, by simp⟩
   rw [h]; exact ⟨Rd.blkV_lt (hk _ hM33.upd) (by omega), by simp⟩) hh33
  refine ⟨hh34, dq (v := .bool false) (o_bin rfl rfl v_neF) <| h29 _ _ <| cndF rfl <| h28 _ _ <| mv <| stp (v := .int .i64 ((j : Nat) + 1)) (o_bin rfl rfl (v_add64 (by omega))) <| mv <| h24 (j + 1) _ _ ⟨vi, rfl, rfl, rfl, rfl, hM34, by omega⟩ (by (try dsimp only); omega)⟩
 refine h21 _ _ <| seq fun _ h35 => m_st (v := .bool true) hM23 (i := 1) rfl rfl rfl rfl (by simp) fun w36 (hM36 : Mem w0 S w36 [[⟨b4, 47, [(.pointer wp)]⟩], [⟨b6, 4, [.bool true]⟩], [⟨bx, 44, [(.pointer rp)]⟩], [⟨b8, 3, [.int .i64 E]⟩], [⟨b11, 3, [.int .i64 (es.length : Nat)]⟩]]) => h35 _ _ <| hrt _ _ rfl hM36
end Go.Proofs.YtifnmbmijljhfaaGreat.E
namespace Go.Proofs.YtifnmbmijljhfaaGreat.E
open Go Go.RowKit
theorem Mem.rebase {w0 w : World} {S : List Nat} {R : List (List Ent)} (h : Mem w0 S w R) : Mem w (ids R.flatten) w R :=
 ⟨Upd.refl _ _, h.own, h.nd, fun e he => .inl (List.mem_map.2 ⟨e, he, rfl⟩)⟩
theorem Mem.farAll {w0 w w' : World} {R : List (List Ent)} (h : Mem w0 [] w R) (u : Upd (ids R.flatten) w w') : Upd [] w0 w' := by
 have hu := h.upd
 refine ⟨u.os.trans hu.os, u.tape.trans hu.tape, u.output.trans hu.output, Nat.le_trans hu.size u.size, fun b hb hn => ?_⟩
 rw [u.block b (Nat.lt_of_lt_of_le hb hu.size) (fun hm => ?_), hu.block b hb hn]
 obtain ⟨e, he, rfl⟩ := List.mem_map.1 hm
 rcases h.new e he with q | q
 ·cases q
 omega
theorem Mem.onto {w0 w w' : World} {R R' : List (List Ent)} (h : Mem w0 [] w R) (k : Mem w (ids R.flatten) w' R') : Mem w0 [] w' R' :=
 ⟨h.farAll k.upd, k.own, k.nd, fun e he => by
  rcases k.new e he with q | q
  ·obtain ⟨e2, he2, hb⟩ := List.mem_map.1 q
   rcases h.new e2 he2 with q2 | q2
   ·cases q2
   exact .inr (by rw [← hb]; exact q2)
  exact .inr (Nat.le_trans h.upd.size q)⟩
theorem Own.obj {w : World} {e : Ent} (h : Own w e) : ∃ o : Obj, w.heap[e.b]? = some o ∧ o.isCells = true := by
 obtain ⟨lo, hi, h, _⟩ := h
 exact ⟨_, h, rfl⟩
theorem Mem.keeps {w w' : World} {S : List Nat} {w0 : World} {R : List (List Ent)} (h : Mem w0 S w R) (u : Upd (ids R.flatten) w w') : KeepsOthers w w' :=
 KeepsOthers.of_upd u fun b hb => by
  obtain ⟨e, he, rfl⟩ := List.mem_map.1 hb
  exact (h.own e he).obj
theorem Mem.keep0 {w0 w w' : World} {R : List (List Ent)} (h : Mem w0 [] w R) (u : Upd (ids R.flatten) w w') : Below w0.heap.size w w' :=
 ⟨u.os, u.tape, u.output, u.size, fun b hb => u.block b (Nat.lt_of_lt_of_le hb h.upd.size) fun hm => by
  obtain ⟨e, he, rfl⟩ := List.mem_map.1 hm
  rcases h.new e he with q | q
  ·cases q
  omega⟩
theorem Own.grown {w w' : World} {e : Ent} {row : Option Nat} (h : Own w e) (hg : w.grownBy w' row) (hr : ∀ r, row = some r → ∃ o : Obj, w.heap[r]? = some o ∧ o.isCells = false) : Own w' e := by
 have hl := h.lt
 obtain ⟨lo, hi, h, h2⟩ := h
 refine ⟨lo, hi, ?_, h2⟩
 rw [hg.block _ hl fun q => ?_]
 ·exact h
 obtain ⟨o, ho, hc⟩ := hr _ q.symm
 rw [h] at ho
 cases ho
 cases hc
theorem Mem.grown {w0 w w' : World} {R : List (List Ent)} {row : Option Nat} (h : Mem w0 [] w R) (hg : w.grownBy w' row) (hr : ∀ r, row = some r → w0.heap.size ≤ r ∧ ∃ o : Obj, w.heap[r]? = some o ∧ o.isCells = false) : Mem w0 [] w' R :=
 ⟨⟨hg.os.trans h.upd.os, hg.tape.trans h.upd.tape, hg.output.trans h.upd.output, Nat.le_trans h.upd.size hg.size, fun b hb hn => (hg.block b (Nat.lt_of_lt_of_le hb h.upd.size) fun q => by have := (hr b q.symm).1; omega).trans (h.upd.block b hb hn)⟩,
  fun e he => (h.own e he).grown hg fun r q => (hr r q).2, h.nd, h.new⟩
theorem ownFrom_mem {β : Type} {B : Nat} {w0 : World} (hB : w0.heap.size ≤ B) (Rr : β → List (List Ent)) (p : β → Prop) : OwnFrom B (fun s W => Mem w0 [] W (Rr s) ∧ p s) :=
 fun s W W' row hs hg hr => ⟨hs.1.grown hg fun r q => ⟨Nat.le_trans hB (hr r q).1, (hr r q).2⟩, hs.2⟩
theorem callFunc_ok {P : Program} {g : FuncId} {args : Array Value} {w : World} (hok : okFn P g = true) : (callFunc g args).run P w = .ok (.enter g args) w := by
 unfold okFn at hok
 split at hok
 ·rename_i fn hg
  simp only [Bool.and_eq_true, Bool.not_eq_true'] at hok
  have hb : fn.body.isNone = false := by cases hb : fn.body <;> simp_all
  have hn' : ¬ fn.name = "runtime.NumGoroutine" := by simpa using hok.1
  have hb' : ¬ fn.body = none := by intro hh; rw [hh] at hb; cases hb
  simp [callFunc, hg, hn', hb']
 cases hok
def markOf (D : Nat) : Deferred := { target := .collected D, args := #[] }
noncomputable abbrev fS (f : Fr) (p0 p1 q0 q1 : Nat) (x : Pr2) : Fr :=
 let F0 := upd (upd f p0 (.string (str x.1))) p1 (.string (str x.2))
 upd (upd F0 q0 (F0 p0)) q1 ((upd F0 q0 (F0 p0)) p1)
def aS (f : Fr) (a : Act) (p0 p1 q0 q1 : Nat) (x : Pr2) : Act :=
 let F0 := upd (upd f p0 (.string (str x.1))) p1 (.string (str x.2))
 ((((({ tmps := a.tmps, defers := [] } : Act).put (some p0) (.string (str x.1))).put (some p1) (.string (str x.2))).put (some q0) (F0 p0)).put (some q1) ((upd F0 q0 (F0 p0)) p1))
set_option maxRecDepth 100000 in
theorem range_ok {Ds : List Deferred} {id p0 p1 q0 q1 : Nat} {gq : Operand} {Sg Rb : Code} {mR : MC} {f : Fr} {a : Act} {w0 w : World} {bx R : Nat} {g : Bool} {rp : Option Addr} {es : List Pr2} {Q : Exit → Act → World → Prop}
 (hp0 : okd 131 (some p0) = true) (hp1 : okd 131 (some p1) = true) (hq0 : okd 131 (some q0) = true) (hq1 : okd 131 (some q1) = true)
 (kS : compile Tryz.prog 131 Sg = some (.seq (.reg [.p none q0 (.mv (.tmp p0))]) (.reg [.p none q1 (.mv (.tmp p1))]))) (pS : plainC Sg = true)
 (kR : compile Tryz.prog 131 Rb = some mR) (pR : plainC Rb = true) (pR2 : plainM mR = true)
 (hf : Frm Ds 131 f a) (hg : ev f gq = .func (.func 77) #[] #[.pointer (some ⟨bx, 0, none⟩)]) (hn : es.length ≤ 65536) (hP : PX R es w0 g (.pointer rp)) (hbx : Own w ⟨bx, 44, [.pointer rp]⟩) (u : Upd [] w0 w)
 (I IE : List Pr2 → World → Prop) (IR : List Pr2 → Prop) (hI : OwnFrom w.heap.size I) (hIE : OwnFrom w.heap.size IE) (h0 : I [] w)
 (hbody : ∀ (pre : List Pr2) (x : Pr2) (W : World), I pre W → pre.length < es.length → VC Tryz.prog 131 mR (fun _ W' => KeepsOthers W W' ∧ Below w0.heap.size W W' ∧ I (pre ++ [x]) W') [(id, fun _ W' => KeepsOthers W W' ∧ IE (pre ++ [x]) W')] (fun _ W' => KeepsOthers W W' ∧ IR (pre ++ [x])) (fS f p0 p1 q0 q1 x) W)
 (hIR : ∀ pre, pre <+: es → ¬ IR pre)
 (hdone : ∀ D W a', w.heap.size ≤ D → I es W → W.heap[D]? = some (.deferred (some [])) → Frm (markOf D :: Ds) 131 f a' → Q .normal a' W)
 (hstop : ∀ D pre W a', w.heap.size ≤ D → pre <+: es → IE pre W → W.heap[D]? = some (.deferred (some [])) → Frm (markOf D :: Ds) 131 f a' → Q (.exit id) a' W) :
 (Code.rangeFunc gq #[p0, p1] Sg Rb).wp Tryz.prog Q a w := by
 have hA : Frm [] 131 f { tmps := a.tmps, defers := [] } := ⟨hf.size, hf.get, rfl⟩
 have hx : ∀ x : Pr2, Frm [] 131 (fS f p0 p1 q0 q1 x) (aS f a p0 p1 q0 q1 x) := fun x => (((hA.put hp0 _).put hp1 _).put hq0 _).put hq1 _
 refine (wpIn_wide (n := 9)).1 (wpIn_rangeFunc_ownF (F := Fence.wide) (α := Pr2) (encs := fun x : Pr2 => #[.string (str x.1), .string (str x.2)]) (Kp := Below w0.heap.size) (S := fun xs => xs = es) (Sp := fun pre => pre <+: es) (N := es.length) (w0 := w) (gf := 77) (lb := #[.pointer (some ⟨bx, 0, none⟩)]) rfl (by decide) ?_ trivial ?_ (All_stops 8 w0 w bx R g _ es hn hbx hP u)
  (fun h k => belowK_t h k) (belowK_b u.size) (Below.refl _ _) (fun _ => rfl) I (fun c pre W => (c = .exit id ∧ IE pre W) ∨ (c = .ret ∧ IR pre)) hI ?_ h0 (aS f a p0 p1 q0 q1) ?_ ?_ ?_ ?_)
 ·rw [hf.eval]; exact hg
 ·intro args w; exact callFunc_ok (by kernel_rfl)
 ·intro c s W W' row hs hgr hr
  exact hs.elim (fun q => .inl ⟨q.1, hIE s W W' row q.2 hgr hr⟩) .inr
 ·intro l x W K hK
  have h2 : Frm [] 131 (upd (upd f p0 (.string (str x.1))) p1 (.string (str x.2))) (({ tmps := a.tmps, defers := [] } : Act).put (some p0) (.string (str x.1)) |>.put (some p1) (.string (str x.2))) := (hA.put hp0 _).put hp1 _
  have e : (((#[p0, p1] : Array Nat).zip #[Value.string (str x.1), Value.string (str x.2)]).foldl (fun t (p, v) => t.setIfInBounds p v) a.tmps) = (a.tmps.setIfInBounds p0 (.string (str x.1))).setIfInBounds p1 (.string (str x.2)) := by simp
  have h3 : Frm [] 131 (upd (upd f p0 (.string (str x.1))) p1 (.string (str x.2))) { tmps := (((#[p0, p1] : Array Nat).zip #[Value.string (str x.1), Value.string (str x.2)]).foldl (fun t (p, v) => t.setIfInBounds p v) a.tmps), defers := [] } := by rw [e]; exact h2
  refine wpIn_mono (code_soundIn (ro := some l) (xs := []) (r := fun _ _ => False) _ _ (fun f' W' => f' = fS f p0 p1 q0 q1 x ∧ W' = W) _ _ _ kS pS rfl ⟨rfl, rfl⟩ h3) ?_
  rintro e a' W' ⟨f', hf', h'⟩
  cases e with
  | normal =>
   obtain ⟨rfl, rfl⟩ := h'
   rw [Frm.uniq hf' (hx x)]
   exact hK
  | _ => exact h'.elim
 ·intro l pre x W hI2 hl
  refine wpIn_mono (code_soundIn (ro := some l) _ _ _ _ _ _ _ _ kR pR pR2 (hbody pre x W hI2 hl) (hx x)) ?_
  rintro e a' W' ⟨f', hf', h'⟩
  cases e with
  | normal => exact h'
  | ret => exact ⟨h'.1, .inr ⟨rfl, h'.2⟩⟩
  | exit i => obtain ⟨rfl, h1, h2⟩ := exit1 h'; exact ⟨h1, .inl ⟨rfl, h2⟩⟩
  | _ => exact h'.elim
 ·intro D xs W hD hS hI2 hh
  subst hS
  exact hdone D W _ hD hI2 hh ⟨hf.size, hf.get, by rw [hf.defers]; rfl⟩
 intro D c pre W hD hS hI2 hh
 rcases hI2 with ⟨rfl, h⟩ | ⟨rfl, h⟩
 ·exact wpIn_exit (hstop D pre W _ hD hS h hh ⟨hf.size, hf.get, by rw [hf.defers]; rfl⟩)
 exact absurd h (hIR pre hS)
end Go.Proofs.YtifnmbmijljhfaaGreat.E
namespace Go.Proofs.YtifnmbmijljhfaaGreat.E
open Go Go.RowKit
noncomputable def b21 : Code := Tryz.f21.body.getD .skip
theorem qa0 : compile Tryz.prog 131 (sub [0] b21) = some (mcA MP_pP1) := by kernel_rfl
theorem qa1 : compile Tryz.prog 131 (sub [1, 0] b21) = some (mcA (mcB MP_pP1)) := by kernel_rfl
theorem qa2 : compile Tryz.prog 131 (sub [1, 1, 0] b21) = some (mcA (mcB (mcB MP_pP1))) := by kernel_rfl
theorem qa3 : compile Tryz.prog 131 (sub [1, 1, 1, 0] b21) = some (mcA (mcB (mcB (mcB MP_pP1)))) := by kernel_rfl
theorem qa4 : compile Tryz.prog 131 (sub [1, 1, 1, 1, 0] b21) = some (mcA (mcB (mcB (mcB (mcB MP_pP1))))) := by kernel_rfl
theorem qa5 : compile Tryz.prog 131 (sub [1, 1, 1, 1, 1, 0, 0] b21) = some (mcB (mcB (mcB (mcB (mcB MP_pP1))))) := by kernel_rfl
theorem qa6 : compile Tryz.prog 131 (sub [1, 1, 1, 1, 1, 1, 0] b21) = some (mcA MP_pP3) := by kernel_rfl
theorem qa7 : compile Tryz.prog 131 (sub [1, 1, 1, 1, 1, 1, 1, 0] b21) = some (mcA (mcB MP_pP3)) := by kernel_rfl
theorem qa8 : compile Tryz.prog 131 (sub [1, 1, 1, 1, 1, 1, 1, 1, 0, 0] b21) = some (mcB (mcB MP_pP3)) := by kernel_rfl
theorem qa9 : compile Tryz.prog 131 (sub [1, 1, 1, 1, 1, 1, 1, 1, 1] b21) = some MP_pP4 := by kernel_rfl
theorem qs1 : compile Tryz.prog 131 (sub [1, 1, 1, 1, 1, 0, 1, 2, 4] b21) = some MP_pS1 := by kernel_rfl
theorem qs2 : compile Tryz.prog 131 (sub [1, 1, 1, 1, 1, 1, 1, 1, 0, 1, 2, 4] b21) = some MP_pS2 := by kernel_rfl
theorem qr1 : compile Tryz.prog 131 (sub [1, 1, 1, 1, 1, 0, 1, 2, 5] b21) = some (.block 1 (.seq MP_pR1 (.exit 0))) := by kernel_rfl
theorem qr2 : compile Tryz.prog 131 (sub [1, 1, 1, 1, 1, 1, 1, 1, 0, 1, 2, 5] b21) = some (.block 3 MP_pR2) := by kernel_rfl
theorem s21 : b21 = .seq (sub [0] b21) (.seq (sub [1, 0] b21) (.seq (sub [1, 1, 0] b21) (.seq (sub [1, 1, 1, 0] b21) (.seq (sub [1, 1, 1, 1, 0] b21) (.seq (.seq (sub [1, 1, 1, 1, 1, 0, 0] b21) (.block 0 (.rangeFunc (.tmp 34) #[35, 36] (sub [1, 1, 1, 1, 1, 0, 1, 2, 4] b21) (sub [1, 1, 1, 1, 1, 0, 1, 2, 5] b21)))) (.seq (sub [1, 1, 1, 1, 1, 1, 0] b21) (.seq (sub [1, 1, 1, 1, 1, 1, 1, 0] b21) (.seq (.seq (sub [1, 1, 1, 1, 1, 1, 1, 1, 0, 0] b21) (.block 2 (.rangeFunc (.tmp 51) #[52, 53] (sub [1, 1, 1, 1, 1, 1, 1, 1, 0, 1, 2, 4] b21) (sub [1, 1, 1, 1, 1, 1, 1, 1, 0, 1, 2, 5] b21)))) (sub [1, 1, 1, 1, 1, 1, 1, 1, 1] b21))))))))) := by kernel_rfl
theorem pc {P : Program} {D : List Deferred} {nt : Nat} (hm : P.follows .mixedOrders = true) {c rest : Code} {m1 m2 : MC} {N : Fr → World → Prop} {Q : Exit → Act → World → Prop} {f : Fr} {a : Act} {w : World} (hc : compile P nt c = some m1) (hf : Frm D nt f a)
 (hv : VC P nt (.seq m1 m2) N [] (fun _ _ => False) f w) (hn : ∀ f a w, Frm D nt f a → VC P nt m2 N [] (fun _ _ => False) f w → rest.wp P Q a w) : (Code.seq c rest).wp P Q a w :=
 piece hm hc hf hv hn (fun _ _ _ _ h => h.elim) (fun _ _ _ _ _ h => h.elim)
theorem pc1 {P : Program} {D : List Deferred} {nt : Nat} (hm : P.follows .mixedOrders = true) {c rest : Code} {m1 : MC} {N : Fr → World → Prop} {Q : Exit → Act → World → Prop} {f : Fr} {a : Act} {w : World} (hc : compile P nt c = some m1) (hf : Frm D nt f a)
 (hv : VC P nt m1 N [] (fun _ _ => False) f w) (hn : ∀ f a w, Frm D nt f a → N f w → rest.wp P Q a w) : (Code.seq c rest).wp P Q a w :=
 piece hm hc hf hv hn (fun _ _ _ _ h => h.elim) (fun _ _ _ _ _ h => h.elim)
theorem early_pos {k v : List UInt8} (hk : k.length ≤ 1024) (hv : v.length ≤ 1024) : 0 < earlyF k v := by
 unfold earlyF
 have h1 : IntKind.i64.wrap (0 + (k.length : Int)) = (k.length : Int) := (wrap_same (by simp only [inK]; omega)).trans (by omega)
 have h2 : IntKind.i64.wrap ((k.length : Int) + (v.length : Int)) = (k.length : Int) + v.length := wrap_same (by simp only [inK]; omega)
 have h3 : IntKind.i64.wrap ((k.length : Int) + v.length + 1) = (k.length : Int) + v.length + 1 := wrap_same (by simp only [inK]; omega)
 rw [h1, h2, h3]
 omega
theorem OX.both {R : Nat} {es : List Pr2} (h : OX R es) {x : Pr2} (hx : x ∈ es) : x.1.length ≤ 1024 ∧ x.2.length ≤ 1024 := by
 obtain ⟨i, hi, rfl⟩ := List.getElem_of_mem hx
 have := h.2.2 i hi
 rw [List.getD_eq_getElem?_getD, List.getElem?_eq_getElem hi] at this
 exact ⟨this.1, this.2.1⟩
theorem pre_snoc {es pre : List Pr2} {x : Pr2} (h : pre <+: es) (hl : pre.length < es.length) (hx : x = es.getD pre.length ([], [])) : pre ++ [x] <+: es := by
 obtain ⟨t, rfl⟩ := h
 cases t with
 | nil => simp at hl
 | cons y t =>
  have : x = y := by rw [hx, List.getD_eq_getElem?_getD, List.getElem?_append_right (Nat.le_refl _)]; simp
  subst this
  exact ⟨t, by simp⟩
theorem pre_not {es pre : List Pr2} {x : Pr2} (h : pre ++ [x] <+: es) : x = es.getD pre.length ([], []) := by
 obtain ⟨t, rfl⟩ := h
 rw [List.getD_eq_getElem?_getD, List.append_assoc, List.getElem?_append_right (Nat.le_refl _)]; simp
theorem results_of {P : Program} {D : List Deferred} {nt : Nat} {fn : Func} {f : Fr} {a : Act} {w : World} {R : Value → Prop} (hf : Frm D nt f a) (h : resV P fn.results.toList f w fun vs => R (tup vs)) : ∃ v, (results fn a.tmps).run P w = .ok v w ∧ R v := by
 obtain ⟨vs, hv, hr⟩ := res_run hf _ _ h
 refine ⟨_, ?_, hv⟩
 unfold results
 rw [Array.mapM_eq_mapM_toList]
 simp only [Sem.run_bind, Sem.run_map, Sem.run_pure]
 refine (congrArg (fun q => (Result.andThen q _).andThen _) hr).trans ?_
 simp only [Result.andThen_ok]
 rcases vs with _ | ⟨v, _ | ⟨u, vs⟩⟩ <;> simp [tup]
theorem upd_putObj {w0 w : World} {D : Nat} {o : Obj} (hu : Upd [] w0 w) (hD : w0.heap.size ≤ D) : Upd [] w0 (w.putObj D o) :=
 ⟨hu.os, hu.tape, hu.output, by simpa [World.putObj] using hu.size, fun b hb hn => by rw [World.putObj_heap_other (by omega)]; exact hu.block b hb hn⟩
theorem Own.putObj {w : World} {D : Nat} {o : Obj} {e : Ent} (h : Own w e) (hD : e.b ≠ D) : Own (w.putObj D o) e := by
 obtain ⟨lo, hi, h, h2⟩ := h
 exact ⟨lo, hi, by rw [World.putObj_heap_other hD]; exact h, h2⟩
theorem Own.notD {w : World} {D : Nat} {x : Option (List Deferred)} {e : Ent} (h : Own w e) (hD : w.heap[D]? = some (.deferred x)) : e.b ≠ D := by
 rintro rfl
 obtain ⟨lo, hi, h, _⟩ := h
 rw [hD] at h
 cases h
theorem Mem.keepD {w0 w w' : World} {S : List Nat} {R R' : List (List Ent)} {D : Nat} {x : Option (List Deferred)} (h : Mem w0 S w R) (k : Mem w (ids R.flatten) w' R') (hD : w.heap[D]? = some (.deferred x)) : w'.heap[D]? = some (.deferred x) := by
 rw [k.upd.block D (Array.getElem?_eq_some_iff.1 hD).1 fun hm => ?_]
 ·exact hD
 obtain ⟨e, he, hb⟩ := List.mem_map.1 hm
 exact (h.own e he).notD hD hb
set_option maxRecDepth 100000 in
theorem leaves2 {w0 w : World} {f : Fr} {a : Act} {D D2 b6 : Nat} (hf : Frm [markOf D2, markOf D] 131 f a) (h6 : f 6 = .pointer (some ⟨b6, 0, none⟩)) (ho : Own w ⟨b6, 4, [.bool true]⟩) (hD : w.heap[D]? = some (.deferred (some []))) (hD2 : w.heap[D2]? = some (.deferred (some []))) (hne : D ≠ D2) (h1 : w0.heap.size ≤ D) (h2 : w0.heap.size ≤ D2) (hu : Upd [] w0 w) :
 LeavesInM Fence.wide 9 Tryz.prog Tryz.f21 a.tmps (Rt fun r w' => r = .bool true ∧ Upd [] w0 w') a.defers .returning w := by
 rw [hf.defers]
 refine ⟨fun h => (by cases h), .inl ⟨D2, _, rfl, run_takeDeferred hD2, ⟨fun h => (by cases h), .inl ⟨D, _, rfl, run_takeDeferred (by rw [World.putObj_heap_other hne]; exact hD), ?_⟩⟩⟩⟩
 have ho2 : Own ((w.putObj D2 (.deferred none)).putObj D (.deferred none)) ⟨b6, 4, [.bool true]⟩ := (ho.putObj (ho.notD hD2)).putObj (ho.notD hD)
 obtain ⟨v, hv, hR⟩ := results_of (P := Tryz.prog) (fn := Tryz.f21) (R := fun v => v = .bool true) hf (by
  show resV _ [.cell 6 4] _ _ _
  exact res_cell (s := none) (by kernel_rfl) (vl_ld (v := .bool true) h6 (ho2.cell 0) rfl))
 exact ⟨v, hv, v, rfl, hR, upd_putObj (upd_putObj hu h2) h1⟩
theorem ownFrom_D {β : Type} {B D : Nat} {o : Option Obj} (hD : D < B) : OwnFrom B (fun (_ : β) W => D < W.heap.size ∧ W.heap[D]? = o) :=
 fun s W W' row hs hg hr => ⟨Nat.lt_of_lt_of_le hs.1 hg.size, (hg.block D hs.1 fun q => by have := (hr D q.symm).1; omega).trans hs.2⟩
set_option maxRecDepth 100000 in
set_option maxHeartbeats 4000000 in
theorem alike_b {R : Nat} {es : List Pr2} {g : Bool} {rp wp : Option Addr} {kv : Value} {ks : List (List UInt8)} {w0 : World} (hox : OX R es) (hkn : ks.length ≤ 1152921504606846976) (hkl : ∀ i, (ks.getD i []).length ≤ 140737488355328) (hP : PX R es w0 g (.pointer rp)) (hQ : QX es w0 g (.pointer wp)) (hk : RdE strV w0 kv ks)
 {b4 b6 bx b8 D : Nat} {E : Int} {f : Fr} {a : Act} {w : World} (hE : 0 < E ↔ 0 < es.length) (hf : Frm [markOf D] 131 f a) (e0 : f 0 = .pointer rp) (e2 : f 2 = kv) (e4 : f 4 = .pointer (some ⟨b4, 0, none⟩)) (e6 : f 6 = .pointer (some ⟨b6, 0, none⟩)) (e7 : f 7 = .func (.func 77) #[] #[.pointer (some ⟨bx, 0, none⟩)]) (e8 : f 8 = .pointer (some ⟨b8, 0, none⟩))
 (hM : Mem w0 [] w [[⟨b4, 47, [.pointer wp]⟩], [⟨b6, 4, [.bool false]⟩], [⟨bx, 44, [.pointer rp]⟩], [⟨b8, 3, [.int .i64 E]⟩]]) (hD0 : w0.heap.size ≤ D) (hD : w.heap[D]? = some (.deferred (some []))) :
 (Code.seq (sub [1, 1, 1, 1, 1, 1, 0] b21) (.seq (sub [1, 1, 1, 1, 1, 1, 1, 0] b21) (.seq (.seq (sub [1, 1, 1, 1, 1, 1, 1, 1, 0, 0] b21) (.block 2 (.rangeFunc (.tmp 51) #[52, 53] (sub [1, 1, 1, 1, 1, 1, 1, 1, 0, 1, 2, 4] b21) (sub [1, 1, 1, 1, 1, 1, 1, 1, 0, 1, 2, 5] b21)))) (sub [1, 1, 1, 1, 1, 1, 1, 1, 1] b21)))).wp Tryz.prog (bodyPostM Fence.wide 9 Tryz.prog Tryz.f21 (Rt fun r w' => r = .bool true ∧ Upd [] w0 w')) a w := by
 have hn := hox.2.1
 obtain ⟨frm, hfr⟩ : ∃ frm, f = upd (upd (upd (upd (upd (upd frm 0 (.pointer rp)) 2 kv) 4 (.pointer (some ⟨b4, 0, none⟩))) 6 (.pointer (some ⟨b6, 0, none⟩))) 7 (.func (.func 77) [].toArray [.pointer (some ⟨bx, 0, none⟩)].toArray)) 8 (.pointer (some ⟨b8, 0, none⟩)) := ⟨f, by rw [upd_self e0, upd_self e2, upd_self e4, upd_self e6, upd_self e7, upd_self e8]⟩
 subst hfr
 have h := pP3 (xs := []) (rt := fun _ _ => False) frm R es g rp wp kv ks hn b4 b6 bx b8 E hE w w _ (fun w' u => hP.upd (hM.farAll u)) (fun w' u => hQ.upd (hM.farAll u)) (fun w' u => hk.upd (hM.farAll u)) hM.rebase _ fun _ _ h => h
 refine pc mixed qa6 hf h fun f a w3 hf h => pc mixed qa7 hf h fun f a w3 hf h => wp_seq (pc1 mixed qa8 hf h ?_)
 clear h e0 e2 e4 e6 e7 e8
 rintro f a w3 hf ⟨b11, e0, e2, e4, e6, e7, e11, e51, hM3⟩
 have hMf := hM.onto hM3
 have hDf := hM.keepD hM3 hD
 refine wp_block (range_ok (id := 2) (mR := .block 3 MP_pR2) (by decide) (by decide) (by decide) (by decide) qs2 (by kernel_rfl) qr2 (by kernel_rfl) (by kernel_rfl) hf e51 hn hP (hMf.at (i := 2) (j := 0) rfl rfl) hMf.upd
  (fun pre W => (Mem w0 [] W [[⟨b4, 47, [.pointer wp]⟩], [⟨b6, 4, [.bool false]⟩], [⟨bx, 44, [.pointer rp]⟩], [⟨b8, 3, [.int .i64 E]⟩], [⟨b11, 3, [.int .i64 ((pre.length : Nat) : Int)]⟩]] ∧ pre <+: es) ∧ (D < W.heap.size ∧ W.heap[D]? = some (.deferred (some []))))
  (fun _ _ => False) (fun pre => ¬ pre <+: es) ((ownFrom_mem hMf.upd.size _ _).and (ownFrom_D (Array.getElem?_eq_some_iff.1 hDf).1)) (fun _ _ _ _ h => h.elim) ⟨⟨hMf, List.nil_prefix⟩, (Array.getElem?_eq_some_iff.1 hDf).1, hDf⟩ ?_ (fun _ h q => q h) ?_ (fun _ _ _ _ _ _ h => h.elim))
 ·rintro pre x W ⟨⟨hMw, hpre⟩, hDl, hDw⟩ hl
  have g4 : fS f 52 53 12 13 x 4 = .pointer (some ⟨b4, 0, none⟩) := e4
  have g6 : fS f 52 53 12 13 x 6 = .pointer (some ⟨b6, 0, none⟩) := e6
  have g11 : fS f 52 53 12 13 x 11 = .pointer (some ⟨b11, 0, none⟩) := e11
  have g12 : fS f 52 53 12 13 x 12 = .string (str x.1) := rfl
  have g13 : fS f 52 53 12 13 x 13 = .string (str x.2) := rfl
  obtain ⟨frm2, hfr2⟩ : ∃ frm, fS f 52 53 12 13 x = upd (upd (upd (upd (upd frm 4 (.pointer (some ⟨b4, 0, none⟩))) 6 (.pointer (some ⟨b6, 0, none⟩))) 11 (.pointer (some ⟨b11, 0, none⟩))) 12 (.string (str x.1))) 13 (.string (str x.2)) := ⟨fS f 52 53 12 13 x, by rw [upd_self g4, upd_self g6, upd_self g11, upd_self g12, upd_self g13]⟩
  rw [hfr2]
  refine pR2 frm2 R es g rp wp kv ks hn x.1 x.2 pre.length hl b4 b6 bx b8 b11 E W W _ (fun w' u => hP.upd (hMw.farAll u)) (fun w' u => hQ.upd (hMw.farAll u)) (fun w' u => hk.upd (hMw.farAll u)) hMw.rebase (fun f' w' hne u => ⟨hMw.keeps u, fun hq => hne (by rw [pre_not hq]; exact ⟨rfl, rfl⟩)⟩) _ fun f' w' h => ?_
  obtain ⟨hx1, hx2, hM2⟩ := h
  have hDq := hMw.keepD hM2 hDw
  refine ⟨hMw.keeps hM2.upd, hMw.keep0 hM2.upd, ⟨?_, pre_snoc hpre hl (Prod.ext hx1 hx2)⟩, (Array.getElem?_eq_some_iff.1 hDq).1, hDq⟩
  have q := hMw.onto hM2
  rwa [show (pre ++ [x]).length = pre.length + 1 by simp]
 rintro D2 W a' hD2 ⟨⟨hMw, hpre⟩, hDl, hDw⟩ hh hf2
 refine Code.wp_mono ?_ (code_sound mixed _ _ (fun _ _ => False) [] (fun f' w' => f' 6 = .pointer (some ⟨b6, 0, none⟩) ∧ Mem W (ids ([[⟨b4, 47, [.pointer wp]⟩], [⟨b6, 4, [.bool false]⟩], [⟨bx, 44, [.pointer rp]⟩], [⟨b8, 3, [.int .i64 E]⟩], [⟨b11, 3, [.int .i64 ((es.length : Nat) : Int)]⟩]] : List (List Ent)).flatten) w' [[⟨b4, 47, [.pointer wp]⟩], [⟨b6, 4, [.bool true]⟩], [⟨bx, 44, [.pointer rp]⟩], [⟨b8, 3, [.int .i64 E]⟩], [⟨b11, 3, [.int .i64 ((es.length : Nat) : Int)]⟩]]) _ _ _ qa9 ?_ hf2)
 ·rintro e a' w' ⟨f', hf', h'⟩
  cases e with
  | ret =>
   obtain ⟨h6, hMe⟩ := h'
   exact leaves2 hf' h6 (hMe.at (i := 1) (j := 0) rfl rfl) (hMw.keepD hMe hDw) (hMw.keepD hMe hh) (by have := (Array.getElem?_eq_some_iff.1 hDf).1; omega) hD0 (by have := hMf.upd.size; omega) (hMw.farAll hMe.upd)
  | _ => exact h'.elim
 obtain ⟨frm3, hfr3⟩ : ∃ frm, f = upd (upd (upd (upd (upd frm 0 (.pointer rp)) 2 kv) 4 (.pointer (some ⟨b4, 0, none⟩))) 6 (.pointer (some ⟨b6, 0, none⟩))) 11 (.pointer (some ⟨b11, 0, none⟩)) := ⟨f, by rw [upd_self e0, upd_self e2, upd_self e4, upd_self e6, upd_self e11]⟩
 rw [hfr3]
 exact pP4 (xs := []) frm3 R es g rp wp kv ks hn hox hkn hkl b4 b6 bx b8 b11 E W W _ (fun w' u => hP.upd (hMw.farAll u)) (fun w' u => hQ.upd (hMw.farAll u)) (fun w' u => hk.upd (hMw.farAll u)) hMw.rebase (fun f' w' h6 h => ⟨h6, h⟩) _ fun _ _ h => h.elim
set_option maxRecDepth 100000 in
set_option maxHeartbeats 4000000 in
theorem alike_ok (R : Nat) (es : List Pr2) (g : Bool) (rp wp : Option Addr) (kv : Value) (ks : List (List UInt8)) (w0 : World) (hox : OX R es) (hkn : ks.length ≤ 1152921504606846976) (hkl : ∀ i, (ks.getD i []).length ≤ 140737488355328) (hP : PX R es w0 g (.pointer rp)) (hQ : QX es w0 g (.pointer wp)) (hk : RdE strV w0 kv ks) :
 Calls Tryz.prog 21 [.pointer rp, .pointer wp, kv].toArray w0 (Rt fun r w' => r = .bool true ∧ Upd [] w0 w') := by
 have hn := hox.2.1
 refine calls_body (c := b21) Tryz.func21 (by kernel_rfl) (by simp [Tryz.ntmps21]) fun a hf => ?_
 have z0 : fr0 [.pointer rp, .pointer wp, kv] 0 = .pointer rp := rfl
 have z1 : fr0 [.pointer rp, .pointer wp, kv] 1 = .pointer wp := rfl
 have z2 : fr0 [.pointer rp, .pointer wp, kv] 2 = kv := rfl
 obtain ⟨frm, hfr⟩ : ∃ frm, fr0 [.pointer rp, .pointer wp, kv] = upd (upd (upd frm 0 (.pointer rp)) 1 (.pointer wp)) 2 kv := ⟨fr0 [.pointer rp, .pointer wp, kv], by rw [upd_self z0, upd_self z1, upd_self z2]⟩
 have hf : Frm [] 131 (upd (upd (upd frm 0 (.pointer rp)) 1 (.pointer wp)) 2 kv) a := hfr ▸ hf
 have h := pP1 (xs := []) (rt := fun _ _ => False) frm R es g rp wp kv ks hn w0 w0 [] (fun w' u => hP.upd u) (fun w' u => hQ.upd u) (fun w' u => hk.upd u) (Mem.nil w0 []) _ fun _ _ h => h
 rw [s21]
 refine pc mixed qa0 hf h fun f a w hf h => pc mixed qa1 hf h fun f a w hf h => pc mixed qa2 hf h fun f a w hf h => pc mixed qa3 hf h fun f a w hf h => pc mixed qa4 hf h fun f a w hf h => wp_seq (pc1 mixed qa5 hf h ?_)
 rintro f a w1 hf ⟨b4, b6, bx, b8, e0, e2, e4, e6, e7, e8, e34, hM⟩
 clear h
 refine wp_block (range_ok (id := 0) (mR := .block 1 (.seq MP_pR1 (.exit 0))) (by decide) (by decide) (by decide) (by decide) qs1 (by kernel_rfl) qr1 (by kernel_rfl) (by kernel_rfl) hf e34 hn hP (hM.at (i := 2) (j := 0) rfl rfl) hM.upd
  (fun pre W => Mem w0 [] W [[⟨b4, 47, [.pointer wp]⟩], [⟨b6, 4, [.bool false]⟩], [⟨bx, 44, [.pointer rp]⟩], [⟨b8, 3, [.int .i64 0]⟩]] ∧ pre = [])
  (fun pre W => Mem w0 [] W [[⟨b4, 47, [.pointer wp]⟩], [⟨b6, 4, [.bool false]⟩], [⟨bx, 44, [.pointer rp]⟩], [⟨b8, 3, [.int .i64 (earlyF (pre.getD 0 ([], [])).1 (pre.getD 0 ([], [])).2)]⟩]] ∧ pre.length = 1)
  (fun _ => False) (ownFrom_mem hM.upd.size _ _) (ownFrom_mem hM.upd.size _ _) ⟨hM, rfl⟩ ?_ (fun _ _ h => h) ?_ ?_)
 ·rintro pre x W ⟨hMw, rfl⟩ hl
  have g8 : fS f 35 36 9 10 x 8 = .pointer (some ⟨b8, 0, none⟩) := e8
  have g9 : fS f 35 36 9 10 x 9 = .string (str x.1) := rfl
  have g10 : fS f 35 36 9 10 x 10 = .string (str x.2) := rfl
  obtain ⟨frm2, hfr2⟩ : ∃ frm, fS f 35 36 9 10 x = upd (upd (upd frm 8 (.pointer (some ⟨b8, 0, none⟩))) 9 (.string (str x.1))) 10 (.string (str x.2)) := ⟨fS f 35 36 9 10 x, by rw [upd_self g8, upd_self g9, upd_self g10]⟩
  rw [hfr2]
  refine pR1 (xs := []) (rt := fun _ _ => False) frm2 x.1 x.2 rp wp b4 b6 bx b8 W W _ hMw.rebase (fun f' W' => KeepsOthers W W' ∧ Mem w0 [] W' [[⟨b4, 47, [.pointer wp]⟩], [⟨b6, 4, [.bool false]⟩], [⟨bx, 44, [.pointer rp]⟩], [⟨b8, 3, [.int .i64 (earlyF x.1 x.2)]⟩]] ∧ ([x] : List Pr2).length = 1) fun f' w' h => ⟨hMw.keeps h.upd, hMw.onto h, rfl⟩
 ·rintro D W a' hD ⟨hMw, he⟩ hh hf2
  subst he
  exact alike_b hox hkn hkl hP hQ hk (by simp) hf2 e0 e2 e4 e6 e7 e8 hMw (Nat.le_trans hM.upd.size hD) hh
 rintro D pre W a' hD hpre ⟨hMw, hl⟩ hh hf2
 refine alike_b hox hkn hkl hP hQ hk ?_ hf2 e0 e2 e4 e6 e7 e8 hMw (Nat.le_trans hM.upd.size hD) hh
 match pre, hl with
 | [x], _ =>
  have hx := hox.both (hpre.subset (List.mem_singleton.2 rfl))
  have h1 := early_pos hx.1 hx.2
  have h2 := hpre.length_le
  exact ⟨fun _ => h2, fun _ => h1⟩
end Go.Proofs.YtifnmbmijljhfaaGreat.E
namespace Go.Proofs.YtifnmbmijljhfaaGreat.E
open Go
theorem txt_0 {tile t : List UInt8} {n : Int} (h : textF tile n = some t) : (openF tile).2 = 0 ∧ (n ≤ 65536 → t.length ≤ 65536) := by
 unfold textF at h
 split at h
 ·rename_i q
  injection h with h
  exact ⟨q.1, fun hn => by rw [← h]; exact dcode_bd hn q.2.2.2.2 q.2.2.1⟩
 cases h
theorem blk_OX {R : Nat} {es : List Pr2} {t : List UInt8} (h : Blk R es t) (hl : t.length ≤ 65536) : OX R es :=
 ⟨h.1, by have h3 := blk_len h; have h4 := bld_raw (R := R) es h.2.2.1; omega, h.2.2.1⟩
theorem open_agree {tile : List UInt8} {n e e' : Int} {rp wp : Option Addr} {rs rs' : List Ent} (h1 : OpnQ tile n (.tuple [.pointer rp, .int .i64 e].toArray) rs) (h2 : OpnR tile n (.tuple [.pointer wp, .int .i64 e'].toArray) rs') :
 ∃ g R es, e' = e ∧ OX R es ∧ (∀ w, (∀ e ∈ rs, Own w e) → PX R es w g (.pointer rp)) ∧ (∀ w, (∀ e ∈ rs', Own w e) → QX es w g (.pointer wp)) ∧ rp.isNone = !g ∧ wp.isNone = !g := by
 rcases h1 with ⟨a, h1, q1⟩ | ⟨br, R, es, t, h1, hn, ht, hB, hr, hu⟩ <;> rcases h2 with ⟨b, h2, q2⟩ | ⟨bw, R2, es2, t2, h2, hn2, ht2, hB2, hr2⟩ <;> simp at h1 h2
 ·obtain ⟨rfl, rfl⟩ := h1
  obtain ⟨rfl, rfl⟩ := h2
  refine ⟨false, 1, [], ?_, ⟨by omega, by simp, fun i hi => absurd hi (by simp)⟩, fun _ _ => .inr ⟨rfl, rfl, rfl⟩, fun _ _ => .inr ⟨rfl, rfl, rfl⟩, rfl, rfl⟩
  rcases q1 with ⟨h, _⟩ | ⟨_, _, h⟩ | ⟨_, _, h, _⟩ <;> rcases q2 with ⟨k, _⟩ | ⟨_, _, k⟩ | ⟨_, _, k, _⟩ <;> omega
 ·exfalso
  have h0 := (txt_0 ht2).1
  rcases q1 with ⟨_, h⟩ | ⟨_, h, _⟩ | ⟨_, _, _, h⟩
  ·omega
  ·exact h h0
  exact h _ ht2 _ _ hB2
 ·exfalso
  have h0 := (txt_0 ht).1
  rcases q2 with ⟨_, h⟩ | ⟨_, h, _⟩ | ⟨_, _, _, h⟩
  ·omega
  ·exact h h0
  exact h _ ht _ _ hB
 obtain ⟨rfl, rfl⟩ := h1
 obtain ⟨rfl, rfl⟩ := h2
 rw [ht] at ht2
 injection ht2 with ht2
 subst ht2
 obtain ⟨rfl, rfl⟩ := hu _ _ hB2
 obtain ⟨v, re, rfl, hv⟩ := hr
 obtain ⟨v2, re2, rfl, hv2⟩ := hr2
 exact ⟨true, _, _, rfl, blk_OX hB ((txt_0 ht).2 hn.2), fun w hw => .inl ⟨rfl, br, v, rfl, hw _ (List.mem_cons_self ..), hv.rdOwn fun e he => hw e (List.mem_cons_of_mem _ he)⟩, fun w hw => .inl ⟨rfl, bw, v2, rfl, hw _ (List.mem_cons_self ..), hv2.rdOwn fun e he => hw e (List.mem_cons_of_mem _ he)⟩, rfl, rfl⟩
theorem BOpenF_ok (x : Value) (tile : List UInt8) (n : Int) (w : World) (hx : RdE byteV w x tile) (hl : tile.length ≤ 140737488351232) (hn : inK .i64 n) : Calls Tryz.prog 18 [x, .int .i64 n].toArray w (Rt fun r w' => ∃ rp e rs, r = .tuple [.pointer rp, .int .i64 e].toArray ∧ OpnQ tile n (.tuple [.pointer rp, .int .i64 e].toArray) rs ∧ Mem w [] w' [rs]) :=
 (BOpen_ok x tile n w hx (by omega) hn).mono fun en w2 h => h.elim fun v h => ⟨v, h.1, by
  obtain ⟨rs, hq, hm⟩ := h.2
  rcases hq with ⟨e, rfl, q⟩ | ⟨br, R, es, t, rfl, q⟩
  ·exact ⟨_, _, rs, rfl, .inl ⟨e, rfl, q⟩, hm⟩
  exact ⟨_, _, rs, rfl, .inr ⟨br, R, es, t, rfl, q⟩, hm⟩⟩
theorem ROpenF_ok (x : Value) (tile : List UInt8) (n : Int) (w : World) (hx : RdE byteV w x tile) (hl : tile.length ≤ 140737488351232) (hn : inK .i64 n) : Calls Tryz.prog 19 [x, .int .i64 n].toArray w (Rt fun r w' => ∃ rp e rs, r = .tuple [.pointer rp, .int .i64 e].toArray ∧ OpnR tile n (.tuple [.pointer rp, .int .i64 e].toArray) rs ∧ Mem w [] w' [rs]) :=
 (ROpen_ok x tile n w hx hl hn).mono fun en w2 h => h.elim fun v h => ⟨v, h.1, by
  obtain ⟨rs, hq, hm⟩ := h.2
  rcases hq with ⟨e, rfl, q⟩ | ⟨br, R, es, t, rfl, q⟩
  ·exact ⟨_, _, rs, rfl, .inl ⟨e, rfl, q⟩, hm⟩
  exact ⟨_, _, rs, rfl, .inr ⟨br, R, es, t, rfl, q⟩, hm⟩⟩
theorem o_isnilP {g : Bool} {rp : Option Addr} {f : Fr} {x : Operand} (h : rp.isNone = !g) (hx : ev f x = .pointer rp) : PeV (.isnil false 0 x) f (.bool (!g)) := fun K hK => by
 show (match isNilV 0 (ev f x) with | some b => K (.bool (if false then !b else b)) | none => False)
 rw [hx]
 cases rp <;> cases g <;> first | exact hK | cases h
abbrev MK4 : List UInt8 := [165, 90, 167, 91]
theorem mk_0 (l : List UInt8) : (l ++ MK4).getD l.length 0 = 165 := by simp [List.getD_eq_getElem?_getD]
theorem mk_1 (l : List UInt8) : (l ++ MK4).getD (l.length + 1) 0 = 90 := by simp [List.getD_eq_getElem?_getD]
theorem mk_2 (l : List UInt8) : (l ++ MK4).getD (l.length + 2) 0 = 167 := by simp [List.getD_eq_getElem?_getD]
theorem mk_3 (l : List UInt8) : (l ++ MK4).getD (l.length + 3) 0 = 91 := by simp [List.getD_eq_getElem?_getD]
theorem sameBytes_ok (x y : Value) (a b : List UInt8) (w : World) (hx : RdE byteV w x a) (hy : RdE byteV w y b) (hla : a.length ≤ 9223372036854775807) : Calls Tryz.prog 15 [x, y].toArray w (Rt fun r w' => r = .bool (decide (a = b)) ∧ Upd [] w w') := by
 have hM0 : Mem w [] w [] := Mem.nil w []
 refine calls_vc mixed Tryz.func15 rfl C15 (by simp [Tryz.ntmps15]) <| seq fun _ h1 => mv <| h1 _ _ <| seq fun _ h2 => seq fun _ h3 => mv <| stp (v := .int .i64 (a.length : Nat)) (o_lenR (hx.upd hM0.upd) rfl rfl) <| mv <| stp (v := .int .i64 (b.length : Nat)) (o_lenR (hy.upd hM0.upd) rfl rfl) <| bneq rfl rfl <| h3 _ _ <| cndP rfl (fun c4 => ?_) (fun c4 => ?_)
 ·refine seq fun _ h5 => mv <| h5 _ _ <| ⟨(.bool false), rfl, ⟨by rw [decide_eq_false (fun e => c4 (by rw [e]))], hM0.upd⟩⟩
 refine h2 _ _ <| seq fun _ h6 => seq fun _ h7 => mv <| h7 _ _ <| lp (n := fun _ _ => False) (ι := (Nat)) (fun i f w' => f 0 = x ∧ f 1 = y ∧ f 5 = .int .i64 (i : Nat) ∧ Mem w [] w' [] ∧ (i ≤ a.length) ∧ (a.take i = b.take i)) (fun i => a.length - i) (0) ?_ ?_
 ·exact ⟨rfl, rfl, vi, hM0, by omega, by simp⟩
 rintro i f w8 ⟨e8_0, e8_1, e8_5, hM8, hi, hp⟩ K9 h9
 obtain ⟨frm, rfl⟩ := re3 e8_0 e8_1 e8_5
 refine seq fun _ h10 => seq fun _ h11 => mv <| mv <| stp (v := .int .i64 (a.length : Nat)) (o_lenR (hx.upd hM8.upd) rfl rfl) <| bn rfl rfl <| h11 _ _ <| cndP rfl (fun c12 => ?_) (fun c12 => ?_)
 ·refine h10 _ _ <| seq fun _ h13 => seq fun _ h14 => ?_
  intro wd e1 e2 e3 e4
  have hd := Upd.same e1 e2 e3 e4 []
  have hM15 := hM8.pure hd
  clear e1 e2 e3 e4
  refine ⟨none, ?_⟩
  show vd _ _ _ _ _ _ _
  refine dmv <| dmv <| dqp (m_idxE 0 (j := i) (hx.upd hM15.upd) rfl rfl (by omega) fun b16 o16 hp16 => ?_)
  show vd _ _ _ _ _ _ _
  refine dmv <| dmv <| dqp (m_idxE 0 (j := i) (hy.upd hM15.upd) rfl rfl (by omega) fun b17 o17 hp17 => ?_)
  show vd _ _ _ _ _ _ _
  refine dqld rfl (trivial) (v := byteV (b.getD i 0)) (hp17) <| dl (ld (v := byteV (a.getD i 0)) rfl (hp16) <| ⟨rfl, dq (v := .bool (decide (¬ ((a.getD i 0).toNat : Int) = ((b.getD i 0).toNat : Int)))) (o_bin rfl rfl v_neq) <| h14 _ _ <| cndP rfl (fun c18 => ?_) (fun c18 => ?_)⟩)
  ·refine seq fun _ h19 => mv <| h19 _ _ <| ⟨(.bool false), rfl, ⟨by rw [decide_eq_false (ne_atG 0 i (nat_neG (by assumption)))], hM15.upd⟩⟩
  refine h13 _ _ <| mv <| stp (v := .int .i64 ((i : Nat) + 1)) (o_bin rfl rfl (v_add64 (by omega))) <| mv <| h9 (i + 1) _ _ ⟨rfl, rfl, vi, hM15, by omega, take_eqG 0 hp (by omega) (by omega) (u8_eq (by omega))⟩ (by (try dsimp only); omega)
 refine h6 _ _ <| seq fun _ h20 => mv <| h20 _ _ <| ⟨(.bool true), rfl, ⟨by rw [decide_eq_true]; rw [← List.take_of_length_le (l := a) (i := i) (by omega), ← List.take_of_length_le (l := b) (i := i) (by omega), hp], hM8.upd⟩⟩
theorem roomy_ok (x : Value) (b : List UInt8) (w : World) (hx : RdE byteV w x b) (hl : b.length ≤ 140737488355328) : Calls Tryz.prog 17 [x].toArray w (Rt fun r w' => ∃ bg cp rs, r = .slice (some ⟨bg, 0, none⟩) b.length cp ∧ SlE byteV 5 (.slice (some ⟨bg, 0, none⟩) (b ++ MK4).length cp) (b ++ MK4) rs ∧ (b ++ MK4).length ≤ cp ∧ Mem w [] w' [rs]) := by
 have hM0 : Mem w [] w [] := Mem.nil w []
 refine calls_vc mixed Tryz.func17 rfl C17 (by simp [Tryz.ntmps17]) <| seq fun _ h1 => mv <| h1 _ _ <| seq fun _ h2 => m_bs hM0 rfl fun b3 w4 (hM4 : Mem _ _ w4 [[⟨b3, 5, []⟩]]) => mv ?_
 have hs5 : SlE byteV 5 (.slice (some ⟨b3, 0, none⟩) 0 0) [] [⟨b3, 5, []⟩] := SlE.lit (l := []) rfl
 refine m_appE hM4 (i := 0) rfl hs5 rfl rfl (hx.upd hM4.upd) (by first | omega | (simp; omega)) (by omega) fun v6 w6 r6 (hs6 : SlE byteV 5 v6 (b) r6) (hM6 : Mem _ _ w6 [r6]) => mv <| h2 _ _ <| seq fun _ h7 => mv <| m_bs hM6 rfl fun b8 w9 (hM9 : Mem _ _ w9 [_, [⟨b8, 5, [.int .u8 165, .int .u8 90, .int .u8 167, .int .u8 91]⟩]]) => m_appE hM9 (i := 0) rfl hs6 rfl rfl (own_rdE (E := byteV) (l := [165, 90, 167, 91]) (hM9.at (i := 1) (j := 0) rfl rfl) rfl) (by first | omega | (simp; omega)) (by omega) fun v10 w10 r10 (hs10 : SlE byteV 5 v10 (b ++ ([165, 90, 167, 91])) r10) (hM10 : Mem _ _ w10 [r10, _]) => mv <| h7 _ _ <| seq fun _ h11 => ?_
 obtain ⟨bg, cpg, hbe, hcp⟩ := (hs10).isSome (by simp)
 refine mv <| mv <| stp (v := .int .i64 (b.length : Nat)) (o_lenR (hx.upd hM10.upd) rfl rfl) <| stp (v := .slice (some ⟨bg, 0, none⟩) b.length cpg) (o_slcU hbe rfl (by first | omega | (simp at *; omega)) rfl) <| mv <| h11 _ _ <| ⟨(.slice (some ⟨bg, 0, none⟩) b.length cpg), rfl, ⟨bg, cpg, _, rfl, hbe ▸ hs10, hcp, hM10.keep (by simp)⟩⟩
theorem kept_in (b cp : Nat) (l m : List UInt8) (y : Value) (w : World) (h1 : RdE byteV w (.slice (some ⟨b, 0, none⟩) (l ++ MK4).length cp) (l ++ MK4)) (h2 : RdE byteV w (.slice (some ⟨b, 0, none⟩) l.length cp) l) (hcp : (l ++ MK4).length ≤ cp) (hy : RdE byteV w y m) (he : l = m) (hl : l.length ≤ 140737488355328) : Calls Tryz.prog 20 [.slice (some ⟨b, 0, none⟩) l.length cp, y].toArray w (Rt fun r w' => r = .bool true ∧ Upd [] w w') := by
 subst he
 have hla : (l ++ MK4).length = l.length + 4 := by simp
 have hbs := mk_0 l
 have hM0 : Mem w [] w [] := Mem.nil w []
 refine calls_vc mixed Tryz.func20 rfl C20 (by simp [Tryz.ntmps20]) ?_
 refine seq fun K1 h1 => ?_
 refine stp (v := .bool false) (o_mv rfl) ?_
 refine h1 _ _ ?_
 clear h1
 refine seq fun K2 h2 => ?_
 refine stp (v := (.slice (some ⟨b, 0, none⟩) l.length cp)) (o_mv rfl) ?_
 refine stp (v := y) (o_mv rfl) ?_
 refine stp (v := .int .i64 (l.length : Nat)) (o_lenR (hy.upd hM0.upd) rfl rfl) ?_
 refine stp (v := .int .i64 ((l.length : Nat) + 4)) (o_bin rfl rfl (v_add64 (by constructor <;> omega))) ?_
 refine stp (v := (.slice (some ⟨b, 0, none⟩) (l ++ MK4).length cp)) (o_slcU rfl rfl (by omega) (by rw [show ((l.length : Nat) + 4 : Int).toNat = (l ++ MK4).length by omega])) ?_
 refine stp (v := (.slice (some ⟨b, 0, none⟩) (l ++ MK4).length cp)) (o_mv rfl) ?_
 refine h2 _ _ ?_
 clear h2
 refine seq fun K3 h3 => ?_
 refine stp (v := (.slice (some ⟨b, 0, none⟩) l.length cp)) (o_mv rfl) ?_
 refine stp (v := y) (o_mv rfl) ?_
 refine m_call (sameBytes_ok _ _ l l w (h2.upd hM0.upd) (hy.upd hM0.upd) (by first | omega | (simp; done) | (simp; omega))) rfl fun v4 w4 ⟨hr4, hu4⟩ => ?_
 have hM4 : Mem w [] w4 [] := hM0.pure hu4
 obtain rfl : v4 = .bool true := hr4.trans (by simp)
 clear hr4
 refine stp (v := .bool true) (o_mv rfl) ?_
 refine splitT rfl ?_
 refine stg rfl (v := (.slice (some ⟨b, 0, none⟩) (l ++ MK4).length cp)) (o_mv rfl) ?_
 refine stg rfl (v := y) (o_mv rfl) ?_
 refine stg rfl (v := .int .i64 (l.length : Nat)) (o_lenR (hy.upd hM4.upd) rfl rfl) ?_
 refine gyes rfl rfl (m_idxE 0 (j := l.length) (h1.upd hM4.upd) rfl (v_int (by omega)) (by rw [List.length_append]; simp only [List.length_cons, List.length_nil]; omega) fun b5 o5 hp5 => ?_)
 refine gyesl rfl ?_
 refine ld (v := byteV ((l ++ MK4).getD l.length 0)) rfl (hp5) ?_
 refine stg rfl (v := .bool (decide ((((l ++ MK4).getD l.length 0).toNat : Int) = 165))) (o_bin rfl rfl rfl) ?_
 refine stp (v := .bool (decide ((((l ++ MK4).getD l.length 0).toNat : Int) = 165))) (o_pickT rfl rfl) ?_
 refine stp (v := .bool (decide ((((l ++ MK4).getD l.length 0).toNat : Int) = 165))) (o_mv rfl) ?_
 refine splitP rfl (fun c6 => ?_) (fun c6 => (c6 (by rw [mk_0]; rfl)).elim)
 refine stg rfl (v := (.slice (some ⟨b, 0, none⟩) (l ++ MK4).length cp)) (o_mv rfl) ?_
 refine stg rfl (v := y) (o_mv rfl) ?_
 refine stg rfl (v := .int .i64 (l.length : Nat)) (o_lenR (hy.upd hM4.upd) rfl rfl) ?_
 refine stg rfl (v := .int .i64 ((l.length : Nat) + 1)) (o_bin rfl rfl (v_add64 (by constructor <;> omega))) ?_
 refine gyes rfl rfl (m_idxE 0 (j := (l.length + 1)) (h1.upd hM4.upd) rfl (v_int (by omega)) (by rw [List.length_append]; simp only [List.length_cons, List.length_nil]; omega) fun b7 o7 hp7 => ?_)
 refine gyesl rfl ?_
 refine ld (v := byteV ((l ++ MK4).getD (l.length + 1) 0)) rfl (hp7) ?_
 refine stg rfl (v := .bool (decide ((((l ++ MK4).getD (l.length + 1) 0).toNat : Int) = 90))) (o_bin rfl rfl rfl) ?_
 refine stp (v := .bool (decide ((((l ++ MK4).getD (l.length + 1) 0).toNat : Int) = 90))) (o_pickT rfl rfl) ?_
 refine stp (v := .bool (decide ((((l ++ MK4).getD (l.length + 1) 0).toNat : Int) = 90))) (o_mv rfl) ?_
 refine splitP rfl (fun c8 => ?_) (fun c8 => (c8 (by rw [mk_1]; rfl)).elim)
 refine stg rfl (v := (.slice (some ⟨b, 0, none⟩) (l ++ MK4).length cp)) (o_mv rfl) ?_
 refine stg rfl (v := y) (o_mv rfl) ?_
 refine stg rfl (v := .int .i64 (l.length : Nat)) (o_lenR (hy.upd hM4.upd) rfl rfl) ?_
 refine stg rfl (v := .int .i64 ((l.length : Nat) + 2)) (o_bin rfl rfl (v_add64 (by constructor <;> omega))) ?_
 refine gyes rfl rfl (m_idxE 0 (j := (l.length + 2)) (h1.upd hM4.upd) rfl (v_int (by omega)) (by rw [List.length_append]; simp only [List.length_cons, List.length_nil]; omega) fun b9 o9 hp9 => ?_)
 refine gyesl rfl ?_
 refine ld (v := byteV ((l ++ MK4).getD (l.length + 2) 0)) rfl (hp9) ?_
 refine stg rfl (v := .bool (decide ((((l ++ MK4).getD (l.length + 2) 0).toNat : Int) = 167))) (o_bin rfl rfl rfl) ?_
 refine stp (v := .bool (decide ((((l ++ MK4).getD (l.length + 2) 0).toNat : Int) = 167))) (o_pickT rfl rfl) ?_
 refine stp (v := .bool (decide ((((l ++ MK4).getD (l.length + 2) 0).toNat : Int) = 167))) (o_mv rfl) ?_
 refine splitP rfl (fun c10 => ?_) (fun c10 => (c10 (by rw [mk_2]; rfl)).elim)
 refine stg rfl (v := (.slice (some ⟨b, 0, none⟩) (l ++ MK4).length cp)) (o_mv rfl) ?_
 refine stg rfl (v := y) (o_mv rfl) ?_
 refine stg rfl (v := .int .i64 (l.length : Nat)) (o_lenR (hy.upd hM4.upd) rfl rfl) ?_
 refine stg rfl (v := .int .i64 ((l.length : Nat) + 3)) (o_bin rfl rfl (v_add64 (by constructor <;> omega))) ?_
 refine gyes rfl rfl (m_idxE 0 (j := (l.length + 3)) (h1.upd hM4.upd) rfl (v_int (by omega)) (by rw [List.length_append]; simp only [List.length_cons, List.length_nil]; omega) fun b11 o11 hp11 => ?_)
 refine gyesl rfl ?_
 refine ld (v := byteV ((l ++ MK4).getD (l.length + 3) 0)) rfl (hp11) ?_
 refine stg rfl (v := .bool (decide ((((l ++ MK4).getD (l.length + 3) 0).toNat : Int) = 91))) (o_bin rfl rfl rfl) ?_
 refine stp (v := .bool (decide ((((l ++ MK4).getD (l.length + 3) 0).toNat : Int) = 91))) (o_pickT rfl rfl) ?_
 refine stp (v := .bool (decide ((((l ++ MK4).getD (l.length + 3) 0).toNat : Int) = 91))) (o_mv rfl) ?_
 refine h3 _ _ ?_
 clear h3
 refine ⟨(.bool (decide ((((l ++ MK4).getD (l.length + 3) 0).toNat : Int) = 91))), rfl, ?_⟩
 exact ⟨by rw [mk_3]; rfl, hM4.upd⟩
end Go.Proofs.YtifnmbmijljhfaaGreat.E
namespace Go.Proofs.YtifnmbmijljhfaaGreat.E
open Go
theorem BlockOpens_ok (x : Value) (tile : List UInt8) (n : Int) (kv : Value) (ks : List (List UInt8)) (w : World) (hn : inK .i64 n) (hx : RdE byteV w x tile) (hl : tile.length ≤ 140737488351232) (hk : RdE strV w kv ks) (hkn : ks.length ≤ 1152921504606846976) (hkl : ∀ i, (ks.getD i []).length ≤ 140737488355328) : Calls Tryz.prog 4 [x, .int .i64 n, kv].toArray w (Rt fun r w' => r = .bool true ∧ Upd [] w w') := by
 have hM0 : Mem w [] w [] := Mem.nil w []
 refine calls_vc mixed Tryz.func4 rfl C4 (by simp [Tryz.ntmps4]) <| seq fun _ h1 => stp (v := .bool false) (o_mv rfl) <| h1 _ _ <| seq fun _ h2 => stp (v := x) (o_mv rfl) <| m_call (roomy_ok _ tile w (hx.upd hM0.upd) (by omega)) rfl fun v3 w3 ⟨bg3, cp3, rs3, hr3, hs3, hcp3, hm3⟩ => ?_
 have hM3 : Mem w [] w3 [rs3] := hM0.add hm3
 subst hr3
 refine stp (v := (.slice (some ⟨bg3, 0, none⟩) tile.length cp3)) (o_mv rfl) <| h2 _ _ <| seq fun _ h4 => stp (v := (.slice (some ⟨bg3, 0, none⟩) tile.length cp3)) (o_mv rfl) <| stp (v := .int .i64 n) (o_mv rfl) <| m_call (BOpenF_ok _ tile n w3 (hs3.cutTo.rd hM3 (i := 0) rfl) (by omega) hn) rfl fun v5 w5 ⟨rp5, e5, rs5, hr5, hq5, hm5⟩ => ?_
 have hM5 : Mem w [] w5 [rs3, rs5] := hM3.add hm5
 subst hr5
 refine stp (v := .tuple [(.pointer rp5), .int .i64 e5].toArray) (o_mv rfl) <| stp (v := (.pointer rp5)) (o_ext rfl rfl) <| stp (v := .int .i64 e5) (o_ext rfl rfl) <| stp (v := (.pointer rp5)) (o_mv rfl) <| stp (v := .int .i64 e5) (o_mv rfl) <| h4 _ _ <| seq fun _ h6 => stp (v := x) (o_mv rfl) <| stp (v := .int .i64 n) (o_mv rfl) <| m_call (ROpenF_ok _ tile n w5 (hx.upd hM5.upd) (by omega) hn) rfl fun v7 w7 ⟨rp7, e7, rs7, hr7, hq7, hm7⟩ => ?_
 have hM7 : Mem w [] w7 [rs3, rs5, rs7] := hM5.add hm7
 subst hr7
 obtain ⟨g7, R7, es7, he7, hox7, hpx7, hqx7, hnp7, hnq7⟩ := open_agree hq5 hq7
 refine stp (v := .tuple [(.pointer rp7), .int .i64 e7].toArray) (o_mv rfl) <| stp (v := (.pointer rp7)) (o_ext rfl rfl) <| stp (v := .int .i64 e7) (o_ext rfl rfl) <| stp (v := (.pointer rp7)) (o_mv rfl) <| stp (v := .int .i64 e7) (o_mv rfl) <| h6 _ _ <| seq fun _ h8 => seq fun _ h9 => stp (v := .int .i64 e5) (o_mv rfl) <| stp (v := .int .i64 e7) (o_mv rfl) <| stp (v := .bool (decide (¬ e5 = e7))) (o_bin rfl rfl v_neq) <| stp (v := .bool (decide (¬ e5 = e7))) (o_mv rfl) <| splitP rfl (fun c10 => absurd c10 (by omega)) (fun c10 => stg rfl (v := (.pointer rp5)) (o_mv rfl) ?_)
 refine stg rfl (v := .bool (!g7)) (o_isnilP hnp7 rfl) <| stg rfl (v := (.pointer rp7)) (o_mv rfl) <| stg rfl (v := .bool (!g7)) (o_isnilP hnq7 rfl) <| stg rfl (v := .bool false) (o_beq rfl rfl (by simp)) <| stp (v := .bool false) (o_pickF rfl rfl) <| stp (v := .bool false) (o_mv rfl) <| splitF rfl <| stg rfl (v := (.slice (some ⟨bg3, 0, none⟩) tile.length cp3)) (o_mv rfl) <| stg rfl (v := x) (o_mv rfl) <| gyesl rfl <| m_call (kept_in bg3 cp3 _ tile _ w7 (hs3.rd hM7 (i := 0) rfl) (hs3.cutTo.rd hM7 (i := 0) rfl) hcp3 (hx.upd hM7.upd) rfl (by omega)) rfl fun v11 w11 ⟨hr11, hu11⟩ => ?_
 have hM11 : Mem w [] w11 [rs3, rs5, rs7] := hM7.pure hu11
 subst hr11
 refine stg rfl (v := .bool false) (o_not rfl rfl) <| stp (v := .bool false) (o_pickF rfl rfl) <| stp (v := .bool false) (o_mv rfl) <| splitF rfl <| stg rfl (v := (.pointer rp5)) (o_mv rfl) <| stg rfl (v := (.pointer rp7)) (o_mv rfl) <| stg rfl (v := kv) (o_mv rfl) <| gyesl rfl <| m_call (alike_ok R7 es7 g7 _ _ _ ks w11 hox7 hkn hkl (hpx7 _ (hM11.res (i := 1) rfl).1) (hqx7 _ (hM11.res (i := 2) rfl).1) (hk.upd hM11.upd)) rfl fun v12 w12 ⟨hr12, hu12⟩ => ?_
 have hM12 : Mem w [] w12 [rs3, rs5, rs7] := hM11.pure hu12
 subst hr12
 refine stg rfl (v := .bool false) (o_not rfl rfl) <| stp (v := .bool false) (o_pickF rfl rfl) <| h9 _ _ <| cndF rfl <| h8 _ _ <| seq fun _ h13 => seq fun _ h14 => stp (v := .int .i64 0) (o_mv rfl) <| h14 _ _ <| lp (n := fun _ _ => False) (ι := (Nat) × (List UInt8) × (List Ent)) (fun ⟨k, X, r7_⟩ f w' => f 12 = .int .i64 (k : Nat) ∧ f 7 = ((.slice (some ⟨bg3, 0, none⟩) tile.length cp3)) ∧ f 1 = .int .i64 n ∧ f 2 = kv ∧ f 8 = (.pointer rp5) ∧ f 10 = (.pointer rp7) ∧ Mem w [] w' [r7_, rs5, rs7] ∧ (k ≤ X.length ∧ X.length ≤ 140737488351232) ∧ (SlE byteV 5 ((.slice (some ⟨bg3, 0, none⟩) tile.length cp3)) (X) r7_)) (fun ⟨k, X, r7_⟩ => X.length - k) (0, tile, rs3) ?_ ?_
 ·exact ⟨vi, rfl, vi, rfl, rfl, rfl, hM12, by omega, by first | exact hs3.cutTo | simpa using hs3.cutTo⟩
 rintro ⟨k, X, r7_⟩ f w15 ⟨e15_12, e15_7, e15_1, e15_2, e15_8, e15_10, hM15, hk2, hy7_⟩ K16 h16
 obtain ⟨frm, rfl⟩ := re6 e15_12 e15_7 e15_1 e15_2 e15_8 e15_10
 refine seq fun _ h17 => seq fun _ h18 => stp (v := .int .i64 (k : Nat)) (o_mv rfl) <| stp (v := ((.slice (some ⟨bg3, 0, none⟩) tile.length cp3))) (o_mv rfl) <| stp (v := .int .i64 (X.length : Nat)) (o_lenR (hy7_.rd hM15 (i := 0) rfl) rfl rfl) <| stp (v := .bool (decide (((k : Nat) : Int) < (X.length : Nat)))) (o_bin rfl rfl rfl) <| h18 _ _ <| cndP rfl (fun c19 => ?_) (fun c19 => ?_)
 ·refine h17 _ _ <| seq fun _ h20 => stp (v := ((.slice (some ⟨bg3, 0, none⟩) tile.length cp3))) (o_mv rfl) <| stp (v := .int .i64 (k : Nat)) (o_mv rfl) <| m_set (E := byteV) (q := 3) (j := k) hM15 (i := 0) rfl hy7_ rfl rfl (by omega) (by simp) (rfl) fun w21 r21 u21 he21 hs21 (hM21 : Mem w [] w21 [r21, rs5, rs7]) => h20 _ _ <| stp (v := .int .i64 (k : Nat)) (o_mv rfl) <| stp (v := .int .i64 ((k : Nat) + 1)) (o_bin rfl rfl (v_add64 (by omega))) <| stp (v := .int .i64 ((k : Nat) + 1)) (o_mv rfl) <| h16 (k + 1, X.set k 3, r21) _ _ ⟨vi, rfl, vi, rfl, rfl, rfl, hM21, by rw [List.length_set]; omega, by first | exact hs21 | simpa using hs21⟩ (by (try dsimp only); rw [List.length_set]; omega)
 refine h13 _ _ <| seq fun _ h22 => m_bs hM15 rfl fun b23 w24 (hM24 : Mem w [] w24 [r7_, rs5, rs7, [⟨b23, 5, []⟩]]) => stp (v := ((.slice (some ⟨bg3, 0, none⟩) tile.length cp3))) (o_mv rfl) ?_
 have hs25 : SlE byteV 5 (.slice (some ⟨b23, 0, none⟩) 0 0) [] [⟨b23, 5, []⟩] := SlE.lit (l := []) rfl
 refine m_appE hM24 (i := 3) rfl hs25 rfl rfl (hy7_.rd hM24 (i := 0) rfl) (by first | omega | (simp; omega)) (by omega) fun v26 w26 r26 (hs26 : SlE byteV 5 v26 (X) r26) (hM26 : Mem w [] w26 [r7_, rs5, rs7, r26]) => stp (v := v26) (o_mv rfl) <| h22 _ _ <| seq fun _ h27 => stp (v := ((.slice (some ⟨bg3, 0, none⟩) tile.length cp3))) (o_mv rfl) <| stp (v := .int .i64 n) (o_mv rfl) <| m_call (BOpenF_ok _ X n w26 (hy7_.rd hM26 (i := 0) rfl) (by omega) hn) rfl fun v28 w28 ⟨rp28, e28, rs28, hr28, hq28, hm28⟩ => ?_
 have hM28 : Mem w [] w28 [r7_, rs5, rs7, r26, rs28] := hM26.add hm28
 subst hr28
 refine stp (v := .tuple [(.pointer rp28), .int .i64 e28].toArray) (o_mv rfl) <| stp (v := (.pointer rp28)) (o_ext rfl rfl) <| stp (v := .int .i64 e28) (o_ext rfl rfl) <| stp (v := (.pointer rp28)) (o_mv rfl) <| stp (v := .int .i64 e28) (o_mv rfl) <| h27 _ _ <| seq fun _ h29 => stp (v := v26) (o_mv rfl) <| stp (v := .int .i64 n) (o_mv rfl) <| m_call (ROpenF_ok _ X n w28 (hs26.rd hM28 (i := 3) rfl) (by omega) hn) rfl fun v30 w30 ⟨rp30, e30, rs30, hr30, hq30, hm30⟩ => ?_
 have hM30 : Mem w [] w30 [r7_, rs5, rs7, r26, rs28, rs30] := hM28.add hm30
 subst hr30
 obtain ⟨g30, R30, es30, he30, hox30, hpx30, hqx30, hnp30, hnq30⟩ := open_agree hq28 hq30
 refine stp (v := .tuple [(.pointer rp30), .int .i64 e30].toArray) (o_mv rfl) <| stp (v := (.pointer rp30)) (o_ext rfl rfl) <| stp (v := .int .i64 e30) (o_ext rfl rfl) <| stp (v := (.pointer rp30)) (o_mv rfl) <| stp (v := .int .i64 e30) (o_mv rfl) <| h29 _ _ <| seq fun _ h31 => stp (v := (.pointer rp5)) (o_mv rfl) <| stp (v := (.pointer rp7)) (o_mv rfl) <| stp (v := kv) (o_mv rfl) <| m_call (alike_ok R7 es7 g7 _ _ _ ks w30 hox7 hkn hkl (hpx7 _ (hM30.res (i := 1) rfl).1) (hqx7 _ (hM30.res (i := 2) rfl).1) (hk.upd hM30.upd)) rfl fun v32 w32 ⟨hr32, hu32⟩ => ?_
 have hM32 : Mem w [] w32 [r7_, rs5, rs7, r26, rs28, rs30] := hM30.pure hu32
 subst hr32
 refine stp (v := .bool true) (o_mv rfl) <| h31 _ _ <| seq fun _ h33 => stp (v := .bool true) (o_mv rfl) <| stp (v := .bool true) (o_mv rfl) <| splitT rfl <| stg rfl (v := .int .i64 e28) (o_mv rfl) <| stg rfl (v := .int .i64 e30) (o_mv rfl) <| stg rfl (v := .bool (decide (e28 = e30))) (o_bin rfl rfl rfl) <| stp (v := .bool (decide (e28 = e30))) (o_pickT rfl rfl) <| stp (v := .bool (decide (e28 = e30))) (o_mv rfl) <| splitP rfl (fun c34 => ?_) (fun c34 => (c34 (by omega)).elim)
 refine stg rfl (v := (.pointer rp28)) (o_mv rfl) <| stg rfl (v := .bool (!g30)) (o_isnilP hnp30 rfl) <| stg rfl (v := (.pointer rp30)) (o_mv rfl) <| stg rfl (v := .bool (!g30)) (o_isnilP hnq30 rfl) <| stg rfl (v := .bool true) (o_beq rfl rfl (by simp)) <| stp (v := .bool true) (o_pickT rfl rfl) <| stp (v := .bool true) (o_mv rfl) <| splitT rfl <| stg rfl (v := ((.slice (some ⟨bg3, 0, none⟩) tile.length cp3))) (o_mv rfl) <| stg rfl (v := v26) (o_mv rfl) <| gyesl rfl <| m_call (sameBytes_ok _ _ X X w32 (hy7_.rd hM32 (i := 0) rfl) (hs26.rd hM32 (i := 3) rfl) (by first | omega | (simp; done) | (simp; omega))) rfl fun v35 w35 ⟨hr35, hu35⟩ => ?_
 have hM35 : Mem w [] w35 [r7_, rs5, rs7, r26, rs28, rs30] := hM32.pure hu35
 obtain rfl : v35 = .bool true := hr35.trans (by simp)
 clear hr35
 refine stp (v := .bool true) (o_pickT rfl rfl) <| stp (v := .bool true) (o_mv rfl) <| splitT rfl <| stg rfl (v := (.pointer rp28)) (o_mv rfl) <| stg rfl (v := (.pointer rp30)) (o_mv rfl) <| stg rfl (v := kv) (o_mv rfl) <| gyesl rfl <| m_call (alike_ok R30 es30 g30 _ _ _ ks w35 hox30 hkn hkl (hpx30 _ (hM35.res (i := 4) rfl).1) (hqx30 _ (hM35.res (i := 5) rfl).1) (hk.upd hM35.upd)) rfl fun v36 w36 ⟨hr36, hu36⟩ => ?_
 have hM36 : Mem w [] w36 [r7_, rs5, rs7, r26, rs28, rs30] := hM35.pure hu36
 subst hr36
 refine stp (v := .bool true) (o_pickT rfl rfl) <| stp (v := .bool true) (o_mv rfl) <| splitT rfl <| stg rfl (v := (.pointer rp5)) (o_mv rfl) <| stg rfl (v := (.pointer rp7)) (o_mv rfl) <| stg rfl (v := kv) (o_mv rfl) <| gyesl rfl <| m_call (alike_ok R7 es7 g7 _ _ _ ks w36 hox7 hkn hkl (hpx7 _ (hM36.res (i := 1) rfl).1) (hqx7 _ (hM36.res (i := 2) rfl).1) (hk.upd hM36.upd)) rfl fun v37 w37 ⟨hr37, hu37⟩ => ?_
 have hM37 : Mem w [] w37 [r7_, rs5, rs7, r26, rs28, rs30] := hM36.pure hu37
 subst hr37
 refine stp (v := .bool true) (o_pickT rfl rfl) <| stp (v := .bool true) (o_mv rfl) <| h33 _ _ <| ⟨(.bool true), rfl, ⟨rfl, hM37.upd⟩⟩
theorem keys_all {ks : List (List UInt8)} (h : ∀ k ∈ ks, k.length ≤ 140737488351232) (i : Nat) : (ks.getD i []).length ≤ 140737488355328 := by
 by_cases hi : i < ks.length
 ·rw [List.getD_eq_getElem?_getD, List.getElem?_eq_getElem hi]
  have := h _ (List.getElem_mem hi)
  show (ks[i]).length ≤ _
  omega
 rw [List.getD_eq_getElem?_getD, List.getElem?_eq_none (by omega)]; exact Nat.zero_le _
theorem BlockOpens_row (x : Value) (b : List UInt8) (n : Int) (y : Value) (ks : List (List UInt8)) (hn : inK .i64 n) (w : World) (hx : RdE byteV w x b) (hl : b.length ≤ 140737488351232) (hy : RdE strV w y ks) (hko : ∀ k ∈ ks, k.length ≤ 140737488351232) (hks : ks.length * 16 ≤ 140737488351232) : Calls Tryz.prog 4 [x, .int .i64 n, y].toArray w (Rt fun r w' => r = .bool true ∧ Upd [] w w') :=
 BlockOpens_ok x b n y ks w hn hx hl hy (by omega) (keys_all hko)
end Go.Proofs.YtifnmbmijljhfaaGreat.E
