/- Decoders in any state; nil ones. -/
import Derived.Test.YthhmhmnhbababaaD44
import Derived.Test.YthhmhmnhbababaaE23
import Derived.Test.YthhmhmnhbababaaD16
import Derived.Test.YthhmhmnhbababaaD17
namespace Go.Proofs.Ythhmhmnhbababaa.E
open Go
def FtA (L : List UInt8) (bk : Int) (br : Bool) (left P : Int) (PS : List Pp) (e : Int) : Prop := ((br = true ∨ 0 < left) ∧ P = 0 ∧ PS = [] ∧ e = 80) ∨ (¬ (br = true ∨ 0 < left) ∧ FtSpec L bk P PS e)
theorem ft_uniq {L : List UInt8} {bk P P' e e' : Int} {PS PS' : List Pp} (h : FtSpec L bk P PS e) (h' : FtSpec L bk P' PS' e') : P = P' ∧ PS = PS' ∧ e = e' := by
 rcases h with ⟨rfl, f, q, sp, u⟩ | ⟨rfl, rfl, rfl, u⟩
 ·rcases h' with ⟨rfl, f', q', sp', u'⟩ | ⟨rfl, rfl, rfl, u'⟩
  ·obtain ⟨rfl, rfl⟩ := u _ _ f' q'
   exact ⟨rfl, rfl, rfl⟩
  exact absurd sp (u' _ _ f q)
 rcases h' with ⟨rfl, f', q', sp', u'⟩ | ⟨rfl, rfl, rfl, u'⟩
 ·exact absurd sp' (u _ _ f' q')
 exact ⟨rfl, rfl, rfl⟩
theorem ftA_uniq {L : List UInt8} {bk left P P' e e' : Int} {br : Bool} {PS PS' : List Pp} (h : FtA L bk br left P PS e) (h' : FtA L bk br left P' PS' e') : P = P' ∧ PS = PS' ∧ e = e' := by
 rcases h with ⟨c, rfl, rfl, rfl⟩ | ⟨c, h⟩
 ·rcases h' with ⟨_, rfl, rfl, rfl⟩ | ⟨c', _⟩
  ·exact ⟨rfl, rfl, rfl⟩
  exact absurd c c'
 rcases h' with ⟨c', _⟩ | ⟨_, h'⟩
 ·exact absurd c' c
 exact ft_uniq h h'
theorem pg_step {left pg : Int} {br : Bool} {L c : List UInt8} (h0 : 0 ≤ left) (h1 : (L.length : Int) + left ≤ pg) : 0 ≤ (if pgE left br c = 0 then left - (c.length : Nat) else left) ∧ ((if pgE left br c = 0 then L ++ (openF c).1 else L).length : Int) + (if pgE left br c = 0 then left - (c.length : Nat) else left) ≤ pg := by
 by_cases h : pgE left br c = 0
 ·rw [if_pos h, if_pos h]
  obtain ⟨_, _, h2, _⟩ := pgE_0 h
  have := openF_len c
  rw [List.length_append]
  constructor <;> omega
 rw [if_neg h, if_neg h]; exact ⟨h0, h1⟩
set_option maxRecDepth 100000 in
theorem Foot_no (bd : Nat) (bk pg left : Int) (L : List UInt8) (br : Bool) (r0 : List Ent) (w : World) (hd : DecS bd bk pg left L br r0) (hr : Res w r0) (hn : br = true ∨ 0 < left) : Calls Try.prog 35 [.pointer (some ⟨bd, 0, none⟩)].toArray w (Rt fun r w' => r = .tuple #[.agg #[.int .i64 0, .slice none 0 0], .int .i64 80] ∧ Mem w (ids r0) w' [r0]) := by
 obtain ⟨vb, rb, hr0, hb⟩ := hd
 obtain ⟨S0, hS0⟩ : ∃ S0, S0 = ids r0 := ⟨_, rfl⟩
 rw [← hS0]
 subst hr0
 have hM0 : Mem w S0 w [[⟨bd, 98, [.int .i64 bk, .int .i64 pg, .int .i64 left, vb, .bool br]⟩], rb] := (by rw [hS0]; exact Mem.start2 hr)
 refine calls_vc mixed Try.func35 rfl C35 (by simp [Try.ntmps35]) <| seq fun _ h1 => m_al hM0 fun b2 w3 (hM3 : Mem w S0 w3 [[⟨bd, 98, [.int .i64 bk, .int .i64 pg, .int .i64 left, vb, .bool br]⟩], rb, [⟨b2, 24, [.int .i64 0, .slice none 0 0]⟩]]) => mv <| h1 _ _ <| seq fun _ h4 => seq fun _ h5 => mv <| stp (v := .bool false) (o_isnil rfl rfl) <| mv <| h5 _ _ <| cndF rfl <| seq fun _ h6 => mv ?_
 refine nilchk rfl <| fa rfl <| m_ld (v := .bool br) hM3 (i := 0) (j := 0) rfl rfl rfl rfl ?_
 rcases br with _ | _
 ·refine mv <| splitF rfl <| gmv rfl <| stg rfl (v := .pointer (some ⟨bd, 0, none⟩)) (o_nilchk rfl rfl) <| gfa rfl rfl <| gyesl rfl <| m_ld (v := .int .i64 left) hM3 (i := 0) (j := 0) rfl rfl rfl rfl <| gbn rfl rfl rfl <| pkF rfl <| mv <| h6 _ _ <| cndP rfl (fun c7 => ?_) (fun c7 => (c7 (hn.resolve_left (by simp))).elim)
  refine seq fun _ h8 => stp (v := .agg ([.int .i64 0, .slice none 0 0] : List Value).toArray) (o_bld rfl rfl) <| m_stA (l := [.int .i64 0, .slice none 0 0]) hM3 (i := 2) rfl rfl rfl rfl (by simp [oneCells, Value.oneCell', byteV]) (by simp) fun w9 (hM9 : Mem w S0 w9 [[⟨bd, 98, [.int .i64 bk, .int .i64 pg, .int .i64 left, vb, .bool false]⟩], rb, [⟨b2, 24, [.int .i64 0, .slice none 0 0]⟩]]) => mv <| h8 _ _ ?_
  show resV _ _ _ _ _
  refine res_cell (s := some 2) (by kernel_rfl) <| vl_ldA (cs := [.int .i64 0, .slice none 0 0]) rfl rfl ((hM9.at (i := 2) (j := 0) rfl rfl).agg rfl rfl) <| res_tmp <| ⟨(.tuple [.agg ([.int .i64 0, .slice none 0 0] : List Value).toArray, .int .i64 80].toArray), rfl, ⟨rfl, hM9.keep (by simp)⟩⟩
 refine mv <| splitT rfl <| gx rfl <| gx rfl <| gx rfl <| gxl rfl <| gx rfl <| pkT rfl <| mv <| h6 _ _ <| cndT rfl <| seq fun _ h10 => stp (v := .agg ([.int .i64 0, .slice none 0 0] : List Value).toArray) (o_bld rfl rfl) <| m_stA (l := [.int .i64 0, .slice none 0 0]) hM3 (i := 2) rfl rfl rfl rfl (by simp [oneCells, Value.oneCell', byteV]) (by simp) fun w11 (hM11 : Mem w S0 w11 [[⟨bd, 98, [.int .i64 bk, .int .i64 pg, .int .i64 left, vb, .bool true]⟩], rb, [⟨b2, 24, [.int .i64 0, .slice none 0 0]⟩]]) => mv <| h10 _ _ ?_
 show resV _ _ _ _ _
 refine res_cell (s := some 2) (by kernel_rfl) <| vl_ldA (cs := [.int .i64 0, .slice none 0 0]) rfl rfl ((hM11.at (i := 2) (j := 0) rfl rfl).agg rfl rfl) <| res_tmp <| ⟨(.tuple [.agg ([.int .i64 0, .slice none 0 0] : List Value).toArray, .int .i64 80].toArray), rfl, ⟨rfl, hM11.keep (by simp)⟩⟩
set_option maxRecDepth 100000 in
theorem rFoot_no (bd : Nat) (bk pg left : Int) (L : List UInt8) (br : Bool) (r0 : List Ent) (w : World) (hd : RDecS bd bk pg left L br r0) (hr : Res w r0) (hn : br = true ∨ left < pg) : Calls Try.prog 36 [.pointer (some ⟨bd, 0, none⟩)].toArray w (Rt fun r w' => r = .tuple #[.agg #[.int .i64 0, .slice none 0 0], .int .i64 80] ∧ Mem w (ids r0) w' [r0]) := by
 obtain ⟨vb, rb, hr0, hb⟩ := hd
 obtain ⟨S0, hS0⟩ : ∃ S0, S0 = ids r0 := ⟨_, rfl⟩
 rw [← hS0]
 subst hr0
 have hM0 : Mem w S0 w [[⟨bd, 100, [.int .i64 bk, .int .i64 pg, vb, .int .i64 left, .bool br]⟩], rb] := (by rw [hS0]; exact Mem.start2 hr)
 refine calls_vc mixed Try.func36 rfl C36 (by simp [Try.ntmps36]) <| seq fun _ h1 => m_al hM0 fun b2 w3 (hM3 : Mem w S0 w3 [[⟨bd, 100, [.int .i64 bk, .int .i64 pg, vb, .int .i64 left, .bool br]⟩], rb, [⟨b2, 24, [.int .i64 0, .slice none 0 0]⟩]]) => mv <| h1 _ _ <| seq fun _ h4 => seq fun _ h5 => mv <| stp (v := .bool false) (o_isnil rfl rfl) <| h5 _ _ <| cndF rfl <| h4 _ _ <| seq fun _ h6 => seq fun _ h7 => ?_
 intro wd e1 e2 e3 e4
 have hd := Upd.same e1 e2 e3 e4 []
 have hM8 := hM3.pure hd
 clear e1 e2 e3 e4
 refine ⟨none, ?_⟩
 show vd _ _ _ _ _ _ _
 refine dmv <| dq (v := .pointer (some ⟨bd, 0, none⟩)) (o_nilchk rfl rfl) <| dfa rfl <| dl (m_ld (v := .bool br) hM8 (i := 0) (j := 0) rfl rfl rfl rfl <| ⟨rfl, ?_⟩)
 rcases br with _ | _
 ·refine dmv <| dsplitF rfl <| dgmv rfl <| dqg rfl (v := .pointer (some ⟨bd, 0, none⟩)) (o_nilchk rfl rfl) <| dgfa rfl rfl <| dgmv rfl <| dqg rfl (v := .pointer (some ⟨bd, 0, none⟩)) (o_nilchk rfl rfl) <| dgfa rfl rfl <| dgfa rfl rfl <| dqgyes rfl rfl <| dqld rfl (trivial) (v := .int .i64 pg) ((hM8.at (i := 0) (j := 0) rfl rfl).cell 1) <| dgyesl rfl <| dl (m_ld (v := .int .i64 left) hM8 (i := 0) (j := 0) rfl rfl rfl rfl <| ⟨rfl, ?_⟩)
  refine dgbn rfl rfl rfl <| dpkF rfl <| h7 _ _ <| cndP rfl (fun c9 => ?_) (fun c9 => (c9 (hn.resolve_left (by simp))).elim)
  refine seq fun _ h10 => stp (v := .agg ([.int .i64 0, .slice none 0 0] : List Value).toArray) (o_bld rfl rfl) <| m_stA (l := [.int .i64 0, .slice none 0 0]) hM8 (i := 2) rfl rfl rfl rfl (by simp [oneCells, Value.oneCell', byteV]) (by simp) fun w11 (hM11 : Mem w S0 w11 [[⟨bd, 100, [.int .i64 bk, .int .i64 pg, vb, .int .i64 left, .bool false]⟩], rb, [⟨b2, 24, [.int .i64 0, .slice none 0 0]⟩]]) => mv <| h10 _ _ ?_
  show resV _ _ _ _ _
  refine res_cell (s := some 2) (by kernel_rfl) <| vl_ldA (cs := [.int .i64 0, .slice none 0 0]) rfl rfl ((hM11.at (i := 2) (j := 0) rfl rfl).agg rfl rfl) <| res_tmp <| ⟨(.tuple [.agg ([.int .i64 0, .slice none 0 0] : List Value).toArray, .int .i64 80].toArray), rfl, ⟨rfl, hM11.keep (by simp)⟩⟩
 refine dmv <| dsplitT rfl <| dx rfl <| dx rfl <| dx rfl <| dx rfl <| dx rfl <| dx rfl <| dx rfl <| dxq rfl <| dxl rfl <| dx rfl <| dpkT rfl <| h7 _ _ <| cndT rfl <| seq fun _ h12 => stp (v := .agg ([.int .i64 0, .slice none 0 0] : List Value).toArray) (o_bld rfl rfl) <| m_stA (l := [.int .i64 0, .slice none 0 0]) hM8 (i := 2) rfl rfl rfl rfl (by simp [oneCells, Value.oneCell', byteV]) (by simp) fun w13 (hM13 : Mem w S0 w13 [[⟨bd, 100, [.int .i64 bk, .int .i64 pg, vb, .int .i64 left, .bool true]⟩], rb, [⟨b2, 24, [.int .i64 0, .slice none 0 0]⟩]]) => mv <| h12 _ _ ?_
 show resV _ _ _ _ _
 refine res_cell (s := some 2) (by kernel_rfl) <| vl_ldA (cs := [.int .i64 0, .slice none 0 0]) rfl rfl ((hM13.at (i := 2) (j := 0) rfl rfl).agg rfl rfl) <| res_tmp <| ⟨(.tuple [.agg ([.int .i64 0, .slice none 0 0] : List Value).toArray, .int .i64 80].toArray), rfl, ⟨rfl, hM13.keep (by simp)⟩⟩
theorem FootA_ok (bd : Nat) (bk pg left : Int) (L : List UInt8) (br : Bool) (r0 : List Ent) (w : World) (hd : DecS bd bk pg left L br r0) (hr : Res w r0) (h0 : 0 ≤ left) (hl : L.length ≤ 140737488351232) : Calls Try.prog 35 [.pointer (some ⟨bd, 0, none⟩)].toArray w (Rt fun r w' => ∃ P v ps rs NS e, r = .tuple #[.agg #[.int .i64 P, v], .int .i64 e] ∧ SlS prC 5 71 v ps rs ∧ Nest NS ps ∧ (0 ≤ P ∧ P ≤ 65535) ∧ ps.length ≤ 65535 ∧ FtA L bk br left P (ps.map Pr.p) e ∧ Mem w (ids r0) w' [r0, rs, NS]) := by
 by_cases c : br = true ∨ 0 < left
 ·refine (Foot_no bd bk pg left L br r0 w hd hr c).mono fun en w' h => h.elim fun v h => ⟨v, h.1, ⟨0, _, [], [], [], 80, h.2.1, Sl.nil 5 71, Nest.nil, by omega, by simp, .inl ⟨c, rfl, rfl, rfl⟩, h.2.2.keep (by simp)⟩⟩
 obtain rfl : br = false := by cases br; rfl; exact absurd (.inl rfl) c
 obtain rfl : left = 0 := by have : ¬ 0 < left := fun k => c (.inr k); omega
 refine (Foot_ok bd bk pg L r0 w hd hr hl).mono fun en w' h => h.elim fun v h => ⟨v, h.1, ?_⟩
 obtain ⟨P, v1, ps, rs, NS, e, e1, h1, h2, h3, h4, h5, h6⟩ := h.2
 exact ⟨P, v1, ps, rs, NS, e, e1, h1, h2, h3, h4, .inr ⟨c, h5⟩, h6⟩
theorem rFootA_ok (bd : Nat) (bk pg left : Int) (L : List UInt8) (br : Bool) (r0 : List Ent) (w : World) (hd : RDecS bd bk pg (pg - left) L br r0) (hr : Res w r0) (h0 : 0 ≤ left) (hl : L.length ≤ 140737488351232) : Calls Try.prog 36 [.pointer (some ⟨bd, 0, none⟩)].toArray w (Rt fun r w' => ∃ P v ps rs NS e, r = .tuple #[.agg #[.int .i64 P, v], .int .i64 e] ∧ SlS prC 5 71 v ps rs ∧ Nest NS ps ∧ (0 ≤ P ∧ P ≤ 65535) ∧ ps.length ≤ 65535 ∧ FtA L bk br left P (ps.map Pr.p) e ∧ Mem w (ids r0) w' [r0, rs, NS]) := by
 by_cases c : br = true ∨ 0 < left
 ·refine (rFoot_no bd bk pg (pg - left) L br r0 w hd hr (c.imp id fun k => by omega)).mono fun en w' h => h.elim fun v h => ⟨v, h.1, ⟨0, _, [], [], [], 80, h.2.1, Sl.nil 5 71, Nest.nil, by omega, by simp, .inl ⟨c, rfl, rfl, rfl⟩, h.2.2.keep (by simp)⟩⟩
 obtain rfl : br = false := by cases br; rfl; exact absurd (.inl rfl) c
 obtain rfl : left = 0 := by have : ¬ 0 < left := fun k => c (.inr k); omega
 rw [Int.sub_zero] at hd
 refine (rFoot_ok bd bk pg L r0 w hd hr hl).mono fun en w' h => h.elim fun v h => ⟨v, h.1, ?_⟩
 obtain ⟨P, v1, ps, rs, NS, e, e1, h1, h2, h3, h4, h5, h6⟩ := h.2
 exact ⟨P, v1, ps, rs, NS, e, e1, h1, h2, h3, h4, .inr ⟨c, h5⟩, h6⟩
set_option maxRecDepth 100000 in
theorem Foot_nil (w : World) : Calls Try.prog 35 [.pointer none].toArray w (Rt fun r w' => r = .tuple #[.agg #[.int .i64 0, .slice none 0 0], .int .i64 1] ∧ Upd [] w w') := by
 have hM0 : Mem w [] w [] := Mem.nil w []
 refine calls_vc mixed Try.func35 rfl C35 (by simp [Try.ntmps35]) <| seq fun _ h1 => m_al hM0 fun b2 w3 (hM3 : Mem w [] w3 [[⟨b2, 24, [.int .i64 0, .slice none 0 0]⟩]]) => mv <| h1 _ _ <| seq fun _ h4 => seq fun _ h5 => mv <| stp (v := .bool true) (o_isnil rfl rfl) <| mv <| h5 _ _ <| cndT rfl <| seq fun _ h6 => stp (v := .agg ([.int .i64 0, .slice none 0 0] : List Value).toArray) (o_bld rfl rfl) ?_
 refine m_stA (l := [.int .i64 0, .slice none 0 0]) hM3 (i := 0) rfl rfl rfl rfl (by simp [oneCells, Value.oneCell', byteV]) (by simp) fun w7 (hM7 : Mem w [] w7 [[⟨b2, 24, [.int .i64 0, .slice none 0 0]⟩]]) => mv <| h6 _ _ ?_
 show resV _ _ _ _ _
 refine res_cell (s := some 2) (by kernel_rfl) <| vl_ldA (cs := [.int .i64 0, .slice none 0 0]) rfl rfl ((hM7.at (i := 0) (j := 0) rfl rfl).agg rfl rfl) <| res_tmp <| ⟨(.tuple [.agg ([.int .i64 0, .slice none 0 0] : List Value).toArray, .int .i64 1].toArray), rfl, ⟨rfl, hM7.upd⟩⟩
set_option maxRecDepth 100000 in
theorem rFoot_nil (w : World) : Calls Try.prog 36 [.pointer none].toArray w (Rt fun r w' => r = .tuple #[.agg #[.int .i64 0, .slice none 0 0], .int .i64 1] ∧ Upd [] w w') := by
 have hM0 : Mem w [] w [] := Mem.nil w []
 refine calls_vc mixed Try.func36 rfl C36 (by simp [Try.ntmps36]) <| seq fun _ h1 => m_al hM0 fun b2 w3 (hM3 : Mem w [] w3 [[⟨b2, 24, [.int .i64 0, .slice none 0 0]⟩]]) => mv <| h1 _ _ <| seq fun _ h4 => seq fun _ h5 => mv <| stp (v := .bool true) (o_isnil rfl rfl) <| h5 _ _ <| cndT rfl <| seq fun _ h6 => stp (v := .agg ([.int .i64 0, .slice none 0 0] : List Value).toArray) (o_bld rfl rfl) <| m_stA (l := [.int .i64 0, .slice none 0 0]) hM3 (i := 0) rfl rfl rfl rfl (by simp [oneCells, Value.oneCell', byteV]) (by simp) fun w7 (hM7 : Mem w [] w7 [[⟨b2, 24, [.int .i64 0, .slice none 0 0]⟩]]) => ?_
 refine mv <| h6 _ _ ?_
 show resV _ _ _ _ _
 refine res_cell (s := some 2) (by kernel_rfl) <| vl_ldA (cs := [.int .i64 0, .slice none 0 0]) rfl rfl ((hM7.at (i := 0) (j := 0) rfl rfl).agg rfl rfl) <| res_tmp <| ⟨(.tuple [.agg ([.int .i64 0, .slice none 0 0] : List Value).toArray, .int .i64 1].toArray), rfl, ⟨rfl, hM7.upd⟩⟩
theorem Page_nil (x : Value) (w : World) : Calls Try.prog 33 [.pointer none, x].toArray w (Rt fun r w' => r = .int .i64 1 ∧ Upd [] w w') := by
 have hM0 : Mem w [] w [] := Mem.nil w []
 refine calls_vc mixed Try.func33 rfl C33 (by simp [Try.ntmps33]) <| seq fun _ h1 => mv <| h1 _ _ <| seq fun _ h2 => seq fun _ h3 => mv <| stp (v := .bool true) (o_isnil rfl rfl) <| h3 _ _ <| cndT rfl <| seq fun _ h4 => mv <| h4 _ _ <| ⟨(.int .i64 1), rfl, ?_⟩
 exact ⟨rfl, hM0.upd⟩
theorem rPage_nil (x : Value) (w : World) : Calls Try.prog 34 [.pointer none, x].toArray w (Rt fun r w' => r = .int .i64 1 ∧ Upd [] w w') := by
 have hM0 : Mem w [] w [] := Mem.nil w []
 refine calls_vc mixed Try.func34 rfl C34 (by simp [Try.ntmps34]) <| seq fun _ h1 => mv <| h1 _ _ <| seq fun _ h2 => seq fun _ h3 => mv <| stp (v := .bool true) (o_isnil rfl rfl) <| h3 _ _ <| cndT rfl <| seq fun _ h4 => mv <| h4 _ _ <| ⟨(.int .i64 1), rfl, ?_⟩
 exact ⟨rfl, hM0.upd⟩
