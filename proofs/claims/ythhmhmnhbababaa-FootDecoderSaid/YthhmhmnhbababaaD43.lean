/- The reference's decoder. -/
import Derived.Test.YthhmhmnhbababaaD42
import Derived.Test.YthhmhmnhbababaaE23
import Derived.Test.YthhmhmnhbababaaD33
namespace Go.Proofs.Ythhmhmnhbababaa.E
open Go
def RDecS (bd : Nat) (bk pg came : Int) (L : List UInt8) (br : Bool) (r : List Ent) : Prop := ∃ vb rb, r = ⟨bd, 100, [.int .i64 bk, .int .i64 pg, vb, .int .i64 came, .bool br]⟩ :: rb ∧ SlE byteV 5 vb L rb
theorem FtR_bad {L : List UInt8} {bk P0 : Int} {PS0 : List Pp} (hsp : ∀ P QS, ftOk P QS → bodyF P QS = L → P = P0 ∧ QS = PS0) (h : ¬ chkF P0 PS0 = 0 ∨ ¬ bodyF P0 PS0 = L ∨ ¬ spaceF PS0 = bk) : FtSpec L bk 0 [] 80 := .inr ⟨rfl, rfl, rfl, fun P QS hf hb => by
 obtain ⟨rfl, rfl⟩ := hsp P QS hf hb
 rcases h with h | h | h
 ·exact absurd (chkF_iff.2 hf) h
 ·exact absurd hb h
 exact h⟩
theorem FtR_ok {L : List UInt8} {bk P0 : Int} {PS0 : List Pp} (hsp : ∀ P QS, ftOk P QS → bodyF P QS = L → P = P0 ∧ QS = PS0) (h1 : ftOk P0 PS0) (h2 : bodyF P0 PS0 = L) (h3 : spaceF PS0 = bk) : FtSpec L bk P0 PS0 0 := .inl ⟨rfl, h1, h2, h3, fun Q QS hf hb => hsp Q QS hf hb⟩
section
variable {P : Program} {r : List MI} {f : Fr} {w : World} {K : Fr → World → Prop} {d : Nat}
theorem m_slcW {w1 : World} {α : Type} {E : α → Value} {x yl yh : Operand} {k k' : IntKind} {u : Value} {l : List α} (A B : Nat) (h : RdE E w1 u l) (hx : ev f x = u) (hB : B ≤ l.length) (hA : A ≤ B) (hh : ev f yh = .int k B) (hl : ev f yl = .int k' A)
 (hk : ∀ v', (∀ w2, RdE E w2 u l → RdE E w2 v' ((l.drop A).take (B - A))) → vr P r (upd f d v') w K) : vr P (.p none d (.slc 1 x (some yl) (some yh) none) :: r) f w K := by
 obtain ⟨a, c, rfl, h2, h3, h4⟩ := h.form
 show kslice (ev f x) _
 rw [hx]
 show bnd (some (ev f yh)) l.length c fun h => bnd (some (ev f yl)) 0 h fun l' => vr P r (upd f d (.slice (cutAt 1 a l' c) (h - l') (c - l'))) w K
 refine bndS hh ⟨by omega, by omega⟩ ?_
 rw [Int.toNat_natCast]
 refine bndS hl ⟨by omega, by omega⟩ ?_
 rw [Int.toNat_natCast]
 refine hk _ fun w2 h' => ?_
 have key := Rd.sub h' (by simp) hB hA (by omega : 0 < 1)
 have e : ((l.drop A).take (B - A)).length = B - A := by rw [List.length_take, List.length_drop]; omega
 show Rd w2 _ _ _
 rw [e, ← List.drop_take]
 simp only [Nat.mul_one, List.map_drop, List.map_take] at key ⊢
 exact key
end
theorem bodyOfB_ok (n : Int) (hn : 16793600 < n ∧ n ≤ 9223372036854775807) (w : World) : Calls Try.prog 74 [.int .i64 n].toArray w (Rt fun r w' => r = .int .i64 0 ∧ Upd [] w w') := by
 have hM0 : Mem w [] w [] := Mem.nil w []
 refine calls_vc mixed Try.func74 rfl C74 (by simp [Try.ntmps74]) <| seq fun _ h1 => mv <| h1 _ _ <| seq fun _ h2 => mv <| stp (v := .int .i64 (IntKind.i64.wrap (n + 4096))) (o_bin rfl rfl rfl) <| stp (v := .int .i64 (IntKind.i64.wrap (IntKind.i64.wrap (n + 4096) + 3))) (o_bin rfl rfl rfl) <| stp (v := .int .i64 (IntKind.i64.wrap ((IntKind.i64.wrap (IntKind.i64.wrap (n + 4096) + 3)).tdiv 4100))) (o_quo rfl rfl (by omega) rfl) <| mv <| h2 _ _ <| seq fun _ h3 => mv <| mv ?_
 refine stp (v := .int .i64 (IntKind.i64.wrap (4 * IntKind.i64.wrap ((IntKind.i64.wrap (IntKind.i64.wrap (n + 4096) + 3)).tdiv 4100)))) (o_bin rfl rfl rfl) <| stp (v := .int .i64 (IntKind.i64.wrap (n - IntKind.i64.wrap (4 * IntKind.i64.wrap ((IntKind.i64.wrap (IntKind.i64.wrap (n + 4096) + 3)).tdiv 4100))))) (o_bin rfl rfl rfl) <| mv <| h3 _ _ <| seq fun _ h4 => seq fun _ h5 => mv <| bn rfl rfl <| mv <| splitP rfl (fun c6 => absurd c6 (by omega)) (fun c6 => gmv rfl <| gyesl rfl <| m_call (refPagesOf_ok 16777216 (by omega) w) rfl fun v7 w7 ⟨hr7, hu7⟩ => ?_)
 have hM7 : Mem w [] w7 [] := hM0.pure hu7
 subst hr7
 refine gbn rfl rfl rfl <| pkF rfl <| mv <| splitP rfl (fun c8 => ?_) (fun c8 => (c8 (by omega)).elim)
 refine gx rfl <| gx rfl <| pkT rfl <| mv <| splitT rfl <| gx rfl <| gx rfl <| pkT rfl <| mv <| splitT rfl <| gx rfl <| gxl rfl <| gx rfl <| gx rfl ?_
 refine pkT rfl <| h5 _ _ <| cndT rfl <| seq fun _ h9 => mv <| h9 _ _ <| ⟨(.int .i64 0), rfl, ⟨rfl, hM7.upd⟩⟩
theorem bodyOfG_ok (n : Int) (hn : 0 ≤ n ∧ n ≤ 9223372036854775807) (w : World) : Calls Try.prog 74 [.int .i64 n].toArray w (Rt fun r w' => ∃ m, r = .int .i64 m ∧ (0 < m ↔ (1 ≤ n ∧ n ≤ 16793600) ∧ (n % 4100 = 0 ∨ 5 ≤ n % 4100)) ∧ Upd [] w w') := by
 by_cases c : n ≤ 1073741824
 ·exact bodyOf_ok n (by omega) w
 exact (bodyOfB_ok n (by omega) w).mono fun en w' h => h.elim fun v h => ⟨v, h.1, 0, h.2.1, by omega, h.2.2⟩
theorem MayG_ok (bl pg : Int) (hb : inK .i64 bl) (hp : inK .i64 pg) (w : World) : Calls Try.prog 54 [.agg [.int .i64 bl, .int .i64 pg].toArray].toArray w (Rt fun r w' => r = .bool (decide (mayT bl pg)) ∧ Upd [] w w') := by
 have hM0 : Mem w [] w [] := Mem.nil w []
 simp only [inK] at hb hp
 refine calls_vc mixed Try.func54 rfl C54 (by simp [Try.ntmps54]) <| seq fun _ h1 => m_bx (v := .agg ([.int .i64 bl, .int .i64 pg] : List Value).toArray) hM0 rfl rfl fun b2 w3 (hM3 : Mem w [] w3 [[⟨b2, 36, [.int .i64 bl, .int .i64 pg]⟩]]) => mv <| h1 _ _ <| seq fun _ h4 => seq fun _ h5 => fa rfl <| m_ld (v := .int .i64 bl) hM3 (i := 0) (j := 0) rfl rfl rfl rfl <| bn rfl rfl <| mv <| splitP rfl (fun c6 => ?_) (fun c6 => ?_)
 ·refine gx rfl <| gxl rfl <| gx rfl <| pkT rfl <| mv <| splitT rfl <| gx rfl <| gxl rfl <| gx rfl <| pkT rfl <| h5 _ _ <| cndT rfl <| seq fun _ h7 => mv ?_
  refine h7 _ _ <| ⟨(.bool false), rfl, ?_⟩
  rw [may_no (by unfold mayT; omega)]; exact ⟨rfl, hM3.upd⟩
 refine gfa rfl rfl <| gyesl rfl <| m_ld (v := .int .i64 bl) hM3 (i := 0) (j := 0) rfl rfl rfl rfl <| gbn rfl rfl rfl <| pkF rfl <| mv <| splitP rfl (fun c8 => ?_) (fun c8 => ?_)
 ·refine gx rfl <| gxl rfl <| gx rfl <| pkT rfl <| h5 _ _ <| cndT rfl <| seq fun _ h9 => mv <| h9 _ _ <| ⟨(.bool false), rfl, ?_⟩
  rw [may_no (by unfold mayT; omega)]; exact ⟨rfl, hM3.upd⟩
 refine gfa rfl rfl <| gyesl rfl <| m_ld (v := .int .i64 pg) hM3 (i := 0) (j := 0) rfl rfl rfl rfl <| gbn rfl rfl rfl <| pkF rfl <| h5 _ _ <| cndP rfl (fun c10 => ?_) (fun c10 => ?_)
 ·refine seq fun _ h11 => mv <| h11 _ _ <| ⟨(.bool false), rfl, ?_⟩
  rw [may_no (by unfold mayT; omega)]; exact ⟨rfl, hM3.upd⟩
 refine h4 _ _ <| seq fun _ h12 => fa rfl <| m_ld (v := .int .i64 pg) hM3 (i := 0) (j := 0) rfl rfl rfl rfl <| m_call (bodyOfG_ok pg (by omega) w3) rfl fun v13 w13 ⟨m13, hr13, hb13, hu13⟩ => ?_
 have hM13 : Mem w [] w13 [[⟨b2, 36, [.int .i64 bl, .int .i64 pg]⟩]] := hM3.pure hu13
 subst hr13
 refine mv <| h12 _ _ <| seq fun _ h14 => mv <| bn rfl rfl <| mv <| h14 _ _ <| ⟨(.bool (decide ((0 : Int) < m13))), rfl, ⟨by congr 1; rw [decide_eq_decide]; unfold mayT; omega, hM13.upd⟩⟩
theorem rNewDecoder_yes (bk pg : Int) (hb : inK .i64 bk) (hp : inK .i64 pg) (hmay : mayT bk pg) (w : World) : Calls Try.prog 32 [.agg [.int .i64 bk, .int .i64 pg].toArray].toArray w (Rt fun r w' => ∃ bd rs, r = .tuple #[.pointer (some ⟨bd, 0, none⟩), .int .i64 0] ∧ RDecS bd bk pg 0 [] false rs ∧ Mem w [] w' [rs]) := by
 have hM0 : Mem w [] w [] := Mem.nil w []
 simp only [inK] at hb hp
 refine calls_vc mixed Try.func32 rfl C32 (by simp [Try.ntmps32]) <| seq fun _ h1 => m_bx (v := .agg ([.int .i64 bk, .int .i64 pg] : List Value).toArray) hM0 rfl rfl fun b2 w3 (hM3 : Mem w [] w3 [[⟨b2, 36, [.int .i64 bk, .int .i64 pg]⟩]]) => mv <| mv <| h1 _ _ <| seq fun _ h4 => m_ldA (l := [.int .i64 bk, .int .i64 pg]) hM3 (i := 0) (j := 0) rfl rfl rfl rfl rfl <| m_call (MayG_ok bk pg (by simp only [inK]; omega) (by simp only [inK]; omega) w3) rfl fun v5 w5 ⟨hr5, hu5⟩ => ?_
 have hM5 : Mem w [] w5 [[⟨b2, 36, [.int .i64 bk, .int .i64 pg]⟩]] := hM3.pure hu5
 rw [decide_eq_true hmay] at hr5
 subst hr5
 refine mv <| h4 _ _ <| seq fun _ h6 => seq fun _ h7 => mv <| stp (v := .bool false) (o_not rfl rfl) <| h7 _ _ <| cndF rfl <| h6 _ _ <| seq fun _ h8 => m_ldA (l := [.int .i64 bk, .int .i64 pg]) hM5 (i := 0) (j := 0) rfl rfl rfl rfl rfl <| stp (v := .agg ([.int .i64 bk, .int .i64 pg, .slice none 0 0, .int .i64 0, .bool false] : List Value).toArray) (o_bld rfl rfl) <| m_bx (v := .agg ([.int .i64 bk, .int .i64 pg, .slice none 0 0, .int .i64 0, .bool false] : List Value).toArray) hM5 rfl rfl fun b9 w10 (hM10 : Mem w [] w10 [[⟨b2, 36, [.int .i64 bk, .int .i64 pg]⟩], [⟨b9, 100, [.int .i64 bk, .int .i64 pg, .slice none 0 0, .int .i64 0, .bool false]⟩]]) => mv ?_
 refine mv <| h8 _ _ <| ⟨(.tuple [.pointer (some ⟨b9, 0, none⟩), .int .i64 0].toArray), rfl, ⟨_, _, rfl, ⟨_, [], rfl, Sl.nil 1 5⟩, (hM10.drop 0).keep (by simp)⟩⟩
theorem rNewDecoder_no (bk pg : Int) (hb : inK .i64 bk) (hp : inK .i64 pg) (hmay : ¬ mayT bk pg) (w : World) : Calls Try.prog 32 [.agg [.int .i64 bk, .int .i64 pg].toArray].toArray w (Rt fun r w' => r = .tuple #[.pointer none, .int .i64 81] ∧ Upd [] w w') := by
 have hM0 : Mem w [] w [] := Mem.nil w []
 simp only [inK] at hb hp
 refine calls_vc mixed Try.func32 rfl C32 (by simp [Try.ntmps32]) <| seq fun _ h1 => m_bx (v := .agg ([.int .i64 bk, .int .i64 pg] : List Value).toArray) hM0 rfl rfl fun b2 w3 (hM3 : Mem w [] w3 [[⟨b2, 36, [.int .i64 bk, .int .i64 pg]⟩]]) => mv <| mv <| h1 _ _ <| seq fun _ h4 => m_ldA (l := [.int .i64 bk, .int .i64 pg]) hM3 (i := 0) (j := 0) rfl rfl rfl rfl rfl <| m_call (MayG_ok bk pg (by simp only [inK]; omega) (by simp only [inK]; omega) w3) rfl fun v5 w5 ⟨hr5, hu5⟩ => ?_
 have hM5 : Mem w [] w5 [[⟨b2, 36, [.int .i64 bk, .int .i64 pg]⟩]] := hM3.pure hu5
 rw [decide_eq_false hmay] at hr5
 subst hr5
 refine mv <| h4 _ _ <| seq fun _ h6 => seq fun _ h7 => mv <| stp (v := .bool true) (o_not rfl rfl) <| h7 _ _ <| cndT rfl <| seq fun _ h8 => mv <| mv <| h8 _ _ <| ⟨(.tuple [.pointer none, .int .i64 81].toArray), rfl, ⟨rfl, hM5.upd⟩⟩
theorem next_ok (bd : Nat) (bk pg came : Int) (vb : Value) (br : Bool) (w : World) (hw : Own w ⟨bd, 100, [.int .i64 bk, .int .i64 pg, vb, .int .i64 came, .bool br]⟩) (hc : 0 ≤ came ∧ came ≤ pg ∧ pg ≤ 9223372036854775807) : Calls Try.prog 64 [.pointer (some ⟨bd, 0, none⟩)].toArray w (Rt fun r w' => r = .int .i64 (min (pg - came) 4100) ∧ Upd [] w w') := by
 have hM0 : Mem w [] w [] := Mem.nil w []
 refine calls_vc mixed Try.func64 rfl C64 (by simp [Try.ntmps64]) <| seq fun _ h1 => mv <| h1 _ _ <| seq fun _ h2 => ?_
 intro wd e1 e2 e3 e4
 have hd := Upd.same e1 e2 e3 e4 []
 have hM3 := hM0.pure hd
 clear e1 e2 e3 e4
 refine ⟨none, ?_⟩
 show vd _ _ _ _ _ _ _
 refine dmv <| dq (v := .pointer (some ⟨bd, 0, none⟩)) (o_nilchk rfl rfl) <| dfa rfl <| dfa rfl <| dmv <| dq (v := .pointer (some ⟨bd, 0, none⟩)) (o_nilchk rfl rfl) <| dfa rfl <| dqld rfl (trivial) (v := .int .i64 came) ((hw.upd hM3.upd (by simp)).cell 3) <| dl (ld (v := .int .i64 pg) rfl ((hw.upd hM3.upd (by simp)).cell 1) <| ⟨rfl, dq (v := .int .i64 (pg - came)) (o_bin rfl rfl (v_sub64 (by omega))) <| dmv <| h2 _ _ <| seq fun _ h4 => ?_⟩)
 refine seq fun _ h5 => mv <| bn rfl rfl <| h5 _ _ <| cndP rfl (fun c6 => ?_) (fun c6 => ?_)
 ·refine mv <| h4 _ _ <| seq fun _ h7 => mv <| mv <| h7 _ _ <| ⟨(.int .i64 4100), rfl, ⟨v_int (by omega), hM3.upd⟩⟩
 refine h4 _ _ <| seq fun _ h8 => mv <| mv <| h8 _ _ <| ⟨(.int .i64 (pg - came)), rfl, ⟨v_int (by omega), hM3.upd⟩⟩
theorem rPage_ok (bd : Nat) (bk pg came : Int) (L : List UInt8) (br : Bool) (x : Value) (c : List UInt8) (r0 : List Ent) (w : World) (hd : RDecS bd bk pg came L br r0) (hr : Res w r0) (hfar : ∀ w', Upd (ids r0) w w' → RdE byteV w' x c) (hc0 : 0 ≤ came ∧ came ≤ pg ∧ pg ≤ 9223372036854775807) (hl : L.length + min c.length 4100 ≤ 140737488351232 ∧ c.length ≤ 140737488351232) : Calls Try.prog 34 [.pointer (some ⟨bd, 0, none⟩), x].toArray w (Rt fun r w' => ∃ r', r = .int .i64 (pgE (pg - came) br c) ∧ RDecS bd bk pg (if pgE (pg - came) br c = 0 then came + (c.length : Nat) else came) (if pgE (pg - came) br c = 0 then L ++ (openF c).1 else L) (if pgE (pg - came) br c = 0 then br else true) r' ∧ Mem w (ids r0) w' [r']) := by
 obtain ⟨vb, rb, hr0, hb⟩ := hd
 obtain ⟨S0, hS0⟩ : ∃ S0, S0 = ids r0 := ⟨_, rfl⟩
 rw [← hS0] at hfar ⊢
 subst hr0
 have hM0 : Mem w S0 w [[⟨bd, 100, [.int .i64 bk, .int .i64 pg, vb, .int .i64 came, .bool br]⟩], rb] := (by rw [hS0]; exact Mem.start2 hr)
 refine calls_vc mixed Try.func34 rfl C34 (by simp [Try.ntmps34]) <| seq fun _ h1 => mv <| h1 _ _ <| seq fun _ h2 => seq fun _ h3 => mv <| stp (v := .bool false) (o_isnil rfl rfl) <| h3 _ _ <| cndF rfl <| h2 _ _ <| seq fun _ h4 => mv <| m_call (next_ok bd bk pg came vb br w (hM0.at (i := 0) (j := 0) rfl rfl) (by omega)) rfl fun v5 w5 ⟨hr5, hu5⟩ => ?_
 have hM5 : Mem w S0 w5 [[⟨bd, 100, [.int .i64 bk, .int .i64 pg, vb, .int .i64 came, .bool br]⟩], rb] := hM0.pure hu5
 subst hr5
 refine mv <| h4 _ _ <| seq fun _ h6 => seq fun _ h7 => mv <| nilchk rfl <| fa rfl <| m_ld (v := .bool br) hM5 (i := 0) (j := 0) rfl rfl rfl rfl ?_
 rcases br with _ | _
 ·refine mv <| splitF rfl <| gmv rfl <| gbn rfl rfl rfl <| pkF rfl <| h7 _ _ <| cndP rfl (fun c8 => ?_) (fun c8 => ?_)
  ·refine seq fun _ h9 => mv <| nilchk rfl <| fa rfl <| m_st (v := .bool true) hM5 (i := 0) rfl rfl rfl rfl (by simp) fun w10 (hM10 : Mem w S0 w10 [[⟨bd, 100, [.int .i64 bk, .int .i64 pg, vb, .int .i64 came, .bool true]⟩], rb]) => h9 _ _ <| seq fun _ h11 => mv <| h11 _ _ <| ⟨(.int .i64 80), rfl, ?_⟩
   have je := pgE_no (c := c) (left := pg - came) (br := false) (.inr (.inl (by omega)))
   exact ⟨⟨bd, 100, [.int .i64 bk, .int .i64 pg, vb, .int .i64 came, .bool true]⟩ :: rb, by rw [je], ⟨_, _, by rw [je]; rfl, by rw [je]; exact hb⟩, hM10.keep (by simp)⟩
  refine h6 _ _ <| seq fun _ h12 => mv <| m_call (refOpen_ok _ c w5 ((hfar _ hM5.upd)) (by first | omega | (simp; done) | (simp; omega))) rfl fun v13 w13 ⟨v13_, rs13, hr13, hs13, hm13⟩ => ?_
  have hM13 : Mem w S0 w13 [[⟨bd, 100, [.int .i64 bk, .int .i64 pg, vb, .int .i64 came, .bool false]⟩], rb, rs13] := hM5.add hm13
  subst hr13
  have hol13 := openF_len c
  refine mv <| ext rfl rfl <| ext rfl rfl <| mv <| mv <| h12 _ _ <| seq fun _ h14 => seq fun _ h15 => mv <| bneq rfl rfl <| mv <| splitP rfl (fun c16 => ?_) (fun c16 => ?_)
  ·refine gx rfl <| gx rfl <| gx rfl <| gx rfl <| pkT rfl <| h15 _ _ <| cndT rfl <| seq fun _ h17 => mv <| nilchk rfl <| fa rfl <| m_st (v := .bool true) hM13 (i := 0) rfl rfl rfl rfl (by simp) fun w18 (hM18 : Mem w S0 w18 [[⟨bd, 100, [.int .i64 bk, .int .i64 pg, vb, .int .i64 came, .bool true]⟩], rb, rs13]) => h17 _ _ <| seq fun _ h19 => ?_
   refine mv <| h19 _ _ <| ⟨(.int .i64 80), rfl, ?_⟩
   have je := pgE_no (c := c) (left := pg - came) (br := false) (.inr (.inr (.inr (by omega))))
   exact ⟨⟨bd, 100, [.int .i64 bk, .int .i64 pg, vb, .int .i64 came, .bool true]⟩ :: rb, by rw [je], ⟨_, _, by rw [je]; rfl, by rw [je]; exact hb⟩, hM18.keep (by simp)⟩
  refine gmv rfl <| stg rfl (v := .int .i64 (c.length : Nat)) (o_lenR ((hfar _ hM13.upd)) rfl rfl) <| gmv rfl <| gbneq rfl rfl rfl <| pkF rfl <| h15 _ _ <| cndP rfl (fun c20 => ?_) (fun c20 => ?_)
  ·refine seq fun _ h21 => mv <| nilchk rfl <| fa rfl <| m_st (v := .bool true) hM13 (i := 0) rfl rfl rfl rfl (by simp) fun w22 (hM22 : Mem w S0 w22 [[⟨bd, 100, [.int .i64 bk, .int .i64 pg, vb, .int .i64 came, .bool true]⟩], rb, rs13]) => h21 _ _ <| seq fun _ h23 => mv <| h23 _ _ <| ⟨(.int .i64 80), rfl, ?_⟩
   have je := pgE_no (c := c) (left := pg - came) (br := false) (.inr (.inr (.inl (by omega))))
   exact ⟨⟨bd, 100, [.int .i64 bk, .int .i64 pg, vb, .int .i64 came, .bool true]⟩ :: rb, by rw [je], ⟨_, _, by rw [je]; rfl, by rw [je]; exact hb⟩, hM22.keep (by simp)⟩
  refine h14 _ _ <| seq fun _ h24 => mv <| mv <| nilchk rfl <| fa rfl <| m_ld (v := .int .i64 came) hM13 (i := 0) (j := 0) rfl rfl rfl rfl <| mv <| stp (v := .int .i64 (came + (min (pg - came) 4100))) (o_bin rfl rfl (v_add64 (by omega))) <| nilchk rfl <| fa rfl <| m_st (v := .int .i64 (came + (min (pg - came) 4100))) hM13 (i := 0) rfl rfl rfl rfl (by simp) fun w25 (hM25 : Mem w S0 w25 [[⟨bd, 100, [.int .i64 bk, .int .i64 pg, vb, .int .i64 (came + (min (pg - came) 4100)), .bool false]⟩], rb, rs13]) => h24 _ _ <| seq fun _ h26 => mv <| mv <| nilchk rfl <| fa rfl <| m_ld (v := vb) hM25 (i := 0) (j := 0) rfl rfl rfl rfl <| mv <| m_appE hM25 (i := 1) rfl hb rfl rfl (hs13.rd hM25 (i := 2) rfl) (by first | omega | (simp; omega)) (by omega) fun v27 w27 r27 (hs27 : SlE byteV 5 v27 (L ++ ((openF c).1)) r27) (hM27 : Mem w S0 w27 [[⟨bd, 100, [.int .i64 bk, .int .i64 pg, vb, .int .i64 (came + (min (pg - came) 4100)), .bool false]⟩], r27, rs13]) => nilchk rfl <| fa rfl <| m_st (v := v27) hM27 (i := 0) rfl rfl rfl (Sl.one hs27) (by simp) fun w28 (hM28 : Mem w S0 w28 [[⟨bd, 100, [.int .i64 bk, .int .i64 pg, v27, .int .i64 (came + (min (pg - came) 4100)), .bool false]⟩], r27, rs13]) => h26 _ _ <| seq fun _ h29 => mv <| h29 _ _ <| ⟨(.int .i64 0), rfl, ?_⟩
  have je := pgE_yes (c := c) (left := pg - came) (by omega)
  exact ⟨⟨bd, 100, [.int .i64 bk, .int .i64 pg, v27, .int .i64 (came + min (pg - came) 4100), .bool false]⟩ :: r27, by rw [je], ⟨_, _, by rw [je, if_pos rfl, if_pos rfl, show came + min (pg - came) 4100 = came + (c.length : Nat) by omega], by rw [je]; exact hs27⟩, hM28.keep (by simp)⟩
 refine mv <| splitT rfl <| gx rfl <| gx rfl <| pkT rfl <| h7 _ _ <| cndT rfl <| seq fun _ h30 => mv <| nilchk rfl <| fa rfl <| m_st (v := .bool true) hM5 (i := 0) rfl rfl rfl rfl (by simp) fun w31 (hM31 : Mem w S0 w31 [[⟨bd, 100, [.int .i64 bk, .int .i64 pg, vb, .int .i64 came, .bool true]⟩], rb]) => h30 _ _ <| seq fun _ h32 => mv <| h32 _ _ <| ⟨(.int .i64 80), rfl, ?_⟩
 have je := pgE_no (c := c) (left := pg - came) (br := true) (.inl rfl)
 exact ⟨⟨bd, 100, [.int .i64 bk, .int .i64 pg, vb, .int .i64 came, .bool true]⟩ :: rb, by rw [je], ⟨_, _, by rw [je]; rfl, by rw [je]; exact hb⟩, hM31.keep (by simp)⟩
set_option maxRecDepth 100000 in
theorem rFoot_ok (bd : Nat) (bk pg : Int) (L : List UInt8) (r0 : List Ent) (w : World) (hd : RDecS bd bk pg pg L false r0) (hr : Res w r0) (hl : L.length ≤ 140737488351232) : Calls Try.prog 36 [.pointer (some ⟨bd, 0, none⟩)].toArray w (Rt fun r w' => ∃ P v ps rs NS e, r = .tuple #[.agg #[.int .i64 P, v], .int .i64 e] ∧ SlS prC 5 71 v ps rs ∧ Nest NS ps ∧ (0 ≤ P ∧ P ≤ 65535) ∧ ps.length ≤ 65535 ∧ FtSpec L bk P (ps.map Pr.p) e ∧ Mem w (ids r0) w' [r0, rs, NS]) := by
 obtain ⟨vb, rb, hr0, hb⟩ := hd
 obtain ⟨S0, hS0⟩ : ∃ S0, S0 = ids r0 := ⟨_, rfl⟩
 rw [← hS0]
 subst hr0
 have hM0 : Mem w S0 w [[⟨bd, 100, [.int .i64 bk, .int .i64 pg, vb, .int .i64 pg, .bool false]⟩], rb] := (by rw [hS0]; exact Mem.start2 hr)
 refine calls_vc mixed Try.func36 rfl C36 (by simp [Try.ntmps36]) <| seq fun _ h1 => m_al hM0 fun b2 w3 (hM3 : Mem w S0 w3 [[⟨bd, 100, [.int .i64 bk, .int .i64 pg, vb, .int .i64 pg, .bool false]⟩], rb, [⟨b2, 24, [.int .i64 0, .slice none 0 0]⟩]]) => mv <| h1 _ _ <| seq fun _ h4 => seq fun _ h5 => mv <| stp (v := .bool false) (o_isnil rfl rfl) <| h5 _ _ <| cndF rfl <| h4 _ _ <| seq fun _ h6 => seq fun _ h7 => ?_
 intro wd e1 e2 e3 e4
 have hd := Upd.same e1 e2 e3 e4 []
 have hM8 := hM3.pure hd
 clear e1 e2 e3 e4
 refine ⟨none, ?_⟩
 show vd _ _ _ _ _ _ _
 refine dmv <| dq (v := .pointer (some ⟨bd, 0, none⟩)) (o_nilchk rfl rfl) <| dfa rfl <| dl (m_ld (v := .bool false) hM8 (i := 0) (j := 0) rfl rfl rfl rfl <| ⟨rfl, dmv <| dsplitF rfl <| dgmv rfl <| dqg rfl (v := .pointer (some ⟨bd, 0, none⟩)) (o_nilchk rfl rfl) <| dgfa rfl rfl <| dgmv rfl <| dqg rfl (v := .pointer (some ⟨bd, 0, none⟩)) (o_nilchk rfl rfl) <| dgfa rfl rfl <| dgfa rfl rfl ?_⟩)
 refine dqgyes rfl rfl <| dqld rfl (trivial) (v := .int .i64 pg) ((hM8.at (i := 0) (j := 0) rfl rfl).cell 1) <| dgyesl rfl <| dl (m_ld (v := .int .i64 pg) hM8 (i := 0) (j := 0) rfl rfl rfl rfl <| ⟨rfl, dgbn rfl rfl rfl <| dpkF rfl <| h7 _ _ <| cndP rfl (fun c9 => ?_) (fun c9 => ?_)⟩)
 ·refine seq fun _ h10 => stp (v := .agg ([.int .i64 0, .slice none 0 0] : List Value).toArray) (o_bld rfl rfl) <| m_stA (l := [.int .i64 0, .slice none 0 0]) hM8 (i := 2) rfl rfl rfl rfl (by simp [oneCells, Value.oneCell', byteV]) (by simp) fun w11 (hM11 : Mem w S0 w11 [[⟨bd, 100, [.int .i64 bk, .int .i64 pg, vb, .int .i64 pg, .bool false]⟩], rb, [⟨b2, 24, [.int .i64 0, .slice none 0 0]⟩]]) => mv <| h10 _ _ ?_
  show resV _ _ _ _ _
  refine res_cell (s := some 2) (by kernel_rfl) <| vl_ldA (cs := [.int .i64 0, .slice none 0 0]) rfl rfl ((hM11.at (i := 2) (j := 0) rfl rfl).agg rfl rfl) <| res_tmp <| ⟨(.tuple [.agg ([.int .i64 0, .slice none 0 0] : List Value).toArray, .int .i64 80].toArray), rfl, absurd (show pg < pg from by assumption) (by omega)⟩
 refine h6 _ _ <| seq fun _ h12 => mv <| nilchk rfl <| fa rfl <| m_ld (v := vb) hM8 (i := 0) (j := 0) rfl rfl rfl rfl <| m_call (rread_ok _ L wd (hb.rd hM8 (i := 1) rfl) (by omega)) rfl fun v13 w13 ⟨P13, v13_, ps13, rs13, NS13, hr13, hs13, hN13, hP13, hpl13, hsp13, hm13⟩ => ?_
 have hM13 : Mem w S0 w13 [[⟨bd, 100, [.int .i64 bk, .int .i64 pg, vb, .int .i64 pg, .bool false]⟩], rb, [⟨b2, 24, [.int .i64 0, .slice none 0 0]⟩], rs13, NS13] := hM8.add2 hm13
 subst hr13
 obtain ⟨av13, lv13, cv13, rfl⟩ := hs13.isSlice
 refine m_al hM13 fun b14 w15 (hM15 : Mem w S0 w15 [[⟨bd, 100, [.int .i64 bk, .int .i64 pg, vb, .int .i64 pg, .bool false]⟩], rb, [⟨b2, 24, [.int .i64 0, .slice none 0 0]⟩], rs13, NS13, [⟨b14, 24, [.int .i64 0, .slice none 0 0]⟩]]) => m_stA (l := [.int .i64 P13, (.slice av13 lv13 cv13)]) hM15 (i := 5) rfl rfl rfl rfl (by simp [oneCells, Value.oneCell', byteV]) (by simp) fun w16 (hM16 : Mem w S0 w16 [[⟨bd, 100, [.int .i64 bk, .int .i64 pg, vb, .int .i64 pg, .bool false]⟩], rb, [⟨b2, 24, [.int .i64 0, .slice none 0 0]⟩], rs13, NS13, [⟨b14, 24, [.int .i64 P13, (.slice av13 lv13 cv13)]⟩]]) => h12 _ _ <| seq fun _ h17 => seq fun _ h18 => ?_
 intro wd e1 e2 e3 e4
 have hd := Upd.same e1 e2 e3 e4 []
 have hM19 := hM16.pure hd
 clear e1 e2 e3 e4
 refine ⟨(some [bd, b14]), ?_⟩
 show vd _ _ _ _ _ _ _
 refine dl (m_ldA (l := [.int .i64 P13, (.slice av13 lv13 cv13)]) hM19 (i := 5) (j := 0) rfl rfl rfl rfl rfl <| ⟨(fun b hb => rfl), dl (m_call (refChk_ok P13 _ ps13 wd (hs13.rd hM19 (i := 3) rfl) (hN13.rd _ (hM19.res (i := 4) rfl).1) (by omega) (by simp only [inK]; omega)) rfl fun v20 w20 ⟨hr20, hu20⟩ => ?_)⟩)
 have hM20 : Mem w S0 w20 [[⟨bd, 100, [.int .i64 bk, .int .i64 pg, vb, .int .i64 pg, .bool false]⟩], rb, [⟨b2, 24, [.int .i64 0, .slice none 0 0]⟩], rs13, NS13, [⟨b14, 24, [.int .i64 P13, (.slice av13 lv13 cv13)]⟩]] := hM19.pure hu20
 subst hr20
 have hh20 := held_upd (wr := wd) (bs := [bd, b14]) hu20 (fun b hb => by
  simp only [List.mem_cons, List.not_mem_nil, or_false] at hb
  rcases hb with h | h
  ·rw [h]; exact ⟨(hM19.at (i := 0) (j := 0) rfl rfl).lt, by simp⟩
  rw [h]; exact ⟨(hM19.at (i := 5) (j := 0) rfl rfl).lt, by simp⟩) (fun b hb => rfl)
 refine ⟨hh20, dq (v := .bool (decide (¬ (chkF P13 (List.map Pr.p ps13)) = 0))) (o_bin rfl rfl v_neq) <| dmv <| dsplitP rfl (fun c21 => ?_) (fun c21 => ?_)⟩
 ·refine dx rfl <| dx rfl <| dx rfl <| dxq rfl <| dxq rfl ?_
  show _ ∧ _
  refine ⟨?_, ?_⟩
  ·show vd _ _ _ _ _ _ _
   refine dxl rfl ?_
   show _ ∧ _
   refine ⟨?_, ?_⟩
   ·show vd _ _ _ _ _ _ _
    refine dxl rfl <| dxl rfl <| dx rfl <| dpkT rfl <| dmv <| dsplitT rfl <| dx rfl <| dx rfl <| dx rfl <| dx rfl <| dxq rfl <| dxl rfl <| dxl rfl <| dx rfl ?_
    refine dpkT rfl <| h18 _ _ <| cndT rfl <| seq fun _ h22 => stp (v := .agg ([.int .i64 0, .slice none 0 0] : List Value).toArray) (o_bld rfl rfl) <| m_stA (l := [.int .i64 0, .slice none 0 0]) hM20 (i := 2) rfl rfl rfl rfl (by simp [oneCells, Value.oneCell', byteV]) (by simp) fun w23 (hM23 : Mem w S0 w23 [[⟨bd, 100, [.int .i64 bk, .int .i64 pg, vb, .int .i64 pg, .bool false]⟩], rb, [⟨b2, 24, [.int .i64 0, .slice none 0 0]⟩], rs13, NS13, [⟨b14, 24, [.int .i64 P13, (.slice av13 lv13 cv13)]⟩]]) => mv <| h22 _ _ ?_
    show resV _ _ _ _ _
    refine res_cell (s := some 2) (by kernel_rfl) <| vl_ldA (cs := [.int .i64 0, .slice none 0 0]) rfl rfl ((hM23.at (i := 2) (j := 0) rfl rfl).agg rfl rfl) <| res_tmp <| ⟨(.tuple [.agg ([.int .i64 0, .slice none 0 0] : List Value).toArray, .int .i64 80].toArray), rfl, ⟨0, .slice none 0 0, [], [], [], 80, rfl, Sl.nil 5 71, Nest.nil, by omega, by simp, FtR_bad hsp13 (.inl (by omega)), hM23.keep (by simp)⟩⟩
   show vd _ _ _ _ _ _ _
   refine dxl rfl <| dxl rfl <| dx rfl <| dpkT rfl <| dmv <| dsplitT rfl <| dx rfl <| dx rfl <| dx rfl <| dx rfl <| dxq rfl <| dxl rfl <| dxl rfl <| dx rfl <| dpkT rfl <| h18 _ _ <| cndT rfl <| seq fun _ h24 => stp (v := .agg ([.int .i64 0, .slice none 0 0] : List Value).toArray) (o_bld rfl rfl) <| m_stA (l := [.int .i64 0, .slice none 0 0]) hM20 (i := 2) rfl rfl rfl rfl (by simp [oneCells, Value.oneCell', byteV]) (by simp) fun w25 (hM25 : Mem w S0 w25 [[⟨bd, 100, [.int .i64 bk, .int .i64 pg, vb, .int .i64 pg, .bool false]⟩], rb, [⟨b2, 24, [.int .i64 0, .slice none 0 0]⟩], rs13, NS13, [⟨b14, 24, [.int .i64 P13, (.slice av13 lv13 cv13)]⟩]]) => mv <| h24 _ _ ?_
   show resV _ _ _ _ _
   refine res_cell (s := some 2) (by kernel_rfl) <| vl_ldA (cs := [.int .i64 0, .slice none 0 0]) rfl rfl ((hM25.at (i := 2) (j := 0) rfl rfl).agg rfl rfl) <| res_tmp <| ⟨(.tuple [.agg ([.int .i64 0, .slice none 0 0] : List Value).toArray, .int .i64 80].toArray), rfl, ⟨0, .slice none 0 0, [], [], [], 80, rfl, Sl.nil 5 71, Nest.nil, by omega, by simp, FtR_bad hsp13 (.inl (by omega)), hM25.keep (by simp)⟩⟩
  show vd _ _ _ _ _ _ _
  refine dxl rfl <| dxl rfl <| dxl rfl <| dx rfl <| dpkT rfl <| dmv <| dsplitT rfl <| dx rfl <| dx rfl <| dx rfl <| dx rfl <| dxq rfl <| dxl rfl <| dxl rfl <| dx rfl <| dpkT rfl <| h18 _ _ <| cndT rfl <| seq fun _ h26 => stp (v := .agg ([.int .i64 0, .slice none 0 0] : List Value).toArray) (o_bld rfl rfl) <| m_stA (l := [.int .i64 0, .slice none 0 0]) hM20 (i := 2) rfl rfl rfl rfl (by simp [oneCells, Value.oneCell', byteV]) (by simp) fun w27 (hM27 : Mem w S0 w27 [[⟨bd, 100, [.int .i64 bk, .int .i64 pg, vb, .int .i64 pg, .bool false]⟩], rb, [⟨b2, 24, [.int .i64 0, .slice none 0 0]⟩], rs13, NS13, [⟨b14, 24, [.int .i64 P13, (.slice av13 lv13 cv13)]⟩]]) => mv <| h26 _ _ ?_
  show resV _ _ _ _ _
  refine res_cell (s := some 2) (by kernel_rfl) <| vl_ldA (cs := [.int .i64 0, .slice none 0 0]) rfl rfl ((hM27.at (i := 2) (j := 0) rfl rfl).agg rfl rfl) <| res_tmp <| ⟨(.tuple [.agg ([.int .i64 0, .slice none 0 0] : List Value).toArray, .int .i64 80].toArray), rfl, ⟨0, .slice none 0 0, [], [], [], 80, rfl, Sl.nil 5 71, Nest.nil, by omega, by simp, FtR_bad hsp13 (.inl (by omega)), hM27.keep (by simp)⟩⟩
 refine dgmv rfl <| dqg rfl (v := .pointer (some ⟨bd, 0, none⟩)) (o_nilchk rfl rfl) <| dgfa rfl rfl <| dqgyes rfl rfl <| dqld rfl (by simp [isHeld]) (v := vb) ((hM19.at (i := 0) (j := 0) rfl rfl).cell 2) <| dqgyes rfl rfl <| dqldA (cs := [.int .i64 P13, (.slice av13 lv13 cv13)]) rfl (by simp [isHeld]) rfl ((hM19.at (i := 5) (j := 0) rfl rfl).agg rfl rfl) ?_
 show _ ∧ _
 refine ⟨?_, ?_⟩
 ·show vd _ _ _ _ _ _ _
  have hft : ftOk P13 (List.map Pr.p ps13) := chkF_iff.1 (by omega)
  refine dgyesl rfl <| dl (m_call (refBody_ok P13 _ ps13 w20 (hs13.rd hM20 (i := 3) rfl) (hN13.rd _ (hM20.res (i := 4) rfl).1) (by omega) (by simp only [inK]; omega) (by assumption)) rfl fun v28 w28 ⟨rs28, hs28, hm28⟩ => ?_)
  have hM28 : Mem w S0 w28 [[⟨bd, 100, [.int .i64 bk, .int .i64 pg, vb, .int .i64 pg, .bool false]⟩], rb, [⟨b2, 24, [.int .i64 0, .slice none 0 0]⟩], rs13, NS13, [⟨b14, 24, [.int .i64 P13, (.slice av13 lv13 cv13)]⟩], rs28] := hM20.add hm28
  have hh28 := held_upd (wr := wd) (bs := [bd, b14]) hm28.upd (fun b hb => by
   simp only [List.mem_cons, List.not_mem_nil, or_false] at hb
   rcases hb with h | h
   ·rw [h]; exact ⟨(hM20.at (i := 0) (j := 0) rfl rfl).lt, by simp⟩
   rw [h]; exact ⟨(hM20.at (i := 5) (j := 0) rfl rfl).lt, by simp⟩) hh20
  refine ⟨hh28, ?_⟩
  show _ ∧ _
  refine ⟨?_, ?_⟩
  ·show vd _ _ _ _ _ _ _
   refine dgyesl rfl <| dl (m_b2s rfl (hs28.rd hM28 (i := 6) rfl) <| ⟨hh28, dgyesl rfl <| dl (m_b2s rfl (hb.rd hM28 (i := 1) rfl) <| ⟨hh28, dqg rfl (v := .bool (decide (¬ (bodyF P13 (List.map Pr.p ps13)) = L))) (o_sne rfl rfl rfl) <| dpkF rfl <| dmv <| dsplitP rfl (fun c29 => ?_) (fun c29 => ?_)⟩)⟩)
   ·refine dx rfl <| dx rfl <| dx rfl <| dx rfl <| dxq rfl <| dxl rfl <| dxl rfl <| dx rfl <| dpkT rfl <| h18 _ _ <| cndT rfl <| seq fun _ h30 => stp (v := .agg ([.int .i64 0, .slice none 0 0] : List Value).toArray) (o_bld rfl rfl) <| m_stA (l := [.int .i64 0, .slice none 0 0]) hM28 (i := 2) rfl rfl rfl rfl (by simp [oneCells, Value.oneCell', byteV]) (by simp) fun w31 (hM31 : Mem w S0 w31 [[⟨bd, 100, [.int .i64 bk, .int .i64 pg, vb, .int .i64 pg, .bool false]⟩], rb, [⟨b2, 24, [.int .i64 0, .slice none 0 0]⟩], rs13, NS13, [⟨b14, 24, [.int .i64 P13, (.slice av13 lv13 cv13)]⟩], rs28]) => ?_
    refine mv <| h30 _ _ ?_
    show resV _ _ _ _ _
    refine res_cell (s := some 2) (by kernel_rfl) <| vl_ldA (cs := [.int .i64 0, .slice none 0 0]) rfl rfl ((hM31.at (i := 2) (j := 0) rfl rfl).agg rfl rfl) <| res_tmp <| ⟨(.tuple [.agg ([.int .i64 0, .slice none 0 0] : List Value).toArray, .int .i64 80].toArray), rfl, ⟨0, .slice none 0 0, [], [], [], 80, rfl, Sl.nil 5 71, Nest.nil, by omega, by simp, FtR_bad hsp13 (.inr (.inl (by assumption))), hM31.keep (by simp)⟩⟩
   refine dgmv rfl <| dqg rfl (v := .pointer (some ⟨bd, 0, none⟩)) (o_nilchk rfl rfl) <| dgfa rfl rfl <| dgfa rfl rfl <| dqgyes rfl rfl <| dqld rfl (by simp [isHeld]) (v := .int .i64 bk) ((hM19.at (i := 0) (j := 0) rfl rfl).cell 0) <| dgyesl rfl <| dl (m_ldA (l := [.int .i64 P13, (.slice av13 lv13 cv13)]) hM28 (i := 5) (j := 0) rfl rfl rfl rfl rfl <| ⟨hh28, dgyesl rfl <| dl (m_call (refSpace_ok P13 _ ps13 w28 (hs13.rd hM28 (i := 3) rfl) (hN13.rd _ (hM28.res (i := 4) rfl).1) (by omega) (by simp only [inK]; omega) (by assumption)) rfl fun v32 w32 ⟨hr32, hu32⟩ => ?_)⟩)
   have hM32 : Mem w S0 w32 [[⟨bd, 100, [.int .i64 bk, .int .i64 pg, vb, .int .i64 pg, .bool false]⟩], rb, [⟨b2, 24, [.int .i64 0, .slice none 0 0]⟩], rs13, NS13, [⟨b14, 24, [.int .i64 P13, (.slice av13 lv13 cv13)]⟩], rs28] := hM28.pure hu32
   subst hr32
   have hh32 := held_upd (wr := wd) (bs := [bd, b14]) hu32 (fun b hb => by
    simp only [List.mem_cons, List.not_mem_nil, or_false] at hb
    rcases hb with h | h
    ·rw [h]; exact ⟨(hM28.at (i := 0) (j := 0) rfl rfl).lt, by simp⟩
    rw [h]; exact ⟨(hM28.at (i := 5) (j := 0) rfl rfl).lt, by simp⟩) hh28
   refine ⟨hh32, dqg rfl (v := .bool (decide (¬ (spaceF (List.map Pr.p ps13)) = bk))) (o_bin rfl rfl v_neq) <| dpkF rfl <| h18 _ _ <| cndP rfl (fun c33 => ?_) (fun c33 => ?_)⟩
   ·refine seq fun _ h34 => stp (v := .agg ([.int .i64 0, .slice none 0 0] : List Value).toArray) (o_bld rfl rfl) <| m_stA (l := [.int .i64 0, .slice none 0 0]) hM32 (i := 2) rfl rfl rfl rfl (by simp [oneCells, Value.oneCell', byteV]) (by simp) fun w35 (hM35 : Mem w S0 w35 [[⟨bd, 100, [.int .i64 bk, .int .i64 pg, vb, .int .i64 pg, .bool false]⟩], rb, [⟨b2, 24, [.int .i64 0, .slice none 0 0]⟩], rs13, NS13, [⟨b14, 24, [.int .i64 P13, (.slice av13 lv13 cv13)]⟩], rs28]) => mv <| h34 _ _ ?_
    show resV _ _ _ _ _
    refine res_cell (s := some 2) (by kernel_rfl) <| vl_ldA (cs := [.int .i64 0, .slice none 0 0]) rfl rfl ((hM35.at (i := 2) (j := 0) rfl rfl).agg rfl rfl) <| res_tmp <| ⟨(.tuple [.agg ([.int .i64 0, .slice none 0 0] : List Value).toArray, .int .i64 80].toArray), rfl, ⟨0, .slice none 0 0, [], [], [], 80, rfl, Sl.nil 5 71, Nest.nil, by omega, by simp, FtR_bad hsp13 (.inr (.inr (by omega))), hM35.keep (by simp)⟩⟩
   refine h17 _ _ <| seq fun _ h36 => m_ldA (l := [.int .i64 P13, (.slice av13 lv13 cv13)]) hM32 (i := 5) (j := 0) rfl rfl rfl rfl rfl <| m_stA (l := [.int .i64 P13, (.slice av13 lv13 cv13)]) hM32 (i := 2) rfl rfl rfl rfl (by simp [oneCells, Value.oneCell', byteV]) (by simp) fun w37 (hM37 : Mem w S0 w37 [[⟨bd, 100, [.int .i64 bk, .int .i64 pg, vb, .int .i64 pg, .bool false]⟩], rb, [⟨b2, 24, [.int .i64 P13, (.slice av13 lv13 cv13)]⟩], rs13, NS13, [⟨b14, 24, [.int .i64 P13, (.slice av13 lv13 cv13)]⟩], rs28]) => mv <| h36 _ _ ?_
   show resV _ _ _ _ _
   refine res_cell (s := some 2) (by kernel_rfl) <| vl_ldA (cs := [.int .i64 P13, (.slice av13 lv13 cv13)]) rfl rfl ((hM37.at (i := 2) (j := 0) rfl rfl).agg rfl rfl) <| res_tmp <| ⟨(.tuple [.agg ([.int .i64 P13, (.slice av13 lv13 cv13)] : List Value).toArray, .int .i64 0].toArray), rfl, ⟨P13, _, ps13, _, NS13, 0, rfl, hs13, hN13, by omega, by omega, FtR_ok hsp13 hft (Decidable.byContradiction (by assumption)) (by omega), hM37.keep (by simp; repeat first | exact List.Sublist.refl _ | exact List.Sublist.append (List.Sublist.refl _) (List.sublist_append_left _ _) | exact .cons _ (by assumption) | refine .cons _ ?_ | refine List.sublist_append_of_sublist_right ?_)⟩⟩
  show vd _ _ _ _ _ _ _
  refine dgyesl rfl <| dl (m_b2s rfl (hb.rd hM28 (i := 1) rfl) <| ⟨hh28, dgyesl rfl <| dl (m_b2s rfl (hs28.rd hM28 (i := 6) rfl) <| ⟨hh28, dqg rfl (v := .bool (decide (¬ (bodyF P13 (List.map Pr.p ps13)) = L))) (o_sne rfl rfl rfl) <| dpkF rfl <| dmv <| dsplitP rfl (fun c38 => ?_) (fun c38 => ?_)⟩)⟩)
  ·refine dx rfl <| dx rfl <| dx rfl <| dx rfl <| dxq rfl <| dxl rfl <| dxl rfl <| dx rfl <| dpkT rfl <| h18 _ _ <| cndT rfl <| seq fun _ h39 => stp (v := .agg ([.int .i64 0, .slice none 0 0] : List Value).toArray) (o_bld rfl rfl) <| m_stA (l := [.int .i64 0, .slice none 0 0]) hM28 (i := 2) rfl rfl rfl rfl (by simp [oneCells, Value.oneCell', byteV]) (by simp) fun w40 (hM40 : Mem w S0 w40 [[⟨bd, 100, [.int .i64 bk, .int .i64 pg, vb, .int .i64 pg, .bool false]⟩], rb, [⟨b2, 24, [.int .i64 0, .slice none 0 0]⟩], rs13, NS13, [⟨b14, 24, [.int .i64 P13, (.slice av13 lv13 cv13)]⟩], rs28]) => ?_
   refine mv <| h39 _ _ ?_
   show resV _ _ _ _ _
   refine res_cell (s := some 2) (by kernel_rfl) <| vl_ldA (cs := [.int .i64 0, .slice none 0 0]) rfl rfl ((hM40.at (i := 2) (j := 0) rfl rfl).agg rfl rfl) <| res_tmp <| ⟨(.tuple [.agg ([.int .i64 0, .slice none 0 0] : List Value).toArray, .int .i64 80].toArray), rfl, ⟨0, .slice none 0 0, [], [], [], 80, rfl, Sl.nil 5 71, Nest.nil, by omega, by simp, FtR_bad hsp13 (.inr (.inl (by assumption))), hM40.keep (by simp)⟩⟩
  refine dgmv rfl <| dqg rfl (v := .pointer (some ⟨bd, 0, none⟩)) (o_nilchk rfl rfl) <| dgfa rfl rfl <| dgfa rfl rfl <| dqgyes rfl rfl <| dqld rfl (by simp [isHeld]) (v := .int .i64 bk) ((hM19.at (i := 0) (j := 0) rfl rfl).cell 0) <| dgyesl rfl <| dl (m_ldA (l := [.int .i64 P13, (.slice av13 lv13 cv13)]) hM28 (i := 5) (j := 0) rfl rfl rfl rfl rfl <| ⟨hh28, dgyesl rfl <| dl (m_call (refSpace_ok P13 _ ps13 w28 (hs13.rd hM28 (i := 3) rfl) (hN13.rd _ (hM28.res (i := 4) rfl).1) (by omega) (by simp only [inK]; omega) (by assumption)) rfl fun v41 w41 ⟨hr41, hu41⟩ => ?_)⟩)
  have hM41 : Mem w S0 w41 [[⟨bd, 100, [.int .i64 bk, .int .i64 pg, vb, .int .i64 pg, .bool false]⟩], rb, [⟨b2, 24, [.int .i64 0, .slice none 0 0]⟩], rs13, NS13, [⟨b14, 24, [.int .i64 P13, (.slice av13 lv13 cv13)]⟩], rs28] := hM28.pure hu41
  subst hr41
  have hh41 := held_upd (wr := wd) (bs := [bd, b14]) hu41 (fun b hb => by
   simp only [List.mem_cons, List.not_mem_nil, or_false] at hb
   rcases hb with h | h
   ·rw [h]; exact ⟨(hM28.at (i := 0) (j := 0) rfl rfl).lt, by simp⟩
   rw [h]; exact ⟨(hM28.at (i := 5) (j := 0) rfl rfl).lt, by simp⟩) hh28
  refine ⟨hh41, dqg rfl (v := .bool (decide (¬ (spaceF (List.map Pr.p ps13)) = bk))) (o_bin rfl rfl v_neq) <| dpkF rfl <| h18 _ _ <| cndP rfl (fun c42 => ?_) (fun c42 => ?_)⟩
  ·refine seq fun _ h43 => stp (v := .agg ([.int .i64 0, .slice none 0 0] : List Value).toArray) (o_bld rfl rfl) <| m_stA (l := [.int .i64 0, .slice none 0 0]) hM41 (i := 2) rfl rfl rfl rfl (by simp [oneCells, Value.oneCell', byteV]) (by simp) fun w44 (hM44 : Mem w S0 w44 [[⟨bd, 100, [.int .i64 bk, .int .i64 pg, vb, .int .i64 pg, .bool false]⟩], rb, [⟨b2, 24, [.int .i64 0, .slice none 0 0]⟩], rs13, NS13, [⟨b14, 24, [.int .i64 P13, (.slice av13 lv13 cv13)]⟩], rs28]) => mv <| h43 _ _ ?_
   show resV _ _ _ _ _
   refine res_cell (s := some 2) (by kernel_rfl) <| vl_ldA (cs := [.int .i64 0, .slice none 0 0]) rfl rfl ((hM44.at (i := 2) (j := 0) rfl rfl).agg rfl rfl) <| res_tmp <| ⟨(.tuple [.agg ([.int .i64 0, .slice none 0 0] : List Value).toArray, .int .i64 80].toArray), rfl, ⟨0, .slice none 0 0, [], [], [], 80, rfl, Sl.nil 5 71, Nest.nil, by omega, by simp, FtR_bad hsp13 (.inr (.inr (by omega))), hM44.keep (by simp)⟩⟩
  refine h17 _ _ <| seq fun _ h45 => m_ldA (l := [.int .i64 P13, (.slice av13 lv13 cv13)]) hM41 (i := 5) (j := 0) rfl rfl rfl rfl rfl <| m_stA (l := [.int .i64 P13, (.slice av13 lv13 cv13)]) hM41 (i := 2) rfl rfl rfl rfl (by simp [oneCells, Value.oneCell', byteV]) (by simp) fun w46 (hM46 : Mem w S0 w46 [[⟨bd, 100, [.int .i64 bk, .int .i64 pg, vb, .int .i64 pg, .bool false]⟩], rb, [⟨b2, 24, [.int .i64 P13, (.slice av13 lv13 cv13)]⟩], rs13, NS13, [⟨b14, 24, [.int .i64 P13, (.slice av13 lv13 cv13)]⟩], rs28]) => mv <| h45 _ _ ?_
  show resV _ _ _ _ _
  refine res_cell (s := some 2) (by kernel_rfl) <| vl_ldA (cs := [.int .i64 P13, (.slice av13 lv13 cv13)]) rfl rfl ((hM46.at (i := 2) (j := 0) rfl rfl).agg rfl rfl) <| res_tmp <| ⟨(.tuple [.agg ([.int .i64 P13, (.slice av13 lv13 cv13)] : List Value).toArray, .int .i64 0].toArray), rfl, ⟨P13, _, ps13, _, NS13, 0, rfl, hs13, hN13, by omega, by omega, FtR_ok hsp13 hft (Decidable.byContradiction (by assumption)) (by omega), hM46.keep (by simp; repeat first | exact List.Sublist.refl _ | exact List.Sublist.append (List.Sublist.refl _) (List.sublist_append_left _ _) | exact .cons _ (by assumption) | refine .cons _ ?_ | refine List.sublist_append_of_sublist_right ?_)⟩⟩
 show vd _ _ _ _ _ _ _
 refine dgyesl rfl <| dl (m_b2s rfl (hb.rd hM20 (i := 1) rfl) <| ⟨hh20, ?_⟩)
 have hft : ftOk P13 (List.map Pr.p ps13) := chkF_iff.1 (by omega)
 refine dgyesl rfl <| dl (m_call (refBody_ok P13 _ ps13 w20 (hs13.rd hM20 (i := 3) rfl) (hN13.rd _ (hM20.res (i := 4) rfl).1) (by omega) (by simp only [inK]; omega) (by assumption)) rfl fun v47 w47 ⟨rs47, hs47, hm47⟩ => ?_)
 have hM47 : Mem w S0 w47 [[⟨bd, 100, [.int .i64 bk, .int .i64 pg, vb, .int .i64 pg, .bool false]⟩], rb, [⟨b2, 24, [.int .i64 0, .slice none 0 0]⟩], rs13, NS13, [⟨b14, 24, [.int .i64 P13, (.slice av13 lv13 cv13)]⟩], rs47] := hM20.add hm47
 have hh47 := held_upd (wr := wd) (bs := [bd, b14]) hm47.upd (fun b hb => by
  simp only [List.mem_cons, List.not_mem_nil, or_false] at hb
  rcases hb with h | h
  ·rw [h]; exact ⟨(hM20.at (i := 0) (j := 0) rfl rfl).lt, by simp⟩
  rw [h]; exact ⟨(hM20.at (i := 5) (j := 0) rfl rfl).lt, by simp⟩) hh20
 refine ⟨hh47, dgyesl rfl <| dl (m_b2s rfl (hs47.rd hM47 (i := 6) rfl) <| ⟨hh47, dqg rfl (v := .bool (decide (¬ (bodyF P13 (List.map Pr.p ps13)) = L))) (o_sne rfl rfl rfl) <| dpkF rfl <| dmv <| dsplitP rfl (fun c48 => ?_) (fun c48 => ?_)⟩)⟩
 ·refine dx rfl <| dx rfl <| dx rfl <| dx rfl <| dxq rfl <| dxl rfl <| dxl rfl <| dx rfl <| dpkT rfl <| h18 _ _ <| cndT rfl <| seq fun _ h49 => stp (v := .agg ([.int .i64 0, .slice none 0 0] : List Value).toArray) (o_bld rfl rfl) <| m_stA (l := [.int .i64 0, .slice none 0 0]) hM47 (i := 2) rfl rfl rfl rfl (by simp [oneCells, Value.oneCell', byteV]) (by simp) fun w50 (hM50 : Mem w S0 w50 [[⟨bd, 100, [.int .i64 bk, .int .i64 pg, vb, .int .i64 pg, .bool false]⟩], rb, [⟨b2, 24, [.int .i64 0, .slice none 0 0]⟩], rs13, NS13, [⟨b14, 24, [.int .i64 P13, (.slice av13 lv13 cv13)]⟩], rs47]) => ?_
  refine mv <| h49 _ _ ?_
  show resV _ _ _ _ _
  refine res_cell (s := some 2) (by kernel_rfl) <| vl_ldA (cs := [.int .i64 0, .slice none 0 0]) rfl rfl ((hM50.at (i := 2) (j := 0) rfl rfl).agg rfl rfl) <| res_tmp <| ⟨(.tuple [.agg ([.int .i64 0, .slice none 0 0] : List Value).toArray, .int .i64 80].toArray), rfl, ⟨0, .slice none 0 0, [], [], [], 80, rfl, Sl.nil 5 71, Nest.nil, by omega, by simp, FtR_bad hsp13 (.inr (.inl (by assumption))), hM50.keep (by simp)⟩⟩
 refine dgmv rfl <| dqg rfl (v := .pointer (some ⟨bd, 0, none⟩)) (o_nilchk rfl rfl) <| dgfa rfl rfl <| dgfa rfl rfl <| dqgyes rfl rfl <| dqld rfl (by simp [isHeld]) (v := .int .i64 bk) ((hM19.at (i := 0) (j := 0) rfl rfl).cell 0) <| dgyesl rfl <| dl (m_ldA (l := [.int .i64 P13, (.slice av13 lv13 cv13)]) hM47 (i := 5) (j := 0) rfl rfl rfl rfl rfl <| ⟨hh47, dgyesl rfl <| dl (m_call (refSpace_ok P13 _ ps13 w47 (hs13.rd hM47 (i := 3) rfl) (hN13.rd _ (hM47.res (i := 4) rfl).1) (by omega) (by simp only [inK]; omega) (by assumption)) rfl fun v51 w51 ⟨hr51, hu51⟩ => ?_)⟩)
 have hM51 : Mem w S0 w51 [[⟨bd, 100, [.int .i64 bk, .int .i64 pg, vb, .int .i64 pg, .bool false]⟩], rb, [⟨b2, 24, [.int .i64 0, .slice none 0 0]⟩], rs13, NS13, [⟨b14, 24, [.int .i64 P13, (.slice av13 lv13 cv13)]⟩], rs47] := hM47.pure hu51
 subst hr51
 have hh51 := held_upd (wr := wd) (bs := [bd, b14]) hu51 (fun b hb => by
  simp only [List.mem_cons, List.not_mem_nil, or_false] at hb
  rcases hb with h | h
  ·rw [h]; exact ⟨(hM47.at (i := 0) (j := 0) rfl rfl).lt, by simp⟩
  rw [h]; exact ⟨(hM47.at (i := 5) (j := 0) rfl rfl).lt, by simp⟩) hh47
 refine ⟨hh51, dqg rfl (v := .bool (decide (¬ (spaceF (List.map Pr.p ps13)) = bk))) (o_bin rfl rfl v_neq) <| dpkF rfl <| h18 _ _ <| cndP rfl (fun c52 => ?_) (fun c52 => ?_)⟩
 ·refine seq fun _ h53 => stp (v := .agg ([.int .i64 0, .slice none 0 0] : List Value).toArray) (o_bld rfl rfl) <| m_stA (l := [.int .i64 0, .slice none 0 0]) hM51 (i := 2) rfl rfl rfl rfl (by simp [oneCells, Value.oneCell', byteV]) (by simp) fun w54 (hM54 : Mem w S0 w54 [[⟨bd, 100, [.int .i64 bk, .int .i64 pg, vb, .int .i64 pg, .bool false]⟩], rb, [⟨b2, 24, [.int .i64 0, .slice none 0 0]⟩], rs13, NS13, [⟨b14, 24, [.int .i64 P13, (.slice av13 lv13 cv13)]⟩], rs47]) => mv <| h53 _ _ ?_
  show resV _ _ _ _ _
  refine res_cell (s := some 2) (by kernel_rfl) <| vl_ldA (cs := [.int .i64 0, .slice none 0 0]) rfl rfl ((hM54.at (i := 2) (j := 0) rfl rfl).agg rfl rfl) <| res_tmp <| ⟨(.tuple [.agg ([.int .i64 0, .slice none 0 0] : List Value).toArray, .int .i64 80].toArray), rfl, ⟨0, .slice none 0 0, [], [], [], 80, rfl, Sl.nil 5 71, Nest.nil, by omega, by simp, FtR_bad hsp13 (.inr (.inr (by omega))), hM54.keep (by simp)⟩⟩
 refine h17 _ _ <| seq fun _ h55 => m_ldA (l := [.int .i64 P13, (.slice av13 lv13 cv13)]) hM51 (i := 5) (j := 0) rfl rfl rfl rfl rfl <| m_stA (l := [.int .i64 P13, (.slice av13 lv13 cv13)]) hM51 (i := 2) rfl rfl rfl rfl (by simp [oneCells, Value.oneCell', byteV]) (by simp) fun w56 (hM56 : Mem w S0 w56 [[⟨bd, 100, [.int .i64 bk, .int .i64 pg, vb, .int .i64 pg, .bool false]⟩], rb, [⟨b2, 24, [.int .i64 P13, (.slice av13 lv13 cv13)]⟩], rs13, NS13, [⟨b14, 24, [.int .i64 P13, (.slice av13 lv13 cv13)]⟩], rs47]) => mv <| h55 _ _ ?_
 show resV _ _ _ _ _
 refine res_cell (s := some 2) (by kernel_rfl) <| vl_ldA (cs := [.int .i64 P13, (.slice av13 lv13 cv13)]) rfl rfl ((hM56.at (i := 2) (j := 0) rfl rfl).agg rfl rfl) <| res_tmp <| ⟨(.tuple [.agg ([.int .i64 P13, (.slice av13 lv13 cv13)] : List Value).toArray, .int .i64 0].toArray), rfl, ⟨P13, _, ps13, _, NS13, 0, rfl, hs13, hN13, by omega, by omega, FtR_ok hsp13 hft (Decidable.byContradiction (by assumption)) (by omega), hM56.keep (by simp; repeat first | exact List.Sublist.refl _ | exact List.Sublist.append (List.Sublist.refl _) (List.sublist_append_left _ _) | exact .cons _ (by assumption) | refine .cons _ ?_ | refine List.sublist_append_of_sublist_right ?_)⟩⟩
