/- Part 10 of the proof of what the last of these files says. -/
import Derived.Test.YtifnmbmijljhfaaGreatPBo9
namespace Go.Proofs.YtifnmbmijljhfaaGreat.E
open Go
theorem ROpen_ok (x : Value) (tile : List UInt8) (n : Int) (w : World) (hx : RdE byteV w x tile) (hl : tile.length ≤ 140737488351232) (hn : inK .i64 n) : Calls Tryz.prog 19 [x, .int .i64 n].toArray w (Rt fun r w' => ∃ rs, OpnR tile n r rs ∧ Mem w [] w' [rs]) := by
 have hM0 : Mem w [] w [] := Mem.nil w []
 have hni := hn
 simp only [inK] at hni
 refine calls_vc mixed Tryz.func19 rfl C19 (by simp [Tryz.ntmps19]) <| seq fun _ h1 => stp (v := .pointer none) (o_mv rfl) <| stp (v := .int .i64 0) (o_mv rfl) <| h1 _ _ <| seq fun _ h2 => seq fun _ h3 => stp (v := .int .i64 n) (o_mv rfl) <| stp (v := .bool (decide (n < 1))) (o_bin rfl rfl rfl) <| stp (v := .bool (decide (n < 1))) (o_mv rfl) <| splitP rfl (fun c4 => ?_) (fun c4 => ?_)
 ·refine gx rfl <| gx rfl <| stp (v := .bool true) (o_pickT rfl rfl) <| h3 _ _ <| cndT rfl <| seq fun _ h5 => stp (v := .pointer none) (o_mv rfl) <| stp (v := .int .i64 3) (o_mv rfl) <| h5 _ _ <| ⟨(.tuple [.pointer none, .int .i64 3].toArray), rfl, ⟨[], .inl ⟨_, rfl, .inl ⟨rfl, by omega⟩⟩, hM0.keep (by simp)⟩⟩
 refine stg rfl (v := .int .i64 n) (o_mv rfl) <| stg rfl (v := .bool (decide ((65536 : Int) < n))) (o_bin rfl rfl rfl) <| stp (v := .bool (decide ((65536 : Int) < n))) (o_pickF rfl rfl) <| h3 _ _ <| cndP rfl (fun c6 => ?_) (fun c6 => ?_)
 ·refine seq fun _ h7 => stp (v := .pointer none) (o_mv rfl) <| stp (v := .int .i64 3) (o_mv rfl) <| h7 _ _ <| ⟨(.tuple [.pointer none, .int .i64 3].toArray), rfl, ⟨[], .inl ⟨_, rfl, .inl ⟨rfl, by omega⟩⟩, hM0.keep (by simp)⟩⟩
 refine h2 _ _ <| seq fun _ h8 => stp (v := x) (o_mv rfl) <| m_call (refOpen_ok _ tile w (hx.upd hM0.upd) (by first | omega | (simp; done) | (simp; omega))) rfl fun v9 w9 ⟨v9_, rs9, hr9, hs9, hm9⟩ => ?_
 have hM9 : Mem w [] w9 [rs9] := hM0.add hm9
 subst hr9
 have hol9 := openF_len tile
 refine stp (v := .tuple [v9_, .int .i64 ((openF tile).2)].toArray) (o_mv rfl) <| stp (v := v9_) (o_ext rfl rfl) <| stp (v := .int .i64 ((openF tile).2)) (o_ext rfl rfl) <| stp (v := v9_) (o_mv rfl) <| stp (v := .int .i64 ((openF tile).2)) (o_mv rfl) <| h8 _ _ <| seq fun _ h10 => seq fun _ h11 => stp (v := .int .i64 ((openF tile).2)) (o_mv rfl) <| stp (v := .bool (decide (¬ ((openF tile).2) = 0))) (o_bin rfl rfl v_neq) <| h11 _ _ <| cndP rfl (fun c12 => ?_) (fun c12 => ?_)
 ·refine seq fun _ h13 => stp (v := .int .i64 ((openF tile).2)) (o_mv rfl) <| stp (v := .pointer none) (o_mv rfl) <| stp (v := .int .i64 ((openF tile).2)) (o_mv rfl) <| h13 _ _ <| ⟨(.tuple [.pointer none, .int .i64 ((openF tile).2)].toArray), rfl, ⟨[], .inl ⟨_, rfl, .inr (.inl ⟨by omega, by omega, rfl⟩)⟩, hM9.keep (by simp)⟩⟩
 refine h10 _ _ <| seq fun _ h14 => seq fun _ h15 => stp (v := v9_) (o_mv rfl) <| stp (v := .int .i64 (((openF tile).1).length : Nat)) (o_lenR (hs9.rd hM9 (i := 0) rfl) rfl rfl) <| stp (v := .bool (decide (((((openF tile).1).length : Nat) : Int) = 0))) (o_bin rfl rfl rfl) <| h15 _ _ <| cndP rfl (fun c16 => ?_) (fun c16 => ?_)
 ·refine seq fun _ h17 => stp (v := .pointer none) (o_mv rfl) <| stp (v := .int .i64 60) (o_mv rfl) <| h17 _ _ <| ⟨(.tuple [.pointer none, .int .i64 60].toArray), rfl, ⟨[], .inl ⟨_, rfl, .inr (.inr ⟨by omega, by omega, rfl, fun t ht => absurd ht (txt_no rfl (fun q => by have q1 := q.1; have q2 := q.2.1; have q3 := q.2.2.1; have q4 := q.2.2.2; omega))⟩)⟩, hM9.keep (by simp)⟩⟩
 refine h14 _ _ <| seq fun _ h18 => stp (v := v9_) (o_mv rfl) <| stp (v := v9_) (o_mv rfl) <| stp (v := .int .i64 (((openF tile).1).length : Nat)) (o_lenR (hs9.rd hM9 (i := 0) rfl) rfl rfl) <| stp (v := .int .i64 ((((openF tile).1).length : Nat) - 1)) (o_bin rfl rfl (v_sub64 (by omega))) <| m_slcO ((openF tile).1.length - 1) (hs9) rfl (by omega) (⟨_, v_int (by omega)⟩) trivial fun u19 hu19 => stp (v := u19) (o_mv rfl) <| h18 _ _ <| seq fun _ h20 => seq fun _ h21 => ?_
 have htl : ((openF tile).1.take ((openF tile).1.length - 1)).length = (openF tile).1.length - 1 := by rw [List.length_take]; omega
 refine stp (v := u19) (o_mv rfl) <| stp (v := .int .i64 ((((openF tile).1).take ((openF tile).1.length - 1)).length : Nat)) (o_lenR (hu19.rd hM9 (i := 0) rfl) rfl rfl) <| stp (v := .int .i64 (64 * ((((openF tile).1).take ((openF tile).1.length - 1)).length : Nat))) (o_bin rfl rfl (v_mul64 (by omega))) <| stp (v := .int .i64 n) (o_mv rfl) <| stp (v := .bool (decide ((64 * ((((openF tile).1).take ((openF tile).1.length - 1)).length : Nat) : Int) < n))) (o_bin rfl rfl rfl) <| h21 _ _ <| cndP rfl (fun c22 => ?_) (fun c22 => ?_)
 ·refine seq fun _ h23 => stp (v := .pointer none) (o_mv rfl) <| stp (v := .int .i64 60) (o_mv rfl) <| h23 _ _ <| ⟨(.tuple [.pointer none, .int .i64 60].toArray), rfl, ⟨[], .inl ⟨_, rfl, .inr (.inr ⟨by omega, by omega, rfl, fun t ht => absurd ht (txt_no rfl (fun q => by have q1 := q.1; have q2 := q.2.1; have q3 := q.2.2.1; have q4 := q.2.2.2; omega))⟩)⟩, hM9.keep (by simp)⟩⟩
 refine h20 _ _ <| seq fun _ h24 => stp (v := u19) (o_mv rfl) <| stp (v := v9_) (o_mv rfl) <| stp (v := v9_) (o_mv rfl) <| stp (v := .int .i64 (((openF tile).1).length : Nat)) (o_lenR (hs9.rd hM9 (i := 0) rfl) rfl rfl) <| stp (v := .int .i64 ((((openF tile).1).length : Nat) - 1)) (o_bin rfl rfl (v_sub64 (by omega))) <| m_idxE 0 (j := ((openF tile).1.length - 1)) (hs9.rd hM9 (i := 0) rfl) rfl (v_int (by omega)) (by omega) fun b25 o25 hp25 => ld (v := byteV (((openF tile).1).getD ((openF tile).1.length - 1) 0)) rfl (hp25) ?_
 obtain ⟨fl, hfl⟩ : ∃ f, f = (openF tile).1.getD ((openF tile).1.length - 1) 0 := ⟨_, rfl⟩
 have hfn : fl.toNat = ((openF tile).1.getD ((openF tile).1.length - 1) 0).toNat := by rw [hfl]
 rw [← hfl]
 refine stp (v := .int .i64 n) (o_mv rfl) <| m_call (plain_ok _ ((openF tile).1.take ((openF tile).1.length - 1)) fl n w9 hn (hu19.rd hM9 (i := 0) rfl) (by first | omega | (rw [htl]; omega))) rfl fun v26 w26 ⟨vq, okq, rsq, hrq, hyq, hnq, hmq⟩ => ?_
 have hM26 : Mem w [] w26 [rs9, rsq] := hM9.add hmq
 subst hrq
 refine stp (v := .tuple [vq, .bool okq].toArray) (o_mv rfl) <| stp (v := vq) (o_ext rfl rfl) <| stp (v := .bool okq) (o_ext rfl rfl) <| stp (v := vq) (o_mv rfl) <| stp (v := .bool okq) (o_mv rfl) <| h24 _ _ <| seq fun _ h27 => seq fun _ h28 => stp (v := .bool okq) (o_mv rfl) ?_
 rcases okq with _ | _
 ·refine stp (v := .bool true) (o_not rfl rfl) <| h28 _ _ <| cndT rfl <| seq fun _ h29 => stp (v := .pointer none) (o_mv rfl) <| stp (v := .int .i64 60) (o_mv rfl) <| h29 _ _ <| ⟨(.tuple [.pointer none, .int .i64 60].toArray), rfl, ⟨[], .inl ⟨_, rfl, .inr (.inr ⟨by omega, by omega, rfl, fun t ht => absurd ht (txt_no hfn (fun q => by have q1 := q.1; have q2 := q.2.1; have q3 := q.2.2.1; have q4 := q.2.2.2; exact hnq rfl ⟨q2, q4⟩))⟩)⟩, hM26.keep (by simp)⟩⟩
 have hyd := hyq rfl
 refine stp (v := .bool false) (o_not rfl rfl) <| h28 _ _ <| cndF rfl <| h27 _ _ <| seq fun _ h30 => stp (v := vq) (o_mv rfl) <| m_call (parse_ok _ (dcode fl.toNat ((openF tile).1.take ((openF tile).1.length - 1)) n).1 w26 (hyd.2.2 _ (hM26.res (i := 1) rfl).1 (hu19.rd hM26 (i := 0) rfl)) (dcode_bd (by omega) hyd.2.1 hyd.1)) rfl fun v31 w31 ⟨vp, okp, es, rep, hrp, hyp, hnp, hmp⟩ => ?_
 have hM31 : Mem w [] w31 [rs9, rsq, rep] := hM26.add hmp
 subst hrp
 refine stp (v := .tuple [vp, .bool okp].toArray) (o_mv rfl) <| stp (v := vp) (o_ext rfl rfl) <| stp (v := .bool okp) (o_ext rfl rfl) <| stp (v := vp) (o_mv rfl) <| stp (v := .bool okp) (o_mv rfl) <| h30 _ _ <| seq fun _ h32 => seq fun _ h33 => stp (v := .bool okp) (o_mv rfl) ?_
 rcases okp with _ | _
 ·refine stp (v := .bool true) (o_not rfl rfl) <| h33 _ _ <| cndT rfl <| seq fun _ h34 => stp (v := .pointer none) (o_mv rfl) <| stp (v := .int .i64 60) (o_mv rfl) <| h34 _ _ <| ⟨(.tuple [.pointer none, .int .i64 60].toArray), rfl, ⟨[], .inl ⟨_, rfl, .inr (.inr ⟨by omega, by omega, rfl, fun t ht => by rw [(txt (by omega) (by omega) hfn hyd.1 (by omega) (dc_yes hyd.2.1))] at ht; cases ht; exact hnp rfl⟩)⟩, hM31.keep (by simp)⟩⟩
 obtain ⟨⟨Rq, hBq⟩, hvp⟩ := hyp rfl
 refine stp (v := .bool false) (o_not rfl rfl) <| h33 _ _ <| cndF rfl <| h32 _ _ <| seq fun _ h35 => ?_
 obtain ⟨a36_, n36_, c36_, rfl⟩ := Sl.isSlice hvp
 refine stp (v := (.slice a36_ n36_ c36_)) (o_mv rfl) <| stp (v := .agg ([(.slice a36_ n36_ c36_)] : List Value).toArray) (o_bld rfl rfl) <| m_bx (v := .agg ([(.slice a36_ n36_ c36_)] : List Value).toArray) hM31 rfl rfl fun b37 w38 (hM38 : Mem w [] w38 [rs9, rsq, rep, [⟨b37, 75, [(.slice a36_ n36_ c36_)]⟩]]) => stp (v := .pointer (some ⟨b37, 0, none⟩)) (o_mv rfl) <| stp (v := .int .i64 0) (o_mv rfl) <| h35 _ _ <| ⟨(.tuple [.pointer (some ⟨b37, 0, none⟩), .int .i64 0].toArray), rfl, ⟨_, .inr ⟨_, Rq, es, _, rfl, by omega, (txt (by omega) (by omega) hfn hyd.1 (by omega) (dc_yes hyd.2.1)), hBq, ⟨_, _, rfl, hvp⟩⟩, ((hM38.drop 0).drop 1).perm (by simpa using (List.perm_append_singleton _ _).symm)⟩⟩
end Go.Proofs.YtifnmbmijljhfaaGreat.E
namespace Go.Proofs.YtifnmbmijljhfaaGreat.E
open Go
theorem blw_down {es : List Pr2} {k : List UInt8} (ho : okB es) (i : Nat) : ∀ d, i + d < es.length → blw es k (i + d) → blw es k i
 | 0, _, h => h
 | d + 1, hj, h => blw_down ho i d (by omega) (by
  have h1 := (ho (i + (d + 1)) hj).2.2 (by omega)
  rw [show i + (d + 1) - 1 = i + d by omega] at h1
  show cmp _ _ < 0
  rcases Int.lt_or_le (cmp (es.getD (i + d) ([], [])).1 k) 0 with q | q
  ·exact q
  have := cmp_ge _ _ _ h1 q
  have h' : cmp (es.getD (i + (d + 1)) ([], [])).1 k < 0 := h
  omega)
theorem seek_eq {es : List Pr2} {k : List UInt8} (ho : okB es) {s t : Nat} (h1 : SeekQ es k s) (h2 : SeekQ es k t) : s = t := by
 rcases Nat.lt_trichotomy s t with h | h | h
 ·refine absurd (blw_down ho s (t - 1 - s) (by have := h2.1; omega) ?_) (h1.2.2 (by have := h2.1; omega))
  rw [show s + (t - 1 - s) = t - 1 by omega]; exact h2.2.1 (by omega)
 ·exact h
 refine absurd (blw_down ho t (s - 1 - t) (by have := h1.1; omega) ?_) (h2.2.2 (by have := h1.1; omega))
 rw [show t + (s - 1 - t) = s - 1 by omega]; exact h1.2.1 (by omega)
def PX (R : Nat) (es : List Pr2) (w : World) (g : Bool) (b : Value) : Prop := (g = true ∧ ∃ br v, b = .pointer (some ⟨br, 0, none⟩) ∧ Own w ⟨br, 101, [.int .i64 (R : Nat), v]⟩ ∧ RdS pairC w v es) ∨ (g = false ∧ b = .pointer none ∧ es = [])
def QX (es : List Pr2) (w : World) (g : Bool) (b : Value) : Prop := (g = true ∧ ∃ br v, b = .pointer (some ⟨br, 0, none⟩) ∧ Own w ⟨br, 75, [v]⟩ ∧ RdS pairC w v es) ∨ (g = false ∧ b = .pointer none ∧ es = [])
theorem PX.upd {R : Nat} {es : List Pr2} {w w' : World} {g : Bool} {b : Value} (h : PX R es w g b) (u : Upd [] w w') : PX R es w' g b := by
 rcases h with ⟨rfl, br, v, rfl, h1, h2⟩ | h
 ·exact .inl ⟨rfl, br, v, rfl, h1.upd u (by simp), h2.upd u⟩
 exact .inr h
theorem QX.upd {es : List Pr2} {w w' : World} {g : Bool} {b : Value} (h : QX es w g b) (u : Upd [] w w') : QX es w' g b := by
 rcases h with ⟨rfl, br, v, rfl, h1, h2⟩ | h
 ·exact .inl ⟨rfl, br, v, rfl, h1.upd u (by simp), h2.upd u⟩
 exact .inr h
def atE (g : Bool) (es : List Pr2) (i : Int) : Int := if g then (if 0 ≤ i ∧ i < es.length then 0 else 3) else 1
def atP (g : Bool) (es : List Pr2) (i : Int) : Pr2 := if g = true ∧ 0 ≤ i ∧ i < es.length then es.getD i.toNat ([], []) else ([], [])
def atX (g : Bool) (es : List Pr2) (i : Int) : Value := .tuple #[.string (str (atP g es i).1), .string (str (atP g es i).2), .int .i64 (atE g es i)]
theorem atX_in {es : List Pr2} {i : Int} {j : Nat} (hj : i = (j : Nat)) (h : j < es.length) : Value.tuple [.string (str (es.getD j ([], [])).1), .string (str (es.getD j ([], [])).2), .int .i64 0].toArray = atX true es i := by
 subst hj
 unfold atX atP atE
 rw [if_pos ⟨rfl, by omega, by omega⟩, if_pos rfl, if_pos ⟨by omega, by omega⟩, Int.toNat_natCast]
theorem atX_out {es : List Pr2} {i : Int} (h : i < 0 ∨ (es.length : Int) ≤ i) : Value.tuple [.string (str []), .string (str []), .int .i64 3].toArray = atX true es i := by
 unfold atX atP atE
 rw [if_neg (fun q => by omega), if_pos rfl, if_neg (fun q => by omega)]
theorem atX_nil {es : List Pr2} {i : Int} : Value.tuple [.string (str []), .string (str []), .int .i64 1].toArray = atX false es i := by
 unfold atX atP atE
 rw [if_neg (fun q => by cases q.1), if_neg (by decide)]
theorem PLen_1 (br R : Nat) (v : Value) (es : List Pr2) (w : World) (ho : Own w ⟨br, 101, [.int .i64 (R : Nat), v]⟩) (hv : RdS pairC w v es) : Calls Tryz.prog 40 [.pointer (some ⟨br, 0, none⟩)].toArray w (Rt fun r w' => r = .int .i64 (es.length : Nat) ∧ Upd [] w w') := by
 have hM0 : Mem w [] w [] := Mem.nil w []
 refine calls_vc mixed Tryz.func40 rfl C40 (by simp [Tryz.ntmps40]) <| seq fun _ h1 => mv <| h1 _ _ <| seq fun _ h2 => seq fun _ h3 => mv <| stp (v := .bool false) (o_isnil rfl rfl) <| h3 _ _ <| cndF rfl <| h2 _ _ <| seq fun _ h4 => mv <| nilchk rfl ?_
 refine fa rfl <| ld (v := v) rfl ((ho.upd hM0.upd (by simp)).cell 1) <| stp (v := .int .i64 (es.length : Nat)) (o_lenR (hv.upd hM0.upd) rfl rfl) <| mv <| h4 _ _ <| ⟨(.int .i64 (es.length : Nat)), rfl, ⟨rfl, hM0.upd⟩⟩
theorem PLen_0 (w : World) : Calls Tryz.prog 40 [.pointer none].toArray w (Rt fun r w' => r = .int .i64 0 ∧ Upd [] w w') := by
 have hM0 : Mem w [] w [] := Mem.nil w []
 refine calls_vc mixed Tryz.func40 rfl C40 (by simp [Tryz.ntmps40]) <| seq fun _ h1 => mv <| h1 _ _ <| seq fun _ h2 => seq fun _ h3 => mv <| stp (v := .bool true) (o_isnil rfl rfl) <| h3 _ _ <| cndT rfl <| seq fun _ h4 => mv <| h4 _ _ <| ⟨(.int .i64 0), rfl, ?_⟩
 exact ⟨rfl, hM0.upd⟩
theorem PAt_1 (br R : Nat) (v : Value) (es : List Pr2) (i : Int) (hi : inK .i64 i) (w : World) (ho : Own w ⟨br, 101, [.int .i64 (R : Nat), v]⟩) (hv : RdS pairC w v es) : Calls Tryz.prog 44 [.pointer (some ⟨br, 0, none⟩), .int .i64 i].toArray w (Rt fun r w' => r = atX true es i ∧ Upd [] w w') := by
 have hM0 : Mem w [] w [] := Mem.nil w []
 simp only [inK] at hi
 refine calls_vc mixed Tryz.func44 rfl C44 (by simp [Tryz.ntmps44]) <| seq fun _ h1 => mv <| mv <| mv <| h1 _ _ <| seq fun _ h2 => seq fun _ h3 => mv <| stp (v := .bool false) (o_isnil rfl rfl) <| mv <| h3 _ _ <| cndF rfl <| seq fun _ h4 => ?_
 refine mv <| bn rfl rfl <| mv <| splitP rfl (fun c5 => ?_) (fun c5 => ?_)
 ·refine gx rfl <| gx rfl <| gx rfl <| gx rfl <| gxl rfl <| gx rfl <| gx rfl <| pkT rfl <| mv <| h4 _ _ <| cndT rfl <| seq fun _ h6 => mv <| mv ?_
  refine mv <| h6 _ _ <| ⟨(.tuple [.string (str ([])), .string (str ([])), .int .i64 3].toArray), rfl, ⟨atX_out (by omega), hM0.upd⟩⟩
 refine gmv rfl <| gmv rfl <| stg rfl (v := .pointer (some ⟨br, 0, none⟩)) (o_nilchk rfl rfl) <| gfa rfl rfl <| gyesl rfl <| ld (v := v) rfl ((ho.upd hM0.upd (by simp)).cell 1) <| stg rfl (v := .int .i64 (es.length : Nat)) (o_lenR (hv.upd hM0.upd) rfl rfl) <| gbn rfl rfl rfl <| pkF rfl <| mv <| h4 _ _ <| cndP rfl (fun c7 => ?_) (fun c7 => ?_)
 ·refine seq fun _ h8 => mv <| mv <| mv <| h8 _ _ <| ⟨(.tuple [.string (str ([])), .string (str ([])), .int .i64 3].toArray), rfl, ⟨atX_out (by omega), hM0.upd⟩⟩
 refine h2 _ _ <| seq fun _ h9 => ?_
 intro wd e1 e2 e3 e4
 have hd := Upd.same e1 e2 e3 e4 []
 have hM10 := hM0.pure hd
 clear e1 e2 e3 e4
 refine ⟨none, ?_⟩
 show vd _ _ _ _ _ _ _
 refine dmv <| dq (v := .pointer (some ⟨br, 0, none⟩)) (o_nilchk rfl rfl) <| dfa rfl <| dmv <| dmv <| dq (v := .pointer (some ⟨br, 0, none⟩)) (o_nilchk rfl rfl) <| dfa rfl <| dmv <| dqld rfl (trivial) (v := v) ((ho.upd hM10.upd (by simp)).cell 1) <| dqp (m_idxS ([], []) (j := i.toNat) (hv.upd hM10.upd) rfl (v_int (by omega)) (by omega) fun b11 o11 hp11 => ?_)
 show vd _ _ _ _ _ _ _
 refine dfa rfl <| dqld rfl (trivial) (v := .string (str ((es.getD i.toNat ([], [])).2))) (hp11.get 1 rfl) <| dl (ld (v := v) rfl ((ho.upd hM10.upd (by simp)).cell 1) <| ⟨rfl, dqp (m_idxS ([], []) (j := i.toNat) (hv.upd hM10.upd) rfl (v_int (by omega)) (by omega) fun b12 o12 hp12 => ?_)⟩)
 show vd _ _ _ _ _ _ _
 refine dfa rfl <| dl (ld (v := .string (str ((es.getD i.toNat ([], [])).1))) rfl (hp12.get 0 rfl) <| ⟨rfl, dmv <| dmv <| dmv <| h9 _ _ <| ⟨(.tuple [.string (str ((es.getD i.toNat ([], [])).1)), .string (str ((es.getD i.toNat ([], [])).2)), .int .i64 0].toArray), rfl, ⟨atX_in (j := i.toNat) (by omega) (by omega), hM10.upd⟩⟩⟩)
theorem PAt_0 (es : List Pr2) (i : Int) (w : World) : Calls Tryz.prog 44 [.pointer none, .int .i64 i].toArray w (Rt fun r w' => r = atX false es i ∧ Upd [] w w') := by
 have hM0 : Mem w [] w [] := Mem.nil w []
 refine calls_vc mixed Tryz.func44 rfl C44 (by simp [Tryz.ntmps44]) <| seq fun _ h1 => mv <| mv <| mv <| h1 _ _ <| seq fun _ h2 => seq fun _ h3 => mv <| stp (v := .bool true) (o_isnil rfl rfl) <| mv <| h3 _ _ <| cndT rfl <| seq fun _ h4 => ?_
 refine mv <| mv <| mv <| h4 _ _ <| ⟨(.tuple [.string (str ([])), .string (str ([])), .int .i64 1].toArray), rfl, ⟨atX_nil, hM0.upd⟩⟩
theorem PSeek_0 (k : List UInt8) (w : World) : Calls Tryz.prog 45 [.pointer none, .string (str k)].toArray w (Rt fun r w' => r = .int .i64 0 ∧ Upd [] w w') := by
 have hM0 : Mem w [] w [] := Mem.nil w []
 refine calls_vc mixed Tryz.func45 rfl C45 (by simp [Tryz.ntmps45]) <| seq fun _ h1 => m_bx (v := .pointer none) hM0 rfl rfl fun b2 w3 (hM3 : Mem _ _ w3 [[⟨b2, 44, [.pointer none]⟩]]) => m_bx (v := .string (str k)) hM3 rfl rfl fun b4 w5 (hM5 : Mem _ _ w5 [_, [⟨b4, 9, [.string (str k)]⟩]]) => mv <| h1 _ _ <| seq fun _ h6 => seq fun _ h7 => m_ld (v := .pointer none) hM5 (i := 0) (j := 0) rfl rfl rfl rfl <| stp (v := .bool true) (o_isnil rfl rfl) <| h7 _ _ <| cndT rfl <| seq fun _ h8 => mv ?_
 refine h8 _ _ <| ⟨(.int .i64 0), rfl, ⟨rfl, hM5.upd⟩⟩
theorem QLen_1 (br : Nat) (v : Value) (es : List Pr2) (w : World) (ho : Own w ⟨br, 75, [v]⟩) (hv : RdS pairC w v es) : Calls Tryz.prog 41 [.pointer (some ⟨br, 0, none⟩)].toArray w (Rt fun r w' => r = .int .i64 (es.length : Nat) ∧ Upd [] w w') := by
 have hM0 : Mem w [] w [] := Mem.nil w []
 refine calls_vc mixed Tryz.func41 rfl C41 (by simp [Tryz.ntmps41]) <| seq fun _ h1 => mv <| h1 _ _ <| seq fun _ h2 => seq fun _ h3 => mv <| stp (v := .bool false) (o_isnil rfl rfl) <| h3 _ _ <| cndF rfl <| h2 _ _ <| seq fun _ h4 => mv <| nilchk rfl ?_
 refine fa rfl <| ld (v := v) rfl ((ho.upd hM0.upd (by simp)).cell 0) <| stp (v := .int .i64 (es.length : Nat)) (o_lenR (hv.upd hM0.upd) rfl rfl) <| mv <| h4 _ _ <| ⟨(.int .i64 (es.length : Nat)), rfl, ⟨rfl, hM0.upd⟩⟩
theorem QLen_0 (w : World) : Calls Tryz.prog 41 [.pointer none].toArray w (Rt fun r w' => r = .int .i64 0 ∧ Upd [] w w') := by
 have hM0 : Mem w [] w [] := Mem.nil w []
 refine calls_vc mixed Tryz.func41 rfl C41 (by simp [Tryz.ntmps41]) <| seq fun _ h1 => mv <| h1 _ _ <| seq fun _ h2 => seq fun _ h3 => mv <| stp (v := .bool true) (o_isnil rfl rfl) <| h3 _ _ <| cndT rfl <| seq fun _ h4 => mv <| h4 _ _ <| ⟨(.int .i64 0), rfl, ?_⟩
 exact ⟨rfl, hM0.upd⟩
theorem QAt_1 (br : Nat) (v : Value) (es : List Pr2) (i : Int) (hi : inK .i64 i) (w : World) (ho : Own w ⟨br, 75, [v]⟩) (hv : RdS pairC w v es) : Calls Tryz.prog 43 [.pointer (some ⟨br, 0, none⟩), .int .i64 i].toArray w (Rt fun r w' => r = atX true es i ∧ Upd [] w w') := by
 have hM0 : Mem w [] w [] := Mem.nil w []
 simp only [inK] at hi
 refine calls_vc mixed Tryz.func43 rfl C43 (by simp [Tryz.ntmps43]) <| seq fun _ h1 => mv <| mv <| mv <| h1 _ _ <| seq fun _ h2 => seq fun _ h3 => mv <| stp (v := .bool false) (o_isnil rfl rfl) <| h3 _ _ <| cndF rfl <| h2 _ _ <| seq fun _ h4 => ?_
 refine seq fun _ h5 => mv <| bn rfl rfl <| mv <| splitP rfl (fun c6 => ?_) (fun c6 => ?_)
 ·refine gx rfl <| gx rfl <| gx rfl <| gx rfl <| gxl rfl <| gx rfl <| gx rfl <| pkT rfl <| h5 _ _ <| cndT rfl <| seq fun _ h7 => mv <| mv <| mv ?_
  refine h7 _ _ <| ⟨(.tuple [.string (str ([])), .string (str ([])), .int .i64 3].toArray), rfl, ⟨atX_out (by omega), hM0.upd⟩⟩
 refine gmv rfl <| gmv rfl <| stg rfl (v := .pointer (some ⟨br, 0, none⟩)) (o_nilchk rfl rfl) <| gfa rfl rfl <| gyesl rfl <| ld (v := v) rfl ((ho.upd hM0.upd (by simp)).cell 0) <| stg rfl (v := .int .i64 (es.length : Nat)) (o_lenR (hv.upd hM0.upd) rfl rfl) <| gbn rfl rfl rfl <| pkF rfl <| h5 _ _ <| cndP rfl (fun c8 => ?_) (fun c8 => ?_)
 ·refine seq fun _ h9 => mv <| mv <| mv <| h9 _ _ <| ⟨(.tuple [.string (str ([])), .string (str ([])), .int .i64 3].toArray), rfl, ⟨atX_out (by omega), hM0.upd⟩⟩
 refine h4 _ _ <| seq fun _ h10 => ?_
 intro wd e1 e2 e3 e4
 have hd := Upd.same e1 e2 e3 e4 []
 have hM11 := hM0.pure hd
 clear e1 e2 e3 e4
 refine ⟨none, ?_⟩
 show vd _ _ _ _ _ _ _
 refine dmv <| dq (v := .pointer (some ⟨br, 0, none⟩)) (o_nilchk rfl rfl) <| dfa rfl <| dmv <| dmv <| dq (v := .pointer (some ⟨br, 0, none⟩)) (o_nilchk rfl rfl) <| dfa rfl <| dmv <| dqld rfl (trivial) (v := v) ((ho.upd hM11.upd (by simp)).cell 0) <| dqp (m_idxS ([], []) (j := i.toNat) (hv.upd hM11.upd) rfl (v_int (by omega)) (by omega) fun b12 o12 hp12 => ?_)
 show vd _ _ _ _ _ _ _
 refine dfa rfl <| dqld rfl (trivial) (v := .string (str ((es.getD i.toNat ([], [])).2))) (hp12.get 1 rfl) <| dl (ld (v := v) rfl ((ho.upd hM11.upd (by simp)).cell 0) <| ⟨rfl, dqp (m_idxS ([], []) (j := i.toNat) (hv.upd hM11.upd) rfl (v_int (by omega)) (by omega) fun b13 o13 hp13 => ?_)⟩)
 show vd _ _ _ _ _ _ _
 refine dfa rfl <| dl (ld (v := .string (str ((es.getD i.toNat ([], [])).1))) rfl (hp13.get 0 rfl) <| ⟨rfl, dmv <| dmv <| dmv <| h10 _ _ <| ⟨(.tuple [.string (str ((es.getD i.toNat ([], [])).1)), .string (str ((es.getD i.toNat ([], [])).2)), .int .i64 0].toArray), rfl, ⟨atX_in (j := i.toNat) (by omega) (by omega), hM11.upd⟩⟩⟩)
theorem QAt_0 (es : List Pr2) (i : Int) (w : World) : Calls Tryz.prog 43 [.pointer none, .int .i64 i].toArray w (Rt fun r w' => r = atX false es i ∧ Upd [] w w') := by
 have hM0 : Mem w [] w [] := Mem.nil w []
 refine calls_vc mixed Tryz.func43 rfl C43 (by simp [Tryz.ntmps43]) <| seq fun _ h1 => mv <| mv <| mv <| h1 _ _ <| seq fun _ h2 => seq fun _ h3 => mv <| stp (v := .bool true) (o_isnil rfl rfl) <| h3 _ _ <| cndT rfl <| seq fun _ h4 => mv ?_
 refine mv <| mv <| h4 _ _ <| ⟨(.tuple [.string (str ([])), .string (str ([])), .int .i64 1].toArray), rfl, ⟨atX_nil, hM0.upd⟩⟩
theorem QSeek_0 (k : List UInt8) (w : World) : Calls Tryz.prog 46 [.pointer none, .string (str k)].toArray w (Rt fun r w' => r = .int .i64 0 ∧ Upd [] w w') := by
 have hM0 : Mem w [] w [] := Mem.nil w []
 refine calls_vc mixed Tryz.func46 rfl C46 (by simp [Tryz.ntmps46]) <| seq fun _ h1 => mv <| h1 _ _ <| seq fun _ h2 => seq fun _ h3 => mv <| stp (v := .bool true) (o_isnil rfl rfl) <| h3 _ _ <| cndT rfl <| seq fun _ h4 => mv <| h4 _ _ <| ⟨(.int .i64 0), rfl, ?_⟩
 exact ⟨rfl, hM0.upd⟩
theorem QSeek_1 (br : Nat) (v : Value) (es : List Pr2) (k : List UInt8) (w : World) (ho : Own w ⟨br, 75, [v]⟩) (hv : RdS pairC w v es) (hn : es.length ≤ 1000000) (hk : k.length ≤ 140737488355328) (hel : ∀ i, (es.getD i ([], [])).1.length ≤ 1152921504606846976) : Calls Tryz.prog 46 [.pointer (some ⟨br, 0, none⟩), .string (str k)].toArray w (Rt fun r w' => ∃ s : Nat, r = .int .i64 (s : Nat) ∧ SeekQ es k s ∧ Upd [] w w') := by
 have hM0 : Mem w [] w [] := Mem.nil w []
 refine calls_vc mixed Tryz.func46 rfl C46 (by simp [Tryz.ntmps46]) <| seq fun _ h1 => mv <| h1 _ _ <| seq fun _ h2 => seq fun _ h3 => mv <| stp (v := .bool false) (o_isnil rfl rfl) <| h3 _ _ <| cndF rfl <| h2 _ _ <| seq fun _ h4 => mv <| h4 _ _ ?_
 refine seq fun _ h5 => lp (n := fun _ _ => False) (ι := (Nat)) (fun i f w' => f 5 = .int .i64 (i : Nat) ∧ f 0 = .pointer (some ⟨br, 0, none⟩) ∧ f 1 = .string (str k) ∧ Mem w [] w' [] ∧ (i ≤ es.length) ∧ (0 < i → blw es k (i - 1))) (fun i => es.length - i) (0) ?_ ?_
 ·exact ⟨vi, rfl, by first | rfl | simp [upd], hM0, by omega, fun h => absurd h (by omega)⟩
 rintro i f w6 ⟨e6_5, e6_0, e6_1, hM6, hi, hb⟩ K7 h7
 obtain ⟨frm, rfl⟩ := re3 e6_5 e6_0 e6_1
 refine seq fun _ h8 => seq fun _ h9 => mv <| mv <| nilchk rfl <| fa rfl <| ld (v := v) rfl ((ho.upd hM6.upd (by simp)).cell 0) <| stp (v := .int .i64 (es.length : Nat)) (o_lenR (hv.upd hM6.upd) rfl rfl) <| bn rfl rfl <| mv <| splitP rfl (fun c10 => ?_) (fun c10 => ?_)
 ·refine gmv rfl <| stg rfl (v := .pointer (some ⟨br, 0, none⟩)) (o_nilchk rfl rfl) <| gfa rfl rfl <| gyesl rfl <| ld (v := v) rfl ((ho.upd hM6.upd (by simp)).cell 0) <| gmv rfl <| gyes rfl rfl (m_idxS ([], []) (j := i) (hv.upd hM6.upd) rfl rfl (by omega) fun b11 o11 hp11 => gfa rfl rfl <| gyesl rfl <| ld (v := .string (str ((es.getD i ([], [])).1))) rfl (hp11.get 0 rfl) ?_)
  have hke := hel i
  refine gmv rfl <| gyesl rfl <| m_call (refCompare_ok ((es.getD i ([], [])).1) k w6 (by first | omega | (simp; done) | (simp; omega)) (by first | omega | (simp; done) | (simp; omega))) rfl fun v12 w12 ⟨hr12, hu12⟩ => ?_
  have hM12 : Mem w [] w12 [] := hM6.pure hu12
  subst hr12
  refine gbn rfl rfl rfl <| pkT rfl <| h9 _ _ <| cndP rfl (fun c13 => ?_) (fun c13 => ?_)
  ·refine h8 _ _ <| mv <| stp (v := .int .i64 ((i : Nat) + 1)) (o_bin rfl rfl (v_add64 (by omega))) <| mv <| h7 (i + 1) _ _ ⟨vi, rfl, by first | rfl | simp [upd], hM12, by omega, fun _ => by rw [Nat.add_sub_cancel]; assumption⟩ (by (try dsimp only); omega)
  refine h5 _ _ <| seq fun _ h14 => mv <| mv <| h14 _ _ <| ⟨(.int .i64 (i : Nat)), rfl, ⟨i, rfl, ⟨hi, hb, fun _ => by assumption⟩, hM12.upd⟩⟩
 refine gx rfl <| gx rfl <| gx rfl <| gxl rfl <| gx rfl <| gx rfl <| gx rfl <| gxl rfl <| gx rfl <| gxl rfl <| gx rfl <| pkF rfl <| h9 _ _ <| cndF rfl <| h5 _ _ <| seq fun _ h15 => mv <| mv <| h15 _ _ <| ⟨(.int .i64 (i : Nat)), rfl, ⟨i, rfl, ⟨hi, hb, fun q => absurd q (by omega)⟩, hM6.upd⟩⟩
end Go.Proofs.YtifnmbmijljhfaaGreat.E
namespace Go.Proofs.YtifnmbmijljhfaaGreat.E
open Go
theorem PSeek_1 (br R : Nat) (v : Value) (es : List Pr2) (k : List UInt8) (w : World) (ho : Own w ⟨br, 101, [.int .i64 (R : Nat), v]⟩) (hv : RdS pairC w v es) (hR1 : 1 ≤ R ∧ R ≤ 64) (hn : es.length ≤ 1000000) (hk : k.length ≤ 140737488355328) (hel : ∀ i, (es.getD i ([], [])).1.length ≤ 1152921504606846976) : Calls Tryz.prog 45 [.pointer (some ⟨br, 0, none⟩), .string (str k)].toArray w (Rt fun r w' => ∃ s : Nat, r = .int .i64 (s : Nat) ∧ SeekQ es k s ∧ Upd [] w w') := by
 have hM0 : Mem w [] w [] := Mem.nil w []
 obtain ⟨H, hHe⟩ : ∃ H, H = (es.length + R - 1) / R := ⟨_, rfl⟩
 have hH : H ≤ es.length + R - 1 := by rw [hHe]; exact Nat.div_le_self _ _
 refine calls_vc mixed Tryz.func45 rfl C45 (by simp [Tryz.ntmps45]) <| seq fun _ h1 => m_bx (v := .pointer (some ⟨br, 0, none⟩)) hM0 rfl rfl fun b2 w3 (hM3 : Mem _ _ w3 [[⟨b2, 44, [.pointer (some ⟨br, 0, none⟩)]⟩]]) => m_bx (v := .string (str k)) hM3 rfl rfl fun b4 w5 (hM5 : Mem _ _ w5 [_, [⟨b4, 9, [.string (str k)]⟩]]) => mv <| h1 _ _ <| seq fun _ h6 => seq fun _ h7 => m_ld (v := .pointer (some ⟨br, 0, none⟩)) hM5 (i := 0) (j := 0) rfl rfl rfl rfl <| stp (v := .bool false) (o_isnil rfl rfl) <| h7 _ _ <| cndF rfl <| h6 _ _ <| seq fun _ h8 => ?_
 refine stp (v := .func (.func 78) [].toArray [.pointer (some ⟨b2, 0, none⟩), .pointer (some ⟨b4, 0, none⟩)].toArray) (o_mkf rfl) <| mv <| h8 _ _ <| seq fun _ h9 => ?_
 intro wd e1 e2 e3 e4
 have hd := Upd.same e1 e2 e3 e4 []
 have hM10 := hM5.pure hd
 clear e1 e2 e3 e4
 refine ⟨none, ?_⟩
 show vd _ _ _ _ _ _ _
 refine dmv <| dqld rfl (trivial) (v := .pointer (some ⟨br, 0, none⟩)) ((hM10.at (i := 0) (j := 0) rfl rfl).cell 0) <| dq (v := .pointer (some ⟨br, 0, none⟩)) (o_nilchk rfl rfl) <| dfa rfl <| dqld rfl (trivial) (v := .int .i64 (R : Nat)) ((ho.upd hM10.upd (by simp)).cell 0) <| dq (v := .int .i64 (R : Nat)) (o_mm rfl rfl (v_int (by rw [if_pos rfl]; omega))) <| dqld rfl (trivial) (v := .pointer (some ⟨br, 0, none⟩)) ((hM10.at (i := 0) (j := 0) rfl rfl).cell 0) <| dq (v := .pointer (some ⟨br, 0, none⟩)) (o_nilchk rfl rfl) <| dfa rfl <| dqld rfl (trivial) (v := .int .i64 (R : Nat)) ((ho.upd hM10.upd (by simp)).cell 0) <| dq (v := .int .i64 (R : Nat)) (o_mm rfl rfl (v_int (by rw [if_pos rfl]; omega))) <| dl (m_ld (v := .pointer (some ⟨br, 0, none⟩)) hM10 (i := 0) (j := 0) rfl rfl rfl rfl <| ⟨rfl, dq (v := .pointer (some ⟨br, 0, none⟩)) (o_nilchk rfl rfl) ?_⟩)
 refine dfa rfl <| dl (ld (v := v) rfl ((ho.upd hM10.upd (by simp)).cell 1) <| ⟨rfl, dq (v := .int .i64 (es.length : Nat)) (o_lenR (hv.upd hM10.upd) rfl rfl) <| dq (v := .int .i64 ((es.length : Nat) + (R : Nat))) (o_bin rfl rfl (v_add64 (by omega))) <| dq (v := .int .i64 (((es.length : Nat) + (R : Nat)) - 1)) (o_bin rfl rfl (v_sub64 (by omega))) <| dq (v := .int .i64 (H : Nat)) (o_quo rfl rfl (by omega) ((v_quo (by omega) (by omega) (by simp only [inK]; omega)).trans (v_int (by rw [hHe, show ((es.length : Nat) : Int) + (R : Int) - 1 = ((es.length + R - 1 : Nat) : Int) by omega]; rfl)))) <| dmv <| h9 _ _ <| seq fun _ h11 => lp (n := fun _ _ => False) (ι := (Nat) × (Nat)) (fun ⟨lo, hi⟩ f w' => f 6 = .int .i64 (lo : Nat) ∧ f 7 = .int .i64 (hi : Nat) ∧ f 2 = .pointer (some ⟨b2, 0, none⟩) ∧ f 5 = .func (.func 78) [].toArray [.pointer (some ⟨b2, 0, none⟩), .pointer (some ⟨b4, 0, none⟩)].toArray ∧ Mem w [] w' [[⟨b2, 44, [.pointer (some ⟨br, 0, none⟩)]⟩], [⟨b4, 9, [.string (str k)]⟩]] ∧ (lo ≤ hi ∧ hi ≤ H) ∧ (0 < lo → blw es k ((lo - 1) * R))) (fun ⟨lo, hi⟩ => hi - lo) (0, H) ?_ ?_⟩)
 ·exact ⟨vi, vi, rfl, rfl, hM10, by omega, fun h => absurd h (by omega)⟩
 rintro ⟨lo, hi⟩ f w12 ⟨e12_6, e12_7, e12_2, e12_5, hM12, hlh, hb⟩ K13 h13
 obtain ⟨frm, rfl⟩ := re4 e12_6 e12_7 e12_2 e12_5
 refine seq fun _ h14 => seq fun _ h15 => mv <| mv <| bn rfl rfl <| h15 _ _ <| cndP rfl (fun c16 => ?_) (fun c16 => ?_)
 ·refine h14 _ _ <| seq fun _ h17 => mv <| mv <| stp (v := .int .i64 ((lo : Nat) + (hi : Nat))) (o_bin rfl rfl (v_add64 (by omega))) <| stp (v := .int .i64 ((lo + hi) / 2 : Nat)) (o_quo rfl rfl (by omega) ((v_quo (by omega) (by omega) (by simp only [inK]; omega)).trans (v_int (by omega)))) <| mv <| h17 _ _ <| seq fun _ h18 => mv <| mv <| m_ld (v := .pointer (some ⟨br, 0, none⟩)) hM12 (i := 0) (j := 0) rfl rfl rfl rfl <| nilchk rfl <| fa rfl ?_
  refine ld (v := .int .i64 (R : Nat)) rfl ((ho.upd hM12.upd (by simp)).cell 0) ?_
  have hm1 : ((lo + hi) / 2 * R) < es.length := seek_lt hR1.1 (by rw [← hHe]; omega)
  have hm2 := seek_mul (a := (lo + hi) / 2) (R := R) (n := es.length) (by omega)
  refine stp (v := .int .i64 (((lo + hi) / 2 * R) : Nat)) (o_bin rfl rfl ((v_mul64 (by omega)).trans (v_int (Int.natCast_mul _ _).symm))) <| m_callv rfl (by kernel_rfl) (below_ok b2 b4 br R ((lo + hi) / 2 * R) _ es k w12 (hM12.at (i := 0) (j := 0) rfl rfl) (hM12.at (i := 1) (j := 0) rfl rfl) (ho.upd hM12.upd (by simp)) (hv.upd hM12.upd) (by first | assumption | omega) (by omega) (hel _)) rfl fun v19 w19 ⟨hr19, hu19⟩ => ?_
  have hM19 : Mem w [] w19 [[⟨b2, 44, [.pointer (some ⟨br, 0, none⟩)]⟩], [⟨b4, 9, [.string (str k)]⟩]] := hM12.pure hu19
  subst hr19
  refine h18 _ _ <| cndP rfl (fun c20 => ?_) (fun c20 => ?_)
  ·refine mv <| stp (v := .int .i64 (((lo + hi) / 2 : Nat) + 1)) (o_bin rfl rfl (v_add64 (by omega))) <| mv <| h13 ((lo + hi) / 2 + 1, hi) _ _ ⟨vi, vi, rfl, rfl, hM19, by omega, fun _ => by rw [Nat.add_sub_cancel]; assumption⟩ (by (try dsimp only); omega)
  refine mv <| mv <| h13 (lo, (lo + hi) / 2) _ _ ⟨vi, vi, rfl, rfl, hM19, by omega, hb⟩ (by (try dsimp only); omega)
 refine h11 _ _ <| seq fun _ h21 => mv <| stp (v := .int .i64 ((lo : Nat) - 1)) (o_bin rfl rfl (v_sub64 (by omega))) <| stp (v := .int .i64 (lo - 1 : Nat)) (o_mm rfl rfl (v_int (by rw [if_pos rfl]; omega))) <| m_ld (v := .pointer (some ⟨br, 0, none⟩)) hM12 (i := 0) (j := 0) rfl rfl rfl rfl <| nilchk rfl <| fa rfl <| ld (v := .int .i64 (R : Nat)) rfl ((ho.upd hM12.upd (by simp)).cell 0) <| stp (v := .int .i64 (R : Nat)) (o_mm rfl rfl (v_int (by rw [if_pos rfl]; omega))) ?_
 have hm3 : (lo - 1) * R ≤ es.length := by
  by_cases h0 : 0 < lo
  ·exact Nat.le_of_lt (seek_lt hR1.1 (by rw [← hHe]; omega))
  rw [show lo - 1 = 0 by omega, Nat.zero_mul]; exact Nat.zero_le _
 have hm4 := seek_mul hm3
 refine stp (v := .int .i64 ((lo - 1) * R : Nat)) (o_bin rfl rfl ((v_mul64 (by omega)).trans (v_int (Int.natCast_mul _ _).symm))) <| mv <| h21 _ _ <| seq fun _ h22 => h22 _ _ <| seq fun _ h23 => lp (n := fun _ _ => False) (ι := (Nat)) (fun s f w' => f 9 = .int .i64 (s : Nat) ∧ f 2 = .pointer (some ⟨b2, 0, none⟩) ∧ f 5 = .func (.func 78) [].toArray [.pointer (some ⟨b2, 0, none⟩), .pointer (some ⟨b4, 0, none⟩)].toArray ∧ Mem w [] w' [[⟨b2, 44, [.pointer (some ⟨br, 0, none⟩)]⟩], [⟨b4, 9, [.string (str k)]⟩]] ∧ (s ≤ es.length) ∧ ((0 < s → blw es k (s - 1)) ∨ (s < es.length ∧ blw es k s))) (fun s => es.length - s) ((lo - 1) * R) ?_ ?_
 ·exact ⟨vi, rfl, rfl, hM12, hm3, by
  by_cases h0 : 0 < lo
  ·exact .inr ⟨seek_lt hR1.1 (by rw [← hHe]; omega), hb h0⟩
  exact .inl fun h => absurd h (by rw [show lo - 1 = 0 by omega, Nat.zero_mul]; omega)⟩
 rintro s f w24 ⟨e24_9, e24_2, e24_5, hM24, hs, hs1⟩ K25 h25
 obtain ⟨frm, rfl⟩ := re3 e24_9 e24_2 e24_5
 refine seq fun _ h26 => seq fun _ h27 => mv <| m_ld (v := .pointer (some ⟨br, 0, none⟩)) hM24 (i := 0) (j := 0) rfl rfl rfl rfl <| nilchk rfl <| fa rfl <| ld (v := v) rfl ((ho.upd hM24.upd (by simp)).cell 1) <| stp (v := .int .i64 (es.length : Nat)) (o_lenR (hv.upd hM24.upd) rfl rfl) <| bn rfl rfl <| h27 _ _ <| cndP rfl (fun c28 => ?_) (fun c28 => ?_)
 ·refine h26 _ _ <| seq fun _ h29 => seq fun _ h30 => mv <| mv <| m_callv rfl (by kernel_rfl) (below_ok b2 b4 br R s _ es k w24 (hM24.at (i := 0) (j := 0) rfl rfl) (hM24.at (i := 1) (j := 0) rfl rfl) (ho.upd hM24.upd (by simp)) (hv.upd hM24.upd) (by first | assumption | omega) (by omega) (hel _)) rfl fun v31 w31 ⟨hr31, hu31⟩ => ?_
  have hM31 : Mem w [] w31 [[⟨b2, 44, [.pointer (some ⟨br, 0, none⟩)]⟩], [⟨b4, 9, [.string (str k)]⟩]] := hM24.pure hu31
  subst hr31
  refine stp (v := .bool (decide (¬ (blw es k s)))) (o_not rfl v_not) <| h30 _ _ <| cndP rfl (fun c32 => ?_) (fun c32 => ?_)
  ·refine h23 _ _ <| seq fun _ h33 => mv <| mv <| h33 _ _ <| ⟨(.int .i64 (s : Nat)), rfl, ⟨_, rfl, ⟨hs, fun h0 => hs1.elim (fun q => q h0) (fun q => absurd q.2 (by assumption)), fun _ => by assumption⟩, hM31.upd⟩⟩
  refine h29 _ _ <| mv <| stp (v := .int .i64 ((s : Nat) + 1)) (o_bin rfl rfl (v_add64 (by omega))) <| mv <| h25 (s + 1) _ _ ⟨vi, rfl, rfl, hM31, by omega, .inl fun _ => by rw [Nat.add_sub_cancel]; first | assumption | exact Decidable.not_not.1 (by assumption)⟩ (by (try dsimp only); omega)
 refine h23 _ _ <| seq fun _ h34 => mv <| mv <| h34 _ _ <| ⟨(.int .i64 (s : Nat)), rfl, ⟨_, rfl, ⟨hs, fun h0 => hs1.elim (fun q => q h0) (fun q => absurd q.1 (by omega)), fun q => absurd q (by omega)⟩, hM24.upd⟩⟩
theorem All_ok (v : Option Addr) (w : World) : Calls Tryz.prog 42 [.pointer v].toArray w (Rt fun r w' => ∃ bx, r = .func (.func 77) #[] #[.pointer (some ⟨bx, 0, none⟩)] ∧ Mem w [] w' [[⟨bx, 44, [.pointer v]⟩]]) := by
 have hM0 : Mem w [] w [] := Mem.nil w []
 refine calls_vc mixed Tryz.func42 rfl C42 (by simp [Tryz.ntmps42]) <| seq fun _ h1 => m_bx (v := (.pointer v)) hM0 rfl rfl fun b2 w3 (hM3 : Mem _ _ w3 [[⟨b2, 44, [(.pointer v)]⟩]]) => mv <| h1 _ _ <| seq fun _ h4 => stp (v := .func (.func 77) [].toArray [.pointer (some ⟨b2, 0, none⟩)].toArray) (o_mkf rfl) <| mv <| h4 _ _ <| ⟨(.func (.func 77) [].toArray [.pointer (some ⟨b2, 0, none⟩)].toArray), rfl, ⟨_, rfl, hM3⟩⟩
def OX (R : Nat) (es : List Pr2) : Prop := (1 ≤ R ∧ R ≤ 64) ∧ es.length ≤ 65536 ∧ okB es
theorem OX.keyl {R : Nat} {es : List Pr2} (h : OX R es) (j : Nat) : (es.getD j ([], [])).1.length ≤ 1024 := by
 by_cases hj : j < es.length
 ·exact (h.2.2 j hj).1
 rw [List.getD_eq_getElem?_getD, List.getElem?_eq_none (by omega)]; exact Nat.zero_le _
theorem PLen_ok (R : Nat) (es : List Pr2) (w : World) (g : Bool) (b : Value) (h : PX R es w g b) : Calls Tryz.prog 40 [b].toArray w (Rt fun r w' => r = .int .i64 (es.length : Nat) ∧ Upd [] w w') := by
 rcases h with ⟨rfl, br, v, rfl, h1, h2⟩ | ⟨rfl, rfl, rfl⟩
 ·exact PLen_1 br R v es w h1 h2
 exact PLen_0 w
theorem QLen_ok (es : List Pr2) (w : World) (g : Bool) (b : Value) (h : QX es w g b) : Calls Tryz.prog 41 [b].toArray w (Rt fun r w' => r = .int .i64 (es.length : Nat) ∧ Upd [] w w') := by
 rcases h with ⟨rfl, br, v, rfl, h1, h2⟩ | ⟨rfl, rfl, rfl⟩
 ·exact QLen_1 br v es w h1 h2
 exact QLen_0 w
theorem PAt_ok (R : Nat) (es : List Pr2) (i : Int) (w : World) (g : Bool) (b : Value) (h : PX R es w g b) (hi : inK .i64 i) : Calls Tryz.prog 44 [b, .int .i64 i].toArray w (Rt fun r w' => r = atX g es i ∧ Upd [] w w') := by
 rcases h with ⟨rfl, br, v, rfl, h1, h2⟩ | ⟨rfl, rfl, rfl⟩
 ·exact PAt_1 br R v es i hi w h1 h2
 exact PAt_0 [] i w
theorem QAt_ok (es : List Pr2) (i : Int) (w : World) (g : Bool) (b : Value) (h : QX es w g b) (hi : inK .i64 i) : Calls Tryz.prog 43 [b, .int .i64 i].toArray w (Rt fun r w' => r = atX g es i ∧ Upd [] w w') := by
 rcases h with ⟨rfl, br, v, rfl, h1, h2⟩ | ⟨rfl, rfl, rfl⟩
 ·exact QAt_1 br v es i hi w h1 h2
 exact QAt_0 [] i w
theorem seek_0 (k : List UInt8) : SeekQ [] k 0 := ⟨Nat.le_refl _, fun h => absurd h (Nat.lt_irrefl _), fun h => absurd h (Nat.lt_irrefl _)⟩
theorem PSeek_ok (R : Nat) (es : List Pr2) (k : List UInt8) (w : World) (g : Bool) (b : Value) (h : PX R es w g b) (ho : OX R es) (hk : k.length ≤ 140737488355328) : Calls Tryz.prog 45 [b, .string (str k)].toArray w (Rt fun r w' => ∃ s : Nat, r = .int .i64 (s : Nat) ∧ SeekQ es k s ∧ Upd [] w w') := by
 rcases h with ⟨rfl, br, v, rfl, h1, h2⟩ | ⟨rfl, rfl, rfl⟩
 ·exact PSeek_1 br R v es k w h1 h2 ho.1 (by have := ho.2.1; omega) hk (fun i => Nat.le_trans (ho.keyl i) (by omega))
 exact (PSeek_0 k w).mono fun en w2 h => h.elim fun v h => ⟨v, h.1, 0, h.2.1, seek_0 k, h.2.2⟩
theorem QSeek_ok (R : Nat) (es : List Pr2) (k : List UInt8) (w : World) (g : Bool) (b : Value) (h : QX es w g b) (ho : OX R es) (hk : k.length ≤ 140737488355328) : Calls Tryz.prog 46 [b, .string (str k)].toArray w (Rt fun r w' => ∃ s : Nat, r = .int .i64 (s : Nat) ∧ SeekQ es k s ∧ Upd [] w w') := by
 rcases h with ⟨rfl, br, v, rfl, h1, h2⟩ | ⟨rfl, rfl, rfl⟩
 ·exact QSeek_1 br v es k w h1 h2 (by have := ho.2.1; omega) hk (fun i => Nat.le_trans (ho.keyl i) (by omega))
 exact (QSeek_0 k w).mono fun en w2 h => h.elim fun v h => ⟨v, h.1, 0, h.2.1, seek_0 k, h.2.2⟩
end Go.Proofs.YtifnmbmijljhfaaGreat.E
