/- Part 8 of the proof of what the last of these files says. -/
import Derived.Test.YtifnmbmijljhfaaGreatPBo7
namespace Go.Proofs.YtifnmbmijljhfaaGreat.E
open Go
theorem Num_ok (bc : Nat) (b : List UInt8) (a : Nat) (e m : Int) (r0 : List Ent) (w : World) (hc : CurS bc b a e r0) (hr : Res w r0) (hl : b.length ≤ 140737488355328) : Calls Tryz.prog 104 [.pointer (some ⟨bc, 0, none⟩), .int .i64 m].toArray w (Rt fun r w' => r = .int .i64 (cNum b a e m) ∧ ∃ r', CurS bc b (cNumA b a e m) (cNumE b a e m) r' ∧ Mem w (ids r0) w' [r']) := by
 have hM0 : Mem w (ids r0) w [r0] := Mem.start hr
 refine calls_vc mixed Tryz.func104 rfl C104 (by simp [Tryz.ntmps104]) <| seq fun _ h1 => m_bx (v := .int .i64 m) hM0 rfl rfl fun b2 w3 (hM3 : Mem _ _ w3 [_, [⟨b2, 2, [.int .i64 m]⟩]]) => mv <| h1 _ _ <| seq fun _ h4 => m_al hM3 fun b5 w6 (hM6 : Mem _ _ w6 [_, _, [⟨b5, 2, [.int .i64 0]⟩]]) => h4 _ _ <| seq fun _ h7 => mv <| stp (v := .func (.func 124) [].toArray [.pointer (some ⟨b2, 0, none⟩), .pointer (some ⟨b5, 0, none⟩)].toArray) (o_mkf rfl) <| m_call (reads_ok bc b a e r0 [⟨b2, 2, [.int .i64 m]⟩, ⟨b5, 2, [.int .i64 0]⟩] 124 _ ((get (b.drop a)).2.1) (numE (b.drop a) m) (fun rv => rv = [⟨b2, 2, [.int .i64 m]⟩, ⟨b5, 2, [.int .i64 (numV (b.drop a) m)]⟩]) w6 hc (Mem.res2 ((hM6.keep (by simp) : Mem w (ids r0) w6 [r0, [⟨b2, 2, [.int .i64 m]⟩, ⟨b5, 2, [.int .i64 0]⟩]])) 0 1 rfl rfl (by decide)) hl (by kernel_rfl) (by intro h; have := hc.le; have := (get_ok (numE_get h)).2.1; simp only [List.length_drop] at this; omega) (fun wc u hx hr => num1_ok b2 b5 m u _ wc hx hr (by simp; omega))) rfl fun v8 w8 ⟨r8, rv8, hc8, ht8, hm8⟩ => ?_
 obtain rfl : rv8 = [⟨b2, 2, [.int .i64 m]⟩, ⟨b5, 2, [.int .i64 (cNum b a e m)]⟩] := by
  by_cases c : e = 0
  ·rw [if_pos c] at ht8; rw [ht8, cNum, if_pos c]
  rw [if_neg c] at ht8; (rw [ht8, cNum, if_neg c] <;> rfl)
 have hM8 : Mem w (ids r0) w8 [r8, [⟨b2, 2, [.int .i64 m]⟩], [⟨b5, 2, [.int .i64 (cNum b a e m)]⟩]] := (Mem.step2 (hM6.keep (by simp) : Mem w (ids r0) w6 [r0, [⟨b2, 2, [.int .i64 m]⟩, ⟨b5, 2, [.int .i64 0]⟩]]) 0 1 rfl rfl (by decide) hm8).keep (by simp)
 have hcn := hc8
 refine h7 _ _ <| seq fun _ h9 => m_ld (v := .int .i64 (cNum b a e m)) hM8 (i := 2) (j := 0) rfl rfl rfl rfl <| mv <| h9 _ _ <| ⟨(.int .i64 (cNum b a e m)), rfl, ⟨rfl, _, hcn, hM8.keep (by simp)⟩⟩
theorem fix_arg {l : List UInt8} {n : Int} (h : n < 1 ∨ 8 < n) : fixE l n = 23 ∧ fixV l n = 0 := by
 have : fixE l n = 23 := by unfold fixE; rw [if_pos h]
 exact ⟨this, by unfold fixV; rw [if_neg (by omega)]⟩
theorem fix_short {l : List UInt8} {n : Int} (h : ¬ (n < 1 ∨ 8 < n)) (h2 : (l.length : Int) < n) : fixE l n = 20 ∧ fixV l n = 0 := by
 have : fixE l n = 20 := by unfold fixE; rw [if_neg h, if_pos h2]
 exact ⟨this, by unfold fixV; rw [if_neg (by omega)]⟩
theorem fix_fine {l : List UInt8} {n : Int} (h : ¬ (n < 1 ∨ 8 < n)) (h2 : ¬ (l.length : Int) < n) : fixE l n = 0 ∧ fixV l n = word (l.take n.toNat) := by
 have : fixE l n = 0 := by unfold fixE; rw [if_neg h, if_neg h2]
 exact ⟨this, by unfold fixV; rw [if_pos this]⟩
def fixN (l : List UInt8) (n : Int) : Nat := if fixE l n = 0 then n.toNat else 0
def cFix (b : List UInt8) (a : Nat) (e n : Int) : Nat := if e = 0 then fixV (b.drop a) n else 0
def cFixA (b : List UInt8) (a : Nat) (e n : Int) : Nat := if e = 0 ∧ fixE (b.drop a) n = 0 then a + fixN (b.drop a) n else a
def cFixE (b : List UInt8) (a : Nat) (e n : Int) : Int := if e = 0 then fixE (b.drop a) n else e
theorem fixN_le {l : List UInt8} {n : Int} (h : fixE l n = 0) : fixN l n ≤ l.length := by
 unfold fixN; rw [if_pos h]; unfold fixE at h; split at h
 ·omega
 split at h <;> omega
theorem fixN_0 {l : List UInt8} {n : Int} (h : ¬ fixE l n = 0) : fixN l n = 0 := by unfold fixN; rw [if_neg h]
theorem fixN_n {l : List UInt8} {n : Int} (h : fixE l n = 0) : ((fixN l n : Nat) : Int) = n := by
 unfold fixN; rw [if_pos h]; unfold fixE at h; split at h <;> omega
theorem fix1_ok (bm bv : Nat) (m : Int) (u : Value) (l : List UInt8) (w : World) (hu : RdE byteV w u l) (hr : Res w [⟨bm, 3, [.int .i64 m]⟩, ⟨bv, 60, [.int .u64 0]⟩]) (hl : l.length ≤ 140737488355328) : Calls Tryz.prog 131 [u, .pointer (some ⟨bm, 0, none⟩), .pointer (some ⟨bv, 0, none⟩)].toArray w (Rt fun r w' => r = .tuple #[.int .i64 ((fixN l m : Nat) : Int), .int .i64 (fixE l m)] ∧ ∃ rv', rv' = [⟨bm, 3, [.int .i64 m]⟩, ⟨bv, 60, [.int .u64 ((fixV l m : Nat) : Int)]⟩] ∧ Mem w (ids [⟨bm, 3, [.int .i64 m]⟩, ⟨bv, 60, [.int .u64 0]⟩]) w' [rv']) := by
 have hM0 : Mem w (ids [⟨bm, 3, [.int .i64 m]⟩, ⟨bv, 60, [.int .u64 0]⟩]) w [[⟨bm, 3, [.int .i64 m]⟩], [⟨bv, 60, [.int .u64 0]⟩]] := (Mem.start hr).keep (by simp)
 refine calls_vc mixed Tryz.func131 rfl C131 (by simp [Tryz.ntmps131]) <| seq fun _ h1 => mv <| mv <| h1 _ _ <| seq fun _ h2 => seq fun _ h3 => m_ld (v := .int .i64 m) hM0 (i := 0) (j := 0) rfl rfl rfl rfl <| bn rfl rfl <| mv <| splitP rfl (fun c4 => ?_) (fun c4 => ?_)
 ·refine gxl rfl <| gx rfl <| pkT rfl <| mv <| h3 _ _ <| cndT rfl <| seq fun _ h5 => mv <| mv <| h5 _ _ <| ⟨(.tuple [.int .i64 0, .int .i64 23].toArray), rfl, ?_⟩
  first | omega | exact ⟨by (rw [(fix_arg (l := l) (n := m) (by omega)).1, fixN_0 (by rw [(fix_arg (l := l) (n := m) (by omega)).1]; decide)] <;> rfl), _, by (rw [(fix_arg (l := l) (n := m) (by omega)).2] <;> rfl), hM0.keep (by simp)⟩ | exact ⟨by (rw [(fix_short (l := l) (n := m) (by omega) (by omega)).1, fixN_0 (by rw [(fix_short (l := l) (n := m) (by omega) (by omega)).1]; decide)] <;> rfl), _, by (rw [(fix_short (l := l) (n := m) (by omega) (by omega)).2] <;> rfl), hM0.keep (by simp)⟩ | exact ⟨by rw [fixN_n (fix_fine (l := l) (n := m) (by omega) (by omega)).1, (fix_fine (l := l) (n := m) (by omega) (by omega)).1], _, by rw [(fix_fine (l := l) (n := m) (by omega) (by omega)).2], hM0.keep (by simp)⟩
 refine gyesl rfl <| m_ld (v := .int .i64 m) hM0 (i := 0) (j := 0) rfl rfl rfl rfl <| gbn rfl rfl rfl <| pkF rfl <| mv <| h3 _ _ <| cndP rfl (fun c6 => ?_) (fun c6 => ?_)
 ·refine seq fun _ h7 => mv <| mv <| h7 _ _ <| ⟨(.tuple [.int .i64 0, .int .i64 23].toArray), rfl, ?_⟩
  first | omega | exact ⟨by (rw [(fix_arg (l := l) (n := m) (by omega)).1, fixN_0 (by rw [(fix_arg (l := l) (n := m) (by omega)).1]; decide)] <;> rfl), _, by (rw [(fix_arg (l := l) (n := m) (by omega)).2] <;> rfl), hM0.keep (by simp)⟩ | exact ⟨by (rw [(fix_short (l := l) (n := m) (by omega) (by omega)).1, fixN_0 (by rw [(fix_short (l := l) (n := m) (by omega) (by omega)).1]; decide)] <;> rfl), _, by (rw [(fix_short (l := l) (n := m) (by omega) (by omega)).2] <;> rfl), hM0.keep (by simp)⟩ | exact ⟨by rw [fixN_n (fix_fine (l := l) (n := m) (by omega) (by omega)).1, (fix_fine (l := l) (n := m) (by omega) (by omega)).1], _, by rw [(fix_fine (l := l) (n := m) (by omega) (by omega)).2], hM0.keep (by simp)⟩
 refine seq fun _ h8 => m_ld (v := .int .i64 m) hM0 (i := 0) (j := 0) rfl rfl rfl rfl <| mv <| stp (v := .int .i64 (l.length : Nat)) (o_lenR (hu) rfl rfl) <| bn rfl rfl <| mv <| h8 _ _ <| cndP rfl (fun c9 => ?_) (fun c9 => ?_)
 ·refine seq fun _ h10 => mv <| mv <| h10 _ _ <| ⟨(.tuple [.int .i64 0, .int .i64 20].toArray), rfl, ?_⟩
  first | omega | exact ⟨by (rw [(fix_arg (l := l) (n := m) (by omega)).1, fixN_0 (by rw [(fix_arg (l := l) (n := m) (by omega)).1]; decide)] <;> rfl), _, by (rw [(fix_arg (l := l) (n := m) (by omega)).2] <;> rfl), hM0.keep (by simp)⟩ | exact ⟨by (rw [(fix_short (l := l) (n := m) (by omega) (by omega)).1, fixN_0 (by rw [(fix_short (l := l) (n := m) (by omega) (by omega)).1]; decide)] <;> rfl), _, by (rw [(fix_short (l := l) (n := m) (by omega) (by omega)).2] <;> rfl), hM0.keep (by simp)⟩ | exact ⟨by rw [fixN_n (fix_fine (l := l) (n := m) (by omega) (by omega)).1, (fix_fine (l := l) (n := m) (by omega) (by omega)).1], _, by rw [(fix_fine (l := l) (n := m) (by omega) (by omega)).2], hM0.keep (by simp)⟩
 refine h2 _ _ <| seq fun _ h11 => mv <| m_ld (v := .int .i64 m) hM0 (i := 0) (j := 0) rfl rfl rfl rfl <| m_slcE 0 m.toNat (hu) rfl (by omega) (by omega) ⟨_, v_int (by omega)⟩ rfl fun u12 hu12 => m_call (Word_ok _ ((l.take m.toNat).drop 0) w (hu12) (by first | omega | (simp; done) | (simp; omega))) rfl fun v13 w13 ⟨hr13, hu13⟩ => ?_
 have hM13 : Mem _ _ w13 [_, _] := hM0.pure hu13
 subst hr13
 refine m_st (v := .int .u64 (word ((l.take m.toNat).drop 0) : Nat)) hM13 (i := 1) rfl rfl rfl rfl (by simp) fun w14 (hM14 : Mem _ _ w14 [_, [⟨bv, 60, [.int .u64 (word ((l.take m.toNat).drop 0) : Nat)]⟩]]) => h11 _ _ <| seq fun _ h15 => m_ld (v := .int .i64 m) hM14 (i := 0) (j := 0) rfl rfl rfl rfl <| mv <| mv <| h15 _ _ <| ⟨(.tuple [.int .i64 m, .int .i64 0].toArray), rfl, ?_⟩
 first | omega | exact ⟨by (rw [(fix_arg (l := l) (n := m) (by omega)).1, fixN_0 (by rw [(fix_arg (l := l) (n := m) (by omega)).1]; decide)] <;> rfl), _, by (rw [(fix_arg (l := l) (n := m) (by omega)).2] <;> rfl), hM14.keep (by simp)⟩ | exact ⟨by (rw [(fix_short (l := l) (n := m) (by omega) (by omega)).1, fixN_0 (by rw [(fix_short (l := l) (n := m) (by omega) (by omega)).1]; decide)] <;> rfl), _, by (rw [(fix_short (l := l) (n := m) (by omega) (by omega)).2] <;> rfl), hM14.keep (by simp)⟩ | exact ⟨by rw [fixN_n (fix_fine (l := l) (n := m) (by omega) (by omega)).1, (fix_fine (l := l) (n := m) (by omega) (by omega)).1], _, by rw [(fix_fine (l := l) (n := m) (by omega) (by omega)).2], hM14.keep (by simp)⟩
theorem cFixed_ok (bc : Nat) (b : List UInt8) (a : Nat) (e m : Int) (r0 : List Ent) (w : World) (hc : CurS bc b a e r0) (hr : Res w r0) (hl : b.length ≤ 140737488355328) : Calls Tryz.prog 118 [.pointer (some ⟨bc, 0, none⟩), .int .i64 m].toArray w (Rt fun r w' => r = .int .u64 ((cFix b a e m : Nat) : Int) ∧ ∃ r', CurS bc b (cFixA b a e m) (cFixE b a e m) r' ∧ Mem w (ids r0) w' [r']) := by
 have hM0 : Mem w (ids r0) w [r0] := Mem.start hr
 refine calls_vc mixed Tryz.func118 rfl C118 (by simp [Tryz.ntmps118]) <| seq fun _ h1 => m_bx (v := .int .i64 m) hM0 rfl rfl fun b2 w3 (hM3 : Mem _ _ w3 [_, [⟨b2, 3, [.int .i64 m]⟩]]) => mv <| h1 _ _ <| seq fun _ h4 => m_al hM3 fun b5 w6 (hM6 : Mem _ _ w6 [_, _, [⟨b5, 60, [.int .u64 0]⟩]]) => h4 _ _ <| seq fun _ h7 => mv <| stp (v := .func (.func 131) [].toArray [.pointer (some ⟨b2, 0, none⟩), .pointer (some ⟨b5, 0, none⟩)].toArray) (o_mkf rfl) <| m_call (reads_ok bc b a e r0 [⟨b2, 3, [.int .i64 m]⟩, ⟨b5, 60, [.int .u64 0]⟩] 131 _ (fixN (b.drop a) m) (fixE (b.drop a) m) (fun rv => rv = [⟨b2, 3, [.int .i64 m]⟩, ⟨b5, 60, [.int .u64 ((fixV (b.drop a) m : Nat) : Int)]⟩]) w6 hc (Mem.res2 ((hM6.keep (by simp) : Mem w (ids r0) w6 [r0, [⟨b2, 3, [.int .i64 m]⟩, ⟨b5, 60, [.int .u64 0]⟩]])) 0 1 rfl rfl (by decide)) hl (by kernel_rfl) (by intro h; have := hc.le; have := fixN_le h; simp only [List.length_drop] at this; omega) (fun wc u hx hr => fix1_ok b2 b5 m u _ wc hx hr (by simp; omega))) rfl fun v8 w8 ⟨r8, rv8, hc8, ht8, hm8⟩ => ?_
 obtain rfl : rv8 = [⟨b2, 3, [.int .i64 m]⟩, ⟨b5, 60, [.int .u64 (cFix b a e m : Nat)]⟩] := by
  by_cases c : e = 0
  ·rw [if_pos c] at ht8; rw [ht8, cFix, if_pos c]
  rw [if_neg c] at ht8; (rw [ht8, cFix, if_neg c] <;> rfl)
 have hM8 : Mem w (ids r0) w8 [r8, [⟨b2, 3, [.int .i64 m]⟩], [⟨b5, 60, [.int .u64 (cFix b a e m : Nat)]⟩]] := (Mem.step2 (hM6.keep (by simp) : Mem w (ids r0) w6 [r0, [⟨b2, 3, [.int .i64 m]⟩, ⟨b5, 60, [.int .u64 0]⟩]]) 0 1 rfl rfl (by decide) hm8).keep (by simp)
 have hcn := hc8
 refine h7 _ _ <| seq fun _ h9 => m_ld (v := .int .u64 (cFix b a e m : Nat)) hM8 (i := 2) (j := 0) rfl rfl rfl rfl <| mv <| h9 _ _ <| ⟨(.int .u64 (cFix b a e m : Nat)), rfl, ⟨rfl, _, hcn, hM8.keep (by simp)⟩⟩
theorem tk_arg {l : List UInt8} {n : Int} (h : n < 0) : tkE l n = 23 ∧ tkV l n = [] := by
 have : tkE l n = 23 := by unfold tkE; rw [if_pos h]
 exact ⟨this, by unfold tkV; rw [if_neg (by omega)]⟩
theorem tk_short {l : List UInt8} {n : Int} (h : ¬ n < 0) (h2 : (l.length : Int) < n) : tkE l n = 20 ∧ tkV l n = [] := by
 have : tkE l n = 20 := by unfold tkE; rw [if_neg h, if_pos h2]
 exact ⟨this, by unfold tkV; rw [if_neg (by omega)]⟩
theorem tk_fine {l : List UInt8} {n : Int} (h : ¬ n < 0) (h2 : ¬ (l.length : Int) < n) : tkE l n = 0 ∧ tkV l n = l.take n.toNat := by
 have : tkE l n = 0 := by unfold tkE; rw [if_neg h, if_neg h2]
 exact ⟨this, by unfold tkV; rw [if_pos this]⟩
def tkN (l : List UInt8) (n : Int) : Nat := if tkE l n = 0 then n.toNat else 0
def cTk (b : List UInt8) (a : Nat) (e n : Int) : List UInt8 := if e = 0 then tkV (b.drop a) n else []
def cTkA (b : List UInt8) (a : Nat) (e n : Int) : Nat := if e = 0 ∧ tkE (b.drop a) n = 0 then a + tkN (b.drop a) n else a
def cTkE (b : List UInt8) (a : Nat) (e n : Int) : Int := if e = 0 then tkE (b.drop a) n else e
theorem tkN_le {l : List UInt8} {n : Int} (h : tkE l n = 0) : tkN l n ≤ l.length := by
 unfold tkN; rw [if_pos h]; unfold tkE at h; split at h
 ·omega
 split at h <;> omega
theorem tkN_0 {l : List UInt8} {n : Int} (h : ¬ tkE l n = 0) : tkN l n = 0 := by unfold tkN; rw [if_neg h]
theorem tkN_n {l : List UInt8} {n : Int} (h : tkE l n = 0) : ((tkN l n : Nat) : Int) = n := by
 unfold tkN; rw [if_pos h]; unfold tkE at h; split at h <;> omega
theorem tk1_ok (bm bv : Nat) (m : Int) (u : Value) (l : List UInt8) (w : World) (hu : RdE byteV w u l) (hr : Res w [⟨bm, 3, [.int .i64 m]⟩, ⟨bv, 31, [.slice none 0 0]⟩]) (hl : l.length ≤ 140737488355328) : Calls Tryz.prog 120 [u, .pointer (some ⟨bm, 0, none⟩), .pointer (some ⟨bv, 0, none⟩)].toArray w (Rt fun r w' => r = .tuple #[.int .i64 ((tkN l m : Nat) : Int), .int .i64 (tkE l m)] ∧ ∃ rv', (∃ vs rs, rv' = ⟨bm, 3, [.int .i64 m]⟩ :: ⟨bv, 31, [vs]⟩ :: rs ∧ SlE byteV 5 vs (tkV l m) rs) ∧ Mem w (ids [⟨bm, 3, [.int .i64 m]⟩, ⟨bv, 31, [.slice none 0 0]⟩]) w' [rv']) := by
 have hM0 : Mem w (ids [⟨bm, 3, [.int .i64 m]⟩, ⟨bv, 31, [.slice none 0 0]⟩]) w [[⟨bm, 3, [.int .i64 m]⟩], [⟨bv, 31, [.slice none 0 0]⟩]] := (Mem.start hr).keep (by simp)
 refine calls_vc mixed Tryz.func120 rfl C120 (by simp [Tryz.ntmps120]) <| seq fun _ h1 => mv <| mv <| h1 _ _ <| seq fun _ h2 => seq fun _ h3 => m_ld (v := .int .i64 m) hM0 (i := 0) (j := 0) rfl rfl rfl rfl <| bn rfl rfl <| mv <| h3 _ _ <| cndP rfl (fun c4 => ?_) (fun c4 => ?_)
 ·refine seq fun _ h5 => mv <| mv <| h5 _ _ <| ⟨(.tuple [.int .i64 0, .int .i64 23].toArray), rfl, ⟨by (rw [(tk_arg (l := l) (n := m) (by omega)).1, tkN_0 (by rw [(tk_arg (l := l) (n := m) (by omega)).1]; decide)] <;> rfl), _, ⟨_, [], rfl, by rw [(tk_arg (l := l) (n := m) (by omega)).2]; exact Sl.nil 1 5⟩, hM0.keep (by simp)⟩⟩
 refine seq fun _ h6 => m_ld (v := .int .i64 m) hM0 (i := 0) (j := 0) rfl rfl rfl rfl <| mv <| stp (v := .int .i64 (l.length : Nat)) (o_lenR (hu) rfl rfl) <| bn rfl rfl <| mv <| h6 _ _ <| cndP rfl (fun c7 => ?_) (fun c7 => ?_)
 ·refine seq fun _ h8 => mv <| mv <| h8 _ _ <| ⟨(.tuple [.int .i64 0, .int .i64 20].toArray), rfl, ⟨by (rw [(tk_short (l := l) (n := m) (by omega) (by omega)).1, tkN_0 (by rw [(tk_short (l := l) (n := m) (by omega) (by omega)).1]; decide)] <;> rfl), _, ⟨_, [], rfl, by rw [(tk_short (l := l) (n := m) (by omega) (by omega)).2]; exact Sl.nil 1 5⟩, hM0.keep (by simp)⟩⟩
 refine h2 _ _ <| seq fun _ h9 => ?_
 intro wd e1 e2 e3 e4
 have hd := Upd.same e1 e2 e3 e4 []
 have hM10 := hM0.pure hd
 clear e1 e2 e3 e4
 refine ⟨(some [bm]), ?_⟩
 show vd _ _ _ _ _ _ _
 refine dmv <| dqld rfl (by simp [isHeld]) (v := .int .i64 m) ((hM10.at (i := 0) (j := 0) rfl rfl).cell 0) <| dqp (m_slcE 0 m.toNat (hu.upd (hd)) rfl (by omega) (by omega) ⟨_, v_int (by omega)⟩ rfl fun u11 hu11 => ?_)
 show vd _ _ _ _ _ _ _
 refine dl (m_ld (v := .slice none 0 0) hM10 (i := 1) (j := 0) rfl rfl rfl rfl <| ⟨(fun b hb => rfl), ?_⟩)
 have hM12 : Mem w (ids [⟨bm, 3, [.int .i64 m]⟩, ⟨bv, 31, [.slice none 0 0]⟩]) wd [[⟨bm, 3, [.int .i64 m]⟩], [⟨bv, 31, [.slice none 0 0]⟩], []] := hM10.addNil
 have hs12 : SlE byteV 5 (.slice none 0 0) [] [] := Sl.nil 1 5
 refine dl (m_appEU hM12 (i := 2) rfl hs12 rfl rfl (hu11.upd ((Upd.refl [] _))) (by first | omega | (simp; omega)) (by omega) fun v13 w13 r13 (hs13 : SlE byteV 5 v13 ((l.take m.toNat).drop 0) r13) hup13 (hM13 : Mem _ _ w13 [_, _, r13]) => ?_)
 have hh13 := held_upd (wr := wd) (bs := [bm]) hup13 (fun b hb => by
  simp only [List.mem_cons, List.not_mem_nil, or_false] at hb
  rw [hb]; exact ⟨(hM12.at (i := 0) (j := 0) rfl rfl).lt, hM12.apart (i := 0) (j := 0) (k := 2) rfl rfl rfl (by decide)⟩) (fun b hb => rfl)
 refine ⟨hh13, dl (m_stU (v := v13) hM13 (i := 1) rfl rfl rfl (Sl.one hs13) (by simp) fun w14 hup14 (hM14 : Mem _ _ w14 [_, [⟨bv, 31, [v13]⟩], _]) => ?_)⟩
 have hh14 := held_upd (wr := wd) (bs := [bm]) hup14 (fun b hb => by
  simp only [List.mem_cons, List.not_mem_nil, or_false] at hb
  rw [hb]; exact ⟨(hM13.at (i := 0) (j := 0) rfl rfl).lt, hM13.apart (i := 0) (j := 0) (k := 1) rfl rfl rfl (by decide)⟩) hh13
 refine ⟨hh14, h9 _ _ <| seq fun _ h15 => m_ld (v := .int .i64 m) hM14 (i := 0) (j := 0) rfl rfl rfl rfl <| mv <| mv <| h15 _ _ <| ⟨(.tuple [.int .i64 m, .int .i64 0].toArray), rfl, ⟨by rw [tkN_n (tk_fine (l := l) (n := m) (by omega) (by omega)).1, (tk_fine (l := l) (n := m) (by omega) (by omega)).1], _, ⟨_, _, rfl, by rw [(tk_fine (l := l) (n := m) (by omega) (by omega)).2]; exact hs13⟩, hM14.keep (by simp)⟩⟩⟩
theorem Take_ok (bc : Nat) (b : List UInt8) (a : Nat) (e m : Int) (r0 : List Ent) (w : World) (hc : CurS bc b a e r0) (hr : Res w r0) (hl : b.length ≤ 140737488355328) : Calls Tryz.prog 92 [.pointer (some ⟨bc, 0, none⟩), .int .i64 m].toArray w (Rt fun r w' => ∃ r' rs, CurS bc b (cTkA b a e m) (cTkE b a e m) r' ∧ SlE byteV 5 r (cTk b a e m) rs ∧ Mem w (ids r0) w' [r', rs]) := by
 have hM0 : Mem w (ids r0) w [r0] := Mem.start hr
 refine calls_vc mixed Tryz.func92 rfl C92 (by simp [Tryz.ntmps92]) <| seq fun _ h1 => m_bx (v := .int .i64 m) hM0 rfl rfl fun b2 w3 (hM3 : Mem _ _ w3 [_, [⟨b2, 3, [.int .i64 m]⟩]]) => mv <| h1 _ _ <| seq fun _ h4 => m_al hM3 fun b5 w6 (hM6 : Mem _ _ w6 [_, _, [⟨b5, 31, [.slice none 0 0]⟩]]) => h4 _ _ <| seq fun _ h7 => mv <| stp (v := .func (.func 120) [].toArray [.pointer (some ⟨b2, 0, none⟩), .pointer (some ⟨b5, 0, none⟩)].toArray) (o_mkf rfl) <| m_call (reads_ok bc b a e r0 [⟨b2, 3, [.int .i64 m]⟩, ⟨b5, 31, [.slice none 0 0]⟩] 120 _ (tkN (b.drop a) m) (tkE (b.drop a) m) (fun rv => ∃ vs rs, rv = ⟨b2, 3, [.int .i64 m]⟩ :: ⟨b5, 31, [vs]⟩ :: rs ∧ SlE byteV 5 vs (tkV (b.drop a) m) rs) w6 hc (Mem.res2 ((hM6.keep (by simp) : Mem w (ids r0) w6 [r0, [⟨b2, 3, [.int .i64 m]⟩, ⟨b5, 31, [.slice none 0 0]⟩]])) 0 1 rfl rfl (by decide)) hl (by kernel_rfl) (by intro h; have := hc.le; have := tkN_le h; simp only [List.length_drop] at this; omega) (fun wc u hx hr => tk1_ok b2 b5 m u _ wc hx hr (by simp; omega))) rfl fun v8 w8 ⟨r8, rv8, hc8, ht8, hm8⟩ => ?_
 obtain ⟨vs8, rs8, rfl, hs8⟩ : ∃ vs rs, rv8 = ⟨b2, 3, [.int .i64 m]⟩ :: ⟨b5, 31, [vs]⟩ :: rs ∧ SlE byteV 5 vs (cTk b a e m) rs := by
  by_cases c : e = 0
  ·rw [if_pos c] at ht8; obtain ⟨vs, rs, h1, h2⟩ := ht8; exact ⟨vs, rs, h1, by unfold cTk; rw [if_pos c]; exact h2⟩
  rw [if_neg c] at ht8; exact ⟨_, [], ht8, by unfold cTk; rw [if_neg c]; exact Sl.nil 1 5⟩
 have hM8 : Mem w (ids r0) w8 [r8, [⟨b2, 3, [.int .i64 m]⟩], [⟨b5, 31, [vs8]⟩], rs8] := (Mem.step2 (hM6.keep (by simp) : Mem w (ids r0) w6 [r0, [⟨b2, 3, [.int .i64 m]⟩, ⟨b5, 31, [.slice none 0 0]⟩]]) 0 1 rfl rfl (by decide) hm8).keep (by simp)
 have hcn := hc8
 have hsn := hs8
 refine h7 _ _ <| seq fun _ h9 => m_ld (v := vs8) hM8 (i := 2) (j := 0) rfl rfl rfl rfl <| mv <| h9 _ _ <| ⟨vs8, rfl, ⟨_, _, hcn, hsn, ((hM8.drop 1).drop 2).keep (by simp)⟩⟩
def endE (b : List UInt8) (a : Nat) (e : Int) : Int := if ¬ e = 0 then e else if a < b.length then 22 else 0
def endA (b : List UInt8) (a : Nat) (e : Int) : Nat := if ¬ e = 0 then a else if a < b.length then a else 0
set_option maxRecDepth 100000 in
theorem End_ok (bc : Nat) (b : List UInt8) (a : Nat) (e : Int) (r0 : List Ent) (w : World) (hc : CurS bc b a e r0) (hr : Res w r0) : Calls Tryz.prog 71 [.pointer (some ⟨bc, 0, none⟩)].toArray w (Rt fun r w' => r = .agg #[.int .i64 (endE b a e), .int .i64 ((endA b a e : Nat) : Int)] ∧ Mem w (ids r0) w' [r0]) := by
 obtain ⟨vb, rb, rfl, hb, ha⟩ := hc
 have hM0 : Mem w (ids (⟨bc, 150, [vb, .int .i64 (a : Nat), .int .i64 e]⟩ :: rb)) w [[⟨bc, 150, [vb, .int .i64 (a : Nat), .int .i64 e]⟩], rb] := (Mem.start hr).keep (by simp)
 refine calls_vc mixed Tryz.func71 rfl C71 (by simp [Tryz.ntmps71]) <| seq fun _ h1 => m_al hM0 fun b2 w3 (hM3 : Mem _ _ w3 [_, _, [⟨b2, 111, [.int .i64 0, .int .i64 0]⟩]]) => h1 _ _ <| seq fun _ h4 => seq fun _ h5 => mv <| stp (v := .bool false) (o_isnil rfl rfl) <| mv <| h5 _ _ <| cndF rfl <| seq fun _ h6 => mv <| nilchk rfl ?_
 refine fa rfl <| m_ld (v := .int .i64 e) hM3 (i := 0) (j := 0) rfl rfl rfl rfl <| bneq rfl rfl <| mv <| h6 _ _ <| cndP rfl (fun c7 => ?_) (fun c7 => ?_)
 ·refine seq fun _ h8 => ?_
  intro wd e1 e2 e3 e4
  have hd := Upd.same e1 e2 e3 e4 []
  have hM9 := hM3.pure hd
  clear e1 e2 e3 e4
  refine ⟨(some [bc]), ?_⟩
  show vd _ _ _ _ _ _ _
  refine dmv <| dq (v := .pointer (some ⟨bc, 0, none⟩)) (o_nilchk rfl rfl) <| dfa rfl <| dmv <| dq (v := .pointer (some ⟨bc, 0, none⟩)) (o_nilchk rfl rfl) <| dfa rfl <| dqld rfl (by simp [isHeld]) (v := .int .i64 (a : Nat)) ((hM9.at (i := 0) (j := 0) rfl rfl).cell 1) <| dl (m_ld (v := .int .i64 e) hM9 (i := 0) (j := 0) rfl rfl rfl rfl <| ⟨(fun b hb => rfl), dq (v := .agg ([.int .i64 e, .int .i64 (a : Nat)] : List Value).toArray) (o_bld rfl rfl) <| dl (m_stAU (l := [.int .i64 e, .int .i64 (a : Nat)]) hM9 (i := 2) rfl rfl rfl rfl (by simp [oneCells, Value.oneCell', byteV]) (by simp) fun w10 hup10 (hM10 : Mem w (ids (⟨bc, 150, [vb, .int .i64 (a : Nat), .int .i64 e]⟩ :: rb)) w10 [[⟨bc, 150, [vb, .int .i64 (a : Nat), .int .i64 e]⟩], rb, [⟨b2, 111, [.int .i64 e, .int .i64 (a : Nat)]⟩]]) => ?_)⟩)
  have hh10 := held_upd (wr := wd) (bs := [bc]) hup10 (fun b hb => by
   simp only [List.mem_cons, List.not_mem_nil, or_false] at hb
   rw [hb]; exact ⟨(hM9.at (i := 0) (j := 0) rfl rfl).lt, hM9.apart (i := 0) (j := 0) (k := 2) rfl rfl rfl (by decide)⟩) (fun b hb => rfl)
  refine ⟨hh10, h8 _ _ ?_⟩
  show resV _ _ _ _ _
  refine res_cell (s := some 2) (by kernel_rfl) <| vl_ldA (cs := [.int .i64 e, .int .i64 (a : Nat)]) rfl rfl ((hM10.at (i := 2) (j := 0) rfl rfl).agg rfl rfl) <| ⟨(.agg ([.int .i64 e, .int .i64 (a : Nat)] : List Value).toArray), rfl, ?_⟩
  first | exact ⟨by unfold endE endA; rw [if_pos (by omega), if_pos (by omega)], hM10.keep (by simp)⟩ | exact ⟨by unfold endE endA; rw [if_neg (by omega), if_pos (by omega), if_neg (by omega), if_pos (by omega)], hM10.keep (by simp)⟩ | exact ⟨by unfold endE endA; (rw [if_neg (by omega), if_neg (by omega), if_neg (by omega), if_neg (by omega)] <;> rfl), hM10.keep (by simp)⟩
 refine seq fun _ h11 => ?_
 intro wd e1 e2 e3 e4
 have hd := Upd.same e1 e2 e3 e4 []
 have hM12 := hM3.pure hd
 clear e1 e2 e3 e4
 refine ⟨none, ?_⟩
 show vd _ _ _ _ _ _ _
 refine dmv <| dq (v := .pointer (some ⟨bc, 0, none⟩)) (o_nilchk rfl rfl) <| dfa rfl <| dmv <| dq (v := .pointer (some ⟨bc, 0, none⟩)) (o_nilchk rfl rfl) <| dfa rfl <| dqld rfl (trivial) (v := vb) ((hM12.at (i := 0) (j := 0) rfl rfl).cell 0) <| dq (v := .int .i64 (b.length : Nat)) (o_lenR (hb.rd hM12 (i := 1) rfl) rfl rfl) <| dl (m_ld (v := .int .i64 (a : Nat)) hM12 (i := 0) (j := 0) rfl rfl rfl rfl <| ⟨rfl, dbn rfl rfl <| dmv <| h11 _ _ <| cndP rfl (fun c13 => ?_) (fun c13 => ?_)⟩)
 ·refine seq fun _ h14 => mv <| nilchk rfl <| fa rfl <| m_ld (v := .int .i64 (a : Nat)) hM12 (i := 0) (j := 0) rfl rfl rfl rfl <| stp (v := .agg ([.int .i64 22, .int .i64 (a : Nat)] : List Value).toArray) (o_bld rfl rfl) <| m_stA (l := [.int .i64 22, .int .i64 (a : Nat)]) hM12 (i := 2) rfl rfl rfl rfl (by simp [oneCells, Value.oneCell', byteV]) (by simp) fun w15 (hM15 : Mem w (ids (⟨bc, 150, [vb, .int .i64 (a : Nat), .int .i64 e]⟩ :: rb)) w15 [[⟨bc, 150, [vb, .int .i64 (a : Nat), .int .i64 e]⟩], rb, [⟨b2, 111, [.int .i64 22, .int .i64 (a : Nat)]⟩]]) => h14 _ _ ?_
  show resV _ _ _ _ _
  refine res_cell (s := some 2) (by kernel_rfl) <| vl_ldA (cs := [.int .i64 22, .int .i64 (a : Nat)]) rfl rfl ((hM15.at (i := 2) (j := 0) rfl rfl).agg rfl rfl) <| ⟨(.agg ([.int .i64 22, .int .i64 (a : Nat)] : List Value).toArray), rfl, ?_⟩
  first | exact ⟨by unfold endE endA; rw [if_pos (by omega), if_pos (by omega)], hM15.keep (by simp)⟩ | exact ⟨by unfold endE endA; rw [if_neg (by omega), if_pos (by omega), if_neg (by omega), if_pos (by omega)], hM15.keep (by simp)⟩ | exact ⟨by unfold endE endA; (rw [if_neg (by omega), if_neg (by omega), if_neg (by omega), if_neg (by omega)] <;> rfl), hM15.keep (by simp)⟩
 refine h4 _ _ <| seq fun _ h16 => stp (v := .agg ([.int .i64 0, .int .i64 0] : List Value).toArray) (o_bld rfl rfl) <| m_stA (l := [.int .i64 0, .int .i64 0]) hM12 (i := 2) rfl rfl rfl rfl (by simp [oneCells, Value.oneCell', byteV]) (by simp) fun w17 (hM17 : Mem w (ids (⟨bc, 150, [vb, .int .i64 (a : Nat), .int .i64 e]⟩ :: rb)) w17 [[⟨bc, 150, [vb, .int .i64 (a : Nat), .int .i64 e]⟩], rb, [⟨b2, 111, [.int .i64 0, .int .i64 0]⟩]]) => h16 _ _ ?_
 show resV _ _ _ _ _
 refine res_cell (s := some 2) (by kernel_rfl) <| vl_ldA (cs := [.int .i64 0, .int .i64 0]) rfl rfl ((hM17.at (i := 2) (j := 0) rfl rfl).agg rfl rfl) <| ⟨(.agg ([.int .i64 0, .int .i64 0] : List Value).toArray), rfl, ?_⟩
 first | exact ⟨by unfold endE endA; rw [if_pos (by omega), if_pos (by omega)], hM17.keep (by simp)⟩ | exact ⟨by unfold endE endA; rw [if_neg (by omega), if_pos (by omega), if_neg (by omega), if_pos (by omega)], hM17.keep (by simp)⟩ | exact ⟨by unfold endE endA; (rw [if_neg (by omega), if_neg (by omega), if_neg (by omega), if_neg (by omega)] <;> rfl), hM17.keep (by simp)⟩
def restV (b : List UInt8) (a : Nat) (e : Int) : Int := if e = 0 then ((b.length - a : Nat) : Int) else 0
theorem Rest_ok (bc : Nat) (b : List UInt8) (a : Nat) (e : Int) (r0 : List Ent) (w : World) (hc : CurS bc b a e r0) (hr : Res w r0) (hl : b.length ≤ 140737488355328) : Calls Tryz.prog 69 [.pointer (some ⟨bc, 0, none⟩)].toArray w (Rt fun r w' => r = .int .i64 (restV b a e) ∧ Mem w (ids r0) w' [r0]) := by
 obtain ⟨vb, rb, rfl, hb, ha⟩ := hc
 have hM0 : Mem w (ids (⟨bc, 150, [vb, .int .i64 (a : Nat), .int .i64 e]⟩ :: rb)) w [[⟨bc, 150, [vb, .int .i64 (a : Nat), .int .i64 e]⟩], rb] := (Mem.start hr).keep (by simp)
 refine calls_vc mixed Tryz.func69 rfl C69 (by simp [Tryz.ntmps69]) <| seq fun _ h1 => mv <| h1 _ _ <| seq fun _ h2 => seq fun _ h3 => mv <| stp (v := .bool false) (o_isnil rfl rfl) <| mv <| splitF rfl <| gmv rfl <| stg rfl (v := .pointer (some ⟨bc, 0, none⟩)) (o_nilchk rfl rfl) <| gfa rfl rfl <| gyesl rfl ?_
 refine m_ld (v := .int .i64 e) hM0 (i := 0) (j := 0) rfl rfl rfl rfl <| gbneq rfl rfl rfl <| pkF rfl <| h3 _ _ <| cndP rfl (fun c4 => ?_) (fun c4 => ?_)
 ·refine seq fun _ h5 => mv <| h5 _ _ <| ⟨(.int .i64 0), rfl, ⟨by unfold restV; (rw [if_neg (by omega)] <;> rfl), hM0.keep (by simp)⟩⟩
 refine h2 _ _ <| seq fun _ h6 => ?_
 intro wd e1 e2 e3 e4
 have hd := Upd.same e1 e2 e3 e4 []
 have hM7 := hM0.pure hd
 clear e1 e2 e3 e4
 refine ⟨none, ?_⟩
 show vd _ _ _ _ _ _ _
 refine dmv <| dq (v := .pointer (some ⟨bc, 0, none⟩)) (o_nilchk rfl rfl) <| dfa rfl <| dmv <| dq (v := .pointer (some ⟨bc, 0, none⟩)) (o_nilchk rfl rfl) <| dfa rfl <| dqld rfl (trivial) (v := .int .i64 (a : Nat)) ((hM7.at (i := 0) (j := 0) rfl rfl).cell 1) <| dl (m_ld (v := vb) hM7 (i := 0) (j := 0) rfl rfl rfl rfl <| ⟨rfl, dq (v := .int .i64 (b.length : Nat)) (o_lenR (hb.rd hM7 (i := 1) rfl) rfl rfl) <| dq (v := .int .i64 ((b.length : Nat) - (a : Nat))) (o_bin rfl rfl (v_sub64 (by omega))) <| dmv <| h6 _ _ <| ⟨(.int .i64 ((b.length : Nat) - (a : Nat))), rfl, ⟨by unfold restV; rw [if_pos (by omega)]; exact v_int (by omega), hM7.keep (by simp)⟩⟩⟩)
end Go.Proofs.YtifnmbmijljhfaaGreat.E
namespace Go.Proofs.YtifnmbmijljhfaaGreat.E.Lz
open Go
structure Tk where
 ad : Option Addr
 ln : Nat
 cp : Nat
 bs : List UInt8
 d : Int
 n : Int
abbrev Tk.lit (t : Tk) : Value := .slice t.ad t.ln t.cp
def tokC (t : Tk) : List Value := [.slice t.ad t.ln t.cp, .int .i64 t.d, .int .i64 t.n]
instance : Enc tokC 3 := ⟨fun _ => rfl, by omega, fun c => by intro v hv; simp only [tokC, List.mem_cons, List.not_mem_nil, or_false] at hv; rcases hv with rfl | rfl | rfl <;> rfl⟩
def tz : Tk := ⟨none, 0, 0, [], 0, 0⟩
abbrev Pk := List UInt8 × Int × Int
abbrev Tk.p (t : Tk) : Pk := (t.bs, t.d, t.n)
def Tk.ok (w : World) (t : Tk) : Prop := RdE byteV w t.lit t.bs ∧ inK .i64 t.d ∧ inK .i64 t.n ∧ t.bs.length ≤ 140737488351232
def agn (text : List UInt8) (d : Nat) : Nat → List UInt8
 | 0 => text
 | k + 1 => agn text d k ++ [(agn text d k).getD ((agn text d k).length - d) 0]
theorem agn_len (text : List UInt8) (d : Nat) : ∀ k, (agn text d k).length = text.length + k
 | 0 => rfl
 | k + 1 => by rw [agn, List.length_append, agn_len text d k]; rfl
def noneT (t : Pk) : Prop := t.2.1 = 0 ∧ t.2.2 = 0
instance (t : Pk) : Decidable (noneT t) := by unfold noneT; infer_instance
def okT (t : Pk) (m : Int) (last : Bool) : Prop := if noneT t then last = true ∧ 0 < t.1.length else 4 ≤ t.2.2 ∧ t.2.2 ≤ 259 ∧ 1 ≤ t.2.1 ∧ t.2.1 ≤ 32768 ∧ t.2.1 ≤ m
instance (t : Pk) (m : Int) (last : Bool) : Decidable (okT t m last) := by unfold okT; infer_instance
theorem okT_none {t : Pk} {m : Int} {last : Bool} (h : noneT t) : okT t m last ↔ last = true ∧ 0 < t.1.length := by unfold okT; rw [if_pos h]
theorem okT_some {t : Pk} {m : Int} {last : Bool} (h : ¬ noneT t) : okT t m last ↔ 4 ≤ t.2.2 ∧ t.2.2 ≤ 259 ∧ 1 ≤ t.2.1 ∧ t.2.1 ≤ 32768 ∧ t.2.1 ≤ m := by unfold okT; rw [if_neg h]
theorem okT_bd {t : Pk} {m : Int} {last : Bool} (h : okT t m last) : 0 ≤ t.2.2 ∧ t.2.2 ≤ 259 ∧ 0 ≤ t.2.1 ∧ t.2.1 ≤ 32768 ∧ (0 < t.2.2 → 1 ≤ t.2.1 ∧ t.2.1 ≤ m) ∧ (t.2.2 = 0 ↔ noneT t) ∧ (t.2.2 = 0 → 0 < t.1.length) ∧ (¬ t.2.2 = 0 → 4 ≤ t.2.2) := by
 by_cases c : noneT t
 ·rw [okT_none c] at h
  unfold noneT at c ⊢; omega
 rw [okT_some c] at h
 refine ⟨by omega, by omega, by omega, by omega, fun _ => by omega, ⟨fun h => by omega, fun h => absurd h c⟩, by omega, by omega⟩
def expG : List Pk → List UInt8 → List UInt8 × Int
 | [], text => (text, 0)
 | t :: ts, text => if ¬ okT t (text.length + t.1.length : Nat) (decide (ts = [])) then ([], 31) else if 65536 < ((text.length + t.1.length : Nat) : Int) + t.2.2 then ([], 2) else expG ts (agn (text ++ t.1) t.2.1.toNat t.2.2.toNat)
def expF (ts : List Pk) : List UInt8 × Int := expG ts []
def pz : Pk := ([], 0, 0)
theorem last_iff {α : Type} {l : List α} {i : Nat} (h : i < l.length) : (l.drop (i + 1) = []) ↔ (i : Int) = (l.length : Int) - 1 := by
 rw [List.drop_eq_nil_iff]; omega
theorem exp_tok {ts : List Pk} {i : Nat} {T : List UInt8} (h : i < ts.length) (hE : expF ts = expG (ts.drop i) T) (h1 : ¬ okT (ts.getD i pz) (T.length + (ts.getD i pz).1.length : Nat) (decide ((i : Int) = (ts.length : Int) - 1))) : expF ts = ([], 31) := by
 rw [hE, dropG pz h, expG, if_pos]
 rw [decide_eq_decide.2 (last_iff h)]; exact h1
theorem exp_long {ts : List Pk} {i : Nat} {T : List UInt8} (h : i < ts.length) (hE : expF ts = expG (ts.drop i) T) (h1 : okT (ts.getD i pz) (T.length + (ts.getD i pz).1.length : Nat) (decide ((i : Int) = (ts.length : Int) - 1))) (h2 : 65536 < ((T.length + (ts.getD i pz).1.length : Nat) : Int) + (ts.getD i pz).2.2) : expF ts = ([], 2) := by
 rw [hE, dropG pz h, expG, if_neg, if_pos h2]
 rw [decide_eq_decide.2 (last_iff h)]; exact fun h => h h1
theorem exp_go {ts : List Pk} {i : Nat} {T : List UInt8} (h : i < ts.length) (hE : expF ts = expG (ts.drop i) T) (h1 : okT (ts.getD i pz) (T.length + (ts.getD i pz).1.length : Nat) (decide ((i : Int) = (ts.length : Int) - 1))) (h2 : ¬ 65536 < ((T.length + (ts.getD i pz).1.length : Nat) : Int) + (ts.getD i pz).2.2) : expF ts = expG (ts.drop (i + 1)) (agn (T ++ (ts.getD i pz).1) (ts.getD i pz).2.1.toNat (ts.getD i pz).2.2.toNat) := by
 rw [hE, dropG pz h, expG, if_neg, if_neg h2]
 rw [decide_eq_decide.2 (last_iff h)]; exact fun h => h h1
theorem exp_end {ts : List Pk} {i : Nat} {T : List UInt8} (h : ts.length ≤ i) (hE : expF ts = expG (ts.drop i) T) : expF ts = (T, 0) := by
 rw [hE, List.drop_eq_nil_of_le h]; rfl
theorem expG_bd : ∀ (ts : List Pk) (T : List UInt8), (expG ts T).2 = 0 → (∀ t ∈ ts, 0 ≤ t.2.2 ∧ t.2.2 ≤ 259 ∧ 0 ≤ t.2.1 ∧ t.2.1 ≤ 32768 ∧ (t.2.2 = 0 ↔ noneT t)) ∧ (ts.length : Nat) + (ts.map fun t => t.1.length).sum + T.length ≤ (expG ts T).1.length + 1 * ts.length ∧ T.length + ts.length ≤ (expG ts T).1.length
 | [], T, _ => by simp [expG]
 | t :: ts, T, h => by
  rw [expG] at h ⊢
  split at h
  ·simp at h
  rename_i h1
  have h1 := Decidable.not_not.1 h1
  split at h
  ·simp at h
  rename_i h2
  have hb := okT_bd h1
  obtain ⟨k1, k2, k3⟩ := expG_bd ts _ h
  rw [if_neg (fun h => h h1), if_neg h2]
  rw [agn_len, List.length_append] at k2 k3
  refine ⟨?_, ?_, ?_⟩
  ·intro x hx
   rcases List.mem_cons.1 hx with rfl | hx
   ·exact ⟨hb.1, hb.2.1, hb.2.2.1, hb.2.2.2.1, hb.2.2.2.2.2.1⟩
   exact k1 x hx
  ·simp only [List.length_cons, List.map_cons, List.sum_cons]; omega
  simp only [List.length_cons]
  have := hb.2.2.2.2.2.2.1; have := hb.2.2.2.2.2.2.2
  omega
theorem expG_le : ∀ (ts : List Pk) (T : List UInt8), T.length ≤ 65536 → (expG ts T).1.length ≤ 65536
 | [], T, h => h
 | t :: ts, T, h => by
  rw [expG]
  split
  ·simp
  split
  ·simp
  rename_i h1 h2
  have hb := okT_bd (Decidable.not_not.1 h1)
  exact expG_le ts _ (by rw [agn_len, List.length_append]; omega)
theorem expF_le (ts : List Pk) : (expF ts).1.length ≤ 65536 := expG_le ts [] (by simp)
theorem bool_iff {p q : Prop} [Decidable p] [Decidable q] (h : p ↔ q) : Value.bool (decide p) = .bool (decide q) := by rw [decide_eq_decide.2 h]
theorem bool_no {q : Prop} [Decidable q] (h : ¬ q) : Value.bool false = .bool (decide q) := by rw [decide_eq_false h]
theorem mapG (ts : List Tk) (i : Nat) : (ts.map Tk.p).getD i pz = (ts.getD i tz).p := by
 rw [List.getD_eq_getElem?_getD, List.getD_eq_getElem?_getD, List.getElem?_map]
 cases ts[i]? <;> rfl
section
variable {ts : List Tk} {i : Nat} {T : List UInt8}
theorem exT_tok (h : i < ts.length) (hE : expF (ts.map Tk.p) = expG ((ts.map Tk.p).drop i) T) (h1 : ¬ okT (ts.getD i tz).p (T.length + (ts.getD i tz).bs.length : Nat) (decide ((i : Int) = (ts.length : Int) - 1))) : expF (ts.map Tk.p) = ([], 31) := by
 refine exp_tok (i := i) (T := T) (by simpa using h) hE ?_
 rw [mapG, List.length_map]; exact h1
theorem exT_long (h : i < ts.length) (hE : expF (ts.map Tk.p) = expG ((ts.map Tk.p).drop i) T) (h1 : okT (ts.getD i tz).p (T.length + (ts.getD i tz).bs.length : Nat) (decide ((i : Int) = (ts.length : Int) - 1))) (h2 : 65536 < ((T.length + (ts.getD i tz).bs.length : Nat) : Int) + (ts.getD i tz).n) : expF (ts.map Tk.p) = ([], 2) := by
 refine exp_long (i := i) (T := T) (by simpa using h) hE ?_ ?_
 ·rw [mapG, List.length_map]; exact h1
 rw [mapG]; exact h2
theorem exT_go (h : i < ts.length) (hE : expF (ts.map Tk.p) = expG ((ts.map Tk.p).drop i) T) (h1 : okT (ts.getD i tz).p (T.length + (ts.getD i tz).bs.length : Nat) (decide ((i : Int) = (ts.length : Int) - 1))) (h2 : ¬ 65536 < ((T.length + (ts.getD i tz).bs.length : Nat) : Int) + (ts.getD i tz).n) : expF (ts.map Tk.p) = expG ((ts.map Tk.p).drop (i + 1)) (agn (T ++ (ts.getD i tz).bs) (ts.getD i tz).d.toNat (ts.getD i tz).n.toNat) := by
 have := exp_go (ts := ts.map Tk.p) (i := i) (T := T) (by simpa using h) hE (by rw [mapG, List.length_map]; exact h1) (by rw [mapG]; exact h2)
 rwa [mapG] at this
theorem exT_end (h : ts.length ≤ i) (hE : expF (ts.map Tk.p) = expG ((ts.map Tk.p).drop i) T) : expF (ts.map Tk.p) = (T, 0) := exp_end (i := i) (by simpa using h) hE
end
theorem okK_none {t : Tk} {m : Int} {last : Bool} (h : noneT t.p) : okT t.p m last ↔ last = true ∧ 0 < t.bs.length := okT_none h
theorem okK_some {t : Tk} {m : Int} {last : Bool} (h : ¬ noneT t.p) : okT t.p m last ↔ 4 ≤ t.n ∧ t.n ≤ 259 ∧ 1 ≤ t.d ∧ t.d ≤ 32768 ∧ t.d ≤ m := okT_some h
theorem noneK {t : Tk} : noneT t.p ↔ t.d = 0 ∧ t.n = 0 := Iff.rfl
theorem okK_bd {t : Tk} {m : Int} {last : Bool} (h : okT t.p m last) : 0 ≤ t.n ∧ t.n ≤ 259 ∧ 0 ≤ t.d ∧ t.d ≤ 32768 ∧ (0 < t.n → 1 ≤ t.d ∧ t.d ≤ m) ∧ (t.n = 0 ↔ noneT t.p) ∧ (t.n = 0 → 0 < t.bs.length) ∧ (¬ t.n = 0 → 4 ≤ t.n) := okT_bd h
end Go.Proofs.YtifnmbmijljhfaaGreat.E.Lz
namespace Go.Proofs.YtifnmbmijljhfaaGreat.E.Lz
open Go
theorem none_ok (t : Tk) (w : World) : Calls Tryz.prog 111 [.agg (tokC t).toArray].toArray w (Rt fun r w' => r = .bool (decide (noneT t.p)) ∧ Upd [] w w') := by
 have hM0 : Mem w [] w [] := Mem.nil w []
 refine calls_vc mixed Tryz.func111 rfl C111 (by simp [Tryz.ntmps111]) <| seq fun _ h1 => m_bx (v := .agg ([t.lit, .int .i64 t.d, .int .i64 t.n] : List Value).toArray) hM0 rfl rfl fun b2 w3 (hM3 : Mem _ _ w3 [[⟨b2, 125, [t.lit, .int .i64 t.d, .int .i64 t.n]⟩]]) => mv <| h1 _ _ <| seq fun _ h4 => fa rfl <| m_ld (v := .int .i64 t.d) hM3 (i := 0) (j := 0) rfl rfl rfl rfl <| bn rfl rfl <| mv <| splitP rfl (fun c5 => ?_) (fun c5 => ?_)
 ·refine gfa rfl rfl <| gyesl rfl <| m_ld (v := .int .i64 t.n) hM3 (i := 0) (j := 0) rfl rfl rfl rfl <| gbn rfl rfl rfl <| pkT rfl <| mv <| h4 _ _ <| ⟨(.bool (decide (t.n = 0))), rfl, ⟨bool_iff (by rw [noneK]; omega), hM3.upd⟩⟩
 refine gx rfl <| gxl rfl <| gx rfl <| pkF rfl <| mv <| h4 _ _ <| ⟨(.bool false), rfl, ⟨bool_no (by rw [noneK]; omega), hM3.upd⟩⟩
theorem right_ok (t : Tk) (m : Int) (last : Bool) (w : World) (ht : RdE byteV w t.lit t.bs) (hm : 0 ≤ m ∧ m ≤ 9223372036854775807) : Calls Tryz.prog 112 [.agg (tokC t).toArray, .int .i64 m, .bool last].toArray w (Rt fun r w' => r = .bool (decide (okT t.p m last)) ∧ Upd [] w w') := by
 have hM0 : Mem w [] w [] := Mem.nil w []
 refine calls_vc mixed Tryz.func112 rfl C112 (by simp [Tryz.ntmps112]) <| seq fun _ h1 => m_bx (v := .agg ([t.lit, .int .i64 ((t).d), .int .i64 ((t).n)] : List Value).toArray) hM0 rfl rfl fun b2 w3 (hM3 : Mem _ _ w3 [[⟨b2, 125, [t.lit, .int .i64 ((t).d), .int .i64 ((t).n)]⟩]]) => mv <| h1 _ _ <| seq fun _ h4 => seq fun _ h5 => m_ldA (l := [t.lit, .int .i64 ((t).d), .int .i64 ((t).n)]) hM3 (i := 0) (j := 0) rfl rfl rfl rfl rfl <| m_call (none_ok t w3) rfl fun v6 w6 ⟨hr6, hu6⟩ => ?_
 have hM6 : Mem _ _ w6 [_] := hM3.pure hu6
 subst hr6
 refine h5 _ _ <| cndP rfl (fun c7 => ?_) (fun c7 => ?_)
 ·refine seq fun _ h8 => mv <| mv <| split rfl (fun c9 => ?_) (fun c9 => ?_)
  ·refine gfa rfl rfl <| gyesl rfl <| m_ld (v := t.lit) hM6 (i := 0) (j := 0) rfl rfl rfl rfl <| stg rfl (v := .int .i64 (t.bs.length : Nat)) (o_lenR (ht.upd hM6.upd) rfl rfl) <| gbn rfl rfl rfl <| pkT rfl <| mv <| h8 _ _ <| ⟨(.bool (decide ((0 : Int) < ((t.bs.length : Nat) : Int)))), rfl, ⟨bool_iff (by rw [okK_none (by first | assumption | (rw [noneK]; omega))]; exact ⟨fun h => ⟨by assumption, by omega⟩, fun h => by have := h.2; omega⟩), hM6.upd⟩⟩
  refine gx rfl <| gxl rfl <| gx rfl <| gx rfl <| pkF rfl <| mv <| h8 _ _ <| ⟨(.bool false), rfl, ⟨bool_no (by rw [okK_none (by first | assumption | (rw [noneK]; omega))]; intro h; exact absurd h.1 (by simp [*])), hM6.upd⟩⟩
 refine h4 _ _ <| seq fun _ h10 => fa rfl <| m_ld (v := .int .i64 ((t).n)) hM6 (i := 0) (j := 0) rfl rfl rfl rfl <| bn rfl rfl <| mv <| splitP rfl (fun c11 => ?_) (fun c11 => ?_)
 ·refine gfa rfl rfl <| gyesl rfl <| m_ld (v := .int .i64 ((t).n)) hM6 (i := 0) (j := 0) rfl rfl rfl rfl <| gbn rfl rfl rfl <| pkT rfl <| mv <| splitP rfl (fun c12 => ?_) (fun c12 => ?_)
  ·refine gfa rfl rfl <| gyesl rfl <| m_ld (v := .int .i64 ((t).d)) hM6 (i := 0) (j := 0) rfl rfl rfl rfl <| gbn rfl rfl rfl <| pkT rfl <| mv <| splitP rfl (fun c13 => ?_) (fun c13 => ?_)
   ·refine gfa rfl rfl <| gyesl rfl <| m_ld (v := .int .i64 ((t).d)) hM6 (i := 0) (j := 0) rfl rfl rfl rfl <| gmv rfl <| stg rfl (v := .int .i64 (min (32768 : Int) (m : Int))) (o_mm rfl rfl rfl) <| gbn rfl rfl rfl <| pkT rfl <| mv <| h10 _ _ <| ⟨(.bool (decide (((t).d) ≤ (min (32768 : Int) (m : Int))))), rfl, ⟨bool_iff (by rw [okK_some (by first | assumption | (rw [noneK]; omega))]; omega), hM6.upd⟩⟩
   refine gx rfl <| gxl rfl <| gx rfl <| gx rfl <| gx rfl <| pkF rfl <| mv <| h10 _ _ <| ⟨(.bool false), rfl, ⟨bool_no (by rw [okK_some (by first | assumption | (rw [noneK]; omega))]; omega), hM6.upd⟩⟩
  refine gx rfl <| gxl rfl <| gx rfl <| pkF rfl <| mv <| splitF rfl <| gx rfl <| gxl rfl <| gx rfl <| gx rfl <| gx rfl <| pkF rfl <| mv <| h10 _ _ <| ⟨(.bool false), rfl, ⟨bool_no (by rw [okK_some (by first | assumption | (rw [noneK]; omega))]; omega), hM6.upd⟩⟩
 refine gx rfl <| gxl rfl <| gx rfl <| pkF rfl <| mv <| splitF rfl <| gx rfl <| gxl rfl <| gx rfl <| pkF rfl <| mv <| splitF rfl <| gx rfl <| gxl rfl <| gx rfl <| gx rfl <| gx rfl <| pkF rfl <| mv <| h10 _ _ <| ⟨(.bool false), rfl, ⟨bool_no (by rw [okK_some (by first | assumption | (rw [noneK]; omega))]; omega), hM6.upd⟩⟩
theorem fits_ok (t : Tk) (m : Nat) (last : Bool) (w : World) (ht : RdE byteV w t.lit t.bs) (hm : m ≤ 140737488355328) (hl : t.bs.length ≤ 140737488355328) : Calls Tryz.prog 122 [.agg (tokC t).toArray, .int .i64 ((m : Nat) : Int), .bool last].toArray w (Rt fun r w' => r = .bool (decide (okT t.p ((m + t.bs.length : Nat) : Int) last)) ∧ Upd [] w w') := by
 have hM0 : Mem w [] w [] := Mem.nil w []
 refine calls_vc mixed Tryz.func122 rfl C122 (by simp [Tryz.ntmps122]) <| seq fun _ h1 => m_bx (v := .agg ([t.lit, .int .i64 ((t).d), .int .i64 ((t).n)] : List Value).toArray) hM0 rfl rfl fun b2 w3 (hM3 : Mem _ _ w3 [[⟨b2, 125, [t.lit, .int .i64 ((t).d), .int .i64 ((t).n)]⟩]]) => mv <| h1 _ _ <| seq fun _ h4 => seq fun _ h5 => fa rfl <| m_ld (v := .int .i64 ((t).d)) hM3 (i := 0) (j := 0) rfl rfl rfl rfl <| bn rfl rfl <| mv <| splitP rfl (fun c6 => ?_) (fun c6 => ?_)
 ·refine gfa rfl rfl <| gyesl rfl <| m_ld (v := .int .i64 ((t).n)) hM3 (i := 0) (j := 0) rfl rfl rfl rfl <| gbn rfl rfl rfl <| pkT rfl <| h5 _ _ <| cndP rfl (fun c7 => ?_) (fun c7 => ?_)
  ·refine seq fun _ h8 => mv <| mv <| split rfl (fun c9 => ?_) (fun c9 => ?_)
   ·refine gfa rfl rfl <| gyesl rfl <| m_ld (v := t.lit) hM3 (i := 0) (j := 0) rfl rfl rfl rfl <| stg rfl (v := .int .i64 (t.bs.length : Nat)) (o_lenR (ht.upd hM3.upd) rfl rfl) <| gbn rfl rfl rfl <| pkT rfl <| mv <| h8 _ _ <| ⟨(.bool (decide ((0 : Int) < ((t.bs.length : Nat) : Int)))), rfl, ⟨bool_iff (by rw [okK_none (by first | assumption | (rw [noneK]; omega))]; exact ⟨fun h => ⟨by assumption, by omega⟩, fun h => by have := h.2; omega⟩), hM3.upd⟩⟩
   refine gx rfl <| gxl rfl <| gx rfl <| gx rfl <| pkF rfl <| mv <| h8 _ _ <| ⟨(.bool false), rfl, ⟨bool_no (by rw [okK_none (by first | assumption | (rw [noneK]; omega))]; intro h; exact absurd h.1 (by simp [*])), hM3.upd⟩⟩
  refine h4 _ _ <| seq fun _ h10 => mv <| fa rfl <| m_ld (v := t.lit) hM3 (i := 0) (j := 0) rfl rfl rfl rfl <| stp (v := .int .i64 (t.bs.length : Nat)) (o_lenR (ht.upd hM3.upd) rfl rfl) <| stp (v := .int .i64 ((m : Nat) + (t.bs.length : Nat))) (o_bin rfl rfl (v_add64 (by omega))) <| mv <| h10 _ _ <| seq fun _ h11 => fa rfl <| m_ld (v := .int .i64 ((t).n)) hM3 (i := 0) (j := 0) rfl rfl rfl rfl <| bn rfl rfl <| mv <| splitP rfl (fun c12 => ?_) (fun c12 => ?_)
  ·refine gfa rfl rfl <| gyesl rfl <| m_ld (v := .int .i64 ((t).n)) hM3 (i := 0) (j := 0) rfl rfl rfl rfl <| gbn rfl rfl rfl <| pkT rfl <| mv <| splitP rfl (fun c13 => ?_) (fun c13 => ?_)
   ·refine gfa rfl rfl <| gyesl rfl <| m_ld (v := .int .i64 ((t).d)) hM3 (i := 0) (j := 0) rfl rfl rfl rfl <| gbn rfl rfl rfl <| pkT rfl <| mv <| splitP rfl (fun c14 => ?_) (fun c14 => ?_)
    ·refine gfa rfl rfl <| gyesl rfl <| m_ld (v := .int .i64 ((t).d)) hM3 (i := 0) (j := 0) rfl rfl rfl rfl <| gbn rfl rfl rfl <| pkT rfl <| mv <| splitP rfl (fun c15 => ?_) (fun c15 => ?_)
     ·refine gfa rfl rfl <| gyesl rfl <| m_ld (v := .int .i64 ((t).d)) hM3 (i := 0) (j := 0) rfl rfl rfl rfl <| gmv rfl <| gbn rfl rfl rfl <| pkT rfl <| mv <| h11 _ _ <| ⟨(.bool (decide (((t).d) ≤ ((m : Nat) + (t.bs.length : Nat))))), rfl, ?_⟩
      exfalso
      omega
     refine gx rfl <| gxl rfl <| gx rfl <| gx rfl <| pkF rfl <| mv <| h11 _ _ <| ⟨(.bool false), rfl, ?_⟩
     exfalso
     omega
    refine gx rfl <| gxl rfl <| gx rfl <| pkF rfl <| mv <| splitF rfl <| gx rfl <| gxl rfl <| gx rfl <| gx rfl <| pkF rfl <| mv <| h11 _ _ <| ⟨(.bool false), rfl, ⟨bool_no (by rw [okK_some (by first | assumption | (rw [noneK]; omega))]; omega), hM3.upd⟩⟩
   refine gx rfl <| gxl rfl <| gx rfl <| pkF rfl <| mv <| splitF rfl <| gx rfl <| gxl rfl <| gx rfl <| pkF rfl <| mv <| splitF rfl <| gx rfl <| gxl rfl <| gx rfl <| gx rfl <| pkF rfl <| mv <| h11 _ _ <| ⟨(.bool false), rfl, ⟨bool_no (by rw [okK_some (by first | assumption | (rw [noneK]; omega))]; omega), hM3.upd⟩⟩
  refine gx rfl <| gxl rfl <| gx rfl <| pkF rfl <| mv <| splitF rfl <| gx rfl <| gxl rfl <| gx rfl <| pkF rfl <| mv <| splitF rfl <| gx rfl <| gxl rfl <| gx rfl <| pkF rfl <| mv <| splitF rfl <| gx rfl <| gxl rfl <| gx rfl <| gx rfl <| pkF rfl <| mv <| h11 _ _ <| ⟨(.bool false), rfl, ⟨bool_no (by rw [okK_some (by first | assumption | (rw [noneK]; omega))]; omega), hM3.upd⟩⟩
 refine gx rfl <| gxl rfl <| gx rfl <| pkF rfl <| h5 _ _ <| cndF rfl <| h4 _ _ <| seq fun _ h16 => mv <| fa rfl <| m_ld (v := t.lit) hM3 (i := 0) (j := 0) rfl rfl rfl rfl <| stp (v := .int .i64 (t.bs.length : Nat)) (o_lenR (ht.upd hM3.upd) rfl rfl) <| stp (v := .int .i64 ((m : Nat) + (t.bs.length : Nat))) (o_bin rfl rfl (v_add64 (by omega))) <| mv <| h16 _ _ <| seq fun _ h17 => fa rfl <| m_ld (v := .int .i64 ((t).n)) hM3 (i := 0) (j := 0) rfl rfl rfl rfl <| bn rfl rfl <| mv <| splitP rfl (fun c18 => ?_) (fun c18 => ?_)
 ·refine gfa rfl rfl <| gyesl rfl <| m_ld (v := .int .i64 ((t).n)) hM3 (i := 0) (j := 0) rfl rfl rfl rfl <| gbn rfl rfl rfl <| pkT rfl <| mv <| splitP rfl (fun c19 => ?_) (fun c19 => ?_)
  ·refine gfa rfl rfl <| gyesl rfl <| m_ld (v := .int .i64 ((t).d)) hM3 (i := 0) (j := 0) rfl rfl rfl rfl <| gbn rfl rfl rfl <| pkT rfl <| mv <| splitP rfl (fun c20 => ?_) (fun c20 => ?_)
   ·refine gfa rfl rfl <| gyesl rfl <| m_ld (v := .int .i64 ((t).d)) hM3 (i := 0) (j := 0) rfl rfl rfl rfl <| gbn rfl rfl rfl <| pkT rfl <| mv <| splitP rfl (fun c21 => ?_) (fun c21 => ?_)
    ·refine gfa rfl rfl <| gyesl rfl <| m_ld (v := .int .i64 ((t).d)) hM3 (i := 0) (j := 0) rfl rfl rfl rfl <| gmv rfl <| gbn rfl rfl rfl <| pkT rfl <| mv <| h17 _ _ <| ⟨(.bool (decide (((t).d) ≤ ((m : Nat) + (t.bs.length : Nat))))), rfl, ⟨bool_iff (by rw [okK_some (by first | assumption | (rw [noneK]; omega))]; omega), hM3.upd⟩⟩
    refine gx rfl <| gxl rfl <| gx rfl <| gx rfl <| pkF rfl <| mv <| h17 _ _ <| ⟨(.bool false), rfl, ⟨bool_no (by rw [okK_some (by first | assumption | (rw [noneK]; omega))]; omega), hM3.upd⟩⟩
   refine gx rfl <| gxl rfl <| gx rfl <| pkF rfl <| mv <| splitF rfl <| gx rfl <| gxl rfl <| gx rfl <| gx rfl <| pkF rfl <| mv <| h17 _ _ <| ⟨(.bool false), rfl, ⟨bool_no (by rw [okK_some (by first | assumption | (rw [noneK]; omega))]; omega), hM3.upd⟩⟩
  refine gx rfl <| gxl rfl <| gx rfl <| pkF rfl <| mv <| splitF rfl <| gx rfl <| gxl rfl <| gx rfl <| pkF rfl <| mv <| splitF rfl <| gx rfl <| gxl rfl <| gx rfl <| gx rfl <| pkF rfl <| mv <| h17 _ _ <| ⟨(.bool false), rfl, ⟨bool_no (by rw [okK_some (by first | assumption | (rw [noneK]; omega))]; omega), hM3.upd⟩⟩
 refine gx rfl <| gxl rfl <| gx rfl <| pkF rfl <| mv <| splitF rfl <| gx rfl <| gxl rfl <| gx rfl <| pkF rfl <| mv <| splitF rfl <| gx rfl <| gxl rfl <| gx rfl <| pkF rfl <| mv <| splitF rfl <| gx rfl <| gxl rfl <| gx rfl <| gx rfl <| pkF rfl <| mv <| h17 _ _ <| ⟨(.bool false), rfl, ⟨bool_no (by rw [okK_some (by first | assumption | (rw [noneK]; omega))]; omega), hM3.upd⟩⟩
theorem again_ok (x : Value) (l : List UInt8) (d n : Int) (r0 : List Ent) (w : World) (hs0 : SlE byteV 5 x l r0) (hr : Res w r0) (hl : l.length ≤ 140737488355328) (hn : n ≤ 259) (hd : 0 < n → 1 ≤ d ∧ d ≤ (l.length : Nat)) : Calls Tryz.prog 85 [x, .int .i64 d, .int .i64 n].toArray w (Rt fun r w' => ∃ r', SlE byteV 5 r (agn l d.toNat n.toNat) r' ∧ Mem w (ids r0) w' [r']) := by
 have hM0 : Mem w (ids r0) w [r0] := Mem.start hr
 refine calls_vc mixed Tryz.func85 rfl C85 (by simp [Tryz.ntmps85]) <| seq fun _ h1 => mv <| h1 _ _ <| seq fun _ h2 => seq fun _ h3 => mv <| mv <| h3 _ _ <| lp (n := fun _ _ => False) (ι := (Nat) × (Value) × (List Ent)) (fun ⟨k, y0_, r0_⟩ f w' => f 0 = y0_ ∧ f 8 = .int .i64 (k : Nat) ∧ f 1 = .int .i64 d ∧ f 7 = .int .i64 n ∧ Mem w (ids r0) w' [r0_] ∧ (k ≤ n.toNat) ∧ ((agn l d.toNat k).length = l.length + k) ∧ (SlE byteV 5 y0_ (agn l d.toNat k) r0_)) (fun ⟨k, y0_, r0_⟩ => n.toNat - k) (0, x, r0) ?_ ?_
 ·exact ⟨rfl, vi, vi, vi, hM0, by omega, agn_len _ _ _, by first | exact hs0 | simpa using hs0⟩
 rintro ⟨k, y0_, r0_⟩ f w4 ⟨e4_0, e4_8, e4_1, e4_7, hM4, hk, hq, hy0_⟩ K5 h5
 obtain ⟨frm, rfl⟩ := re4 e4_0 e4_8 e4_1 e4_7
 refine seq fun _ h6 => bn rfl rfl <| h6 _ _ <| seq fun _ h7 => cndP rfl (fun c8 => ?_) (fun c8 => ?_)
 ·refine h7 _ _ <| seq fun _ h9 => mv <| mv <| mv <| stp (v := .int .i64 ((agn l d.toNat k).length : Nat)) (o_lenR (hy0_.rd hM4 (i := 0) rfl) rfl rfl) <| mv <| stp (v := .int .i64 (((agn l d.toNat k).length : Nat) - d)) (o_bin rfl rfl (v_sub64 (by omega))) <| m_idxE 0 (j := ((agn l d.toNat k).length - d.toNat)) (hy0_.rd hM4 (i := 0) rfl) rfl (v_int (by omega)) (by omega) fun b10 o10 hp10 => ld (v := byteV ((agn l d.toNat k).getD ((agn l d.toNat k).length - d.toNat) 0)) rfl (hp10) <| m_app1 (E := byteV) (q := (agn l d.toNat k).getD ((agn l d.toNat k).length - d.toNat) 0) hM4 (i := 0) rfl hy0_ rfl (by simp) (rfl) (by omega) (by omega) fun v11 w11 r11 u11 (hs11 : SlE byteV 5 v11 ((agn l d.toNat k) ++ [(agn l d.toNat k).getD ((agn l d.toNat k).length - d.toNat) 0]) r11) (hM11 : Mem w (ids r0) w11 [r11]) => mv <| h9 _ _ <| stp (v := .int .i64 ((k : Nat) + 1)) (o_bin rfl rfl (v_add64 (by omega))) ?_
  refine mv <| h5 (k + 1, v11, r11) _ _ ⟨rfl, vi, vi, vi, hM11, by omega, agn_len _ _ _, by rw [agn]; exact hs11⟩ (by (try dsimp only); omega)
 refine h2 _ _ <| seq fun _ h12 => mv <| mv <| h12 _ _ <| ⟨y0_, rfl, ?_⟩
 obtain rfl : k = n.toNat := by omega
 exact ⟨_, hy0_, hM4⟩
theorem refExpand_ok (x : Value) (ts : List Tk) (w : World) (hx : RdS tokC w x ts) (hts : ∀ t ∈ ts, t.ok w) (hl : ts.length ≤ 1152921504606846976) : Calls Tryz.prog 94 [x].toArray w (Rt fun r w' => ∃ v rs, r = .tuple [v, .int .i64 (expF (ts.map Tk.p)).2].toArray ∧ SlE byteV 5 v (expF (ts.map Tk.p)).1 rs ∧ Mem w [] w' [rs]) := by
 have hM0 : Mem w [] w [] := Mem.nil w []
 refine calls_vc mixed Tryz.func94 rfl C94 (by simp [Tryz.ntmps94]) <| seq fun _ h1 => mv <| mv <| h1 _ _ <| seq fun _ h2 => mv <| h2 _ _ <| seq fun _ h3 => seq fun _ h4 => mv <| h4 _ _ ?_
 have hM5 : Mem _ _ w [[]] := hM0.addNil
 have hs5 : SlE byteV 5 (.slice none 0 0) [] [] := Sl.nil 1 5
 refine lp (n := fun _ _ => False) (ι := (Nat) × (List UInt8) × (Value) × (List Ent)) (fun ⟨i, T, y4_, r4_⟩ f w' => f 4 = y4_ ∧ f 5 = .int .i64 (i : Nat) ∧ f 0 = x ∧ Mem w [] w' [r4_] ∧ (i ≤ ts.length) ∧ (T.length ≤ 65536) ∧ (expF (ts.map Tk.p) = expG ((ts.map Tk.p).drop i) T) ∧ (SlE byteV 5 y4_ (T) r4_)) (fun ⟨i, T, y4_, r4_⟩ => ts.length - i) (0, [], ((.slice none 0 0)), ([])) ?_ ?_
 ·exact ⟨rfl, vi, rfl, hM5, by omega, by simp, rfl, by first | exact hs5 | simpa using hs5⟩
 rintro ⟨i, T, y4_, r4_⟩ f w6 ⟨e6_4, e6_5, e6_0, hM6, hi, hT, hE, hy4_⟩ K7 h7
 obtain ⟨frm, rfl⟩ := re3 e6_4 e6_5 e6_0
 refine seq fun _ h8 => seq fun _ h9 => mv <| mv <| stp (v := .int .i64 (ts.length : Nat)) (o_lenR (hx.upd hM6.upd) rfl rfl) <| bn rfl rfl <| h9 _ _ <| cndP rfl (fun c10 => ?_) (fun c10 => ?_)
 ·refine h8 _ _ <| seq fun _ h11 => seq fun _ h12 => mv <| mv <| m_idxS tz (j := i) (hx.upd hM6.upd) rfl rfl (by omega) fun b13 o13 hp13 => ldA (cs := [(ts.getD i tz).lit, .int .i64 (((ts.getD i tz)).d), .int .i64 (((ts.getD i tz)).n)]) rfl rfl (hp13.row (k := 0) rfl rfl) <| m_al hM6 fun b14 w15 (hM15 : Mem w [] w15 [r4_, [⟨b14, 125, [.slice none 0 0, .int .i64 0, .int .i64 0]⟩]]) => m_stA (l := [(ts.getD i tz).lit, .int .i64 (((ts.getD i tz)).d), .int .i64 (((ts.getD i tz)).n)]) hM15 (i := 1) rfl rfl rfl rfl (by simp [oneCells, Value.oneCell', byteV]) (by simp) fun w16 (hM16 : Mem _ _ w16 [_, [⟨b14, 125, [(ts.getD i tz).lit, .int .i64 (((ts.getD i tz)).d), .int .i64 (((ts.getD i tz)).n)]⟩]]) => h12 _ _ <| seq fun _ h17 => ?_
  have hti := hts _ (getD_memG tz (l := ts) (i := i) (by omega))
  obtain ⟨_, hti2, hti3, hti4⟩ := hti
  simp only [inK] at hti2 hti3
  refine m_ldA (l := [(ts.getD i tz).lit, .int .i64 (((ts.getD i tz)).d), .int .i64 (((ts.getD i tz)).n)]) hM16 (i := 1) (j := 0) rfl rfl rfl rfl rfl <| mv <| stp (v := .int .i64 (T.length : Nat)) (o_lenR (hy4_.rd hM16 (i := 0) rfl) rfl rfl) <| mv <| mv <| stp (v := .int .i64 (ts.length : Nat)) (o_lenR (hx.upd hM16.upd) rfl rfl) <| stp (v := .int .i64 ((ts.length : Nat) - 1)) (o_bin rfl rfl (v_sub64 (by omega))) <| bn rfl rfl <| m_call (fits_ok (ts.getD i tz) T.length (decide (((i : Nat) : Int) = ((ts.length : Nat) - 1))) w16 ((hts _ (getD_memG tz (by omega))).1.upd hM16.upd) (by omega) (by omega)) rfl fun v18 w18 ⟨hr18, hu18⟩ => ?_
  have hM18 : Mem _ _ w18 [_, _] := hM16.pure hu18
  subst hr18
  refine mv <| h17 _ _ <| seq fun _ h19 => seq fun _ h20 => mv <| stp (v := .bool (decide (¬ (okT (ts.getD i tz).p ((T.length + (ts.getD i tz).bs.length : Nat) : Int) (decide (((i : Nat) : Int) = ((ts.length : Nat) - 1))))))) (o_not rfl v_not) <| h20 _ _ <| cndP rfl (fun c21 => ?_) (fun c21 => ?_)
  ·refine seq fun _ h22 => mv <| mv <| h22 _ _ <| ⟨(.tuple [.slice none 0 0, .int .i64 31].toArray), rfl, ?_⟩
   have he := exT_tok (by omega) hE (by assumption)
   exact ⟨.slice none 0 0, [], by rw [he], by rw [he]; exact Sl.nil 1 5, hM18.keep (by simp)⟩
  refine h19 _ _ <| seq fun _ h23 => seq fun _ h24 => ?_
  have hok := Decidable.not_not.1 (by assumption : ¬ ¬ okT (ts.getD i tz).p ((T.length + (ts.getD i tz).bs.length : Nat) : Int) (decide ((i : Int) = (ts.length : Int) - 1)))
  have hob := okK_bd hok
  refine mv <| stp (v := .int .i64 (T.length : Nat)) (o_lenR (hy4_.rd hM18 (i := 0) rfl) rfl rfl) <| fa rfl <| m_ld (v := (ts.getD i tz).lit) hM18 (i := 1) (j := 0) rfl rfl rfl rfl <| stp (v := .int .i64 (((ts.getD i tz).bs).length : Nat)) (o_lenR ((hts _ (getD_memG tz (by omega))).1.upd hM18.upd) rfl rfl) <| stp (v := .int .i64 (T.length + (ts.getD i tz).bs.length : Nat)) (o_bin rfl rfl ((v_add64 (by omega)).trans (v_int (by omega)))) <| fa rfl <| m_ld (v := .int .i64 (((ts.getD i tz)).n)) hM18 (i := 1) (j := 0) rfl rfl rfl rfl <| stp (v := .int .i64 ((T.length + (ts.getD i tz).bs.length : Nat) + (((ts.getD i tz)).n))) (o_bin rfl rfl (v_add64 (by omega))) <| bn rfl rfl <| h24 _ _ <| cndP rfl (fun c25 => ?_) (fun c25 => ?_)
  ·refine seq fun _ h26 => mv <| mv <| h26 _ _ <| ⟨(.tuple [.slice none 0 0, .int .i64 2].toArray), rfl, ?_⟩
   have he := exT_long (by omega) hE hok (by omega)
   exact ⟨.slice none 0 0, [], by rw [he], by rw [he]; exact Sl.nil 1 5, hM18.keep (by simp)⟩
  refine h23 _ _ <| seq fun _ h27 => mv <| fa rfl <| m_ld (v := (ts.getD i tz).lit) hM18 (i := 1) (j := 0) rfl rfl rfl rfl <| m_appE hM18 (i := 0) rfl hy4_ rfl rfl ((hts _ (getD_memG tz (by omega))).1.upd hM18.upd) (by first | omega | (simp; omega)) (by omega) fun v28 w28 r28 (hs28 : SlE byteV 5 v28 (T ++ ((ts.getD i tz).bs)) r28) (hM28 : Mem _ _ w28 [r28, _]) => mv <| h27 _ _ <| seq fun _ h29 => mv <| h29 _ _ <| lp (n := fun _ _ => False) (ι := (Nat) × (Value) × (List Ent)) (fun ⟨k, y4_, r4_⟩ f w' => f 4 = y4_ ∧ f 8 = .int .i64 (k : Nat) ∧ f 0 = x ∧ f 5 = .int .i64 (i : Nat) ∧ f 6 = .pointer (some ⟨b14, 0, none⟩) ∧ Mem w [] w' [r4_, [⟨b14, 125, [(ts.getD i tz).lit, .int .i64 (((ts.getD i tz)).d), .int .i64 (((ts.getD i tz)).n)]⟩]] ∧ (k ≤ (ts.getD i tz).n.toNat) ∧ ((agn (T ++ (ts.getD i tz).bs) (ts.getD i tz).d.toNat k).length = T.length + (ts.getD i tz).bs.length + k) ∧ (SlE byteV 5 y4_ (agn (T ++ (ts.getD i tz).bs) (ts.getD i tz).d.toNat k) r4_)) (fun ⟨k, y4_, r4_⟩ => (ts.getD i tz).n.toNat - k) (0, v28, r28) ?_ ?_
  ·exact ⟨rfl, vi, rfl, vi, rfl, hM28, by omega, by rw [agn_len, List.length_append], by first | exact hs28 | simpa using hs28⟩
  rintro ⟨k, y4_, r4_⟩ f w30 ⟨e30_4, e30_8, e30_0, e30_5, e30_6, hM30, hk, hq, hy4_⟩ K31 h31
  obtain ⟨frm, rfl⟩ := re5 e30_4 e30_8 e30_0 e30_5 e30_6
  refine seq fun _ h32 => seq fun _ h33 => mv <| fa rfl <| m_ld (v := .int .i64 (((ts.getD i tz)).n)) hM30 (i := 1) (j := 0) rfl rfl rfl rfl <| bn rfl rfl <| h33 _ _ <| cndP rfl (fun c34 => ?_) (fun c34 => ?_)
  ·refine h32 _ _ <| seq fun _ h35 => seq fun _ h36 => mv <| mv <| stp (v := .int .i64 ((agn (T ++ (ts.getD i tz).bs) (ts.getD i tz).d.toNat k).length : Nat)) (o_lenR (hy4_.rd hM30 (i := 0) rfl) rfl rfl) <| fa rfl <| m_ld (v := .int .i64 (((ts.getD i tz)).d)) hM30 (i := 1) (j := 0) rfl rfl rfl rfl <| stp (v := .int .i64 (((agn (T ++ (ts.getD i tz).bs) (ts.getD i tz).d.toNat k).length : Nat) - (((ts.getD i tz)).d))) (o_bin rfl rfl (v_sub64 (by omega))) <| m_idxE 0 (j := ((agn (T ++ (ts.getD i tz).bs) (ts.getD i tz).d.toNat k).length - (ts.getD i tz).d.toNat)) (hy4_.rd hM30 (i := 0) rfl) rfl (v_int (by omega)) (by omega) fun b37 o37 hp37 => ld (v := byteV ((agn (T ++ (ts.getD i tz).bs) (ts.getD i tz).d.toNat k).getD ((agn (T ++ (ts.getD i tz).bs) (ts.getD i tz).d.toNat k).length - (ts.getD i tz).d.toNat) 0)) rfl (hp37) <| mv <| h36 _ _ <| mv ?_
   refine mv <| m_app1 (E := byteV) (q := (agn (T ++ (ts.getD i tz).bs) (ts.getD i tz).d.toNat k).getD ((agn (T ++ (ts.getD i tz).bs) (ts.getD i tz).d.toNat k).length - (ts.getD i tz).d.toNat) 0) hM30 (i := 0) rfl hy4_ rfl (by simp) (rfl) (by omega) (by omega) fun v38 w38 r38 u38 (hs38 : SlE byteV 5 v38 ((agn (T ++ (ts.getD i tz).bs) (ts.getD i tz).d.toNat k) ++ [(agn (T ++ (ts.getD i tz).bs) (ts.getD i tz).d.toNat k).getD ((agn (T ++ (ts.getD i tz).bs) (ts.getD i tz).d.toNat k).length - (ts.getD i tz).d.toNat) 0]) r38) (hM38 : Mem w [] w38 [r38, [⟨b14, 125, [(ts.getD i tz).lit, .int .i64 (((ts.getD i tz)).d), .int .i64 (((ts.getD i tz)).n)]⟩]]) => mv <| h35 _ _ <| mv <| stp (v := .int .i64 ((k : Nat) + 1)) (o_bin rfl rfl (v_add64 (by omega))) <| mv <| h31 (k + 1, v38, r38) _ _ ⟨rfl, vi, rfl, vi, rfl, hM38, by omega, by rw [agn_len, List.length_append] <;> omega, by rw [agn]; exact hs38⟩ (by (try dsimp only); omega)
  refine h11 _ _ <| mv <| stp (v := .int .i64 ((i : Nat) + 1)) (o_bin rfl rfl (v_add64 (by omega))) <| mv <| h7 (i + 1, (agn (T ++ (ts.getD i tz).bs) (ts.getD i tz).d.toNat k), y4_, r4_) _ _ ⟨rfl, vi, rfl, hM30.keep (by simp), by omega, by omega, by (obtain rfl : k = (ts.getD i tz).n.toNat := by omega); exact exT_go (by omega) hE hok (by omega), by first | exact hy4_ | simpa using hy4_⟩ (by (try dsimp only); omega)
 refine h3 _ _ <| seq fun _ h39 => mv <| mv <| mv <| h39 _ _ <| ⟨(.tuple [y4_, .int .i64 0].toArray), rfl, ?_⟩
 have he := exT_end (by omega) hE
 exact ⟨_, _, by rw [he], by rw [he]; exact hy4_, hM6.keep (by simp)⟩
end Go.Proofs.YtifnmbmijljhfaaGreat.E.Lz
namespace Go.Proofs.YtifnmbmijljhfaaGreat.E.Lz
open Go
def nV (b : List UInt8) (a : Nat) : Nat := (get (b.drop a)).1
def nK (b : List UInt8) (a : Nat) : Nat := (get (b.drop a)).2.1
def nE (b : List UInt8) (a : Nat) : Int := (get (b.drop a)).2.2
def aL (b : List UInt8) (a : Nat) : Nat := a + nK b a
def aM (b : List UInt8) (a : Nat) : Nat := aL b a + nV b a
def aD (b : List UInt8) (a : Nat) : Nat := aM b a + nK b (aM b a)
def aZ (b : List UInt8) (a : Nat) : Nat := aD b a + nK b (aD b a)
def litT (b : List UInt8) (a : Nat) : List UInt8 := (b.drop (aL b a)).take (nV b a)
def hdT (b : List UInt8) (n a made : Nat) : Prop := nE b a = 0 ∧ made + nV b a ≤ n ∧ aM b a ≤ b.length
instance (b : List UInt8) (n a made : Nat) : Decidable (hdT b n a made) := by unfold hdT; infer_instance
def mtT (b : List UInt8) (n a made : Nat) : Prop := nE b (aM b a) = 0 ∧ nE b (aD b a) = 0 ∧ nV b (aM b a) ≤ 255 ∧ made + nV b a + nV b (aM b a) + 4 ≤ n ∧ 1 ≤ nV b (aD b a) ∧ nV b (aD b a) ≤ 32768 ∧ nV b (aD b a) ≤ made + nV b a
instance (b : List UInt8) (n a made : Nat) : Decidable (mtT b n a made) := by unfold mtT; infer_instance
def mtP (b : List UInt8) (a : Nat) : Pk := (litT b a, (nV b (aD b a) : Int), (nV b (aM b a) : Int) + 4)
def rdK (b : List UInt8) (n : Nat) : Nat → Nat → Nat → Option (List Pk)
 | 0, _, _ => none
 | k + 1, a, made => if made = n then (if a = b.length then some [] else none)
  else if hdT b n a made then (if made + nV b a = n then (if aM b a = b.length ∧ 0 < nV b a then some [(litT b a, 0, 0)] else none)
   else if mtT b n a made then (rdK b n k (aZ b a) (made + nV b a + nV b (aM b a) + 4)).map (fun l => mtP b a :: l) else none) else none
def rdF (b : List UInt8) (n : Nat) : Option (List Pk) := rdK b n (n + 1) 0 0
theorem rdK_end {b : List UInt8} {n k : Nat} : rdK b n (k + 1) b.length n = some [] := by rw [rdK, if_pos rfl, if_pos rfl]
theorem rdK_over {b : List UInt8} {n k a : Nat} (h : ¬ a = b.length) : rdK b n (k + 1) a n = none := by rw [rdK, if_pos rfl, if_neg h]
theorem rdK_nohd {b : List UInt8} {n k a made : Nat} (h : ¬ made = n) (hd : ¬ hdT b n a made) : rdK b n (k + 1) a made = none := by rw [rdK, if_neg h, if_neg hd]
theorem rdK_last {b : List UInt8} {n k a made : Nat} (h : ¬ made = n) (hd : hdT b n a made) (hn : made + nV b a = n) (h2 : aM b a = b.length) (h3 : 0 < nV b a) : rdK b n (k + 1) a made = some [(litT b a, 0, 0)] := by rw [rdK, if_neg h, if_pos hd, if_pos hn, if_pos ⟨h2, h3⟩]
theorem rdK_bad {b : List UInt8} {n k a made : Nat} (h : ¬ made = n) (hn : made + nV b a = n) (h2 : ¬ (aM b a = b.length ∧ 0 < nV b a)) : rdK b n (k + 1) a made = none := by
 by_cases hd : hdT b n a made
 ·rw [rdK, if_neg h, if_pos hd, if_pos hn, if_neg h2]
 exact rdK_nohd h hd
theorem rdK_nomt {b : List UInt8} {n k a made : Nat} (h : ¬ made = n) (hn : ¬ made + nV b a = n) (h2 : ¬ mtT b n a made) : rdK b n (k + 1) a made = none := by
 by_cases hd : hdT b n a made
 ·rw [rdK, if_neg h, if_pos hd, if_neg hn, if_neg h2]
 exact rdK_nohd h hd
theorem rdK_go {b : List UInt8} {n k a made : Nat} (h : ¬ made = n) (hd : hdT b n a made) (hn : ¬ made + nV b a = n) (h2 : mtT b n a made) : rdK b n (k + 1) a made = (rdK b n k (aZ b a) (made + nV b a + nV b (aM b a) + 4)).map (fun l => mtP b a :: l) := by rw [rdK, if_neg h, if_pos hd, if_neg hn, if_pos h2]
theorem nE_end (b : List UInt8) : ¬ nE b b.length = 0 := by unfold nE; rw [List.drop_length]; decide
theorem nE_22 (b : List UInt8) (a : Nat) : ¬ nE b a = 22 := by
 have h : (get (b.drop a)).2.2 = 0 ∨ (get (b.drop a)).2.2 = 20 ∨ (get (b.drop a)).2.2 = 21 := (getA_err (b.drop a) 0 0).1
 unfold nE; omega
theorem nK_le {b : List UInt8} {a : Nat} (h : a ≤ b.length) : a + nK b a ≤ b.length := by
 have : (get (b.drop a)).2.1 ≤ (b.drop a).length := by
  by_cases c : (get (b.drop a)).2.2 = 0
  ·exact (get_ok c).2.1
  have h : (get (b.drop a)).2.1 = 0 := ((getA_err (b.drop a) 0 0).2 c).2
  omega
 rw [List.length_drop] at this
 unfold nK; omega
structure RdI (b : List UInt8) (n : Nat) (toks : List Pk) (k a made : Nat) : Prop where
 e : rdF b n = (rdK b n k a made).map (fun l => toks ++ l)
 k : n < made + k
 m : made ≤ n
 a : a ≤ b.length
theorem RdI.init (b : List UInt8) (n : Nat) : RdI b n [] (n + 1) 0 0 := ⟨by unfold rdF; cases rdK b n (n + 1) 0 0 <;> rfl, by omega, by omega, by omega⟩
theorem RdI.no {b : List UInt8} {n k a made : Nat} {toks : List Pk} (h : RdI b n toks k a made) (hn : ∀ j, rdK b n (j + 1) a made = none) : rdF b n = none := by
 have hk := h.k; have hm := h.m
 have e := hn (k - 1)
 rw [show k - 1 + 1 = k by omega] at e
 rw [h.e, e]; rfl
theorem RdI.over {b : List UInt8} {n k a : Nat} {toks : List Pk} (h : RdI b n toks k a n) (hl : a < b.length) : rdF b n = none := h.no fun j => rdK_over (by omega)
theorem RdI.done {b : List UInt8} {n k : Nat} {toks : List Pk} (h : RdI b n toks k b.length n) : rdF b n = some toks := by
 have hk := h.k
 rw [h.e, show k = k - 1 + 1 by omega, rdK_end]; simp
theorem RdI.short {b : List UInt8} {n k made : Nat} {toks : List Pk} (h : RdI b n toks k b.length made) (hm : ¬ made = n) : rdF b n = none := h.no fun j => rdK_nohd hm fun p => nE_end b p.1
theorem RdI.nohd {b : List UInt8} {n k a made : Nat} {toks : List Pk} (h : RdI b n toks k a made) (hl : a < b.length) (hd : ¬ (nE b a = 0 ∧ nV b a ≤ n - made ∧ aM b a ≤ b.length)) : rdF b n = none := by
 have hm := h.m
 by_cases c : made = n
 ·subst c; exact h.over hl
 exact h.no fun j => rdK_nohd c fun p => hd ⟨p.1, by have := p.2.1; omega, p.2.2⟩
theorem RdI.bad {b : List UInt8} {n k a made : Nat} {toks : List Pk} (h : RdI b n toks k a made) (hl : a < b.length) (hz : aM b a = b.length) (h0 : nV b a = 0 ∨ ¬ made + nV b a = n) : rdF b n = none := by
 by_cases c : made = n
 ·subst c; exact h.over hl
 by_cases c2 : made + nV b a = n
 ·exact h.no fun j => rdK_bad c c2 (by omega)
 exact h.no fun j => rdK_nomt c c2 fun p => nE_end b (by rw [← hz]; exact p.1)
theorem RdI.last {b : List UInt8} {n k a made : Nat} {toks : List Pk} (h : RdI b n toks k a made) (hl : a < b.length) (hd : nE b a = 0) (hz : aM b a = b.length) (h0 : 0 < nV b a) (hn : made + nV b a = n) : RdI b n (toks ++ [(litT b a, 0, 0)]) 1 b.length n := by
 have hk := h.k
 refine ⟨?_, by omega, Nat.le_refl _, Nat.le_refl _⟩
 rw [h.e, show k = k - 1 + 1 by omega, rdK_last (by omega) ⟨hd, by omega, by omega⟩ hn hz h0, rdK_end]; simp
theorem RdI.nomt {b : List UInt8} {n k a made : Nat} {toks : List Pk} (h : RdI b n toks k a made) (hl : a < b.length) (hz : aM b a < b.length) (h2 : ¬ mtT b n a made) : rdF b n = none := by
 by_cases c : made = n
 ·subst c; exact h.over hl
 by_cases c2 : made + nV b a = n
 ·exact h.no fun j => rdK_bad c c2 (by omega)
 exact h.no fun j => rdK_nomt c c2 h2
theorem RdI.go {b : List UInt8} {n k a made : Nat} {toks : List Pk} (h : RdI b n toks k a made) (hd : nE b a = 0) (hz : aM b a ≤ b.length) (h2 : mtT b n a made) : RdI b n (toks ++ [mtP b a]) (k - 1) (aZ b a) (made + nV b a + nV b (aM b a) + 4) := by
 have hk := h.k
 obtain ⟨p1, p2, p3, p4, p5, p6, p7⟩ := h2
 refine ⟨?_, by omega, by omega, ?_⟩
 ·rw [h.e, show k = k - 1 + 1 by omega, rdK_go (by omega) ⟨hd, by omega, hz⟩ (by omega) ⟨p1, p2, p3, p4, p5, p6, p7⟩, Nat.add_sub_cancel]
  cases rdK b n (k - 1) (aZ b a) (made + nV b a + nV b (aM b a) + 4) <;> simp
 have := nK_le (b := b) (a := aM b a) hz
 unfold aZ
 refine nK_le ?_
 unfold aD; exact this
def St2 (b : List UInt8) (a left : Nat) (lt : List UInt8) (A2 : Nat) (E2 : Int) : Prop := (E2 = 0 ∧ nE b a = 0 ∧ nV b a ≤ left ∧ aM b a ≤ b.length ∧ A2 = aM b a ∧ lt = litT b a ∧ lt.length = nV b a) ∨ (¬ E2 = 0 ∧ ¬ E2 = 22 ∧ ¬ (nE b a = 0 ∧ nV b a ≤ left ∧ aM b a ≤ b.length) ∧ lt = [])
def St4 (b : List UInt8) (a2 mx : Nat) (v3 v4 : Int) (A4 : Nat) (E4 : Int) : Prop := (E4 = 0 ∧ nE b a2 = 0 ∧ nE b (a2 + nK b a2) = 0 ∧ nV b a2 ≤ 255 ∧ nV b (a2 + nK b a2) ≤ mx ∧ v3 = (nV b a2 : Nat) ∧ v4 = (nV b (a2 + nK b a2) : Nat) ∧ A4 = a2 + nK b a2 + nK b (a2 + nK b a2)) ∨ (¬ E4 = 0 ∧ ¬ E4 = 22 ∧ ¬ (nE b a2 = 0 ∧ nE b (a2 + nK b a2) = 0 ∧ nV b a2 ≤ 255 ∧ nV b (a2 + nK b a2) ≤ mx))
theorem num_at {b : List UInt8} {a m : Nat} : (nE b a = 0 ∧ nV b a ≤ m ∧ cNum b a 0 m = (nV b a : Nat) ∧ cNumA b a 0 m = a + nK b a ∧ cNumE b a 0 m = 0) ∨ (¬ (nE b a = 0 ∧ nV b a ≤ m) ∧ cNum b a 0 m = 0 ∧ cNumA b a 0 m = a ∧ ¬ cNumE b a 0 m = 0 ∧ ¬ cNumE b a 0 m = 22) := by
 by_cases hE : (get (b.drop a)).2.2 = 0
 ·by_cases hM : ((m : Nat) : Int) < ((get (b.drop a)).1 : Nat)
  ·have hf := num_much hE hM
   refine .inr ⟨fun h => by have := h.2; unfold nV at this; omega, by unfold cNum; rw [if_pos rfl, hf.2], by unfold cNumA; rw [if_neg (by rw [hf.1]; omega)], by unfold cNumE; rw [if_pos rfl, hf.1]; omega, by unfold cNumE; rw [if_pos rfl, hf.1]; omega⟩
  have hf := num_fine hE hM
  exact .inl ⟨hE, by unfold nV; omega, by unfold cNum; rw [if_pos rfl, hf.2]; rfl, by unfold cNumA; rw [if_pos ⟨rfl, by rw [hf.1, hE]⟩]; rfl, by unfold cNumE; rw [if_pos rfl, hf.1, hE]⟩
 have hf := num_bad (m := ((m : Nat) : Int)) hE
 have h22 := nE_22 b a
 unfold nE at h22
 refine .inr ⟨fun h => hE h.1, by unfold cNum; rw [if_pos rfl, hf.2], by unfold cNumA; rw [if_neg (by rw [hf.1]; omega)], by unfold cNumE; rw [if_pos rfl, hf.1]; exact hE, by unfold cNumE; rw [if_pos rfl, hf.1]; exact h22⟩
theorem num_err {b : List UInt8} {a : Nat} {e m : Int} (h : ¬ e = 0) : cNum b a e m = 0 ∧ cNumA b a e m = a ∧ cNumE b a e m = e := by
 unfold cNum cNumA cNumE; rw [if_neg h, if_neg (fun k => h k.1), if_neg h]; exact ⟨rfl, rfl, rfl⟩
theorem st2_of {b : List UInt8} {a left : Nat} {V1 E1 E2 : Int} {A1 A2 : Nat} {lt : List UInt8} (hV : V1 = cNum b a 0 left) (hA : A1 = cNumA b a 0 left) (hE : E1 = cNumE b a 0 left) (hl : lt = cTk b A1 E1 V1) (hA2 : A2 = cTkA b A1 E1 V1) (hE2 : E2 = cTkE b A1 E1 V1) (ha : a ≤ b.length) : St2 b a left lt A2 E2 := by
 subst hl hA2 hE2
 rcases num_at (b := b) (a := a) (m := left) with ⟨h1, h2, h3, h4, h5⟩ | ⟨h1, h3, h4, h5, h6⟩
 ·rw [h3] at hV; rw [h4] at hA; rw [h5] at hE
  subst hV hA hE
  have hk := nK_le ha
  by_cases hs : ((b.drop (a + nK b a)).length : Int) < ((nV b a : Nat) : Int)
  ·have hf := tk_short (l := b.drop (a + nK b a)) (n := ((nV b a : Nat) : Int)) (by omega) hs
   rw [List.length_drop] at hs
   refine .inr ⟨by unfold cTkE; rw [if_pos rfl, hf.1]; omega, by unfold cTkE; rw [if_pos rfl, hf.1]; omega, fun h => by have := h.2.2; unfold aM aL at this; omega, by unfold cTk; rw [if_pos rfl, hf.2]⟩
  have hf := tk_fine (l := b.drop (a + nK b a)) (n := ((nV b a : Nat) : Int)) (by omega) hs
  rw [List.length_drop] at hs
  have hlt : cTk b (a + nK b a) 0 ((nV b a : Nat) : Int) = litT b a := by unfold cTk; rw [if_pos rfl, hf.2, Int.toNat_natCast]; rfl
  refine .inl ⟨by unfold cTkE; rw [if_pos rfl, hf.1], h1, h2, by unfold aM aL; omega, ?_, hlt, ?_⟩
  ·unfold cTkA tkN; rw [if_pos ⟨rfl, hf.1⟩, if_pos hf.1, Int.toNat_natCast]; rfl
  rw [hlt]; unfold litT aL; rw [List.length_take, List.length_drop]; omega
 rw [h3] at hV; rw [h4] at hA
 subst hV hA
 rw [← hE] at h5 h6
 refine .inr ⟨by unfold cTkE; rw [if_neg h5]; exact h5, by unfold cTkE; rw [if_neg h5]; exact h6, fun h => h1 ⟨h.1, h.2.1⟩, by unfold cTk; rw [if_neg h5]⟩
theorem st4_of {b : List UInt8} {a2 mx : Nat} {v3 v4 E3 E4 : Int} {A3 A4 : Nat} (h3 : v3 = cNum b a2 0 255) (hA3 : A3 = cNumA b a2 0 255) (hE3 : E3 = cNumE b a2 0 255) (h4 : v4 = cNum b A3 E3 mx) (hA4 : A4 = cNumA b A3 E3 mx) (hE4 : E4 = cNumE b A3 E3 mx) : St4 b a2 mx v3 v4 A4 E4 := by
 subst h4 hA4 hE4
 rcases num_at (b := b) (a := a2) (m := 255) with ⟨k1, k2, k3, k4, k5⟩ | ⟨k1, k3, k4, k5, k6⟩
 ·rw [show ((255 : Nat) : Int) = 255 from rfl] at k3 k4 k5
  rw [k4] at hA3; rw [k5] at hE3; rw [k3] at h3
  subst hA3 hE3 h3
  rcases num_at (b := b) (a := a2 + nK b a2) (m := mx) with ⟨j1, j2, j3, j4, j5⟩ | ⟨j1, j3, j4, j5, j6⟩
  ·exact .inl ⟨j5, k1, j1, k2, j2, rfl, j3, j4⟩
  exact .inr ⟨j5, j6, fun h => j1 ⟨h.2.1, h.2.2.2⟩⟩
 rw [show ((255 : Nat) : Int) = 255 from rfl] at k3 k4 k5 k6
 rw [← hE3] at k5 k6
 have := num_err (b := b) (a := A3) (m := ((mx : Nat) : Int)) k5
 exact .inr ⟨by rw [this.2.2]; exact k5, by rw [this.2.2]; exact k6, fun h => k1 ⟨h.1, h.2.2.1⟩⟩
theorem cNum_le {b : List UInt8} {a : Nat} {e : Int} {m : Nat} : 0 ≤ cNum b a e m ∧ cNum b a e m ≤ (m : Nat) := by
 by_cases c : e = 0
 ·subst c
  rcases num_at (b := b) (a := a) (m := m) with ⟨_, k2, k3, _⟩ | ⟨_, k3, _⟩
  ·rw [k3]; omega
  rw [k3]; omega
 rw [(num_err c).1]; omega
def lenP (ps : List Pk) : Nat := (ps.map fun t => t.1.length + t.2.2.toNat).sum
theorem lenP_app (ps : List Pk) (t : Pk) : lenP (ps ++ [t]) = lenP ps + t.1.length + t.2.2.toNat := by
 unfold lenP; rw [List.map_append, List.sum_append]; simp; omega
def textP (ps : List Pk) : List UInt8 := ps.foldl (fun T t => agn (T ++ t.1) t.2.1.toNat t.2.2.toNat) []
theorem textP_app (ps : List Pk) (t : Pk) : textP (ps ++ [t]) = agn (textP ps ++ t.1) t.2.1.toNat t.2.2.toNat := by
 unfold textP; rw [List.foldl_append]; rfl
theorem fold_len : ∀ (ps : List Pk) (T : List UInt8), (ps.foldl (fun T t => agn (T ++ t.1) t.2.1.toNat t.2.2.toNat) T).length = T.length + lenP ps
 | [], T => by simp [lenP]
 | t :: ps, T => by
  rw [List.foldl_cons, fold_len ps, agn_len, List.length_append]
  unfold lenP; simp only [List.map_cons, List.sum_cons]; omega
theorem textP_len (ps : List Pk) : (textP ps).length = lenP ps := by unfold textP; rw [fold_len]; simp
theorem exp_rdK {b : List UInt8} {n : Nat} (hn : n ≤ 65536) : ∀ (k a made : Nat) (ps : List Pk) (T : List UInt8), rdK b n k a made = some ps → T.length = made → made ≤ n → expG ps T = (ps.foldl (fun T t => agn (T ++ t.1) t.2.1.toNat t.2.2.toNat) T, 0) ∧ made + lenP ps = n ∧ ps.length + made ≤ n
 | 0, _, _, _, _, h, _, _ => by cases h
 | k + 1, a, made, ps, T, h, hT, hm => by
  by_cases c : made = n
  ·subst c
   by_cases c2 : a = b.length
   ·subst c2; rw [rdK_end] at h; injection h with h; subst h; exact ⟨rfl, by simp [lenP], by simp⟩
   rw [rdK_over c2] at h; cases h
  by_cases hd : hdT b n a made
  ·obtain ⟨d1, d2, d3⟩ := hd
   have hlt : (litT b a).length = nV b a := by
    unfold litT; rw [List.length_take, List.length_drop]; unfold aM at d3; omega
   by_cases c2 : made + nV b a = n
   ·by_cases c3 : aM b a = b.length ∧ 0 < nV b a
    ·rw [rdK_last c ⟨d1, d2, d3⟩ c2 c3.1 c3.2] at h
     injection h with h; subst h
     refine ⟨?_, by simp [lenP, hlt]; omega, by simp only [List.length_cons, List.length_nil]; omega⟩
     rw [expG, if_neg, if_neg]
     ·rfl
     ·simp only [hlt, hT]; omega
     refine fun h => h ((okT_none ⟨rfl, rfl⟩).2 ⟨rfl, ?_⟩)
     show 0 < (litT b a).length
     omega
    rw [rdK_bad c c2 c3] at h; cases h
   by_cases c3 : mtT b n a made
   ·rw [rdK_go c ⟨d1, d2, d3⟩ c2 c3] at h
    obtain ⟨p1, p2, p3, p4, p5, p6, p7⟩ := c3
    cases hr : rdK b n k (aZ b a) (made + nV b a + nV b (aM b a) + 4) with
    | none => rw [hr] at h; cases h
    | some l =>
     rw [hr] at h
     injection h with h; subst h
     have e1 : (mtP b a).1 = litT b a := rfl
     have e2 : (mtP b a).2.1 = (nV b (aD b a) : Int) := rfl
     have e3 : (mtP b a).2.2 = (nV b (aM b a) : Int) + 4 := rfl
     have ih := exp_rdK hn k _ _ l (agn (T ++ (mtP b a).1) (mtP b a).2.1.toNat (mtP b a).2.2.toNat) hr (by rw [agn_len, List.length_append, e1, e3, hlt]; omega) (by omega)
     refine ⟨?_, ?_, ?_⟩
     ·rw [expG, if_neg, if_neg]
      ·exact ih.1
      ·rw [e1, e3, hlt, hT]; omega
      refine fun h => h ((okT_some (fun hn => ?_)).2 ?_)
      ·have := hn.2; rw [e3] at this; omega
      rw [e1, e2, e3, hlt, hT]; omega
     ·have e4 : lenP (mtP b a :: l) = (litT b a).length + ((nV b (aM b a) : Int) + 4).toNat + lenP l := by simp [lenP, mtP]
      rw [e4, hlt]; omega
     simp only [List.length_cons]; omega
   rw [rdK_nomt c c2 c3] at h; cases h
  rw [rdK_nohd c hd] at h; cases h
theorem exp_rd {b : List UInt8} {n : Nat} {ps : List Pk} (hn : n ≤ 65536) (h : rdF b n = some ps) : expF ps = (textP ps, 0) ∧ lenP ps = n ∧ ps.length ≤ n := by
 have := exp_rdK hn (n + 1) 0 0 ps [] h rfl (by omega)
 refine ⟨this.1, by omega, by omega⟩
def tksF (b : List UInt8) (n : Int) : List Pk × Int := if n < 0 ∨ 65536 < n then ([], 3) else match rdF b n.toNat with
 | none => ([], 30)
 | some ps => (ps, 0)
def decF (b : List UInt8) (n : Int) : List UInt8 × Int := if (tksF b n).2 = 0 then (textP (tksF b n).1, 0) else ([], (tksF b n).2)
theorem tksF_arg {b : List UInt8} {n : Int} (h : n < 0 ∨ 65536 < n) : tksF b n = ([], 3) := by unfold tksF; rw [if_pos h]
theorem tksF_none {b : List UInt8} {n : Int} (h : ¬ (n < 0 ∨ 65536 < n)) (h1 : rdF b n.toNat = none) : tksF b n = ([], 30) := by unfold tksF; rw [if_neg h, h1]
theorem tksF_some {b : List UInt8} {n : Int} {ps : List Pk} (h : ¬ (n < 0 ∨ 65536 < n)) (h1 : rdF b n.toNat = some ps) : tksF b n = (ps, 0) := by unfold tksF; rw [if_neg h, h1]
theorem decF_no {b : List UInt8} {n : Int} (h : ¬ (tksF b n).2 = 0) : decF b n = ([], (tksF b n).2) := by unfold decF; rw [if_neg h]
theorem decF_yes {b : List UInt8} {n : Int} (h : (tksF b n).2 = 0) : decF b n = (textP (tksF b n).1, 0) := by unfold decF; rw [if_pos h]
end Go.Proofs.YtifnmbmijljhfaaGreat.E.Lz
namespace Go.Proofs.YtifnmbmijljhfaaGreat.E.Lz
open Go
abbrev MK4 : List UInt8 := [165, 90, 167, 91]
def RmB (t : Tk) (a : List Ent) : Prop := ∃ b, t.ad = some ⟨b, 0, none⟩ ∧ t.ln = t.bs.length ∧ (t.bs ++ MK4).length ≤ t.cp ∧ SlE byteV 5 (.slice (some ⟨b, 0, none⟩) (t.bs ++ MK4).length t.cp) (t.bs ++ MK4) a
theorem RmB.own {t : Tk} {a : List Ent} (h : RmB t a) : OwnP byteV 5 Tk.lit Tk.bs t a := by
 obtain ⟨b, h1, h2, _, h3⟩ := h
 obtain ⟨ad, ln, cp, bs, d, n⟩ := t
 simp only at h1 h2
 subst h1 h2
 exact h3.cutTo
theorem expF_len (ps : List Pk) : (expF ps).1.length ≤ 65536 := expF_le ps
theorem mk_0 (l : List UInt8) : (l ++ MK4).getD l.length 0 = 165 := by rw [appG2 0 (Nat.le_refl _), Nat.sub_self]; rfl
theorem mk_1 (l : List UInt8) : (l ++ MK4).getD (l.length + 1) 0 = 90 := by rw [appG2 0 (by omega), Nat.add_sub_cancel_left]; rfl
theorem mk_2 (l : List UInt8) : (l ++ MK4).getD (l.length + 2) 0 = 167 := by rw [appG2 0 (by omega), Nat.add_sub_cancel_left]; rfl
theorem mk_3 (l : List UInt8) : (l ++ MK4).getD (l.length + 3) 0 = 91 := by rw [appG2 0 (by omega), Nat.add_sub_cancel_left]; rfl
theorem perm3 {a b c : List Ent} : [a ++ c, b].flatten.Perm [a, b, c].flatten := by
 simp only [List.flatten_cons, List.flatten_nil, List.append_nil, List.append_assoc]
 exact List.Perm.append_left _ List.perm_append_comm
theorem perm2 {a b : List Ent} : [b, a].flatten.Perm [a, b].flatten := by
 simp only [List.flatten_cons, List.flatten_nil, List.append_nil]
 exact List.perm_append_comm
end Go.Proofs.YtifnmbmijljhfaaGreat.E.Lz
namespace Go.Proofs.YtifnmbmijljhfaaGreat.E.Lz
open Go
theorem rest_pos {b : List UInt8} {a : Nat} {e : Int} (h : 0 < restV b a e) : e = 0 ∧ a < b.length := by
 unfold restV at h
 by_cases c : e = 0
 ·rw [if_pos c] at h; exact ⟨c, by omega⟩
 rw [if_neg c] at h; omega
theorem rest_0 {b : List UInt8} {a : Nat} {e : Int} (h : ¬ 0 < restV b a e) : restV b a e = 0 := by
 unfold restV at h ⊢
 by_cases c : e = 0
 ·rw [if_pos c] at h ⊢; omega
 rw [if_neg c]
theorem rest_zero {b : List UInt8} {a : Nat} {e : Int} (h : ¬ 0 < restV b a e) : ¬ e = 0 ∨ b.length ≤ a := by
 unfold restV at h
 by_cases c : e = 0
 ·rw [if_pos c] at h; exact .inr (by omega)
 exact .inl c
theorem end_z {b : List UInt8} {A : Nat} {E : Int} (h22 : ¬ E = 22) (h : endE b A E = 0 ∨ endE b A E = 22) : E = 0 := by
 unfold endE at h
 by_cases c : E = 0
 ·exact c
 rw [if_pos c] at h; omega
theorem end_nz {b : List UInt8} {A : Nat} {E : Int} (h : ¬ endE b A E = 0) (h2 : ¬ endE b A E = 22) : ¬ E = 0 := by
 intro c
 subst c
 unfold endE at h h2
 rw [if_neg (by omega)] at h h2
 split at h
 ·omega
 exact h rfl
theorem St2.n22 {b : List UInt8} {a left A2 : Nat} {lt : List UInt8} {E2 : Int} (h : St2 b a left lt A2 E2) : ¬ E2 = 22 := by
 rcases h with h | h
 ·omega
 exact h.2.1
theorem St4.n22 {b : List UInt8} {a2 mx A4 : Nat} {v3 v4 E4 : Int} (h : St4 b a2 mx v3 v4 A4 E4) : ¬ E4 = 22 := by
 rcases h with h | h
 ·omega
 exact h.2.1
theorem St2.len {b : List UInt8} {a left A2 : Nat} {lt : List UInt8} {E2 : Int} (h : St2 b a left lt A2 E2) : lt.length ≤ left := by
 rcases h with h | h
 ·omega
 rw [h.2.2.2]; simp
section
variable {b : List UInt8} {n k a made A2 A4 : Nat} {toks : List Pk} {lt : List UInt8} {E2 E4 V3 V4 : Int}
theorem St2.fine (h : St2 b a (n - made) lt A2 E2) (he : E2 = 0) : nE b a = 0 ∧ nV b a ≤ n - made ∧ aM b a ≤ b.length ∧ A2 = aM b a ∧ lt = litT b a ∧ lt.length = nV b a := by
 rcases h with h | h
 ·exact h.2
 exact absurd he h.1
theorem St4.fine {mx : Nat} (h : St4 b A2 mx V3 V4 A4 E4) (he : E4 = 0) : nE b A2 = 0 ∧ nE b (A2 + nK b A2) = 0 ∧ nV b A2 ≤ 255 ∧ nV b (A2 + nK b A2) ≤ mx ∧ V3 = (nV b A2 : Nat) ∧ V4 = (nV b (A2 + nK b A2) : Nat) ∧ A4 = A2 + nK b A2 + nK b (A2 + nK b A2) := by
 rcases h with h | h
 ·exact h.2
 exact absurd he h.1
theorem lf_end0 (hI : RdI b n toks k a made) (ha : a < b.length) (h2 : St2 b a (n - made) lt A2 E2) (hE : ¬ E2 = 0) : rdF b n = none := by
 rcases h2 with h2 | h2
 ·exact absurd h2.1 hE
 exact hI.nohd ha h2.2.2.1
theorem lf_bad0 (hI : RdI b n toks k a made) (ha : a < b.length) (h2 : St2 b a (n - made) lt A2 E2) (hE : E2 = 0) (hz : b.length ≤ A2) (hx : lt.length = 0 ∨ ¬ made + lt.length = n) : rdF b n = none := by
 obtain ⟨q1, q2, q3, q4, q5, q6⟩ := h2.fine hE
 exact hI.bad ha (by omega) (by omega)
theorem lf_go0 (hI : RdI b n toks k a made) (ha : a < b.length) (h2 : St2 b a (n - made) lt A2 E2) (hE : E2 = 0) (hz : b.length ≤ A2) (h0 : 0 < lt.length) (hn : made + lt.length = n) : RdI b n (toks ++ [(lt, 0, 0)]) 1 A2 n := by
 obtain ⟨q1, q2, q3, q4, q5, q6⟩ := h2.fine hE
 have := hI.last ha q1 (by omega) (by omega) (by omega)
 rw [show A2 = b.length by omega, q5]; exact this
theorem lf_end4 (hI : RdI b n toks k a made) (ha : a < b.length) (h2 : St2 b a (n - made) lt A2 E2) (hr : E2 = 0 ∧ A2 < b.length) (h4 : St4 b A2 (min 32768 (made + lt.length)) V3 V4 A4 E4) (hE : ¬ E4 = 0) : rdF b n = none := by
 obtain ⟨q1, q2, q3, q4, q5, q6⟩ := h2.fine hr.1
 subst q4
 rcases h4 with h4 | h4
 ·exact absurd h4.1 hE
 refine hI.nomt ha hr.2 fun p => h4.2.2 ?_
 obtain ⟨p1, p2, p3, p4, p5, p6, p7⟩ := p
 unfold aD at p2 p5 p6 p7
 exact ⟨p1, p2, p3, by omega⟩
theorem lf_bad4 (hI : RdI b n toks k a made) (ha : a < b.length) (h2 : St2 b a (n - made) lt A2 E2) (hr : E2 = 0 ∧ A2 < b.length) (h4 : St4 b A2 (min 32768 (made + lt.length)) V3 V4 A4 E4) (hE : E4 = 0) (hx : ¬ 1 ≤ V4 ∨ (n : Int) < (made : Int) + (lt.length : Nat) + (V3 + 4)) : rdF b n = none := by
 obtain ⟨q1, q2, q3, q4, q5, q6⟩ := h2.fine hr.1
 obtain ⟨p1, p2, p3, p4, p5, p6, p7⟩ := h4.fine hE
 subst q4
 refine hI.nomt ha hr.2 fun p => ?_
 obtain ⟨_, _, _, r4, r5, _, _⟩ := p
 unfold aD at r5
 omega
theorem lf_go4 (hI : RdI b n toks k a made) (h2 : St2 b a (n - made) lt A2 E2) (hr : E2 = 0 ∧ A2 < b.length) (h4 : St4 b A2 (min 32768 (made + lt.length)) V3 V4 A4 E4) (hE : E4 = 0) (h1 : 1 ≤ V4) (hn : (made : Int) + (lt.length : Nat) + (V3 + 4) ≤ (n : Int)) : RdI b n (toks ++ [(lt, V4, V3 + 4)]) (k - 1) A4 (made + lt.length + (V3 + 4).toNat) := by
 obtain ⟨q1, q2, q3, q4, q5, q6⟩ := h2.fine hr.1
 obtain ⟨p1, p2, p3, p4, p5, p6, p7⟩ := h4.fine hE
 subst q4
 have := hI.go q1 (by omega) ⟨p1, p2, p3, by omega, by unfold aD; omega, by unfold aD; omega, by unfold aD; omega⟩
 have e1 : mtP b a = (lt, V4, V3 + 4) := by unfold mtP aD; rw [q5, p5, p6]
 have e2 : aZ b a = A4 := by unfold aZ aD; omega
 rw [e1, e2] at this
 rw [show made + lt.length + (V3 + 4).toNat = made + nV b a + nV b (aM b a) + 4 by omega]
 exact this
theorem lf_len {t : Pk} (h : made = lenP toks) : made + t.1.length + t.2.2.toNat = lenP (toks ++ [t]) := by rw [lenP_app]; omega
end
set_option maxRecDepth 100000 in
theorem read_ok (x : Value) (b : List UInt8) (n : Nat) (g : FuncId) (caps : List Value) (T : List Pk → List Ent → Prop) (rv0 : List Ent) (w : World) (hx : RdE byteV w x b) (hl : b.length ≤ 140737488355328) (hn : n ≤ 65536) (hr : Res w rv0) (hT0 : T [] rv0) (ho : okFn Tryz.prog g = true) (hq : ∀ (wc : World) (t : Tk) (toks : List Pk) (rv rl : List Ent), T toks rv → SlE byteV 5 t.lit t.bs rl → Res wc (rv ++ rl) → ∀ {made : Nat}, made = lenP toks → (0 ≤ t.n ∧ t.n ≤ 259 ∧ 0 ≤ t.d ∧ t.d ≤ 32768 ∧ (0 < t.n → 1 ≤ t.d ∧ t.d ≤ (made : Int) + (t.bs.length : Nat)) ∧ (made : Int) + (t.bs.length : Nat) + t.n ≤ 65536 ∧ 1 ≤ ((t.bs.length : Nat) : Int) + t.n) → Calls Tryz.prog g (Value.agg (tokC t).toArray :: caps).toArray wc (Rt fun _ w' => ∃ rv', T (toks ++ [t.p]) rv' ∧ Mem wc (ids (rv ++ rl)) w' [rv'])) : Calls Tryz.prog 83 [x, .int .i64 ((n : Nat) : Int), .func (.func g) #[] caps.toArray].toArray w (Rt fun r w' => ∃ ok toks rv', r = .bool ok ∧ T toks rv' ∧ (if ok then some toks else none) = rdF b n ∧ Mem w (ids rv0) w' [rv']) := by
 have hM0 : Mem w (ids rv0) w [rv0] := Mem.start hr
 refine calls_vc mixed Tryz.func83 rfl C83 (by simp [Tryz.ntmps83]) <| seq fun _ h1 => mv <| h1 _ _ <| seq fun _ h2 => mv <| m_call (NewCursor_ok _ b w (hx) (by first | omega | (simp; done) | (simp; omega))) rfl fun v3 w3 ⟨bc3, rs3, hr3, hc3, hm3⟩ => ?_
 have hM3 : Mem _ _ w3 [_, rs3] := hM0.add hm3
 subst hr3
 refine mv <| h2 _ _ <| seq fun _ h4 => mv <| h4 _ _ <| seq fun _ h5 => lp (n := fun _ _ => False) (ι := (List Pk) × (Nat) × (Nat) × (Nat) × (List Ent) × (List Ent)) (fun ⟨toks, k, a, made, rv, rc⟩ f w' => f 7 = .pointer (some ⟨bc3, 0, none⟩) ∧ f 8 = .int .i64 (made : Nat) ∧ f 1 = .int .i64 (n : Nat) ∧ f 2 = .func (.func g) #[] caps.toArray ∧ Mem w (ids rv0) w' [rv, rc] ∧ (CurS bc3 b a 0 rc) ∧ (RdI b n toks k a made) ∧ (T toks rv) ∧ (made = lenP toks)) (fun ⟨toks, k, a, made, rv, rc⟩ => n - made) ([], n + 1, 0, 0, rv0, rs3) ?_ ?_
 ·exact ⟨rfl, vi, vi, rfl, hM3, hc3, RdI.init b n, hT0, rfl⟩
 rintro ⟨toks, k, a, made, rv, rc⟩ f w6 ⟨e6_7, e6_8, e6_1, e6_2, hM6, hcl, hI, hT, hlen⟩ K7 h7
 obtain ⟨frm, rfl⟩ := re4 e6_7 e6_8 e6_1 e6_2
 refine seq fun _ h8 => seq fun _ h9 => mv <| m_call (Rest_ok _ b a 0 rc w6 hcl (hM6.res (i := 1) rfl) (by first | omega | (simp; done) | (simp; omega))) rfl fun v10 w10 ⟨hr10, hm10⟩ => ?_
 have hM10 : Mem w (ids rv0) w10 [rv, rc] := hM6.step 1 rfl hm10
 subst hr10
 refine bn rfl rfl <| h9 _ _ <| cndP rfl (fun c11 => ?_) (fun c11 => ?_)
 ·refine h8 _ _ <| seq fun _ h12 => ?_
  have hap := rest_pos (b := b) (a := a) (e := 0) (by assumption)
  have hml := hI.m
  refine mv <| mv <| stp (v := .int .i64 (n - made : Nat)) (o_bin rfl rfl ((v_sub64 (by omega)).trans (v_int (by omega)))) <| mv <| h12 _ _ <| seq fun _ h13 => mv <| mv <| m_call (Num_ok _ b a 0 ((n - made : Nat) : Int) rc w10 hcl (hM10.res (i := 1) rfl) (by first | omega | (simp; done) | (simp; omega))) rfl fun v14 w14 ⟨hr14, r'14, hc14, hm14⟩ => ?_
  have hM14 : Mem _ _ w14 [_, r'14] := hM10.step 1 rfl hm14
  obtain ⟨V1, hV1⟩ : ∃ z, z = cNum b a 0 ((n - made : Nat) : Int) := ⟨_, rfl⟩
  obtain ⟨A1, hA1⟩ : ∃ z, z = cNumA b a 0 ((n - made : Nat) : Int) := ⟨_, rfl⟩
  obtain ⟨E1, hE1⟩ : ∃ z, z = cNumE b a 0 ((n - made : Nat) : Int) := ⟨_, rfl⟩
  rw [← hV1] at hr14
  rw [← hA1, ← hE1] at hc14
  subst hr14
  have hbV1 : 0 ≤ V1 ∧ V1 ≤ ((n - made : Nat) : Int) := by rw [hV1]; exact cNum_le (m := n - made)
  refine mv <| h13 _ _ <| seq fun _ h15 => mv <| mv <| m_call (Take_ok _ b A1 E1 V1 r'14 w14 hc14 (hM14.res (i := 1) rfl) (by first | omega | (simp; done) | (simp; omega))) rfl fun v16 w16 ⟨r'16, rs16, hc16, hs16, hm16⟩ => ?_
  have hM16 : Mem _ _ w16 [_, r'16, rs16] := hM14.stepAdd 1 rfl hm16
  obtain ⟨lt, hlt⟩ : ∃ z, z = cTk b A1 E1 V1 := ⟨_, rfl⟩
  obtain ⟨A2, hA2⟩ : ∃ z, z = cTkA b A1 E1 V1 := ⟨_, rfl⟩
  obtain ⟨E2, hE2⟩ : ∃ z, z = cTkE b A1 E1 V1 := ⟨_, rfl⟩
  rw [← hlt] at hs16
  rw [← hA2, ← hE2] at hc16
  have h2 := st2_of hV1 hA1 hE1 hlt hA2 hE2 hI.a
  have hl2 := h2.len
  have hle2 := hc16.le
  obtain ⟨a17_, n17_, c17_, rfl⟩ := Sl.isSlice hs16
  refine stp (v := .agg ([(.slice a17_ n17_ c17_), .int .i64 0, .int .i64 0] : List Value).toArray) (o_bld rfl rfl) <| m_al hM16 fun b18 w19 (hM19 : Mem _ _ w19 [_, _, _, [⟨b18, 125, [.slice none 0 0, .int .i64 0, .int .i64 0]⟩]]) => m_stA (l := [(.slice a17_ n17_ c17_), .int .i64 0, .int .i64 0]) hM19 (i := 3) rfl rfl rfl rfl (by simp [oneCells, Value.oneCell', byteV]) (by simp) fun w20 (hM20 : Mem _ _ w20 [_, _, _, [⟨b18, 125, [(.slice a17_ n17_ c17_), .int .i64 0, .int .i64 0]⟩]]) => h15 _ _ <| seq fun _ h21 => mv <| fa rfl <| m_ld (v := (.slice a17_ n17_ c17_)) hM20 (i := 3) (j := 0) rfl rfl rfl rfl <| stp (v := .int .i64 (lt.length : Nat)) (o_lenR (hs16.rd hM20 (i := 2) rfl) rfl rfl) <| stp (v := .int .i64 (made + lt.length : Nat)) (o_bin rfl rfl ((v_add64 (by omega)).trans (v_int (by omega)))) <| mv <| h21 _ _ <| seq fun _ h22 => seq fun _ h23 => ?_
  refine mv <| m_call (Rest_ok _ b A2 E2 r'16 w20 hc16 (hM20.res (i := 1) rfl) (by first | omega | (simp; done) | (simp; omega))) rfl fun v24 w24 ⟨hr24, hm24⟩ => ?_
  have hM24 : Mem _ _ w24 [_, _, _, _] := hM20.step 1 rfl hm24
  subst hr24
  refine bn rfl rfl <| h23 _ _ <| cndP rfl (fun c25 => ?_) (fun c25 => ?_)
  ·refine seq fun _ h26 => ?_
   have hr2 := rest_pos (b := b) (a := A2) (e := E2) (by assumption)
   refine mv <| m_call (Num_ok _ b A2 E2 255 r'16 w24 hc16 (hM24.res (i := 1) rfl) (by first | omega | (simp; done) | (simp; omega))) rfl fun v27 w27 ⟨hr27, r'27, hc27, hm27⟩ => ?_
   have hM27 : Mem _ _ w27 [_, r'27, _, _] := hM24.step 1 rfl hm27
   obtain ⟨V3, hV3⟩ : ∃ z, z = cNum b A2 E2 255 := ⟨_, rfl⟩
   obtain ⟨A3, hA3⟩ : ∃ z, z = cNumA b A2 E2 255 := ⟨_, rfl⟩
   obtain ⟨E3, hE3⟩ : ∃ z, z = cNumE b A2 E2 255 := ⟨_, rfl⟩
   rw [← hV3] at hr27
   rw [← hA3, ← hE3] at hc27
   subst hr27
   have hbV3 : 0 ≤ V3 ∧ V3 ≤ 255 := by rw [hV3]; exact cNum_le (m := 255)
   refine stp (v := .int .i64 (V3 + 4)) (o_bin rfl rfl (v_add64 (by omega))) <| fa rfl <| m_st (v := .int .i64 (V3 + 4)) hM27 (i := 3) rfl rfl rfl rfl (by simp) fun w28 (hM28 : Mem _ _ w28 [_, _, _, [⟨b18, 125, [(.slice a17_ n17_ c17_), .int .i64 0, .int .i64 (V3 + 4)]⟩]]) => h26 _ _ <| mv <| mv <| stp (v := .int .i64 (min 32768 (made + lt.length) : Nat)) (o_mm rfl rfl (by show Value.int .i64 (min _ _) = _; exact v_int (by omega))) <| m_call (Num_ok _ b A3 E3 ((min 32768 (made + lt.length) : Nat) : Int) r'27 w28 hc27 (hM28.res (i := 1) rfl) (by first | omega | (simp; done) | (simp; omega))) rfl fun v29 w29 ⟨hr29, r'29, hc29, hm29⟩ => ?_
   have hM29 : Mem _ _ w29 [_, r'29, _, _] := hM28.step 1 rfl hm29
   obtain ⟨V4, hV4⟩ : ∃ z, z = cNum b A3 E3 ((min 32768 (made + lt.length) : Nat) : Int) := ⟨_, rfl⟩
   obtain ⟨A4, hA4⟩ : ∃ z, z = cNumA b A3 E3 ((min 32768 (made + lt.length) : Nat) : Int) := ⟨_, rfl⟩
   obtain ⟨E4, hE4⟩ : ∃ z, z = cNumE b A3 E3 ((min 32768 (made + lt.length) : Nat) : Int) := ⟨_, rfl⟩
   rw [← hV4] at hr29
   rw [← hA4, ← hE4] at hc29
   subst hr29
   have hbV4 : 0 ≤ V4 ∧ V4 ≤ ((min 32768 (made + lt.length) : Nat) : Int) := by rw [hV4]; exact cNum_le (m := min 32768 (made + lt.length))
   rw [hr2.1] at hV3 hA3 hE3
   have h4 := st4_of hV3 hA3 hE3 hV4 hA4 hE4
   refine fa rfl <| m_st (v := .int .i64 V4) hM29 (i := 3) rfl rfl rfl rfl (by simp) fun w30 (hM30 : Mem _ _ w30 [_, _, _, [⟨b18, 125, [(.slice a17_ n17_ c17_), .int .i64 V4, .int .i64 (V3 + 4)]⟩]]) => h22 _ _ <| seq fun _ h31 => seq fun _ h32 => mv <| m_call (End_ok _ b A4 E4 r'29 w30 hc29 (hM30.res (i := 1) rfl)) rfl fun v33 w33 ⟨hr33, hm33⟩ => ?_
   have hM33 : Mem _ _ w33 [_, _, _, _] := hM30.step 1 rfl hm33
   subst hr33
   refine m_al hM33 fun b34 w35 (hM35 : Mem _ _ w35 [_, _, _, _, [⟨b34, 111, [.int .i64 0, .int .i64 0]⟩]]) => m_stA (l := [.int .i64 (endE b A4 E4), .int .i64 (endA b A4 E4 : Nat)]) hM35 (i := 4) rfl rfl rfl rfl (by simp [oneCells, Value.oneCell', byteV]) (by simp) fun w36 (hM36 : Mem _ _ w36 [_, _, _, _, [⟨b34, 111, [.int .i64 (endE b A4 E4), .int .i64 (endA b A4 E4 : Nat)]⟩]]) => h32 _ _ <| seq fun _ h37 => fa rfl <| m_ld (v := .int .i64 (endE b A4 E4)) hM36 (i := 4) (j := 0) rfl rfl rfl rfl <| bneq rfl rfl <| mv <| splitP rfl (fun c38 => ?_) (fun c38 => ?_)
   ·refine gfa rfl rfl <| gyesl rfl <| m_ld (v := .int .i64 (endE b A4 E4)) hM36 (i := 4) (j := 0) rfl rfl rfl rfl <| gbneq rfl rfl rfl <| pkT rfl <| h37 _ _ <| cndP rfl (fun c39 => ?_) (fun c39 => ?_)
    ·refine seq fun _ h40 => mv <| h40 _ _ <| ⟨(.bool false), rfl, ⟨false, toks, _, rfl, hT, by rw [lf_end4 hI hap.2 h2 hr2 h4 (end_nz (b := b) (A := A4) (by omega) (by omega))]; rfl, hM36.keep (by simp)⟩⟩
    refine h31 _ _ <| seq fun _ h41 => seq fun _ h42 => ?_
    intro wd e1 e2 e3 e4
    have hd := Upd.same e1 e2 e3 e4 []
    have hM43 := hM36.pure hd
    clear e1 e2 e3 e4
    refine ⟨(some [b18]), ?_⟩
    show vd _ _ _ _ _ _ _
    refine dmv <| dmv <| dqldA (cs := [(.slice a17_ n17_ c17_), .int .i64 V4, .int .i64 (V3 + 4)]) rfl (by simp [isHeld]) rfl ((hM43.at (i := 3) (j := 0) rfl rfl).agg rfl rfl) <| dl (m_call (Rest_ok _ b A4 E4 r'29 wd hc29 (hM43.res (i := 1) rfl) (by first | omega | (simp; done) | (simp; omega))) rfl fun v44 w44 ⟨hr44, hm44⟩ => ?_)
    have hM44 : Mem w (ids rv0) w44 [rv, r'29, rs16, [⟨b18, 125, [(.slice a17_ n17_ c17_), .int .i64 V4, .int .i64 (V3 + 4)]⟩], [⟨b34, 111, [.int .i64 (endE b A4 E4), .int .i64 (endA b A4 E4 : Nat)]⟩]] := hM43.step 1 rfl hm44
    subst hr44
    have hh44 := held_upd (wr := wd) (bs := [b18]) hm44.upd (fun b hb => by
     simp only [List.mem_cons, List.not_mem_nil, or_false] at hb
     rw [hb]; exact ⟨(hM43.at (i := 3) (j := 0) rfl rfl).lt, hM43.apart (i := 3) (j := 0) (k := 1) rfl rfl rfl (by decide)⟩) (fun b hb => rfl)
    refine ⟨hh44, dbn rfl rfl <| dl (m_call (right_ok (⟨a17_, n17_, c17_, lt, V4, V3 + 4⟩ : Tk) (made + lt.length : Nat) (decide ((restV b A4 E4) = 0)) w44 (hs16.rd hM44 (i := 2) rfl) (by omega)) rfl fun v45 w45 ⟨hr45, hu45⟩ => ?_)⟩
    have hM45 : Mem _ _ w45 [_, _, _, _, _] := hM44.pure hu45
    subst hr45
    have hh45 := held_upd (wr := wd) (bs := [b18]) hu45 (fun b hb => by
     simp only [List.mem_cons, List.not_mem_nil, or_false] at hb
     rw [hb]; exact ⟨(hM44.at (i := 3) (j := 0) rfl rfl).lt, by simp⟩) hh44
    refine ⟨hh45, dq (v := .bool (decide (¬ (okT (⟨a17_, n17_, c17_, lt, V4, V3 + 4⟩ : Tk).p (made + lt.length : Nat) (decide ((restV b A4 E4) = 0)))))) (o_not rfl v_not) <| dmv <| dsplitP rfl (fun c46 => ?_) (fun c46 => ?_)⟩
    ·refine dx rfl <| dx rfl <| dx rfl <| dxl rfl <| dx rfl <| dx rfl <| dpkT rfl <| dmv <| dsplitT rfl <| dxl rfl <| dxl rfl <| dx rfl <| dsplitU rfl <| dgnou rfl ?_
     refine dgnou rfl <| dgnou rfl <| dx rfl <| dpkT rfl <| h42 _ _ <| cndT rfl <| seq fun _ h47 => mv <| h47 _ _ <| ⟨(.bool false), rfl, ?_⟩
     have hx : ¬ 1 ≤ V4 := fun h1 => ‹¬ okT _ _ _› ((okK_some (fun hn => by have h9 := (noneK.1 hn).2; dsimp only at h9; omega)).2 (by dsimp only; omega))
     exact ⟨false, toks, _, rfl, hT, by rw [lf_bad4 hI hap.2 h2 hr2 h4 (end_z (b := b) (A := A4) h4.n22 (by omega)) (.inl hx)]; rfl, hM45.keep (by simp)⟩
    refine dgmv rfl <| dgfa rfl rfl <| dgmv rfl <| dgyesl rfl <| dl (m_ld (v := .int .i64 (V3 + 4)) hM45 (i := 3) (j := 0) rfl rfl rfl rfl <| ⟨hh45, dqg rfl (v := .int .i64 ((made + lt.length : Nat) + (V3 + 4))) (o_bin rfl rfl (v_add64 (by omega))) <| dgbn rfl rfl rfl <| dpkF rfl <| dmv <| dsplitP rfl (fun c48 => ?_) (fun c48 => ?_)⟩)
    ·refine dxl rfl <| dxl rfl <| dx rfl <| dsplitU rfl <| dgnou rfl <| dgnou rfl <| dgnou rfl <| dx rfl <| dpkT rfl <| h42 _ _ <| cndT rfl <| seq fun _ h49 => mv <| h49 _ _ ?_
     refine ⟨(.bool false), rfl, ⟨false, toks, _, rfl, hT, by rw [lf_bad4 hI hap.2 h2 hr2 h4 (end_z (b := b) (A := A4) h4.n22 (by omega)) (.inr (by omega))]; rfl, hM45.keep (by simp)⟩⟩
    refine dgyesl rfl <| dl (m_ldA (l := [(.slice a17_ n17_ c17_), .int .i64 V4, .int .i64 (V3 + 4)]) hM45 (i := 3) (j := 0) rfl rfl rfl rfl rfl <| ⟨hh45, dgyesl rfl <| dl (m_call (none_ok (⟨a17_, n17_, c17_, lt, V4, V3 + 4⟩ : Tk) w45) rfl fun v50 w50 ⟨hr50, hu50⟩ => ?_)⟩)
    have hM50 : Mem _ _ w50 [_, _, _, _, _] := hM45.pure hu50
    subst hr50
    have hh50 := held_upd (wr := wd) (bs := [b18]) hu50 (fun b hb => by
     simp only [List.mem_cons, List.not_mem_nil, or_false] at hb
     rw [hb]; exact ⟨(hM45.at (i := 3) (j := 0) rfl rfl).lt, by simp⟩) hh45
    refine ⟨hh50, dgmv rfl <| dsplitP rfl (fun c51 => ?_) (fun c51 => ?_)⟩
    ·refine dgmv rfl <| dgmv rfl <| dqg rfl (v := .bool (decide (¬ ((made + lt.length : Nat) : Int) = (n : Nat)))) (o_bin rfl rfl v_neq) <| dqg rfl (v := .bool (decide (¬ ((made + lt.length : Nat) : Int) = (n : Nat)))) (o_pickT rfl rfl) <| dpkF rfl <| h42 _ _ <| cndP rfl (fun c52 => ?_) (fun c52 => ?_)
     ·refine seq fun _ h53 => mv <| h53 _ _ <| ⟨(.bool false), rfl, absurd (noneK.1 ‹noneT _›).2 (by dsimp only; omega)⟩
     refine h41 _ _ <| seq fun _ h54 => absurd (noneK.1 ‹noneT _›).2 (by dsimp only; omega)
    refine dx rfl <| dx rfl <| dx rfl <| dqg rfl (v := .bool false) (o_pickF rfl rfl) <| dpkF rfl <| h42 _ _ <| cndF rfl <| h41 _ _ <| seq fun _ h55 => ?_
    have hok4 := Decidable.not_not.1 ‹¬ ¬ okT _ _ _›
    have hob := okK_bd hok4
    dsimp only at hob
    refine mv <| fa rfl <| m_ld (v := .int .i64 (V3 + 4)) hM50 (i := 3) (j := 0) rfl rfl rfl rfl <| stp (v := .int .i64 ((made + lt.length : Nat) + (V3 + 4))) (o_bin rfl rfl (v_add64 (by omega))) <| mv <| h55 _ _ <| mv <| m_ldA (l := [(.slice a17_ n17_ c17_), .int .i64 V4, .int .i64 (V3 + 4)]) hM50 (i := 3) (j := 0) rfl rfl rfl rfl rfl <| m_callv rfl (by assumption) (hq w50 (⟨a17_, n17_, c17_, lt, V4, V3 + 4⟩ : Tk) toks rv rs16 hT hs16 (hM50.res2 0 2 rfl rfl (by decide)) hlen (by dsimp only; omega)) rfl fun v56 w56 ⟨rv56, hTn, hm56⟩ => ?_
    have hM56 : Mem _ _ w56 [rv56, _, [], _, _] := hM50.step2 0 2 rfl rfl (by decide) hm56.addNil
    refine h7 (toks ++ [(lt, V4, V3 + 4)], k - 1, A4, made + lt.length + (V3 + 4).toNat, rv56, r'29) _ _ ⟨rfl, vi, vi, rfl, hM56.keep (by simp), by have h9 := hc29; rw [(end_z (b := b) (A := A4) h4.n22 (by omega))] at h9; exact h9, lf_go4 hI h2 hr2 h4 (end_z (b := b) (A := A4) h4.n22 (by omega)) (by omega) (by omega), hTn, lf_len (t := (lt, V4, V3 + 4)) hlen⟩ (by dsimp only; omega)
   refine gx rfl <| gxl rfl <| gx rfl <| pkF rfl <| h37 _ _ <| cndF rfl <| h31 _ _ <| seq fun _ h57 => seq fun _ h58 => ?_
   intro wd e1 e2 e3 e4
   have hd := Upd.same e1 e2 e3 e4 []
   have hM59 := hM36.pure hd
   clear e1 e2 e3 e4
   refine ⟨(some [b18]), ?_⟩
   show vd _ _ _ _ _ _ _
   refine dmv <| dmv <| dqldA (cs := [(.slice a17_ n17_ c17_), .int .i64 V4, .int .i64 (V3 + 4)]) rfl (by simp [isHeld]) rfl ((hM59.at (i := 3) (j := 0) rfl rfl).agg rfl rfl) <| dl (m_call (Rest_ok _ b A4 E4 r'29 wd hc29 (hM59.res (i := 1) rfl) (by first | omega | (simp; done) | (simp; omega))) rfl fun v60 w60 ⟨hr60, hm60⟩ => ?_)
   have hM60 : Mem w (ids rv0) w60 [rv, r'29, rs16, [⟨b18, 125, [(.slice a17_ n17_ c17_), .int .i64 V4, .int .i64 (V3 + 4)]⟩], [⟨b34, 111, [.int .i64 (endE b A4 E4), .int .i64 (endA b A4 E4 : Nat)]⟩]] := hM59.step 1 rfl hm60
   subst hr60
   have hh60 := held_upd (wr := wd) (bs := [b18]) hm60.upd (fun b hb => by
    simp only [List.mem_cons, List.not_mem_nil, or_false] at hb
    rw [hb]; exact ⟨(hM59.at (i := 3) (j := 0) rfl rfl).lt, hM59.apart (i := 3) (j := 0) (k := 1) rfl rfl rfl (by decide)⟩) (fun b hb => rfl)
   refine ⟨hh60, dbn rfl rfl <| dl (m_call (right_ok (⟨a17_, n17_, c17_, lt, V4, V3 + 4⟩ : Tk) (made + lt.length : Nat) (decide ((restV b A4 E4) = 0)) w60 (hs16.rd hM60 (i := 2) rfl) (by omega)) rfl fun v61 w61 ⟨hr61, hu61⟩ => ?_)⟩
   have hM61 : Mem _ _ w61 [_, _, _, _, _] := hM60.pure hu61
   subst hr61
   have hh61 := held_upd (wr := wd) (bs := [b18]) hu61 (fun b hb => by
    simp only [List.mem_cons, List.not_mem_nil, or_false] at hb
    rw [hb]; exact ⟨(hM60.at (i := 3) (j := 0) rfl rfl).lt, by simp⟩) hh60
   refine ⟨hh61, dq (v := .bool (decide (¬ (okT (⟨a17_, n17_, c17_, lt, V4, V3 + 4⟩ : Tk).p (made + lt.length : Nat) (decide ((restV b A4 E4) = 0)))))) (o_not rfl v_not) <| dmv <| dsplitP rfl (fun c62 => ?_) (fun c62 => ?_)⟩
   ·refine dx rfl <| dx rfl <| dx rfl <| dxl rfl <| dx rfl <| dx rfl <| dpkT rfl <| dmv <| dsplitT rfl <| dxl rfl <| dxl rfl <| dx rfl <| dsplitU rfl <| dgnou rfl ?_
    refine dgnou rfl <| dgnou rfl <| dx rfl <| dpkT rfl <| h58 _ _ <| cndT rfl <| seq fun _ h63 => mv <| h63 _ _ <| ⟨(.bool false), rfl, ?_⟩
    have hx : ¬ 1 ≤ V4 := fun h1 => ‹¬ okT _ _ _› ((okK_some (fun hn => by have h9 := (noneK.1 hn).2; dsimp only at h9; omega)).2 (by dsimp only; omega))
    exact ⟨false, toks, _, rfl, hT, by rw [lf_bad4 hI hap.2 h2 hr2 h4 (end_z (b := b) (A := A4) h4.n22 (by omega)) (.inl hx)]; rfl, hM61.keep (by simp)⟩
   refine dgmv rfl <| dgfa rfl rfl <| dgmv rfl <| dgyesl rfl <| dl (m_ld (v := .int .i64 (V3 + 4)) hM61 (i := 3) (j := 0) rfl rfl rfl rfl <| ⟨hh61, dqg rfl (v := .int .i64 ((made + lt.length : Nat) + (V3 + 4))) (o_bin rfl rfl (v_add64 (by omega))) <| dgbn rfl rfl rfl <| dpkF rfl <| dmv <| dsplitP rfl (fun c64 => ?_) (fun c64 => ?_)⟩)
   ·refine dxl rfl <| dxl rfl <| dx rfl <| dsplitU rfl <| dgnou rfl <| dgnou rfl <| dgnou rfl <| dx rfl <| dpkT rfl <| h58 _ _ <| cndT rfl <| seq fun _ h65 => mv <| h65 _ _ ?_
    refine ⟨(.bool false), rfl, ⟨false, toks, _, rfl, hT, by rw [lf_bad4 hI hap.2 h2 hr2 h4 (end_z (b := b) (A := A4) h4.n22 (by omega)) (.inr (by omega))]; rfl, hM61.keep (by simp)⟩⟩
   refine dgyesl rfl <| dl (m_ldA (l := [(.slice a17_ n17_ c17_), .int .i64 V4, .int .i64 (V3 + 4)]) hM61 (i := 3) (j := 0) rfl rfl rfl rfl rfl <| ⟨hh61, dgyesl rfl <| dl (m_call (none_ok (⟨a17_, n17_, c17_, lt, V4, V3 + 4⟩ : Tk) w61) rfl fun v66 w66 ⟨hr66, hu66⟩ => ?_)⟩)
   have hM66 : Mem _ _ w66 [_, _, _, _, _] := hM61.pure hu66
   subst hr66
   have hh66 := held_upd (wr := wd) (bs := [b18]) hu66 (fun b hb => by
    simp only [List.mem_cons, List.not_mem_nil, or_false] at hb
    rw [hb]; exact ⟨(hM61.at (i := 3) (j := 0) rfl rfl).lt, by simp⟩) hh61
   refine ⟨hh66, dgmv rfl <| dsplitP rfl (fun c67 => ?_) (fun c67 => ?_)⟩
   ·refine dgmv rfl <| dgmv rfl <| dqg rfl (v := .bool (decide (¬ ((made + lt.length : Nat) : Int) = (n : Nat)))) (o_bin rfl rfl v_neq) <| dqg rfl (v := .bool (decide (¬ ((made + lt.length : Nat) : Int) = (n : Nat)))) (o_pickT rfl rfl) <| dpkF rfl <| h58 _ _ <| cndP rfl (fun c68 => ?_) (fun c68 => ?_)
    ·refine seq fun _ h69 => mv <| h69 _ _ <| ⟨(.bool false), rfl, absurd (noneK.1 ‹noneT _›).2 (by dsimp only; omega)⟩
    refine h57 _ _ <| seq fun _ h70 => absurd (noneK.1 ‹noneT _›).2 (by dsimp only; omega)
   refine dx rfl <| dx rfl <| dx rfl <| dqg rfl (v := .bool false) (o_pickF rfl rfl) <| dpkF rfl <| h58 _ _ <| cndF rfl <| h57 _ _ <| seq fun _ h71 => ?_
   have hok4 := Decidable.not_not.1 ‹¬ ¬ okT _ _ _›
   have hob := okK_bd hok4
   dsimp only at hob
   refine mv <| fa rfl <| m_ld (v := .int .i64 (V3 + 4)) hM66 (i := 3) (j := 0) rfl rfl rfl rfl <| stp (v := .int .i64 ((made + lt.length : Nat) + (V3 + 4))) (o_bin rfl rfl (v_add64 (by omega))) <| mv <| h71 _ _ <| mv <| m_ldA (l := [(.slice a17_ n17_ c17_), .int .i64 V4, .int .i64 (V3 + 4)]) hM66 (i := 3) (j := 0) rfl rfl rfl rfl rfl <| m_callv rfl (by assumption) (hq w66 (⟨a17_, n17_, c17_, lt, V4, V3 + 4⟩ : Tk) toks rv rs16 hT hs16 (hM66.res2 0 2 rfl rfl (by decide)) hlen (by dsimp only; omega)) rfl fun v72 w72 ⟨rv72, hTn, hm72⟩ => ?_
   have hM72 : Mem _ _ w72 [rv72, _, [], _, _] := hM66.step2 0 2 rfl rfl (by decide) hm72.addNil
   refine h7 (toks ++ [(lt, V4, V3 + 4)], k - 1, A4, made + lt.length + (V3 + 4).toNat, rv72, r'29) _ _ ⟨rfl, vi, vi, rfl, hM72.keep (by simp), by have h9 := hc29; rw [(end_z (b := b) (A := A4) h4.n22 (by omega))] at h9; exact h9, lf_go4 hI h2 hr2 h4 (end_z (b := b) (A := A4) h4.n22 (by omega)) (by omega) (by omega), hTn, lf_len (t := (lt, V4, V3 + 4)) hlen⟩ (by dsimp only; omega)
  refine h22 _ _ <| seq fun _ h73 => seq fun _ h74 => mv <| m_call (End_ok _ b A2 E2 r'16 w24 hc16 (hM24.res (i := 1) rfl)) rfl fun v75 w75 ⟨hr75, hm75⟩ => ?_
  have hM75 : Mem _ _ w75 [_, _, _, _] := hM24.step 1 rfl hm75
  subst hr75
  refine m_al hM75 fun b76 w77 (hM77 : Mem _ _ w77 [_, _, _, _, [⟨b76, 111, [.int .i64 0, .int .i64 0]⟩]]) => m_stA (l := [.int .i64 (endE b A2 E2), .int .i64 (endA b A2 E2 : Nat)]) hM77 (i := 4) rfl rfl rfl rfl (by simp [oneCells, Value.oneCell', byteV]) (by simp) fun w78 (hM78 : Mem _ _ w78 [_, _, _, _, [⟨b76, 111, [.int .i64 (endE b A2 E2), .int .i64 (endA b A2 E2 : Nat)]⟩]]) => h74 _ _ <| seq fun _ h79 => fa rfl <| m_ld (v := .int .i64 (endE b A2 E2)) hM78 (i := 4) (j := 0) rfl rfl rfl rfl <| bneq rfl rfl <| mv <| splitP rfl (fun c80 => ?_) (fun c80 => ?_)
  ·refine gfa rfl rfl <| gyesl rfl <| m_ld (v := .int .i64 (endE b A2 E2)) hM78 (i := 4) (j := 0) rfl rfl rfl rfl <| gbneq rfl rfl rfl <| pkT rfl <| h79 _ _ <| cndP rfl (fun c81 => ?_) (fun c81 => ?_)
   ·refine seq fun _ h82 => mv <| h82 _ _ <| ⟨(.bool false), rfl, ⟨false, toks, _, rfl, hT, by rw [lf_end0 hI hap.2 h2 (end_nz (b := b) (A := A2) (by omega) (by omega))]; rfl, hM78.keep (by simp)⟩⟩
   refine h73 _ _ <| seq fun _ h83 => seq fun _ h84 => ?_
   intro wd e1 e2 e3 e4
   have hd := Upd.same e1 e2 e3 e4 []
   have hM85 := hM78.pure hd
   clear e1 e2 e3 e4
   refine ⟨(some [b18]), ?_⟩
   show vd _ _ _ _ _ _ _
   refine dmv <| dmv <| dqldA (cs := [(.slice a17_ n17_ c17_), .int .i64 0, .int .i64 0]) rfl (by simp [isHeld]) rfl ((hM85.at (i := 3) (j := 0) rfl rfl).agg rfl rfl) <| dl (m_call (Rest_ok _ b A2 E2 r'16 wd hc16 (hM85.res (i := 1) rfl) (by first | omega | (simp; done) | (simp; omega))) rfl fun v86 w86 ⟨hr86, hm86⟩ => ?_)
   have hM86 : Mem w (ids rv0) w86 [rv, r'16, rs16, [⟨b18, 125, [(.slice a17_ n17_ c17_), .int .i64 0, .int .i64 0]⟩], [⟨b76, 111, [.int .i64 (endE b A2 E2), .int .i64 (endA b A2 E2 : Nat)]⟩]] := hM85.step 1 rfl hm86
   subst hr86
   have hh86 := held_upd (wr := wd) (bs := [b18]) hm86.upd (fun b hb => by
    simp only [List.mem_cons, List.not_mem_nil, or_false] at hb
    rw [hb]; exact ⟨(hM85.at (i := 3) (j := 0) rfl rfl).lt, hM85.apart (i := 3) (j := 0) (k := 1) rfl rfl rfl (by decide)⟩) (fun b hb => rfl)
   refine ⟨hh86, dbn rfl rfl <| dl (m_call (right_ok (⟨a17_, n17_, c17_, lt, 0, 0⟩ : Tk) (made + lt.length : Nat) (decide ((restV b A2 E2) = 0)) w86 (hs16.rd hM86 (i := 2) rfl) (by omega)) rfl fun v87 w87 ⟨hr87, hu87⟩ => ?_)⟩
   have hM87 : Mem _ _ w87 [_, _, _, _, _] := hM86.pure hu87
   subst hr87
   have hh87 := held_upd (wr := wd) (bs := [b18]) hu87 (fun b hb => by
    simp only [List.mem_cons, List.not_mem_nil, or_false] at hb
    rw [hb]; exact ⟨(hM86.at (i := 3) (j := 0) rfl rfl).lt, by simp⟩) hh86
   refine ⟨hh87, dq (v := .bool (decide (¬ (okT (⟨a17_, n17_, c17_, lt, 0, 0⟩ : Tk).p (made + lt.length : Nat) (decide ((restV b A2 E2) = 0)))))) (o_not rfl v_not) <| dmv <| dsplitP rfl (fun c88 => ?_) (fun c88 => ?_)⟩
   ·refine dx rfl <| dx rfl <| dx rfl <| dxl rfl <| dx rfl <| dx rfl <| dpkT rfl <| dmv <| dsplitT rfl <| dxl rfl <| dxl rfl <| dx rfl <| dsplitU rfl <| dgnou rfl ?_
    refine dgnou rfl <| dgnou rfl <| dx rfl <| dpkT rfl <| h84 _ _ <| cndT rfl <| seq fun _ h89 => mv <| h89 _ _ <| ⟨(.bool false), rfl, ?_⟩
    have hx : lt.length = 0 := Decidable.byContradiction fun h => ‹¬ okT _ _ _› ((okK_none (noneK.2 ⟨rfl, rfl⟩)).2 ⟨decide_eq_true (rest_0 (by assumption)), by dsimp only; omega⟩)
    exact ⟨false, toks, _, rfl, hT, by rw [lf_bad0 hI hap.2 h2 (end_z (b := b) (A := A2) h2.n22 (by omega)) (by have := rest_zero (b := b) (a := A2) (e := E2) (by assumption); have := (end_z (b := b) (A := A2) h2.n22 (by omega)); omega) (.inl hx)]; rfl, hM87.keep (by simp)⟩
   refine dgmv rfl <| dgfa rfl rfl <| dgmv rfl <| dgyesl rfl <| dl (m_ld (v := .int .i64 0) hM87 (i := 3) (j := 0) rfl rfl rfl rfl <| ⟨hh87, dqg rfl (v := .int .i64 ((made + lt.length : Nat) + 0)) (o_bin rfl rfl (v_add64 (by omega))) <| dgbn rfl rfl rfl <| dpkF rfl <| dmv <| dsplitP rfl (fun c90 => ?_) (fun c90 => ?_)⟩)
   ·refine dxl rfl <| dxl rfl <| dx rfl <| dsplitU rfl <| dgnou rfl <| dgnou rfl <| dgnou rfl <| dx rfl <| dpkT rfl <| h84 _ _ <| cndT rfl <| seq fun _ h91 => mv <| h91 _ _ ?_
    refine ⟨(.bool false), rfl, ?_⟩
    exfalso
    omega
   refine dgyesl rfl <| dl (m_ldA (l := [(.slice a17_ n17_ c17_), .int .i64 0, .int .i64 0]) hM87 (i := 3) (j := 0) rfl rfl rfl rfl rfl <| ⟨hh87, dgyesl rfl <| dl (m_call (none_ok (⟨a17_, n17_, c17_, lt, 0, 0⟩ : Tk) w87) rfl fun v92 w92 ⟨hr92, hu92⟩ => ?_)⟩)
   have hM92 : Mem _ _ w92 [_, _, _, _, _] := hM87.pure hu92
   subst hr92
   have hh92 := held_upd (wr := wd) (bs := [b18]) hu92 (fun b hb => by
    simp only [List.mem_cons, List.not_mem_nil, or_false] at hb
    rw [hb]; exact ⟨(hM87.at (i := 3) (j := 0) rfl rfl).lt, by simp⟩) hh87
   refine ⟨hh92, dgmv rfl <| dsplitP rfl (fun c93 => ?_) (fun c93 => ?_)⟩
   ·refine dgmv rfl <| dgmv rfl <| dqg rfl (v := .bool (decide (¬ ((made + lt.length : Nat) : Int) = (n : Nat)))) (o_bin rfl rfl v_neq) <| dqg rfl (v := .bool (decide (¬ ((made + lt.length : Nat) : Int) = (n : Nat)))) (o_pickT rfl rfl) <| dpkF rfl <| h84 _ _ <| cndP rfl (fun c94 => ?_) (fun c94 => ?_)
    ·refine seq fun _ h95 => mv <| h95 _ _ <| ⟨(.bool false), rfl, ⟨false, toks, _, rfl, hT, by rw [lf_bad0 hI hap.2 h2 (end_z (b := b) (A := A2) h2.n22 (by omega)) (by have := rest_zero (b := b) (a := A2) (e := E2) (by assumption); have := (end_z (b := b) (A := A2) h2.n22 (by omega)); omega) (.inr (by omega))]; rfl, hM92.keep (by simp)⟩⟩
    refine h83 _ _ <| seq fun _ h96 => ?_
    have hok4 := Decidable.not_not.1 ‹¬ ¬ okT _ _ _›
    have hob := okK_bd hok4
    dsimp only at hob
    refine mv <| fa rfl <| m_ld (v := .int .i64 0) hM92 (i := 3) (j := 0) rfl rfl rfl rfl <| stp (v := .int .i64 ((made + lt.length : Nat) + 0)) (o_bin rfl rfl (v_add64 (by omega))) <| mv <| h96 _ _ <| mv <| m_ldA (l := [(.slice a17_ n17_ c17_), .int .i64 0, .int .i64 0]) hM92 (i := 3) (j := 0) rfl rfl rfl rfl rfl <| m_callv rfl (by assumption) (hq w92 (⟨a17_, n17_, c17_, lt, 0, 0⟩ : Tk) toks rv rs16 hT hs16 (hM92.res2 0 2 rfl rfl (by decide)) hlen (by dsimp only; omega)) rfl fun v97 w97 ⟨rv97, hTn, hm97⟩ => ?_
    have hM97 : Mem _ _ w97 [rv97, _, [], _, _] := hM92.step2 0 2 rfl rfl (by decide) hm97.addNil
    refine h7 (toks ++ [(lt, 0, 0)], 1, A2, n, rv97, r'16) _ _ ⟨rfl, vi, vi, rfl, hM97.keep (by simp), by have h9 := hc16; rw [(end_z (b := b) (A := A2) h2.n22 (by omega))] at h9; exact h9, lf_go0 hI hap.2 h2 (end_z (b := b) (A := A2) h2.n22 (by omega)) (by have := rest_zero (b := b) (a := A2) (e := E2) (by assumption); have := (end_z (b := b) (A := A2) h2.n22 (by omega)); omega) (by omega) (by omega), hTn, by have := lf_len (t := (lt, 0, 0)) hlen; dsimp only at this; omega⟩ (by dsimp only; omega)
   refine dx rfl <| dx rfl <| dx rfl <| dqg rfl (v := .bool false) (o_pickF rfl rfl) <| dpkF rfl <| h84 _ _ <| cndF rfl <| h83 _ _ <| seq fun _ h98 => absurd (noneK.2 ⟨rfl, rfl⟩) ‹¬ noneT _›
  refine gx rfl <| gxl rfl <| gx rfl <| pkF rfl <| h79 _ _ <| cndF rfl <| h73 _ _ <| seq fun _ h99 => seq fun _ h100 => ?_
  intro wd e1 e2 e3 e4
  have hd := Upd.same e1 e2 e3 e4 []
  have hM101 := hM78.pure hd
  clear e1 e2 e3 e4
  refine ⟨(some [b18]), ?_⟩
  show vd _ _ _ _ _ _ _
  refine dmv <| dmv <| dqldA (cs := [(.slice a17_ n17_ c17_), .int .i64 0, .int .i64 0]) rfl (by simp [isHeld]) rfl ((hM101.at (i := 3) (j := 0) rfl rfl).agg rfl rfl) <| dl (m_call (Rest_ok _ b A2 E2 r'16 wd hc16 (hM101.res (i := 1) rfl) (by first | omega | (simp; done) | (simp; omega))) rfl fun v102 w102 ⟨hr102, hm102⟩ => ?_)
  have hM102 : Mem w (ids rv0) w102 [rv, r'16, rs16, [⟨b18, 125, [(.slice a17_ n17_ c17_), .int .i64 0, .int .i64 0]⟩], [⟨b76, 111, [.int .i64 (endE b A2 E2), .int .i64 (endA b A2 E2 : Nat)]⟩]] := hM101.step 1 rfl hm102
  subst hr102
  have hh102 := held_upd (wr := wd) (bs := [b18]) hm102.upd (fun b hb => by
   simp only [List.mem_cons, List.not_mem_nil, or_false] at hb
   rw [hb]; exact ⟨(hM101.at (i := 3) (j := 0) rfl rfl).lt, hM101.apart (i := 3) (j := 0) (k := 1) rfl rfl rfl (by decide)⟩) (fun b hb => rfl)
  refine ⟨hh102, dbn rfl rfl <| dl (m_call (right_ok (⟨a17_, n17_, c17_, lt, 0, 0⟩ : Tk) (made + lt.length : Nat) (decide ((restV b A2 E2) = 0)) w102 (hs16.rd hM102 (i := 2) rfl) (by omega)) rfl fun v103 w103 ⟨hr103, hu103⟩ => ?_)⟩
  have hM103 : Mem _ _ w103 [_, _, _, _, _] := hM102.pure hu103
  subst hr103
  have hh103 := held_upd (wr := wd) (bs := [b18]) hu103 (fun b hb => by
   simp only [List.mem_cons, List.not_mem_nil, or_false] at hb
   rw [hb]; exact ⟨(hM102.at (i := 3) (j := 0) rfl rfl).lt, by simp⟩) hh102
  refine ⟨hh103, dq (v := .bool (decide (¬ (okT (⟨a17_, n17_, c17_, lt, 0, 0⟩ : Tk).p (made + lt.length : Nat) (decide ((restV b A2 E2) = 0)))))) (o_not rfl v_not) <| dmv <| dsplitP rfl (fun c104 => ?_) (fun c104 => ?_)⟩
  ·refine dx rfl <| dx rfl <| dx rfl <| dxl rfl <| dx rfl <| dx rfl <| dpkT rfl <| dmv <| dsplitT rfl <| dxl rfl <| dxl rfl <| dx rfl <| dsplitU rfl <| dgnou rfl ?_
   refine dgnou rfl <| dgnou rfl <| dx rfl <| dpkT rfl <| h100 _ _ <| cndT rfl <| seq fun _ h105 => mv <| h105 _ _ <| ⟨(.bool false), rfl, ?_⟩
   have hx : lt.length = 0 := Decidable.byContradiction fun h => ‹¬ okT _ _ _› ((okK_none (noneK.2 ⟨rfl, rfl⟩)).2 ⟨decide_eq_true (rest_0 (by assumption)), by dsimp only; omega⟩)
   exact ⟨false, toks, _, rfl, hT, by rw [lf_bad0 hI hap.2 h2 (end_z (b := b) (A := A2) h2.n22 (by omega)) (by have := rest_zero (b := b) (a := A2) (e := E2) (by assumption); have := (end_z (b := b) (A := A2) h2.n22 (by omega)); omega) (.inl hx)]; rfl, hM103.keep (by simp)⟩
  refine dgmv rfl <| dgfa rfl rfl <| dgmv rfl <| dgyesl rfl <| dl (m_ld (v := .int .i64 0) hM103 (i := 3) (j := 0) rfl rfl rfl rfl <| ⟨hh103, dqg rfl (v := .int .i64 ((made + lt.length : Nat) + 0)) (o_bin rfl rfl (v_add64 (by omega))) <| dgbn rfl rfl rfl <| dpkF rfl <| dmv <| dsplitP rfl (fun c106 => ?_) (fun c106 => ?_)⟩)
  ·refine dxl rfl <| dxl rfl <| dx rfl <| dsplitU rfl <| dgnou rfl <| dgnou rfl <| dgnou rfl <| dx rfl <| dpkT rfl <| h100 _ _ <| cndT rfl <| seq fun _ h107 => mv <| h107 _ _ ?_
   refine ⟨(.bool false), rfl, ?_⟩
   exfalso
   omega
  refine dgyesl rfl <| dl (m_ldA (l := [(.slice a17_ n17_ c17_), .int .i64 0, .int .i64 0]) hM103 (i := 3) (j := 0) rfl rfl rfl rfl rfl <| ⟨hh103, dgyesl rfl <| dl (m_call (none_ok (⟨a17_, n17_, c17_, lt, 0, 0⟩ : Tk) w103) rfl fun v108 w108 ⟨hr108, hu108⟩ => ?_)⟩)
  have hM108 : Mem _ _ w108 [_, _, _, _, _] := hM103.pure hu108
  subst hr108
  have hh108 := held_upd (wr := wd) (bs := [b18]) hu108 (fun b hb => by
   simp only [List.mem_cons, List.not_mem_nil, or_false] at hb
   rw [hb]; exact ⟨(hM103.at (i := 3) (j := 0) rfl rfl).lt, by simp⟩) hh103
  refine ⟨hh108, dgmv rfl <| dsplitP rfl (fun c109 => ?_) (fun c109 => ?_)⟩
  ·refine dgmv rfl <| dgmv rfl <| dqg rfl (v := .bool (decide (¬ ((made + lt.length : Nat) : Int) = (n : Nat)))) (o_bin rfl rfl v_neq) <| dqg rfl (v := .bool (decide (¬ ((made + lt.length : Nat) : Int) = (n : Nat)))) (o_pickT rfl rfl) <| dpkF rfl <| h100 _ _ <| cndP rfl (fun c110 => ?_) (fun c110 => ?_)
   ·refine seq fun _ h111 => mv <| h111 _ _ <| ⟨(.bool false), rfl, ⟨false, toks, _, rfl, hT, by rw [lf_bad0 hI hap.2 h2 (end_z (b := b) (A := A2) h2.n22 (by omega)) (by have := rest_zero (b := b) (a := A2) (e := E2) (by assumption); have := (end_z (b := b) (A := A2) h2.n22 (by omega)); omega) (.inr (by omega))]; rfl, hM108.keep (by simp)⟩⟩
   refine h99 _ _ <| seq fun _ h112 => ?_
   have hok4 := Decidable.not_not.1 ‹¬ ¬ okT _ _ _›
   have hob := okK_bd hok4
   dsimp only at hob
   refine mv <| fa rfl <| m_ld (v := .int .i64 0) hM108 (i := 3) (j := 0) rfl rfl rfl rfl <| stp (v := .int .i64 ((made + lt.length : Nat) + 0)) (o_bin rfl rfl (v_add64 (by omega))) <| mv <| h112 _ _ <| mv <| m_ldA (l := [(.slice a17_ n17_ c17_), .int .i64 0, .int .i64 0]) hM108 (i := 3) (j := 0) rfl rfl rfl rfl rfl <| m_callv rfl (by assumption) (hq w108 (⟨a17_, n17_, c17_, lt, 0, 0⟩ : Tk) toks rv rs16 hT hs16 (hM108.res2 0 2 rfl rfl (by decide)) hlen (by dsimp only; omega)) rfl fun v113 w113 ⟨rv113, hTn, hm113⟩ => ?_
   have hM113 : Mem _ _ w113 [rv113, _, [], _, _] := hM108.step2 0 2 rfl rfl (by decide) hm113.addNil
   refine h7 (toks ++ [(lt, 0, 0)], 1, A2, n, rv113, r'16) _ _ ⟨rfl, vi, vi, rfl, hM113.keep (by simp), by have h9 := hc16; rw [(end_z (b := b) (A := A2) h2.n22 (by omega))] at h9; exact h9, lf_go0 hI hap.2 h2 (end_z (b := b) (A := A2) h2.n22 (by omega)) (by have := rest_zero (b := b) (a := A2) (e := E2) (by assumption); have := (end_z (b := b) (A := A2) h2.n22 (by omega)); omega) (by omega) (by omega), hTn, by have := lf_len (t := (lt, 0, 0)) hlen; dsimp only at this; omega⟩ (by dsimp only; omega)
  refine dx rfl <| dx rfl <| dx rfl <| dqg rfl (v := .bool false) (o_pickF rfl rfl) <| dpkF rfl <| h100 _ _ <| cndF rfl <| h99 _ _ <| seq fun _ h114 => absurd (noneK.2 ⟨rfl, rfl⟩) ‹¬ noneT _›
 refine h5 _ _ <| seq fun _ h115 => mv <| mv <| bn rfl rfl <| mv <| splitP rfl (fun c116 => ?_) (fun c116 => ?_)
 ·refine gmv rfl <| gyesl rfl <| m_call (End_ok _ b a 0 rc w10 hcl (hM10.res (i := 1) rfl)) rfl fun v117 w117 ⟨hr117, hm117⟩ => ?_
  have hM117 : Mem _ _ w117 [_, _] := hM10.step 1 rfl hm117
  subst hr117
  refine stg rfl (v := .int .i64 (endE b a 0)) (o_fld rfl rfl) <| gbn rfl rfl rfl <| pkT rfl <| mv <| h115 _ _ <| ⟨(.bool (decide ((endE b a 0) = 0))), rfl, ?_⟩
  have hz := rest_zero (b := b) (a := a) (e := 0) (by assumption)
  have hia := hI.a
  obtain rfl : a = b.length := by omega
  obtain rfl : made = n := by omega
  have he0 : endE b b.length 0 = 0 := by unfold endE; rw [if_neg (by omega), if_neg (by omega)]
  exact ⟨true, toks, _, by rw [decide_eq_true he0], hT, by rw [hI.done]; rfl, hM117.keep (by simp)⟩
 refine gx rfl <| gxl rfl <| gx rfl <| gx rfl <| pkF rfl <| mv <| h115 _ _ <| ⟨(.bool false), rfl, ?_⟩
 have hz := rest_zero (b := b) (a := a) (e := 0) (by assumption)
 have hia := hI.a
 obtain rfl : a = b.length := by omega
 exact ⟨false, toks, _, rfl, hT, by rw [hI.short (by omega)]; rfl, hM10.keep (by simp)⟩
end Go.Proofs.YtifnmbmijljhfaaGreat.E.Lz
namespace Go.Proofs.YtifnmbmijljhfaaGreat.E.Lz
open Go
def TxS (bc : Nat) (toks : List Pk) (rv : List Ent) : Prop := ∃ v rb, rv = ⟨bc, 31, [v]⟩ :: rb ∧ SlE byteV 5 v (textP toks) rb
def TkS (bc : Nat) (toks : List Pk) (rv : List Ent) : Prop := ∃ v us rA rB, rv = ⟨bc, 999, [v]⟩ :: (rA ++ rB) ∧ SlS tokC 3 125 v us rA ∧ Nst (OwnP byteV 5 Tk.lit Tk.bs) us rB ∧ us.map Tk.p = toks ∧ toks.length ≤ lenP toks
theorem dec1_ok (bc : Nat) (w : World) (t : Tk) (toks : List Pk) (rv rl : List Ent) (hT : TxS bc toks rv) (hl : SlE byteV 5 t.lit t.bs rl) (hr : Res w (rv ++ rl)) {made : Nat} (hm : made = lenP toks) (hc : 0 ≤ t.n ∧ t.n ≤ 259 ∧ 0 ≤ t.d ∧ t.d ≤ 32768 ∧ (0 < t.n → 1 ≤ t.d ∧ t.d ≤ (made : Int) + (t.bs.length : Nat)) ∧ (made : Int) + (t.bs.length : Nat) + t.n ≤ 65536 ∧ 1 ≤ ((t.bs.length : Nat) : Int) + t.n) : Calls Tryz.prog 84 [.agg (tokC t).toArray, .pointer (some ⟨bc, 0, none⟩)].toArray w (Rt fun _ w' => ∃ rv', TxS bc (toks ++ [t.p]) rv' ∧ Mem w (ids (rv ++ rl)) w' [rv']) := by
 obtain ⟨v, rb, rfl, hs⟩ := hT
 have htl := textP_len toks
 have hM0 : Mem w (ids (⟨bc, 31, [v]⟩ :: rb ++ rl)) w [[⟨bc, 31, [v]⟩], rb, rl] := (Mem.start hr).keep (by simp)
 refine calls_vc mixed Tryz.func84 rfl C84 (by simp [Tryz.ntmps84]) <| seq fun _ h1 => m_bx (v := .agg ([t.lit, .int .i64 t.d, .int .i64 t.n] : List Value).toArray) hM0 rfl rfl fun b2 w3 (hM3 : Mem _ _ w3 [_, _, _, [⟨b2, 125, [t.lit, .int .i64 t.d, .int .i64 t.n]⟩]]) => h1 _ _ ?_
 intro wd e1 e2 e3 e4
 have hd := Upd.same e1 e2 e3 e4 []
 have hM4 := hM3.pure hd
 clear e1 e2 e3 e4
 refine ⟨(some [b2]), ?_⟩
 show vd _ _ _ _ _ _ _
 refine dfa rfl <| dfa rfl <| dfa rfl <| dqld rfl (by simp [isHeld]) (v := .int .i64 t.n) ((hM4.at (i := 3) (j := 0) rfl rfl).cell 2) <| dqld rfl (by simp [isHeld]) (v := .int .i64 t.d) ((hM4.at (i := 3) (j := 0) rfl rfl).cell 1) <| dqld rfl (by simp [isHeld]) (v := t.lit) ((hM4.at (i := 3) (j := 0) rfl rfl).cell 0) <| dl (m_ld (v := v) hM4 (i := 0) (j := 0) rfl rfl rfl rfl <| ⟨(fun b hb => rfl), dl (m_appEU hM4 (i := 1) rfl hs rfl rfl (hl.rd hM4 (i := 2) rfl) (by first | omega | (simp; omega)) (by omega) fun v5 w5 r5 (hs5 : SlE byteV 5 v5 ((textP toks) ++ t.bs) r5) hup5 (hM5 : Mem w (ids (⟨bc, 31, [v]⟩ :: rb ++ rl)) w5 [[⟨bc, 31, [v]⟩], r5, rl, [⟨b2, 125, [t.lit, .int .i64 t.d, .int .i64 t.n]⟩]]) => ?_)⟩)
 have hh5 := held_upd (wr := wd) (bs := [b2]) hup5 (fun b hb => by
  simp only [List.mem_cons, List.not_mem_nil, or_false] at hb
  rw [hb]; exact ⟨(hM4.at (i := 3) (j := 0) rfl rfl).lt, hM4.apart (i := 3) (j := 0) (k := 1) rfl rfl rfl (by decide)⟩) (fun b hb => rfl)
 refine ⟨hh5, dl (m_call (again_ok _ ((textP toks) ++ t.bs) t.d t.n r5 w5 hs5 (hM5.res (i := 1) rfl) (by first | omega | (simp only [List.length_append]; omega)) (by omega) (by intro _; rw [List.length_append]; omega)) rfl fun v6 w6 ⟨r'6, hs6, hm6⟩ => ?_)⟩
 have hM6 : Mem _ _ w6 [_, r'6, _, _] := hM5.step 1 rfl hm6
 have hh6 := held_upd (wr := wd) (bs := [b2]) hm6.upd (fun b hb => by
  simp only [List.mem_cons, List.not_mem_nil, or_false] at hb
  rw [hb]; exact ⟨(hM5.at (i := 3) (j := 0) rfl rfl).lt, hM5.apart (i := 3) (j := 0) (k := 1) rfl rfl rfl (by decide)⟩) hh5
 refine ⟨hh6, dl (m_stU (v := v6) hM6 (i := 0) rfl rfl rfl (Sl.one hs6) (by simp) fun w7 hup7 (hM7 : Mem _ _ w7 [[⟨bc, 31, [v6]⟩], _, _, _]) => ?_)⟩
 have hh7 := held_upd (wr := wd) (bs := [b2]) hup7 (fun b hb => by
  simp only [List.mem_cons, List.not_mem_nil, or_false] at hb
  rw [hb]; exact ⟨(hM6.at (i := 3) (j := 0) rfl rfl).lt, hM6.apart (i := 3) (j := 0) (k := 0) rfl rfl rfl (by decide)⟩) hh6
 refine ⟨hh7, ⟨(.tuple [].toArray), rfl, ⟨_, ⟨_, _, rfl, by rw [textP_app]; exact hs6⟩, hM7.keep (by simp)⟩⟩⟩
theorem read_okI (x : Value) (b : List UInt8) (n : Int) (g : FuncId) (caps : List Value) (T : List Pk → List Ent → Prop) (rv0 : List Ent) (w : World) (hx : RdE byteV w x b) (hl : b.length ≤ 140737488355328) (h0 : 0 ≤ n) (hn : n ≤ 65536) (hr : Res w rv0) (hT0 : T [] rv0) (ho : okFn Tryz.prog g = true) (hq : ∀ (wc : World) (t : Tk) (toks : List Pk) (rv rl : List Ent), T toks rv → SlE byteV 5 t.lit t.bs rl → Res wc (rv ++ rl) → ∀ {made : Nat}, made = lenP toks → (0 ≤ t.n ∧ t.n ≤ 259 ∧ 0 ≤ t.d ∧ t.d ≤ 32768 ∧ (0 < t.n → 1 ≤ t.d ∧ t.d ≤ (made : Int) + (t.bs.length : Nat)) ∧ (made : Int) + (t.bs.length : Nat) + t.n ≤ 65536 ∧ 1 ≤ ((t.bs.length : Nat) : Int) + t.n) → Calls Tryz.prog g (Value.agg (tokC t).toArray :: caps).toArray wc (Rt fun _ w' => ∃ rv', T (toks ++ [t.p]) rv' ∧ Mem wc (ids (rv ++ rl)) w' [rv'])) : Calls Tryz.prog 83 [x, .int .i64 n, .func (.func g) #[] caps.toArray].toArray w (Rt fun r w' => ∃ ok toks rv', r = .bool ok ∧ T toks rv' ∧ (if ok then some toks else none) = rdF b n.toNat ∧ Mem w (ids rv0) w' [rv']) := by
 have h := read_ok x b n.toNat g caps T rv0 w hx hl (by omega) hr hT0 ho hq
 rw [Int.toNat_of_nonneg h0] at h
 exact h
theorem TxS.nil (bc : Nat) : TxS bc [] [⟨bc, 31, [.slice none 0 0]⟩] := ⟨_, [], rfl, Sl.nil 1 5⟩
theorem TkS.nil (bc : Nat) : TkS bc [] [⟨bc, 999, [.slice none 0 0]⟩] := ⟨_, [], [], [], rfl, Sl.nil 3 125, Nst.nil, rfl, by simp⟩
theorem decF_arg {b : List UInt8} {n : Int} (h : n < 0 ∨ 65536 < n) : decF b n = ([], 3) := by rw [decF_no (by rw [tksF_arg h]; simp), tksF_arg h]
theorem decF_none {b : List UInt8} {n : Int} (h : ¬ (n < 0 ∨ 65536 < n)) (h1 : rdF b n.toNat = none) : decF b n = ([], 30) := by rw [decF_no (by rw [tksF_none h h1]; simp), tksF_none h h1]
theorem decF_some {b : List UInt8} {n : Int} {ps : List Pk} (h : ¬ (n < 0 ∨ 65536 < n)) (h1 : rdF b n.toNat = some ps) : decF b n = (textP ps, 0) := by rw [decF_yes (by rw [tksF_some h h1]), tksF_some h h1]
theorem Decode_ok (x : Value) (b : List UInt8) (n : Int) (w : World) (hx : RdE byteV w x b) (hl : b.length ≤ 140737488355328) (hn : inK .i64 n) : Calls Tryz.prog 54 [x, .int .i64 n].toArray w (Rt fun r w' => ∃ v rs, r = .tuple [v, .int .i64 (decF b n).2].toArray ∧ SlE byteV 5 v (decF b n).1 rs ∧ Mem w [] w' [rs]) := by
 have hM0 : Mem w [] w [] := Mem.nil w []
 simp only [inK] at hn
 refine calls_vc mixed Tryz.func54 rfl C54 (by simp [Tryz.ntmps54]) <| seq fun _ h1 => mv <| mv <| h1 _ _ <| seq fun _ h2 => seq fun _ h3 => mv <| bn rfl rfl <| mv <| splitP rfl (fun c4 => ?_) (fun c4 => ?_)
 ·refine gx rfl <| gx rfl <| pkT rfl <| h3 _ _ <| cndT rfl <| seq fun _ h5 => mv <| mv <| h5 _ _ <| ⟨(.tuple [.slice none 0 0, .int .i64 3].toArray), rfl, ?_⟩
  have he := decF_arg (b := b) (n := n) (by omega)
  exact ⟨.slice none 0 0, [], by rw [he], by rw [he]; exact Sl.nil 1 5, hM0.keep (by simp)⟩
 refine gmv rfl <| gbn rfl rfl rfl <| pkF rfl <| h3 _ _ <| cndP rfl (fun c6 => ?_) (fun c6 => ?_)
 ·refine seq fun _ h7 => mv <| mv <| h7 _ _ <| ⟨(.tuple [.slice none 0 0, .int .i64 3].toArray), rfl, ?_⟩
  have he := decF_arg (b := b) (n := n) (by omega)
  exact ⟨.slice none 0 0, [], by rw [he], by rw [he]; exact Sl.nil 1 5, hM0.keep (by simp)⟩
 refine h2 _ _ <| seq fun _ h8 => m_al hM0 fun b9 w10 (hM10 : Mem _ _ w10 [[⟨b9, 31, [.slice none 0 0]⟩]]) => h8 _ _ <| seq fun _ h11 => seq fun _ h12 => mv <| mv <| stp (v := .func (.func 84) [].toArray [.pointer (some ⟨b9, 0, none⟩)].toArray) (o_mkf rfl) <| m_call (read_okI _ b n 84 [.pointer (some ⟨b9, 0, none⟩)] (TxS b9) _ w10 (hx.upd hM10.upd) (by omega) (by omega) (by omega) (hM10.res (i := 0) rfl) (TxS.nil _) (by kernel_rfl) (fun wc t toks rv rl hT hl hr _ hm hc => dec1_ok _ wc t toks rv rl hT hl hr hm hc)) rfl fun v13 w13 ⟨okq, tq, rv13, hr13, hT13, hq, hm13⟩ => ?_
 obtain ⟨v, rb, rfl, hs⟩ := hT13
 have hM13 : Mem _ _ w13 [[⟨b9, 31, [v]⟩], rb] := (hM10.step 0 rfl hm13).perm (by simp)
 subst hr13
 refine stp (v := .bool (!okq)) (o_not rfl rfl) <| h12 _ _ <| cnd rfl (fun hwT => ?_) (fun hwF => ?_)
 ·refine seq fun _ h15 => mv <| mv <| h15 _ _ <| ⟨(.tuple [.slice none 0 0, .int .i64 30].toArray), rfl, ?_⟩
  have hok : okq = false := by simpa using hwT
  rw [hok] at hq
  have he := decF_none (b := b) (n := n) (by omega) hq.symm
  exact ⟨.slice none 0 0, [], by rw [he], by rw [he]; exact Sl.nil 1 5, hM13.keep (by simp)⟩
 refine h11 _ _ <| seq fun _ h16 => m_ld (v := v) hM13 (i := 0) (j := 0) rfl rfl rfl rfl <| mv <| mv <| h16 _ _ <| ⟨(.tuple [v, .int .i64 0].toArray), rfl, ?_⟩
 have hok : okq = true := by simpa using hwF
 rw [hok, if_pos rfl] at hq
 have he := decF_some (b := b) (n := n) (by omega) hq.symm
 exact ⟨_, _, by rw [he], by rw [he]; exact hs, hM13.keep (by simp)⟩
end Go.Proofs.YtifnmbmijljhfaaGreat.E.Lz
namespace Go.Proofs.YtifnmbmijljhfaaGreat.E.Lz
open Go
def numR (b : List UInt8) (a : Nat) : Int := if nE b a = 0 ∧ nV b a ≤ 65536 then (nV b a : Nat) else -1
def numN (b : List UInt8) (a : Nat) : Nat := if nE b a = 0 ∧ nV b a ≤ 65536 then a + nK b a else a
theorem numR_no {b : List UInt8} {a : Nat} (h : ¬ (nE b a = 0 ∧ nV b a ≤ 65536)) : numR b a = -1 ∧ numN b a = a := by unfold numR numN; rw [if_neg h, if_neg h]; exact ⟨rfl, rfl⟩
theorem numR_yes {b : List UInt8} {a : Nat} (h : nE b a = 0) (h2 : nV b a ≤ 65536) : numR b a = (nV b a : Nat) ∧ numN b a = a + nK b a := by unfold numR numN; rw [if_pos ⟨h, h2⟩, if_pos ⟨h, h2⟩]; exact ⟨rfl, rfl⟩
theorem numR_cases {b : List UInt8} {a : Nat} (ha : a ≤ b.length) : (numR b a < 0 ∧ ¬ (nE b a = 0 ∧ nV b a ≤ 65536) ∧ numN b a = a) ∨ (0 ≤ numR b a ∧ nE b a = 0 ∧ nV b a ≤ 65536 ∧ numR b a = (nV b a : Nat) ∧ numN b a = a + nK b a ∧ a + nK b a ≤ b.length) := by
 by_cases c : nE b a = 0 ∧ nV b a ≤ 65536
 ·have := numR_yes c.1 c.2
  exact .inr ⟨by omega, c.1, c.2, this.1, this.2, nK_le ha⟩
 have := numR_no c
 exact .inl ⟨by omega, c, this.2⟩
theorem number_ok (x : Value) (b : List UInt8) (a : Nat) (w : World) (hx : RdE byteV w x b) (hl : b.length ≤ 140737488355328) (ha : a ≤ b.length) : Calls Tryz.prog 126 [x, .int .i64 ((a : Nat) : Int)].toArray w (Rt fun r w' => r = .tuple [.int .i64 (numR b a), .int .i64 ((numN b a : Nat) : Int)].toArray ∧ Upd [] w w') := by
 have hM0 : Mem w [] w [] := Mem.nil w []
 have hkk := nK_le ha
 unfold nK at hkk
 refine calls_vc mixed Tryz.func126 rfl C126 (by simp [Tryz.ntmps126]) <| seq fun _ h1 => mv <| mv <| h1 _ _ <| seq fun _ h2 => mv <| mv <| m_slcE a b.length (hx) rfl (by omega) (by omega) rfl ⟨_, rfl⟩ fun u3 hu3 => ?_
 have hu3' : RdE byteV w u3 (b.drop a) := by
  have e : (b.take b.length).drop a = (b.drop a) := by rw [List.take_length]
  rw [e] at hu3; exact hu3
 refine m_call (refGet_ok _ (b.drop a) w ((hu3'.upd hM0.upd)) (by first | omega | (simp; done) | (simp; omega))) rfl fun v4 w4 ⟨hr4, hu4⟩ => ?_
 have hM4 : Mem _ _ w4 [] := hM0.pure hu4
 subst hr4
 refine mv <| ext rfl rfl <| ext rfl rfl <| ext rfl rfl <| mv <| mv <| mv <| h2 _ _ <| seq fun _ h5 => seq fun _ h6 => mv <| bneq rfl rfl <| mv <| splitP rfl (fun c7 => ?_) (fun c7 => ?_)
 ·refine gx rfl <| gx rfl <| pkT rfl <| h6 _ _ <| cndT rfl <| seq fun _ h8 => mv <| mv <| mv <| h8 _ _ <| ⟨(.tuple [.int .i64 (-1), .int .i64 (a : Nat)].toArray), rfl, ?_⟩
  have h := numR_no (b := b) (a := a) (by unfold nE nV; omega)
  exact ⟨by rw [h.1, h.2], hM4.upd⟩
 refine gmv rfl <| gbn rfl rfl rfl <| pkF rfl <| h6 _ _ <| cndP rfl (fun c9 => ?_) (fun c9 => ?_)
 ·refine seq fun _ h10 => mv <| mv <| mv <| h10 _ _ <| ⟨(.tuple [.int .i64 (-1), .int .i64 (a : Nat)].toArray), rfl, ?_⟩
  have h := numR_no (b := b) (a := a) (by unfold nE nV; omega)
  exact ⟨by rw [h.1, h.2], hM4.upd⟩
 refine h5 _ _ <| seq fun _ h11 => mv <| mv <| mv <| stp (v := .int .i64 ((a : Nat) + ((get (b.drop a)).2.1 : Nat))) (o_bin rfl rfl (v_add64 (by omega))) <| mv <| mv <| h11 _ _ <| ⟨(.tuple [.int .i64 ((get (b.drop a)).1 : Nat), .int .i64 ((a : Nat) + ((get (b.drop a)).2.1 : Nat))].toArray), rfl, ?_⟩
 have h := numR_yes (b := b) (a := a) (by unfold nE; omega) (by unfold nV; omega)
 exact ⟨by rw [h.1, h.2]; rfl, hM4.upd⟩
theorem number_okN (x : Value) (b : List UInt8) (a a' : Nat) (w : World) (hx : RdE byteV w x b) (hl : b.length ≤ 140737488355328) (ha : a ≤ b.length) (he : a' = a) : Calls Tryz.prog 126 [x, .int .i64 ((a' : Nat) : Int)].toArray w (Rt fun r w' => r = .tuple [.int .i64 (numR b a), .int .i64 ((numN b a : Nat) : Int)].toArray ∧ Upd [] w w') := by
 subst he; exact number_ok x b a' w hx hl ha
theorem okT_conv {t : Pk} {m m' : Int} {l l' : Bool} (hn : ¬ noneT t) (hm : m = m') (h : okT t m l) : okT t m' l' := by
 subst hm; exact (okT_some hn).2 ((okT_some hn).1 h)
def RdJ (b : List UInt8) (n : Nat) (toks : List Pk) (k a made : Nat) : Prop := RdI b n toks k a made ∨ (rdF b n = none ∧ made = n ∧ ¬ a = b.length ∧ a ≤ b.length)
section
variable {b : List UInt8} {n k a made : Nat} {toks : List Pk}
theorem RdJ.m (h : RdJ b n toks k a made) : made ≤ n := by
 rcases h with h | h
 ·exact h.m
 omega
theorem RdJ.al (h : RdJ b n toks k a made) : a ≤ b.length := by
 rcases h with h | h
 ·exact h.a
 exact h.2.2.2
theorem RdJ.lt (h : RdJ b n toks k a made) (hm : made < n) : RdI b n toks k a made := by
 rcases h with h | h
 ·exact h
 omega
theorem RdJ.no (h : RdJ b n toks k a made) (hm : n ≤ made) (ha : ¬ a = b.length) : rdF b n = none := by
 rcases h with h | h
 ·have := h.m; have := h.a
  obtain rfl : made = n := by omega
  exact h.over (by omega)
 exact h.1
theorem RdJ.done (h : RdJ b n toks k a made) (hm : n ≤ made) (ha : a = b.length) : rdF b n = some toks := by
 rcases h with h | h
 ·have := h.m
  subst ha
  obtain rfl : made = n := by omega
  exact h.done
 exact absurd ha h.2.2.1
theorem rt_hd (hI : RdI b n toks k a made) (hm : made < n) (hn : n ≤ 65536) (hx : numR b a < 0 ∨ (b.length : Int) - (numN b a : Nat) < numR b a ∨ (n : Int) < (made : Int) + numR b a) : rdF b n = none := by
 refine hI.no fun j => rdK_nohd (by omega) fun p => ?_
 obtain ⟨p1, p2, p3⟩ := p
 have := numR_yes p1 (by omega)
 unfold aM aL at p3
 omega
theorem rt_fine (ha : a ≤ b.length) (h0 : ¬ numR b a < 0) (h1 : ¬ (b.length : Int) - (numN b a : Nat) < numR b a) : nE b a = 0 ∧ nV b a ≤ 65536 ∧ numR b a = (nV b a : Nat) ∧ numN b a = aL b a ∧ aM b a = aL b a + nV b a ∧ aM b a ≤ b.length ∧ aL b a ≤ aM b a ∧ (litT b a).length = nV b a := by
 rcases numR_cases ha with h | h
 ·exact absurd h.1 h0
 have h5 : numN b a = aL b a := h.2.2.2.2.1
 have h6 : aM b a = aL b a + nV b a := rfl
 refine ⟨h.2.1, h.2.2.1, h.2.2.2.1, h5, h6, by omega, by omega, ?_⟩
 unfold litT; rw [List.length_take, List.length_drop]; omega
theorem cut_lit (h : numN b a = aL b a) : (b.take (aM b a)).drop (numN b a) = litT b a := by
 rw [h]; unfold litT aM; rw [List.drop_take]; congr 1; omega
theorem rt_mt (hI : RdI b n toks k a made) (hm : made < n) (hd : aM b a ≤ b.length) (hl : made + nV b a < n) (hx : numR b (aM b a) < 0 ∨ numR b (aD b a) < 0 ∨ (n : Int) < ((made + nV b a : Nat) : Int) + numR b (aM b a) + 4 ∨ ¬ okT (litT b a, numR b (aD b a), numR b (aM b a) + 4) ((made + nV b a : Nat) : Int) false) : rdF b n = none := by
 refine hI.no fun j => rdK_nomt (by omega) (by omega) fun p => ?_
 obtain ⟨p1, p2, p3, p4, p5, p6, p7⟩ := p
 have e1 := numR_yes p1 (by omega)
 have e2 := numR_yes p2 (by omega)
 rcases hx with hx | hx | hx | hx
 ·omega
 ·omega
 ·omega
 refine hx ((okT_some fun hn => ?_).2 ?_)
 ·have := hn.2; simp only at this; omega
 simp only; omega
theorem rt_go (hI : RdI b n toks k a made) (h1 : nE b a = 0) (hd : aM b a ≤ b.length) (hl : made + nV b a < n) (h2 : ¬ numR b (aM b a) < 0) (h3 : ¬ numR b (aD b a) < 0) (h4 : ¬ (n : Int) < ((made + nV b a : Nat) : Int) + numR b (aM b a) + 4) (hx : okT (litT b a, numR b (aD b a), numR b (aM b a) + 4) ((made + nV b a : Nat) : Int) false) : RdI b n (toks ++ [(litT b a, numR b (aD b a), numR b (aM b a) + 4)]) (k - 1) (numN b (aD b a)) (made + nV b a + nV b (aM b a) + 4) := by
 have c1 := numR_cases hd
 have hD : aD b a ≤ b.length := by unfold aD; exact nK_le hd
 have c2 := numR_cases hD
 have hb := okT_bd hx
 rcases c1 with c1 | c1
 ·exact absurd c1.1 h2
 rcases c2 with c2 | c2
 ·exact absurd c2.1 h3
 simp only at hb
 have := hI.go h1 hd ⟨c1.2.1, c2.2.1, by omega, by omega, by omega, by omega, by omega⟩
 rw [c1.2.2.2.1, c2.2.2.2.1, c2.2.2.2.2.1]
 exact this
theorem rt_last (hI : RdI b n toks k a made) (hm : made < n) (h1 : nE b a = 0) (hd : aM b a ≤ b.length) (hl : made + nV b a = n) : RdJ b n (toks ++ [(litT b a, 0, 0)]) 1 (aM b a) n := by
 by_cases c : aM b a = b.length
 ·have ha : a < b.length := by
   rcases Nat.lt_or_ge a b.length with h | h
   ·exact h
   have := hI.a
   obtain rfl : a = b.length := by omega
   exact absurd h1 (nE_end b)
  have := hI.last ha h1 c (by omega) hl
  rw [← c] at this
  exact .inl this
 exact .inr ⟨hI.no fun j => rdK_bad (by omega) hl (fun h => c h.1), rfl, c, hd⟩
end
theorem refTokens_ok (x : Value) (b : List UInt8) (n : Int) (w : World) (hx : RdE byteV w x b) (hl : b.length ≤ 140737488355328) (hn : inK .i64 n) : Calls Tryz.prog 105 [x, .int .i64 n].toArray w (Rt fun r w' => ∃ v us rA rB, r = .tuple [v, .int .i64 (tksF b n).2].toArray ∧ SlS tokC 3 125 v us rA ∧ Nst (OwnP byteV 5 Tk.lit Tk.bs) us rB ∧ us.map Tk.p = (tksF b n).1 ∧ Mem w [] w' [rA, rB]) := by
 have hM0 : Mem w [] w [[]] := (Mem.nil w []).addNil
 simp only [inK] at hn
 refine calls_vc mixed Tryz.func105 rfl C105 (by simp [Tryz.ntmps105]) <| seq fun _ h1 => stp (v := .slice none 0 0) (o_mv rfl) <| stp (v := .int .i64 0) (o_mv rfl) <| h1 _ _ <| seq fun _ h2 => seq fun _ h3 => stp (v := .int .i64 n) (o_mv rfl) <| stp (v := .bool (decide (n < 0))) (o_bin rfl rfl rfl) <| stp (v := .bool (decide (n < 0))) (o_mv rfl) <| splitP rfl (fun c4 => ?_) (fun c4 => ?_)
 ·refine gx rfl <| gx rfl <| stp (v := .bool true) (o_pickT rfl rfl) <| h3 _ _ <| cndT rfl <| seq fun _ h5 => stp (v := .slice none 0 0) (o_mv rfl) <| stp (v := .int .i64 3) (o_mv rfl) <| h5 _ _ <| ⟨(.tuple [.slice none 0 0, .int .i64 3].toArray), rfl, ?_⟩
  have he := tksF_arg (b := b) (n := n) (by omega)
  exact ⟨.slice none 0 0, [], [], [], by rw [he], Sl.nil 3 125, Nst.nil, by rw [he]; rfl, hM0.keep (by simp)⟩
 refine stg rfl (v := .int .i64 n) (o_mv rfl) <| stg rfl (v := .bool (decide ((65536 : Int) < n))) (o_bin rfl rfl rfl) <| stp (v := .bool (decide ((65536 : Int) < n))) (o_pickF rfl rfl) <| h3 _ _ <| cndP rfl (fun c6 => ?_) (fun c6 => ?_)
 ·refine seq fun _ h7 => stp (v := .slice none 0 0) (o_mv rfl) <| stp (v := .int .i64 3) (o_mv rfl) <| h7 _ _ <| ⟨(.tuple [.slice none 0 0, .int .i64 3].toArray), rfl, ?_⟩
  have he := tksF_arg (b := b) (n := n) (by omega)
  exact ⟨.slice none 0 0, [], [], [], by rw [he], Sl.nil 3 125, Nst.nil, by rw [he]; rfl, hM0.keep (by simp)⟩
 refine h2 _ _ <| seq fun _ h8 => stp (v := .slice none 0 0) (o_mv rfl) <| h8 _ _ <| seq fun _ h9 => stp (v := .int .i64 0) (o_mv rfl) <| h9 _ _ <| seq fun _ h10 => stp (v := .int .i64 0) (o_mv rfl) <| h10 _ _ <| seq fun _ h11 => ?_
 have hM12 : Mem w [] w [[], []] := hM0.addNil
 have hs12 : SlS tokC 3 125 (.slice none 0 0) [] [] := Sl.nil 3 125
 refine lp (n := fun _ _ => False) (ι := (List Tk) × (List Ent) × (Nat) × (Nat) × (Nat) × (Value) × (List Ent)) (fun ⟨us, rB, k, a, made, y6_, r6_⟩ f w' => f 6 = y6_ ∧ f 7 = .int .i64 (a : Nat) ∧ f 8 = .int .i64 (made : Nat) ∧ f 0 = x ∧ f 1 = .int .i64 n ∧ Mem w [] w' [rB, r6_] ∧ (RdJ b n.toNat (us.map Tk.p) k a made) ∧ (Nst (OwnP byteV 5 Tk.lit Tk.bs) us rB) ∧ (us.length ≤ made) ∧ (SlS tokC 3 125 y6_ (us) r6_)) (fun ⟨us, rB, k, a, made, y6_, r6_⟩ => n.toNat - made) ([], [], n.toNat + 1, 0, 0, ((.slice none 0 0)), ([])) ?_ ?_
 ·exact ⟨rfl, vi, vi, rfl, vi, hM12, .inl (RdI.init b _), Nst.nil, by simp, by first | exact hs12 | simpa using hs12⟩
 rintro ⟨us, rB, k, a, made, y6_, r6_⟩ f w13 ⟨e13_6, e13_7, e13_8, e13_0, e13_1, hM13, hJ, hns, hul, hy6_⟩ K14 h14
 obtain ⟨frm, rfl⟩ := re5 e13_6 e13_7 e13_8 e13_0 e13_1
 refine seq fun _ h15 => seq fun _ h16 => stp (v := .int .i64 (made : Nat)) (o_mv rfl) <| stp (v := .int .i64 n) (o_mv rfl) <| stp (v := .bool (decide (((made : Nat) : Int) < n))) (o_bin rfl rfl rfl) <| h16 _ _ <| cndP rfl (fun c17 => ?_) (fun c17 => ?_)
 ·refine h15 _ _ <| seq fun _ h18 => m_al hM13 fun b19 w20 (hM20 : Mem w [] w20 [rB, r6_, [⟨b19, 125, [.slice none 0 0, .int .i64 0, .int .i64 0]⟩]]) => h18 _ _ <| seq fun _ h21 => ?_
  have hI := hJ.lt (by omega)
  have hIa := hI.a
  have hIm := hI.m
  refine stp (v := x) (o_mv rfl) <| stp (v := .int .i64 (a : Nat)) (o_mv rfl) <| m_call (number_okN _ b a _ w20 (hx.upd hM20.upd) (by omega) (by omega) rfl) rfl fun v22 w22 ⟨hr22, hu22⟩ => ?_
  have hM22 : Mem w [] w22 [rB, r6_, [⟨b19, 125, [.slice none 0 0, .int .i64 0, .int .i64 0]⟩]] := hM20.pure hu22
  subst hr22
  refine stp (v := .tuple [.int .i64 (numR b a), .int .i64 (numN b a : Nat)].toArray) (o_mv rfl) <| stp (v := .int .i64 (numR b a)) (o_ext rfl rfl) <| stp (v := .int .i64 (numN b a : Nat)) (o_ext rfl rfl) <| stp (v := .int .i64 (numR b a)) (o_mv rfl) <| stp (v := .int .i64 (numN b a : Nat)) (o_mv rfl) <| h21 _ _ <| seq fun _ h23 => seq fun _ h24 => ?_
  have hc1 := numR_cases (b := b) (a := a) hIa
  refine stp (v := .int .i64 (numR b a)) (o_mv rfl) <| stp (v := .bool (decide ((numR b a) < 0))) (o_bin rfl rfl rfl) <| stp (v := .bool (decide ((numR b a) < 0))) (o_mv rfl) <| splitP rfl (fun c25 => ?_) (fun c25 => ?_)
  ·refine gx rfl <| gx rfl <| gx rfl <| gx rfl <| gx rfl <| gx rfl <| stp (v := .bool true) (o_pickT rfl rfl) <| stp (v := .bool true) (o_mv rfl) <| splitT rfl <| gx rfl <| gx rfl <| gx rfl <| gx rfl <| gx rfl ?_
   refine stp (v := .bool true) (o_pickT rfl rfl) <| h24 _ _ <| cndT rfl <| seq fun _ h26 => stp (v := .slice none 0 0) (o_mv rfl) <| stp (v := .int .i64 30) (o_mv rfl) <| h26 _ _ <| ⟨(.tuple [.slice none 0 0, .int .i64 30].toArray), rfl, ?_⟩
   have he := tksF_none (b := b) (n := n) (by omega) (rt_hd hI (by omega) (by omega) (.inl (by omega)))
   exact ⟨.slice none 0 0, [], [], [], by rw [he], Sl.nil 3 125, Nst.nil, by rw [he]; rfl, hM22.keep (by simp)⟩
  refine stg rfl (v := .int .i64 (numR b a)) (o_mv rfl) <| stg rfl (v := x) (o_mv rfl) <| stg rfl (v := .int .i64 (b.length : Nat)) (o_lenR (hx.upd hM22.upd) rfl rfl) <| stg rfl (v := .int .i64 (numN b a : Nat)) (o_mv rfl) <| stg rfl (v := .int .i64 ((b.length : Nat) - (numN b a : Nat))) (o_bin rfl rfl (v_sub64 (by omega))) <| stg rfl (v := .bool (decide (((b.length : Nat) - (numN b a : Nat) : Int) < (numR b a)))) (o_bin rfl rfl rfl) <| stp (v := .bool (decide (((b.length : Nat) - (numN b a : Nat) : Int) < (numR b a)))) (o_pickF rfl rfl) <| stp (v := .bool (decide (((b.length : Nat) - (numN b a : Nat) : Int) < (numR b a)))) (o_mv rfl) <| splitP rfl (fun c27 => ?_) (fun c27 => ?_)
  ·refine gx rfl <| gx rfl <| gx rfl <| gx rfl <| gx rfl <| stp (v := .bool true) (o_pickT rfl rfl) <| h24 _ _ <| cndT rfl <| seq fun _ h28 => stp (v := .slice none 0 0) (o_mv rfl) <| stp (v := .int .i64 30) (o_mv rfl) <| h28 _ _ <| ⟨(.tuple [.slice none 0 0, .int .i64 30].toArray), rfl, ?_⟩
   have he := tksF_none (b := b) (n := n) (by omega) (rt_hd hI (by omega) (by omega) (.inr (.inl (by omega))))
   exact ⟨.slice none 0 0, [], [], [], by rw [he], Sl.nil 3 125, Nst.nil, by rw [he]; rfl, hM22.keep (by simp)⟩
  refine stg rfl (v := .int .i64 (made : Nat)) (o_mv rfl) <| stg rfl (v := .int .i64 (numR b a)) (o_mv rfl) <| stg rfl (v := .int .i64 ((made : Nat) + (numR b a))) (o_bin rfl rfl (v_add64 (by omega))) <| stg rfl (v := .int .i64 n) (o_mv rfl) <| stg rfl (v := .bool (decide (n < ((made : Nat) + (numR b a) : Int)))) (o_bin rfl rfl rfl) <| stp (v := .bool (decide (n < ((made : Nat) + (numR b a) : Int)))) (o_pickF rfl rfl) <| h24 _ _ <| cndP rfl (fun c29 => ?_) (fun c29 => ?_)
  ·refine seq fun _ h30 => stp (v := .slice none 0 0) (o_mv rfl) <| stp (v := .int .i64 30) (o_mv rfl) <| h30 _ _ <| ⟨(.tuple [.slice none 0 0, .int .i64 30].toArray), rfl, ?_⟩
   have he := tksF_none (b := b) (n := n) (by omega) (rt_hd hI (by omega) (by omega) (.inr (.inr (by omega))))
   exact ⟨.slice none 0 0, [], [], [], by rw [he], Sl.nil 3 125, Nst.nil, by rw [he]; rfl, hM22.keep (by simp)⟩
  refine h23 _ _ <| seq fun _ h31 => ?_
  have hc2 := rt_fine (b := b) (a := a) hIa (by omega) (by omega)
  refine m_bs hM22 rfl fun b32 w33 (hM33 : Mem w [] w33 [rB, r6_, [⟨b19, 125, [.slice none 0 0, .int .i64 0, .int .i64 0]⟩], [⟨b32, 5, []⟩]]) => stp (v := x) (o_mv rfl) <| stp (v := .int .i64 (numN b a : Nat)) (o_mv rfl) <| stp (v := .int .i64 (numN b a : Nat)) (o_mv rfl) <| stp (v := .int .i64 (numR b a)) (o_mv rfl) <| stp (v := .int .i64 (aM b a : Nat)) (o_bin rfl rfl ((v_add64 (by omega)).trans (v_int (by omega)))) <| m_slcE (numN b a) (aM b a) (hx) rfl (by omega) (by omega) ⟨_, v_int (by omega)⟩ ⟨_, v_int (by omega)⟩ fun u34 hu34 => ?_
  have hu34' : RdE byteV w u34 (litT b a) := by
   have e : (b.take (aM b a)).drop (numN b a) = (litT b a) := cut_lit hc2.2.2.2.1
   rw [e] at hu34; exact hu34
  have hs35 : SlE byteV 5 (.slice (some ⟨b32, 0, none⟩) 0 0) [] [⟨b32, 5, []⟩] := SlE.lit (l := []) rfl
  refine m_appE hM33 (i := 3) rfl hs35 rfl rfl ((hu34'.upd hM33.upd)) (by first | omega | (simp; omega)) (by omega) fun v36 w36 r36 (hs36 : SlE byteV 5 v36 (litT b a) r36) (hM36 : Mem w [] w36 [rB, r6_, [⟨b19, 125, [.slice none 0 0, .int .i64 0, .int .i64 0]⟩], r36]) => ?_
  obtain ⟨a37_, n37_, c37_, rfl⟩ := Sl.isSlice hs36
  refine stp (v := .pointer (some ⟨b19, 0, none⟩)) (o_fa rfl rfl) <| m_st (v := (.slice a37_ n37_ c37_)) hM36 (i := 2) rfl rfl rfl (Sl.one hs36) (by simp) fun w38 (hM38 : Mem w [] w38 [rB, r6_, [⟨b19, 125, [(.slice a37_ n37_ c37_), .int .i64 0, .int .i64 0]⟩], r36]) => h31 _ _ <| seq fun _ h39 => stp (v := .int .i64 (numN b a : Nat)) (o_mv rfl) <| stp (v := .int .i64 (numR b a)) (o_mv rfl) <| stp (v := .int .i64 (aM b a : Nat)) (o_bin rfl rfl ((v_add64 (by omega)).trans (v_int (by omega)))) <| stp (v := .int .i64 (aM b a : Nat)) (o_mv rfl) <| h39 _ _ <| seq fun _ h40 => stp (v := .int .i64 (made : Nat)) (o_mv rfl) <| stp (v := .int .i64 (numR b a)) (o_mv rfl) <| stp (v := .int .i64 (made + nV b a : Nat)) (o_bin rfl rfl ((v_add64 (by omega)).trans (v_int (by omega)))) <| stp (v := .int .i64 (made + nV b a : Nat)) (o_mv rfl) <| h40 _ _ <| seq fun _ h41 => seq fun _ h42 => stp (v := .int .i64 (made + nV b a : Nat)) (o_mv rfl) <| stp (v := .int .i64 n) (o_mv rfl) <| stp (v := .bool (decide (((made + nV b a : Nat) : Int) < n))) (o_bin rfl rfl rfl) <| h42 _ _ <| cndP rfl (fun c43 => ?_) (fun c43 => ?_)
  ·refine seq fun _ h44 => stp (v := x) (o_mv rfl) <| stp (v := .int .i64 (aM b a : Nat)) (o_mv rfl) <| m_call (number_okN _ b (aM b a) _ w38 (hx.upd hM38.upd) (by omega) (by omega) rfl) rfl fun v45 w45 ⟨hr45, hu45⟩ => ?_
   have hM45 : Mem w [] w45 [rB, r6_, [⟨b19, 125, [(.slice a37_ n37_ c37_), .int .i64 0, .int .i64 0]⟩], r36] := hM38.pure hu45
   subst hr45
   refine stp (v := .tuple [.int .i64 (numR b (aM b a)), .int .i64 (numN b (aM b a) : Nat)].toArray) (o_mv rfl) <| stp (v := .int .i64 (numR b (aM b a))) (o_ext rfl rfl) <| stp (v := .int .i64 (numN b (aM b a) : Nat)) (o_ext rfl rfl) <| stp (v := .int .i64 (numR b (aM b a))) (o_mv rfl) <| stp (v := .int .i64 (numN b (aM b a) : Nat)) (o_mv rfl) <| h44 _ _ <| seq fun _ h46 => seq fun _ h47 => ?_
   have hc3 := numR_cases (b := b) (a := aM b a) hc2.2.2.2.2.2.1
   refine stp (v := .int .i64 (numR b (aM b a))) (o_mv rfl) <| stp (v := .bool (decide ((numR b (aM b a)) < 0))) (o_bin rfl rfl rfl) <| h47 _ _ <| cndP rfl (fun c48 => ?_) (fun c48 => ?_)
   ·refine seq fun _ h49 => stp (v := .slice none 0 0) (o_mv rfl) <| stp (v := .int .i64 30) (o_mv rfl) <| h49 _ _ <| ⟨(.tuple [.slice none 0 0, .int .i64 30].toArray), rfl, ?_⟩
    have he := tksF_none (b := b) (n := n) (by omega) (rt_mt hI (by omega) hc2.2.2.2.2.2.1 (by omega) (.inl (by omega)))
    exact ⟨.slice none 0 0, [], [], [], by rw [he], Sl.nil 3 125, Nst.nil, by rw [he]; rfl, hM45.keep (by simp)⟩
   refine h46 _ _ <| seq fun _ h50 => ?_
   have hN : numN b (aM b a) = aD b a := by unfold aD; omega
   have hDl : aD b a ≤ b.length := by omega
   refine stp (v := x) (o_mv rfl) <| stp (v := .int .i64 (numN b (aM b a) : Nat)) (o_mv rfl) <| m_call (number_okN _ b (aD b a) _ w45 (hx.upd hM45.upd) (by omega) (by omega) hN) rfl fun v51 w51 ⟨hr51, hu51⟩ => ?_
   have hM51 : Mem w [] w51 [rB, r6_, [⟨b19, 125, [(.slice a37_ n37_ c37_), .int .i64 0, .int .i64 0]⟩], r36] := hM45.pure hu51
   subst hr51
   refine stp (v := .tuple [.int .i64 (numR b (aD b a)), .int .i64 (numN b (aD b a) : Nat)].toArray) (o_mv rfl) <| stp (v := .int .i64 (numR b (aD b a))) (o_ext rfl rfl) <| stp (v := .int .i64 (numN b (aD b a) : Nat)) (o_ext rfl rfl) <| stp (v := .int .i64 (numR b (aD b a))) (o_mv rfl) <| stp (v := .int .i64 (numN b (aD b a) : Nat)) (o_mv rfl) <| h50 _ _ <| seq fun _ h52 => seq fun _ h53 => ?_
   have hc4 := numR_cases (b := b) (a := aD b a) hDl
   refine stp (v := .int .i64 (numR b (aD b a))) (o_mv rfl) <| stp (v := .bool (decide ((numR b (aD b a)) < 0))) (o_bin rfl rfl rfl) <| stp (v := .bool (decide ((numR b (aD b a)) < 0))) (o_mv rfl) <| splitP rfl (fun c54 => ?_) (fun c54 => ?_)
   ·refine gx rfl <| gx rfl <| gx rfl <| gx rfl <| gx rfl <| gx rfl <| stp (v := .bool true) (o_pickT rfl rfl) <| h53 _ _ <| cndT rfl <| seq fun _ h55 => stp (v := .slice none 0 0) (o_mv rfl) <| stp (v := .int .i64 30) (o_mv rfl) <| h55 _ _ <| ⟨(.tuple [.slice none 0 0, .int .i64 30].toArray), rfl, ?_⟩
    have he := tksF_none (b := b) (n := n) (by omega) (rt_mt hI (by omega) hc2.2.2.2.2.2.1 (by omega) (.inr (.inl (by omega))))
    exact ⟨.slice none 0 0, [], [], [], by rw [he], Sl.nil 3 125, Nst.nil, by rw [he]; rfl, hM51.keep (by simp)⟩
   refine stg rfl (v := .int .i64 (made + nV b a : Nat)) (o_mv rfl) <| stg rfl (v := .int .i64 (numR b (aM b a))) (o_mv rfl) <| stg rfl (v := .int .i64 ((made + nV b a : Nat) + (numR b (aM b a)))) (o_bin rfl rfl (v_add64 (by omega))) <| stg rfl (v := .int .i64 (((made + nV b a : Nat) + (numR b (aM b a))) + 4)) (o_bin rfl rfl (v_add64 (by omega))) <| stg rfl (v := .int .i64 n) (o_mv rfl) <| stg rfl (v := .bool (decide (n < (((made + nV b a : Nat) + (numR b (aM b a))) + 4 : Int)))) (o_bin rfl rfl rfl) <| stp (v := .bool (decide (n < (((made + nV b a : Nat) + (numR b (aM b a))) + 4 : Int)))) (o_pickF rfl rfl) <| h53 _ _ <| cndP rfl (fun c56 => ?_) (fun c56 => ?_)
   ·refine seq fun _ h57 => stp (v := .slice none 0 0) (o_mv rfl) <| stp (v := .int .i64 30) (o_mv rfl) <| h57 _ _ <| ⟨(.tuple [.slice none 0 0, .int .i64 30].toArray), rfl, ?_⟩
    have he := tksF_none (b := b) (n := n) (by omega) (rt_mt hI (by omega) hc2.2.2.2.2.2.1 (by omega) (.inr (.inr (.inl (by omega)))))
    exact ⟨.slice none 0 0, [], [], [], by rw [he], Sl.nil 3 125, Nst.nil, by rw [he]; rfl, hM51.keep (by simp)⟩
   refine h52 _ _ <| seq fun _ h58 => stp (v := .int .i64 (numR b (aM b a))) (o_mv rfl) <| stp (v := .int .i64 ((numR b (aM b a)) + 4)) (o_bin rfl rfl (v_add64 (by omega))) <| stp (v := .pointer (some ⟨b19, 2, none⟩)) (o_fa rfl rfl) <| m_st (v := .int .i64 ((numR b (aM b a)) + 4)) hM51 (i := 2) rfl rfl rfl rfl (by simp) fun w59 (hM59 : Mem w [] w59 [rB, r6_, [⟨b19, 125, [(.slice a37_ n37_ c37_), .int .i64 0, .int .i64 ((numR b (aM b a)) + 4)]⟩], r36]) => h58 _ _ <| seq fun _ h60 => stp (v := .int .i64 (numR b (aD b a))) (o_mv rfl) <| stp (v := .pointer (some ⟨b19, 1, none⟩)) (o_fa rfl rfl) <| m_st (v := .int .i64 (numR b (aD b a))) hM59 (i := 2) rfl rfl rfl rfl (by simp) fun w61 (hM61 : Mem w [] w61 [rB, r6_, [⟨b19, 125, [(.slice a37_ n37_ c37_), .int .i64 (numR b (aD b a)), .int .i64 ((numR b (aM b a)) + 4)]⟩], r36]) => h60 _ _ <| seq fun _ h62 => stp (v := .int .i64 (numN b (aD b a) : Nat)) (o_mv rfl) <| stp (v := .int .i64 (numN b (aD b a) : Nat)) (o_mv rfl) <| h62 _ _ <| stp (v := .int .i64 (made + nV b a : Nat)) (o_mv rfl) <| stp (v := .pointer (some ⟨b19, 2, none⟩)) (o_fa rfl rfl) <| m_ld (v := .int .i64 ((numR b (aM b a)) + 4)) hM61 (i := 2) (j := 0) rfl rfl rfl rfl <| stp (v := .int .i64 (made + nV b a + nV b (aM b a) + 4 : Nat)) (o_bin rfl rfl ((v_add64 (by omega)).trans (v_int (by omega)))) <| stp (v := .int .i64 (made + nV b a + nV b (aM b a) + 4 : Nat)) (o_mv rfl) <| h41 _ _ <| seq fun _ h63 => m_ldA (l := [(.slice a37_ n37_ c37_), .int .i64 (numR b (aD b a)), .int .i64 ((numR b (aM b a)) + 4)]) hM61 (i := 2) (j := 0) rfl rfl rfl rfl rfl <| stp (v := .int .i64 (made + nV b a + nV b (aM b a) + 4 : Nat)) (o_mv rfl) <| stp (v := .int .i64 (numR b a)) (o_mv rfl) <| stp (v := .int .i64 ((made + nV b a + nV b (aM b a) + 4 : Nat) - (numR b a))) (o_bin rfl rfl (v_sub64 (by omega))) <| stp (v := .pointer (some ⟨b19, 2, none⟩)) (o_fa rfl rfl) <| m_ld (v := .int .i64 ((numR b (aM b a)) + 4)) hM61 (i := 2) (j := 0) rfl rfl rfl rfl <| stp (v := .int .i64 (made : Nat)) (o_bin rfl rfl ((v_sub64 (by omega)).trans (v_int (by omega)))) <| stp (v := .int .i64 (made + nV b a + nV b (aM b a) + 4 : Nat)) (o_mv rfl) <| stp (v := .int .i64 n) (o_mv rfl) <| stp (v := .bool (decide (((made + nV b a + nV b (aM b a) + 4 : Nat) : Int) = n))) (o_bin rfl rfl rfl) <| m_call (fits_ok (⟨a37_, n37_, c37_, litT b a, numR b (aD b a), (numR b (aM b a)) + 4⟩ : Tk) made (decide (((made + nV b a + nV b (aM b a) + 4 : Nat) : Int) = n)) w61 (hs36.rd hM61 (i := 3) rfl) (by omega) (by dsimp only; omega)) rfl fun v64 w64 ⟨hr64, hu64⟩ => ?_
   have hM64 : Mem w [] w64 [rB, r6_, [⟨b19, 125, [(.slice a37_ n37_ c37_), .int .i64 (numR b (aD b a)), .int .i64 ((numR b (aM b a)) + 4)]⟩], r36] := hM61.pure hu64
   subst hr64
   refine stp (v := .bool (decide (okT (⟨a37_, n37_, c37_, litT b a, numR b (aD b a), (numR b (aM b a)) + 4⟩ : Tk).p ((made + (⟨a37_, n37_, c37_, litT b a, numR b (aD b a), (numR b (aM b a)) + 4⟩ : Tk).bs.length : Nat) : Int) (decide (((made + nV b a + nV b (aM b a) + 4 : Nat) : Int) = n))))) (o_mv rfl) <| h63 _ _ <| seq fun _ h65 => seq fun _ h66 => stp (v := .bool (decide (okT (⟨a37_, n37_, c37_, litT b a, numR b (aD b a), (numR b (aM b a)) + 4⟩ : Tk).p ((made + (⟨a37_, n37_, c37_, litT b a, numR b (aD b a), (numR b (aM b a)) + 4⟩ : Tk).bs.length : Nat) : Int) (decide (((made + nV b a + nV b (aM b a) + 4 : Nat) : Int) = n))))) (o_mv rfl) <| stp (v := .bool (decide (¬ (okT (⟨a37_, n37_, c37_, litT b a, numR b (aD b a), (numR b (aM b a)) + 4⟩ : Tk).p ((made + (⟨a37_, n37_, c37_, litT b a, numR b (aD b a), (numR b (aM b a)) + 4⟩ : Tk).bs.length : Nat) : Int) (decide (((made + nV b a + nV b (aM b a) + 4 : Nat) : Int) = n)))))) (o_not rfl v_not) <| h66 _ _ <| cndP rfl (fun c67 => ?_) (fun c67 => ?_)
   ·refine seq fun _ h68 => stp (v := .slice none 0 0) (o_mv rfl) <| stp (v := .int .i64 30) (o_mv rfl) <| h68 _ _ <| ⟨(.tuple [.slice none 0 0, .int .i64 30].toArray), rfl, ?_⟩
    have he := tksF_none (b := b) (n := n) (by omega) (rt_mt hI (by omega) hc2.2.2.2.2.2.1 (by omega) (.inr (.inr (.inr (fun h => ‹¬ okT _ _ _› (okT_conv (fun hn => by have h9 := hn.2; dsimp only at h9; omega) (by dsimp only; rw [hc2.2.2.2.2.2.2.2]) h))))))
    exact ⟨.slice none 0 0, [], [], [], by rw [he], Sl.nil 3 125, Nst.nil, by rw [he]; rfl, hM64.keep (by simp)⟩
   refine h65 _ _ ?_
   have hok := Decidable.not_not.1 ‹¬ ¬ okT _ _ _›
   refine stp (v := y6_) (o_mv rfl) <| m_ldA (l := [(.slice a37_ n37_ c37_), .int .i64 (numR b (aD b a)), .int .i64 ((numR b (aM b a)) + 4)]) hM64 (i := 2) (j := 0) rfl rfl rfl rfl rfl <| m_app1S (enc := tokC) (q := (⟨a37_, n37_, c37_, litT b a, numR b (aD b a), (numR b (aM b a)) + 4⟩ : Tk)) hM64 (i := 1) rfl hy6_ rfl (by simp) (rfl) (rfl) (by first | omega | (simp; omega)) (by omega) fun v69 w69 r69 u69 (hs69 : SlS tokC 3 125 v69 (us ++ [(⟨a37_, n37_, c37_, litT b a, numR b (aD b a), (numR b (aM b a)) + 4⟩ : Tk)]) r69) (hM69 : Mem w [] w69 [rB, r69, [⟨b19, 125, [(.slice a37_ n37_ c37_), .int .i64 (numR b (aD b a)), .int .i64 ((numR b (aM b a)) + 4)]⟩], r36]) => stp (v := v69) (o_mv rfl) <| h14 ((us ++ [(⟨a37_, n37_, c37_, litT b a, numR b (aD b a), (numR b (aM b a)) + 4⟩ : Tk)]), rB ++ r36, k - 1, numN b (aD b a), made + nV b a + nV b (aM b a) + 4, v69, r69) _ _ ⟨rfl, vi, vi, rfl, vi, (hM69.keep (R' := [rB, r69, r36]) (by simp)).perm perm3, .inl (by rw [List.map_append]; exact rt_go hI hc2.1 hc2.2.2.2.2.2.1 (by omega) (by omega) (by omega) (by omega) (okT_conv (fun hn => by have h9 := hn.2; dsimp only at h9; omega) (by dsimp only; rw [hc2.2.2.2.2.2.2.2]) hok)), hns.app hs36, by rw [List.length_append, List.length_singleton]; omega, by first | exact hs69 | simpa using hs69⟩ (by dsimp only; omega)
  refine h41 _ _ <| seq fun _ h70 => m_ldA (l := [(.slice a37_ n37_ c37_), .int .i64 0, .int .i64 0]) hM38 (i := 2) (j := 0) rfl rfl rfl rfl rfl <| stp (v := .int .i64 (made + nV b a : Nat)) (o_mv rfl) <| stp (v := .int .i64 (numR b a)) (o_mv rfl) <| stp (v := .int .i64 ((made + nV b a : Nat) - (numR b a))) (o_bin rfl rfl (v_sub64 (by omega))) <| stp (v := .pointer (some ⟨b19, 2, none⟩)) (o_fa rfl rfl) <| m_ld (v := .int .i64 0) hM38 (i := 2) (j := 0) rfl rfl rfl rfl <| stp (v := .int .i64 (made : Nat)) (o_bin rfl rfl ((v_sub64 (by omega)).trans (v_int (by omega)))) <| stp (v := .int .i64 (made + nV b a : Nat)) (o_mv rfl) <| stp (v := .int .i64 n) (o_mv rfl) <| stp (v := .bool (decide (((made + nV b a : Nat) : Int) = n))) (o_bin rfl rfl rfl) <| m_call (fits_ok (⟨a37_, n37_, c37_, litT b a, 0, 0⟩ : Tk) made (decide (((made + nV b a : Nat) : Int) = n)) w38 (hs36.rd hM38 (i := 3) rfl) (by omega) (by dsimp only; omega)) rfl fun v71 w71 ⟨hr71, hu71⟩ => ?_
  have hM71 : Mem w [] w71 [rB, r6_, [⟨b19, 125, [(.slice a37_ n37_ c37_), .int .i64 0, .int .i64 0]⟩], r36] := hM38.pure hu71
  subst hr71
  refine stp (v := .bool (decide (okT (⟨a37_, n37_, c37_, litT b a, 0, 0⟩ : Tk).p ((made + (⟨a37_, n37_, c37_, litT b a, 0, 0⟩ : Tk).bs.length : Nat) : Int) (decide (((made + nV b a : Nat) : Int) = n))))) (o_mv rfl) <| h70 _ _ <| seq fun _ h72 => seq fun _ h73 => stp (v := .bool (decide (okT (⟨a37_, n37_, c37_, litT b a, 0, 0⟩ : Tk).p ((made + (⟨a37_, n37_, c37_, litT b a, 0, 0⟩ : Tk).bs.length : Nat) : Int) (decide (((made + nV b a : Nat) : Int) = n))))) (o_mv rfl) <| stp (v := .bool (decide (¬ (okT (⟨a37_, n37_, c37_, litT b a, 0, 0⟩ : Tk).p ((made + (⟨a37_, n37_, c37_, litT b a, 0, 0⟩ : Tk).bs.length : Nat) : Int) (decide (((made + nV b a : Nat) : Int) = n)))))) (o_not rfl v_not) <| h73 _ _ <| cndP rfl (fun c74 => ?_) (fun c74 => ?_)
  ·refine seq fun _ h75 => stp (v := .slice none 0 0) (o_mv rfl) <| stp (v := .int .i64 30) (o_mv rfl) <| h75 _ _ <| ⟨(.tuple [.slice none 0 0, .int .i64 30].toArray), rfl, ?_⟩
   have hno := ‹¬ okT _ _ _›
   exact absurd ((okK_none (noneK.2 ⟨rfl, rfl⟩)).2 ⟨decide_eq_true (by omega), by dsimp only; omega⟩) hno
  refine h72 _ _ ?_
  have hok := Decidable.not_not.1 ‹¬ ¬ okT _ _ _›
  refine stp (v := y6_) (o_mv rfl) <| m_ldA (l := [(.slice a37_ n37_ c37_), .int .i64 0, .int .i64 0]) hM71 (i := 2) (j := 0) rfl rfl rfl rfl rfl <| m_app1S (enc := tokC) (q := (⟨a37_, n37_, c37_, litT b a, 0, 0⟩ : Tk)) hM71 (i := 1) rfl hy6_ rfl (by simp) (rfl) (rfl) (by first | omega | (simp; omega)) (by omega) fun v76 w76 r76 u76 (hs76 : SlS tokC 3 125 v76 (us ++ [(⟨a37_, n37_, c37_, litT b a, 0, 0⟩ : Tk)]) r76) (hM76 : Mem w [] w76 [rB, r76, [⟨b19, 125, [(.slice a37_ n37_ c37_), .int .i64 0, .int .i64 0]⟩], r36]) => stp (v := v76) (o_mv rfl) <| h14 ((us ++ [(⟨a37_, n37_, c37_, litT b a, 0, 0⟩ : Tk)]), rB ++ r36, 1, aM b a, made + nV b a, v76, r76) _ _ ⟨rfl, vi, vi, rfl, vi, (hM76.keep (R' := [rB, r76, r36]) (by simp)).perm perm3, by have h9 := rt_last hI (by omega) hc2.1 hc2.2.2.2.2.2.1 (by omega); rw [show made + nV b a = n.toNat by omega, List.map_append]; exact h9, hns.app hs36, by rw [List.length_append, List.length_singleton]; omega, by first | exact hs76 | simpa using hs76⟩ (by dsimp only; omega)
 refine h11 _ _ <| seq fun _ h77 => seq fun _ h78 => stp (v := .int .i64 (a : Nat)) (o_mv rfl) <| stp (v := x) (o_mv rfl) <| stp (v := .int .i64 (b.length : Nat)) (o_lenR (hx.upd hM13.upd) rfl rfl) <| stp (v := .bool (decide (¬ ((a : Nat) : Int) = (b.length : Nat)))) (o_bin rfl rfl v_neq) <| h78 _ _ <| cndP rfl (fun c79 => ?_) (fun c79 => ?_)
 ·refine seq fun _ h80 => stp (v := .slice none 0 0) (o_mv rfl) <| stp (v := .int .i64 30) (o_mv rfl) <| h80 _ _ <| ⟨(.tuple [.slice none 0 0, .int .i64 30].toArray), rfl, ?_⟩
  have he := tksF_none (b := b) (n := n) (by omega) (hJ.no (by omega) (by omega))
  exact ⟨.slice none 0 0, [], [], [], by rw [he], Sl.nil 3 125, Nst.nil, by rw [he]; rfl, hM13.keep (by simp)⟩
 refine h77 _ _ <| seq fun _ h81 => stp (v := y6_) (o_mv rfl) <| stp (v := y6_) (o_mv rfl) <| stp (v := .int .i64 0) (o_mv rfl) <| h81 _ _ <| ⟨(.tuple [y6_, .int .i64 0].toArray), rfl, ?_⟩
 have he := tksF_some (b := b) (n := n) (by omega) (hJ.done (by omega) (by omega))
 exact ⟨_, us, _, rB, by rw [he], hy6_, hns, by rw [he], hM13.perm perm2⟩
theorem le_sumN : ∀ {l : List Nat} {x : Nat}, x ∈ l → x ≤ l.sum
 | y :: l, x, h => by
  rw [List.sum_cons]
  rcases List.mem_cons.1 h with rfl | h
  ·omega
  have := le_sumN h; omega
theorem tks_bd {b : List UInt8} {n : Int} : (∀ t ∈ (tksF b n).1, 0 ≤ t.2.2 ∧ t.2.2 ≤ 259 ∧ 0 ≤ t.2.1 ∧ t.2.1 ≤ 32768 ∧ t.1.length ≤ 65536) ∧ (tksF b n).1.length ≤ 65536 ∧ ((tksF b n).2 = 0 → expF (tksF b n).1 = (textP (tksF b n).1, 0)) := by
 by_cases c : n < 0 ∨ 65536 < n
 ·rw [tksF_arg c]; simp
 cases h : rdF b n.toNat with
 | none => rw [tksF_none c h]; simp
 | some ps =>
  rw [tksF_some c h]
  obtain ⟨e1, e2, e3⟩ := exp_rd (by omega) h
  have hb := expG_bd ps [] (by show (expF ps).2 = 0; rw [e1])
  refine ⟨fun t ht => ?_, by simp only; omega, fun _ => e1⟩
  have := hb.1 t ht
  have h5 : t.1.length ≤ lenP ps := by
   unfold lenP
   have hm : t.1.length + t.2.2.toNat ∈ ps.map fun t => t.1.length + t.2.2.toNat := List.mem_map.2 ⟨t, ht, rfl⟩
   have := le_sumN hm
   omega
  omega
theorem ok_tks {us : List Tk} {b : List UInt8} {n : Int} {w : World} (h : us.map Tk.p = (tksF b n).1) (hr : ∀ t ∈ us, RdE byteV w t.lit t.bs) : ∀ t ∈ us, t.ok w := by
 intro t ht
 have hm : t.p ∈ (tksF b n).1 := by rw [← h]; exact List.mem_map.2 ⟨t, ht, rfl⟩
 have := tks_bd.1 _ hm
 refine ⟨hr t ht, ?_, ?_, ?_⟩
 ·simp only [inK]; simp only at this; omega
 ·simp only [inK]; simp only at this; omega
 simp only at this; omega
theorem len_tks {us : List Tk} {b : List UInt8} {n : Int} (h : us.map Tk.p = (tksF b n).1) : us.length ≤ 65536 := by
 have := (tks_bd (b := b) (n := n)).2.1
 rw [← h, List.length_map] at this; exact this
theorem decF_len (b : List UInt8) (n : Int) : (decF b n).1.length ≤ 65536 := by
 by_cases c : (tksF b n).2 = 0
 ·rw [decF_yes c]
  have := tks_bd.2.2 c
  have h := expF_le (tksF b n).1
  rw [this] at h; exact h
 rw [decF_no c]; simp
theorem refDecode_ok (x : Value) (b : List UInt8) (n : Int) (w : World) (hx : RdE byteV w x b) (hl : b.length ≤ 140737488355328) (hn : inK .i64 n) : Calls Tryz.prog 73 [x, .int .i64 n].toArray w (Rt fun r w' => ∃ v rs, r = .tuple [v, .int .i64 (decF b n).2].toArray ∧ SlE byteV 5 v (decF b n).1 rs ∧ Mem w [] w' [rs]) := by
 have hM0 : Mem w [] w [] := Mem.nil w []
 simp only [inK] at hn
 refine calls_vc mixed Tryz.func73 rfl C73 (by simp [Tryz.ntmps73]) <| seq fun _ h1 => stp (v := .slice none 0 0) (o_mv rfl) <| stp (v := .int .i64 0) (o_mv rfl) <| h1 _ _ <| seq fun _ h2 => stp (v := x) (o_mv rfl) <| stp (v := .int .i64 n) (o_mv rfl) <| m_call (refTokens_ok _ b n w (hx.upd hM0.upd) (by first | omega | (simp; done) | (simp; omega)) (by simp only [inK]; omega)) rfl fun v3 w3 ⟨y3, us3, rA3, rB3, hr3, hs3, hn3, hp3, hm3⟩ => ?_
 have hM3 : Mem w [] w3 [rA3, rB3] := hM0.add2 hm3
 subst hr3
 have hlu3 := len_tks hp3
 refine stp (v := .tuple [y3, .int .i64 ((tksF b n).2)].toArray) (o_mv rfl) <| stp (v := y3) (o_ext rfl rfl) <| stp (v := .int .i64 ((tksF b n).2)) (o_ext rfl rfl) <| stp (v := y3) (o_mv rfl) <| stp (v := .int .i64 ((tksF b n).2)) (o_mv rfl) <| h2 _ _ <| seq fun _ h4 => seq fun _ h5 => stp (v := .int .i64 ((tksF b n).2)) (o_mv rfl) <| stp (v := .bool (decide (¬ ((tksF b n).2) = 0))) (o_bin rfl rfl v_neq) <| h5 _ _ <| cndP rfl (fun c6 => ?_) (fun c6 => ?_)
 ·refine seq fun _ h7 => stp (v := .int .i64 ((tksF b n).2)) (o_mv rfl) <| stp (v := .slice none 0 0) (o_mv rfl) <| stp (v := .int .i64 ((tksF b n).2)) (o_mv rfl) <| h7 _ _ <| ⟨(.tuple [.slice none 0 0, .int .i64 ((tksF b n).2)].toArray), rfl, ?_⟩
  have he := decF_no (b := b) (n := n) (by omega)
  exact ⟨.slice none 0 0, [], by rw [he], by rw [he]; exact Sl.nil 1 5, hM3.keep (by simp)⟩
 refine h4 _ _ <| seq fun _ h8 => stp (v := y3) (o_mv rfl) <| m_call (refExpand_ok _ us3 w3 (hs3.rd hM3 (i := 0) rfl) ((ok_tks (w := w3) hp3 (hn3.rdE hM3 (i := 1) rfl) : ∀ t ∈ us3, Tk.ok w3 t)) (by first | omega | (simp; done) | (simp; omega))) rfl fun v9 w9 ⟨y9, rs9, hr9, hs9, hm9⟩ => ?_
 have hM9 : Mem w [] w9 [rA3, rB3, rs9] := hM3.add hm9
 rw [hp3] at hr9 hs9
 subst hr9
 have hln9 := expF_len (tksF b n).1
 refine stp (v := y9) (o_ext rfl rfl) <| stp (v := .int .i64 ((expF (tksF b n).1).2)) (o_ext rfl rfl) <| stp (v := y9) (o_mv rfl) <| stp (v := .int .i64 ((expF (tksF b n).1).2)) (o_mv rfl) <| h8 _ _ <| ⟨(.tuple [y9, .int .i64 ((expF (tksF b n).1).2)].toArray), rfl, ?_⟩
 have he := decF_yes (b := b) (n := n) (by omega)
 have he2 := (tks_bd (b := b) (n := n)).2.2 (by omega)
 exact ⟨_, _, by rw [he, he2], by rw [he]; have h9 := hs9; rw [he2] at h9; exact h9, hM9.keep (by simp only [List.flatten_cons, List.flatten_nil, List.append_nil, ← List.append_assoc]; exact List.sublist_append_right _ _)⟩
end Go.Proofs.YtifnmbmijljhfaaGreat.E.Lz
namespace Go.Proofs.YtifnmbmijljhfaaGreat.E
open Go
theorem o_idxv {f : Fr} {v : Value} {n s : Nat} {x i : Operand} {cs : Array Value} {k : IntKind} {j : Int} (hx : ev f x = .agg cs) (hi : ev f i = .int k j) (hj : 0 ≤ j ∧ j < (n : Int)) (hv : Value.agg (cs.extract (j.toNat * s) (j.toNat * s + s)) = v) : PeV (.idxv n s true x i) f v := fun K h => by
 show kagg (ev f x) _; rw [hx]; show anyint (ev f i) _; rw [hi]; refine ⟨hj, ?_⟩; show K _; rw [hv]; exact h
def startsF (st : List Int) : List UInt8 := (st.map fun a => fixedI a 4).flatten
def rawB (R : Nat) (raw : List UInt8) (st : List Int) (n : Nat) : List UInt8 := raw ++ startsF st ++ fixedI (R : Nat) 4 ++ fixedI (n : Nat) 4
theorem starts_len (st : List Int) : (startsF st).length = 4 * st.length := by
 unfold startsF
 induction st with
 | nil => rfl
 | cons a r ih => rw [List.map_cons, List.flatten_cons, List.length_append, ih, fixedI_some (by omega), fixed_length]; simp only [List.length_cons]; omega
theorem fix4_len (v : Int) : (fixedI v 4).length = 4 := by rw [fixedI_some (by omega), fixed_length]; rfl
theorem conv_u64 {a : Int} (h0 : 0 ≤ a) (h : a ≤ 9223372036854775807) : Value.int .u64 (IntKind.u64.wrap a) = .int .u64 a := by rw [wrap_u64, Int.emod_eq_of_lt h0 (by omega)]
set_option maxRecDepth 100000 in
theorem codes_ok (w : World) : Calls Tryz.prog 29 [].toArray w (Rt fun r w' => r = .agg ([.func (.func 51) [].toArray [].toArray, .func (.func 52) [].toArray [].toArray, .func (.func 53) [].toArray [].toArray, .func (.func 54) [].toArray [].toArray, .func (.func 55) [].toArray [].toArray, .func (.func 56) [].toArray [].toArray] : List Value).toArray ∧ Upd [] w w') := by
 have hM0 : Mem w [] w [] := Mem.nil w []
 refine calls_vc mixed Tryz.func29 rfl C29 (by simp [Tryz.ntmps29]) <| seq fun _ h1 => m_al hM0 fun b2 w3 (hM3 : Mem _ _ w3 [[⟨b2, 65, [.nilFunc, .nilFunc, .nilFunc, .nilFunc, .nilFunc, .nilFunc]⟩]]) => h1 _ _ <| seq fun _ h4 => stp (v := .agg ([.func (.func 51) [].toArray [].toArray, .func (.func 52) [].toArray [].toArray] : List Value).toArray) (o_bld rfl rfl) <| stp (v := .agg ([.func (.func 53) [].toArray [].toArray, .func (.func 54) [].toArray [].toArray] : List Value).toArray) (o_bld rfl rfl) <| stp (v := .agg ([.func (.func 55) [].toArray [].toArray, .func (.func 56) [].toArray [].toArray] : List Value).toArray) (o_bld rfl rfl) <| stp (v := .agg ([.func (.func 51) [].toArray [].toArray, .func (.func 52) [].toArray [].toArray, .func (.func 53) [].toArray [].toArray, .func (.func 54) [].toArray [].toArray, .func (.func 55) [].toArray [].toArray, .func (.func 56) [].toArray [].toArray] : List Value).toArray) (o_bld rfl rfl) <| m_stA (l := [.func (.func 51) [].toArray [].toArray, .func (.func 52) [].toArray [].toArray, .func (.func 53) [].toArray [].toArray, .func (.func 54) [].toArray [].toArray, .func (.func 55) [].toArray [].toArray, .func (.func 56) [].toArray [].toArray]) hM3 (i := 0) rfl rfl rfl rfl (by simp [oneCells, Value.oneCell', byteV]) (by simp) fun w5 (hM5 : Mem _ _ w5 [[⟨b2, 65, [.func (.func 51) [].toArray [].toArray, .func (.func 52) [].toArray [].toArray, .func (.func 53) [].toArray [].toArray, .func (.func 54) [].toArray [].toArray, .func (.func 55) [].toArray [].toArray, .func (.func 56) [].toArray [].toArray]⟩]]) => h4 _ _ ?_
 show resV _ _ _ _ _
 refine res_cell (s := some 6) (by kernel_rfl) <| vl_ldA (cs := [.func (.func 51) [].toArray [].toArray, .func (.func 52) [].toArray [].toArray, .func (.func 53) [].toArray [].toArray, .func (.func 54) [].toArray [].toArray, .func (.func 55) [].toArray [].toArray, .func (.func 56) [].toArray [].toArray]) rfl rfl ((hM5.at (i := 0) (j := 0) rfl rfl).agg rfl rfl) <| ⟨(.agg ([.func (.func 51) [].toArray [].toArray, .func (.func 52) [].toArray [].toArray, .func (.func 53) [].toArray [].toArray, .func (.func 54) [].toArray [].toArray, .func (.func 55) [].toArray [].toArray, .func (.func 56) [].toArray [].toArray] : List Value).toArray), rfl, ⟨rfl, hM5.upd⟩⟩
theorem code2_ok (x : Value) (b : List UInt8) (n : Int) (w : World) (hx : RdE byteV w x b) (hl : b.length ≤ 140737488355328) : Calls Tryz.prog 52 [x, .int .i64 n].toArray w (Rt fun r w' => r = .tuple [if (b.length : Int) = n then x else .slice none 0 0, .int .i64 (if (b.length : Int) = n then 0 else 60)].toArray ∧ Upd [] w w') := by
 have hM0 : Mem w [] w [] := Mem.nil w []
 refine calls_vc mixed Tryz.func52 rfl C52 (by simp [Tryz.ntmps52]) <| seq fun _ h1 => mv <| mv <| h1 _ _ <| seq fun _ h2 => seq fun _ h3 => mv <| stp (v := .int .i64 (b.length : Nat)) (o_lenR (hx.upd hM0.upd) rfl rfl) <| mv <| bneq rfl rfl <| h3 _ _ <| cndP rfl (fun c4 => ?_) (fun c4 => ?_)
 ·refine seq fun _ h5 => mv <| mv <| h5 _ _ <| ⟨(.tuple [.slice none 0 0, .int .i64 60].toArray), rfl, ⟨by first | rw [if_pos (by omega), if_pos (by omega)] | rw [if_neg (by omega), if_neg (by omega)], hM0.upd⟩⟩
 refine h2 _ _ <| seq fun _ h6 => mv <| mv <| mv <| h6 _ _ <| ⟨(.tuple [x, .int .i64 0].toArray), rfl, ⟨by first | rw [if_pos (by omega), if_pos (by omega)] | rw [if_neg (by omega), if_neg (by omega)], hM0.upd⟩⟩
end Go.Proofs.YtifnmbmijljhfaaGreat.E
namespace Go.Proofs.YtifnmbmijljhfaaGreat.E
open Go
def NumQ (b : List UInt8) (a : Nat) (e m V : Int) (a' : Nat) (e' : Int) : Prop := (0 ≤ V ∧ V ≤ m) ∧ (e' = 0 → e = 0 ∧ b.drop a = putI V ++ b.drop a') ∧ (∀ v R, e = 0 → b.drop a = putI v ++ R → 0 ≤ v → v ≤ m → v ≤ 9223372036854775807 → V = v ∧ e' = 0 ∧ b.drop a' = R) ∧ (e' = 22 → e = 22)
def TkQ (b : List UInt8) (a : Nat) (e n : Int) (T : List UInt8) (a' : Nat) (e' : Int) : Prop := T.length ≤ b.length ∧ (e' = 0 → e = 0 ∧ b.drop a = T ++ b.drop a' ∧ (T.length : Int) = n) ∧ (∀ t R, e = 0 → b.drop a = t ++ R → (t.length : Int) = n → T = t ∧ e' = 0 ∧ b.drop a' = R) ∧ (e' = 22 → e = 22)
theorem getA_er3 : ∀ (l : List UInt8) (i v : Nat), (getA i v l).2.2 = 0 ∨ (getA i v l).2.2 = 20 ∨ (getA i v l).2.2 = 21
 | [], _, _ => by simp [getA]
 | c :: r, i, v => by
  rw [getA]
  split
  ·simp
  split
  ·split <;> simp
  exact getA_er3 r _ _
theorem cNum_Q (b : List UInt8) (a : Nat) (e m : Int) (hm : 0 ≤ m) : NumQ b a e m (cNum b a e m) (cNumA b a e m) (cNumE b a e m) := by
 have he : ∀ l, numE l m = 0 ∨ numE l m = 20 ∨ numE l m = 21 ∨ numE l m = 23 := fun l => by
  have := getA_er3 l 0 0
  unfold numE get
  split
  ·split <;> omega
  omega
 refine ⟨?_, ?_, ?_, ?_⟩
 ·unfold cNum
  split
  ·unfold numV
   split
   ·rename_i h
    refine ⟨by omega, ?_⟩
    apply Decidable.byContradiction; intro k
    unfold numE at h
    rw [if_pos (numE_get (m := m) (by unfold numE; exact h)), if_pos (by omega)] at h
    omega
   omega
  omega
 ·intro h
  unfold cNumE at h
  split at h
  ·rename_i c
   refine ⟨c, ?_⟩
   have hg := get_ok (numE_get h)
   subst c
   have hA : cNumA b a 0 m = a + (get (b.drop a)).2.1 := by simp only [cNumA, if_pos]; rw [if_pos ⟨trivial, h⟩]
   have hV : cNum b a 0 m = ((get (b.drop a)).1 : Nat) := by simp only [cNum, if_pos, numV]; rw [if_pos h]
   rw [hA, hV, hg.2.2, ← List.drop_drop, List.take_append_drop]
  exact absurd h (by assumption)
 ·rintro v R rfl h h0 hv h9
  have hg := get_put h0 h9 R
  rw [← h] at hg
  have hE : numE (b.drop a) m = 0 := by unfold numE; rw [hg]; simp only [if_pos]; rw [if_neg (by omega)]
  have hA : cNumA b a 0 m = a + (putI v).length := by simp only [cNumA, if_pos]; rw [if_pos ⟨trivial, hE⟩, hg]
  refine ⟨?_, ?_, ?_⟩
  ·simp only [cNum, if_pos, numV]; rw [if_pos hE, hg]; simp only []; omega
  ·simp only [cNumE, if_pos]; exact hE
  rw [hA, ← List.drop_drop, h, List.drop_left]
 intro h
 unfold cNumE at h
 split at h
 ·have := he (b.drop a); omega
 exact h
theorem cTk_Q (b : List UInt8) (a : Nat) (e n : Int) : TkQ b a e n (cTk b a e n) (cTkA b a e n) (cTkE b a e n) := by
 refine ⟨?_, ?_, ?_, ?_⟩
 ·unfold cTk tkV
  split
  ·split
   ·rw [List.length_take, List.length_drop]; omega
   simp
  simp
 ·intro h
  unfold cTkE at h
  split at h
  ·rename_i c
   subst c
   have hN := tkN_n h
   have hL := tkN_le h
   have hA : cTkA b a 0 n = a + tkN (b.drop a) n := by simp only [cTkA, if_pos]; rw [if_pos ⟨trivial, h⟩]
   have hT : cTk b a 0 n = (b.drop a).take (tkN (b.drop a) n) := by simp only [cTk, if_pos]; unfold tkV; rw [if_pos h, show n.toNat = tkN (b.drop a) n by omega]
   refine ⟨rfl, ?_, ?_⟩
   ·rw [hA, hT, ← List.drop_drop, List.take_append_drop]
   rw [hT, List.length_take]; omega
  exact absurd h (by assumption)
 ·rintro t R rfl h hn
  have hl := congrArg List.length h
  rw [List.length_append] at hl
  have hf := tk_fine (l := b.drop a) (n := n) (by omega) (by omega)
  refine ⟨?_, ?_, ?_⟩
  ·simp only [cTk, if_pos]; rw [hf.2, h, show n.toNat = t.length by omega, List.take_left]
  ·simp only [cTkE, if_pos]; exact hf.1
  have hA : cTkA b a 0 n = a + t.length := by
   simp only [cTkA, if_pos]; rw [if_pos ⟨trivial, hf.1⟩]
   have := tkN_n hf.1
   omega
  rw [hA, ← List.drop_drop, h, List.drop_left]
 intro h
 unfold cTkE at h
 split at h
 ·unfold tkE at h
  split at h
  ·omega
  split at h <;> omega
 exact h
theorem cur_tail {b : List UInt8} {a : Nat} {e : Int} (h22 : ¬ e = 22) : (¬ (endE b a e = 0 ∨ endE b a e = 22) ↔ ¬ e = 0) := by
 unfold endE
 split
 ·omega
 split <;> omega
def NextQ (b : List UInt8) (a : Nat) (key : List UInt8) (rs fi ok : Bool) (x1 x2 : List UInt8) (a' : Nat) (e' : Int) : Prop :=
 (ok = true → e' = 0 ∧ b.drop a = wrB (if rs = true then [] else key) x1 x2 ++ b.drop a' ∧ x1.length ≤ 1024 ∧ x2.length ≤ 1024 ∧ (¬ fi = true → 0 ≤ cmp x1 key)) ∧
 (∀ k v R, b.drop a = wrB (if rs = true then [] else key) k v ++ R → k.length ≤ 1024 → v.length ≤ 1024 → (¬ fi = true → 0 ≤ cmp k key) → ok = true ∧ x1 = k ∧ x2 = v ∧ b.drop a' = R)
structure Five (b : List UInt8) (a : Nat) (c o l : Int) (T U : List UInt8) (a' : Nat) (e' : Int) : Prop where
 c0 : 0 ≤ c ∧ c ≤ 1024
 o0 : 0 ≤ o ∧ o ≤ 1024
 l0 : 0 ≤ l ∧ l ≤ 1024
 snd : e' = 0 → b.drop a = putI c ++ (putI o ++ (putI l ++ (T ++ (U ++ b.drop a')))) ∧ (T.length : Int) = o ∧ (U.length : Int) = l
 cpl : ∀ A k v R, b.drop a = wrB A k v ++ R → k.length ≤ 1024 → v.length ≤ 1024 → c = (common A k : Nat) ∧ o = (k.length : Nat) - (common A k : Nat) ∧ l = (v.length : Nat) ∧ T = k.drop (common A k) ∧ U = v ∧ e' = 0 ∧ b.drop a' = R
 n22 : ¬ e' = 22
theorem Five.mk5 {b T U : List UInt8} {a a1 a2 a3 a4 a5 : Nat} {c o l e1 e2 e3 e4 e5 : Int} (h1 : NumQ b a 0 1024 c a1 e1) (h2 : NumQ b a1 e1 1024 o a2 e2) (h3 : NumQ b a2 e2 1024 l a3 e3) (h4 : TkQ b a3 e3 o T a4 e4) (h5 : TkQ b a4 e4 l U a5 e5) : Five b a c o l T U a5 e5 := by
 refine ⟨h1.1, h2.1, h3.1, fun h => ?_, fun A k v R h hk hv => ?_, fun h => ?_⟩
 ·obtain ⟨g4, q5, l5⟩ := h5.2.1 h
  obtain ⟨g3, q4, l4⟩ := h4.2.1 g4
  obtain ⟨g2, q3⟩ := h3.2.1 g3
  obtain ⟨g1, q2⟩ := h2.2.1 g2
  obtain ⟨_, q1⟩ := h1.2.1 g1
  exact ⟨by rw [q1, q2, q3, q4, q5], l4, l5⟩
 ·have hc := common_le A k
  unfold wrB at h
  simp only [List.append_assoc] at h
  obtain ⟨v1, g1, q1⟩ := h1.2.2.1 _ _ rfl h (by omega) (by omega) (by omega)
  obtain ⟨v2, g2, q2⟩ := h2.2.2.1 _ _ g1 q1 (by omega) (by omega) (by omega)
  obtain ⟨v3, g3, q3⟩ := h3.2.2.1 _ _ g2 q2 (by omega) (by omega) (by omega)
  obtain ⟨v4, g4, q4⟩ := h4.2.2.1 _ _ g3 q3 (by rw [List.length_drop]; omega)
  obtain ⟨v5, g5, q5⟩ := h5.2.2.1 _ _ g4 q4 (by omega)
  exact ⟨v1, v2, v3, v4, v5, g5, q5⟩
 have := h1.2.2.2 (h2.2.2.2 (h3.2.2.2 (h4.2.2.2 (h5.2.2.2 h)))); omega
section
variable {b T U key : List UInt8} {a a' : Nat} {c o l e' : Int} {rs fi : Bool} (hF : Five b a c o l T U a' e')
include hF
theorem Five.all {k v R : List UInt8} (h : b.drop a = wrB (if rs = true then [] else key) k v ++ R) (hk : k.length ≤ 1024) (hv : v.length ≤ 1024) : c ≤ (key.length : Nat) ∧ (rs = true → c = 0) ∧ c + o ≤ 1024 ∧ key.take c.toNat ++ T = k ∧ (¬ rs = true → c = (common key k : Nat)) ∧ U = v ∧ e' = 0 ∧ b.drop a' = R := by
 obtain ⟨h1, h2, h3, h4, h5, h6, h7⟩ := hF.cpl _ k v R h hk hv
 by_cases hr : rs = true
 ·rw [if_pos hr] at h1 h2 h4
  have h0 : common [] k = 0 := by cases k <;> rfl
  rw [h0] at h1 h2 h4
  refine ⟨by omega, fun _ => by omega, by omega, by rw [h4, show c.toNat = 0 by omega]; rfl, fun q => absurd hr q, h5, h6, h7⟩
 rw [if_neg hr] at h1 h2 h4
 have hc := common_le key k
 refine ⟨by omega, fun q => absurd q hr, by omega, ?_, fun _ => h1, h5, h6, h7⟩
 rw [h4, show c.toNat = common key k by omega, hc.2.2.1, List.take_append_drop]
theorem Five.no {x1 x2 : List UInt8} (h : ¬ (e' = 0 ∧ c ≤ (key.length : Nat) ∧ (rs = true → c = 0) ∧ c + o ≤ 1024 ∧ (¬ fi = true → 0 ≤ cmp (key.take c.toNat ++ T) key) ∧ (¬ rs = true → c = (common key (key.take c.toNat ++ T) : Nat)))) : NextQ b a key rs fi false x1 x2 a' e' := by
 refine ⟨fun q => absurd q Bool.false_ne_true, fun k v R hd hk hv hc => absurd ?_ h⟩
 obtain ⟨g1, g2, g3, g4, g5, g6, g7, g8⟩ := hF.all hd hk hv
 rw [g4]
 exact ⟨g7, g1, g2, g3, hc, g5⟩
theorem Five.yes (h : e' = 0 ∧ c ≤ (key.length : Nat) ∧ (rs = true → c = 0) ∧ c + o ≤ 1024 ∧ (¬ fi = true → 0 ≤ cmp (key.take c.toNat ++ T) key) ∧ (¬ rs = true → c = (common key (key.take c.toNat ++ T) : Nat))) : NextQ b a key rs fi true (key.take c.toNat ++ T) U a' e' := by
 obtain ⟨g1, g2, g3, g4, g5, g6⟩ := h
 obtain ⟨s1, s2, s3⟩ := hF.snd g1
 have hc0 := hF.c0
 have hl0 := hF.l0
 have hlen : (key.take c.toNat ++ T).length = c.toNat + T.length := by rw [List.length_append, List.length_take]; omega
 refine ⟨fun _ => ⟨g1, ?_, by omega, by omega, g5⟩, fun k v R hd hk hv hc => ?_⟩
 ·have hcm : (common (if rs = true then [] else key) (key.take c.toNat ++ T) : Int) = c := by
   by_cases hr : rs = true
   ·rw [if_pos hr, show common [] (key.take c.toNat ++ T) = 0 by cases (key.take c.toNat ++ T) <;> rfl]; have := g3 hr; omega
   rw [if_neg hr]; exact (g6 hr).symm
  unfold wrB
  rw [show common (if rs = true then [] else key) (key.take c.toNat ++ T) = c.toNat by omega, show ((c.toNat : Nat) : Int) = c by omega, hlen, show (((c.toNat + T.length : Nat) : Int) - c) = o by omega, s3, List.drop_left' (by rw [List.length_take]; omega), s1]
  simp only [List.append_assoc]
 obtain ⟨_, _, _, q4, _, q6, _, q8⟩ := hF.all hd hk hv
 exact ⟨rfl, q4, q6, q8⟩
end
end Go.Proofs.YtifnmbmijljhfaaGreat.E
namespace Go.Proofs.YtifnmbmijljhfaaGreat.E
open Go
theorem NumQ_ok (bc : Nat) (b : List UInt8) (a : Nat) (e m : Int) (r0 : List Ent) (w : World) (hc : CurS bc b a e r0) (hr : Res w r0) (hl : b.length ≤ 140737488355328) (hm : 0 ≤ m) : Calls Tryz.prog 104 [.pointer (some ⟨bc, 0, none⟩), .int .i64 m].toArray w (Rt fun r w' => ∃ V a' e' r', r = .int .i64 V ∧ NumQ b a e m V a' e' ∧ CurS bc b a' e' r' ∧ Mem w (ids r0) w' [r']) :=
 (Num_ok bc b a e m r0 w hc hr hl).mono fun en w2 h => h.elim fun v h => ⟨v, h.1, by
  obtain ⟨h1, r2, h2, h3⟩ := h.2
  exact ⟨_, _, _, r2, h1, cNum_Q b a e m hm, h2, h3⟩⟩
theorem TakeQ_ok (bc : Nat) (b : List UInt8) (a : Nat) (e m : Int) (r0 : List Ent) (w : World) (hc : CurS bc b a e r0) (hr : Res w r0) (hl : b.length ≤ 140737488355328) : Calls Tryz.prog 92 [.pointer (some ⟨bc, 0, none⟩), .int .i64 m].toArray w (Rt fun r w' => ∃ T a' e' r' rs, TkQ b a e m T a' e' ∧ CurS bc b a' e' r' ∧ SlE byteV 5 r T rs ∧ Mem w (ids r0) w' [r', rs]) :=
 (Take_ok bc b a e m r0 w hc hr hl).mono fun en w2 h => h.elim fun v h => ⟨v, h.1, by
  obtain ⟨r2, rs, h1, h2, h3⟩ := h.2
  exact ⟨_, _, _, r2, rs, cTk_Q b a e m, h1, h2, h3⟩⟩
set_option maxHeartbeats 8000000 in
set_option maxRecDepth 100000 in
theorem next_ok (bw bc : Nat) (b : List UInt8) (a : Nat) (key : List UInt8) (rs fi : Bool) (r0 : List Ent) (w : World) (hc : CurS bc b a 0 r0) (hr : Res w (⟨bw, 105, [.pointer (some ⟨bc, 0, none⟩), .string (str key)]⟩ :: r0)) (hl : b.length ≤ 140737488355328) (hk : key.length ≤ 1024) : Calls Tryz.prog 70 [.pointer (some ⟨bw, 0, none⟩), .bool rs, .bool fi].toArray w (Rt fun r w' => ∃ ok x1 x2 a' e' key' r', r = .tuple [.agg [.string (str x1), .string (str x2)].toArray, .bool ok].toArray ∧ NextQ b a key rs fi ok x1 x2 a' e' ∧ (ok = true → key' = x1 ∧ x1.length ≤ 1024) ∧ CurS bc b a' e' r' ∧ Mem w (ids (⟨bw, 105, [.pointer (some ⟨bc, 0, none⟩), .string (str key)]⟩ :: r0)) w' [[⟨bw, 105, [.pointer (some ⟨bc, 0, none⟩), .string (str key')]⟩], r']) := by
 have hM0 : Mem w (ids (⟨bw, 105, [.pointer (some ⟨bc, 0, none⟩), .string (str key)]⟩ :: r0)) w [[⟨bw, 105, [.pointer (some ⟨bc, 0, none⟩), .string (str key)]⟩], r0] := Mem.start2 hr
 refine calls_vc mixed Tryz.func70 rfl C70 (by simp [Tryz.ntmps70]) <| seq fun _ h1 => m_al hM0 fun b2 w3 (hM3 : Mem _ _ w3 [_, _, [⟨b2, 107, [.string (str ([])), .string (str ([]))]⟩]]) => mv <| h1 _ _ <| seq fun _ h4 => mv <| nilchk rfl <| fa rfl <| m_ld (v := .pointer (some ⟨bc, 0, none⟩)) hM3 (i := 0) (j := 0) rfl rfl rfl rfl <| m_call (NumQ_ok _ b a 0 1024 r0 w3 hc (hM3.res (i := 1) rfl) (by first | omega | (simp; done) | (simp; omega)) (by omega)) rfl fun v5 w5 ⟨V5, a5_, e5_, r'5, hr5, hn5, hc5, hm5⟩ => ?_
 have hM5 : Mem _ _ w5 [_, r'5, _] := hM3.step 1 rfl hm5
 subst hr5
 have hb5 := hn5.1
 refine mv <| h4 _ _ <| seq fun _ h6 => mv <| nilchk rfl <| fa rfl <| m_ld (v := .pointer (some ⟨bc, 0, none⟩)) hM5 (i := 0) (j := 0) rfl rfl rfl rfl <| m_call (NumQ_ok _ b a5_ e5_ 1024 r'5 w5 hc5 (hM5.res (i := 1) rfl) (by first | omega | (simp; done) | (simp; omega)) (by omega)) rfl fun v7 w7 ⟨V7, a7_, e7_, r'7, hr7, hn7, hc7, hm7⟩ => ?_
 have hM7 : Mem _ _ w7 [_, r'7, _] := hM5.step 1 rfl hm7
 subst hr7
 have hb7 := hn7.1
 refine mv <| h6 _ _ <| seq fun _ h8 => mv <| nilchk rfl <| fa rfl <| m_ld (v := .pointer (some ⟨bc, 0, none⟩)) hM7 (i := 0) (j := 0) rfl rfl rfl rfl <| m_call (NumQ_ok _ b a7_ e7_ 1024 r'7 w7 hc7 (hM7.res (i := 1) rfl) (by first | omega | (simp; done) | (simp; omega)) (by omega)) rfl fun v9 w9 ⟨V9, a9_, e9_, r'9, hr9, hn9, hc9, hm9⟩ => ?_
 have hM9 : Mem _ _ w9 [_, r'9, _] := hM7.step 1 rfl hm9
 subst hr9
 have hb9 := hn9.1
 refine mv <| h8 _ _ <| seq fun _ h10 => mv <| nilchk rfl <| fa rfl <| m_ld (v := .pointer (some ⟨bc, 0, none⟩)) hM9 (i := 0) (j := 0) rfl rfl rfl rfl <| mv <| m_call (TakeQ_ok _ b a9_ e9_ V7 r'9 w9 hc9 (hM9.res (i := 1) rfl) (by first | omega | (simp; done) | (simp; omega))) rfl fun v11 w11 ⟨T11, a11_, e11_, r'11, rs11, hk11, hc11, hs11, hm11⟩ => ?_
 have hM11 : Mem _ _ w11 [_, r'11, _, rs11] := hM9.stepAdd 1 rfl hm11
 have hb11 := hk11.1
 refine m_b2s rfl (hs11.rd hM11 (i := 3) rfl) <| mv <| h10 _ _ <| seq fun _ h12 => mv <| nilchk rfl <| fa rfl <| m_ld (v := .pointer (some ⟨bc, 0, none⟩)) hM11 (i := 0) (j := 0) rfl rfl rfl rfl <| mv <| m_call (TakeQ_ok _ b a11_ e11_ V9 r'11 w11 hc11 (hM11.res (i := 1) rfl) (by first | omega | (simp; done) | (simp; omega))) rfl fun v13 w13 ⟨T13, a13_, e13_, r'13, rs13, hk13, hc13, hs13, hm13⟩ => ?_
 have hM13 : Mem _ _ w13 [_, r'13, _, _, rs13] := hM11.stepAdd 1 rfl hm13
 have hb13 := hk13.1
 refine m_b2s rfl (hs13.rd hM13 (i := 4) rfl) <| stp (v := .agg ([.string (str ([])), .string (str T13)] : List Value).toArray) (o_bld rfl rfl) <| m_al hM13 fun b14 w15 (hM15 : Mem _ _ w15 [_, _, _, _, _, [⟨b14, 107, [.string (str ([])), .string (str ([]))]⟩]]) => m_stA (l := [.string (str ([])), .string (str T13)]) hM15 (i := 5) rfl rfl rfl rfl (by simp [oneCells, Value.oneCell', byteV]) (by simp) fun w16 (hM16 : Mem _ _ w16 [_, _, _, _, _, [⟨b14, 107, [.string (str ([])), .string (str T13)]⟩]]) => h12 _ _ <| seq fun _ h17 => seq fun _ h18 => mv <| nilchk rfl <| fa rfl <| m_ld (v := .pointer (some ⟨bc, 0, none⟩)) hM16 (i := 0) (j := 0) rfl rfl rfl rfl <| m_call (End_ok _ b a13_ e13_ r'13 w16 hc13 (hM16.res (i := 1) rfl)) rfl fun v19 w19 ⟨hr19, hm19⟩ => ?_
 have hM19 : Mem _ _ w19 [_, _, _, _, _, _] := hM16.step 1 rfl hm19
 subst hr19
 refine m_al hM19 fun b20 w21 (hM21 : Mem _ _ w21 [_, _, _, _, _, _, [⟨b20, 111, [.int .i64 0, .int .i64 0]⟩]]) => m_stA (l := [.int .i64 (endE b a13_ e13_), .int .i64 (endA b a13_ e13_ : Nat)]) hM21 (i := 6) rfl rfl rfl rfl (by simp [oneCells, Value.oneCell', byteV]) (by simp) fun w22 (hM22 : Mem _ _ w22 [_, _, _, _, _, _, [⟨b20, 111, [.int .i64 (endE b a13_ e13_), .int .i64 (endA b a13_ e13_ : Nat)]⟩]]) => h18 _ _ <| seq fun _ h23 => ?_
 have hF := Five.mk5 hn5 hn7 hn9 hk11 hk13
 have ht := cur_tail (b := b) (a := a13_) hF.n22
 refine fa rfl <| m_ld (v := .int .i64 (endE b a13_ e13_)) hM22 (i := 6) (j := 0) rfl rfl rfl rfl <| bneq rfl rfl <| mv <| splitP rfl (fun c24 => ?_) (fun c24 => ?_)
 ·refine gfa rfl rfl <| gyesl rfl <| m_ld (v := .int .i64 (endE b a13_ e13_)) hM22 (i := 6) (j := 0) rfl rfl rfl rfl <| gbneq rfl rfl rfl <| pkT rfl <| h23 _ _ <| cndP rfl (fun c25 => ?_) (fun c25 => ?_)
  ·refine seq fun _ h26 => stp (v := .agg ([.string (str ([])), .string (str ([]))] : List Value).toArray) (o_bld rfl rfl) <| m_stA (l := [.string (str ([])), .string (str ([]))]) hM22 (i := 2) rfl rfl rfl rfl (by simp [oneCells, Value.oneCell', byteV]) (by simp) fun w27 (hM27 : Mem _ _ w27 [_, _, _, _, _, _, _]) => mv <| h26 _ _ ?_
   show resV _ _ _ _ _
   refine res_cell (s := some 2) (by kernel_rfl) <| vl_ldA (cs := [.string (str ([])), .string (str ([]))]) rfl rfl ((hM27.at (i := 2) (j := 0) rfl rfl).agg rfl rfl) <| res_tmp <| ⟨(.tuple [.agg ([.string (str ([])), .string (str ([]))] : List Value).toArray, .bool false].toArray), rfl, ⟨false, _, _, _, _, key, _, rfl, hF.no (fun q => ?_), fun q => absurd q Bool.false_ne_true, hc13, hM27.keep (by simp)⟩⟩
   obtain ⟨q1, q2, q3, q4, q5, q6⟩ := q
   omega
  refine h17 _ _ <| seq fun _ h28 => seq fun _ h29 => mv <| mv <| split rfl (fun c30 => ?_) (fun c30 => ?_)
  ·refine gmv rfl <| gbneq rfl rfl rfl <| pkT rfl <| mv <| splitP rfl (fun c31 => ?_) (fun c31 => ?_)
   ·refine gx rfl <| gx rfl <| gx rfl <| gx rfl <| gxl rfl <| gx rfl <| gx rfl <| pkT rfl <| mv <| splitT rfl <| gx rfl <| gx rfl <| gx rfl <| gx rfl ?_
    refine pkT rfl <| h29 _ _ <| cndT rfl <| seq fun _ h32 => stp (v := .agg ([.string (str ([])), .string (str ([]))] : List Value).toArray) (o_bld rfl rfl) <| m_stA (l := [.string (str ([])), .string (str ([]))]) hM22 (i := 2) rfl rfl rfl rfl (by simp [oneCells, Value.oneCell', byteV]) (by simp) fun w33 (hM33 : Mem _ _ w33 [_, _, _, _, _, _, _]) => mv <| h32 _ _ ?_
    show resV _ _ _ _ _
    refine res_cell (s := some 2) (by kernel_rfl) <| vl_ldA (cs := [.string (str ([])), .string (str ([]))]) rfl rfl ((hM33.at (i := 2) (j := 0) rfl rfl).agg rfl rfl) <| res_tmp <| ⟨(.tuple [.agg ([.string (str ([])), .string (str ([]))] : List Value).toArray, .bool false].toArray), rfl, ⟨false, _, _, _, _, key, _, rfl, hF.no (fun q => ?_), fun q => absurd q Bool.false_ne_true, hc13, hM33.keep (by simp)⟩⟩
    obtain ⟨q1, q2, q3, q4, q5, q6⟩ := q
    have := q3 (by first | assumption | (simpa using ‹(!fi) = true›) | (simpa using ‹(!rs) = true›) | (simpa using ‹rs = false›) | (simpa using ‹fi = false›)); omega
   refine gmv rfl <| gmv rfl <| stg rfl (v := .pointer (some ⟨bw, 0, none⟩)) (o_nilchk rfl rfl) <| gfa rfl rfl <| gyesl rfl <| m_ld (v := .string (str key)) hM22 (i := 0) (j := 0) rfl rfl rfl rfl <| stg rfl (v := .int .i64 (key.length : Nat)) (o_lens rfl rfl) <| gbn rfl rfl rfl <| pkF rfl <| mv <| splitP rfl (fun c34 => ?_) (fun c34 => ?_)
   ·refine gx rfl <| gx rfl <| gx rfl <| gx rfl <| pkT rfl <| h29 _ _ <| cndT rfl <| seq fun _ h35 => stp (v := .agg ([.string (str ([])), .string (str ([]))] : List Value).toArray) (o_bld rfl rfl) <| m_stA (l := [.string (str ([])), .string (str ([]))]) hM22 (i := 2) rfl rfl rfl rfl (by simp [oneCells, Value.oneCell', byteV]) (by simp) fun w36 (hM36 : Mem _ _ w36 [_, _, _, _, _, _, _]) => mv <| h35 _ _ ?_
    show resV _ _ _ _ _
    refine res_cell (s := some 2) (by kernel_rfl) <| vl_ldA (cs := [.string (str ([])), .string (str ([]))]) rfl rfl ((hM36.at (i := 2) (j := 0) rfl rfl).agg rfl rfl) <| res_tmp <| ⟨(.tuple [.agg ([.string (str ([])), .string (str ([]))] : List Value).toArray, .bool false].toArray), rfl, ⟨false, _, _, _, _, key, _, rfl, hF.no (fun q => ?_), fun q => absurd q Bool.false_ne_true, hc13, hM36.keep (by simp)⟩⟩
    obtain ⟨q1, q2, q3, q4, q5, q6⟩ := q
    omega
   refine gmv rfl <| gmv rfl <| stg rfl (v := .int .i64 (V5 + V7)) (o_bin rfl rfl (v_add64 (by omega))) <| gbn rfl rfl rfl <| pkF rfl <| h29 _ _ <| cndP rfl (fun c37 => ?_) (fun c37 => ?_)
   ·refine seq fun _ h38 => stp (v := .agg ([.string (str ([])), .string (str ([]))] : List Value).toArray) (o_bld rfl rfl) <| m_stA (l := [.string (str ([])), .string (str ([]))]) hM22 (i := 2) rfl rfl rfl rfl (by simp [oneCells, Value.oneCell', byteV]) (by simp) fun w39 (hM39 : Mem _ _ w39 [_, _, _, _, _, _, _]) => mv <| h38 _ _ ?_
    show resV _ _ _ _ _
    refine res_cell (s := some 2) (by kernel_rfl) <| vl_ldA (cs := [.string (str ([])), .string (str ([]))]) rfl rfl ((hM39.at (i := 2) (j := 0) rfl rfl).agg rfl rfl) <| res_tmp <| ⟨(.tuple [.agg ([.string (str ([])), .string (str ([]))] : List Value).toArray, .bool false].toArray), rfl, ⟨false, _, _, _, _, key, _, rfl, hF.no (fun q => ?_), fun q => absurd q Bool.false_ne_true, hc13, hM39.keep (by simp)⟩⟩
    obtain ⟨q1, q2, q3, q4, q5, q6⟩ := q
    omega
   refine h28 _ _ <| seq fun _ h40 => mv <| nilchk rfl <| fa rfl <| m_ld (v := .string (str key)) hM22 (i := 0) (j := 0) rfl rfl rfl rfl <| mv <| stp (v := .string (str (key.take V5.toNat))) (o_slcs (a := 0) (b := V5.toNat) rfl (by omega) ⟨_, v_int (by omega)⟩ rfl rfl) <| mv <| stp (v := .string (str ((key.take V5.toNat) ++ T11))) (o_sadd rfl rfl (by first | omega | (simp; omega)) rfl) <| fa rfl <| m_st (v := .string (str ((key.take V5.toNat) ++ T11))) hM22 (i := 5) rfl rfl rfl rfl (by simp) fun w41 (hM41 : Mem _ _ w41 [_, _, _, _, _, [⟨b14, 107, [.string (str ((key.take V5.toNat) ++ T11)), .string (str T13)]⟩], _]) => h40 _ _ <| seq fun _ h42 => seq fun _ h43 => ?_
   intro wd e1 e2 e3 e4
   have hd := Upd.same e1 e2 e3 e4 []
   have hM44 := hM41.pure hd
   clear e1 e2 e3 e4
   refine ⟨(some [bw, b14]), ?_⟩
   show vd _ _ _ _ _ _ _
   refine dmv <| dq (v := .bool (!fi)) (o_not rfl rfl) <| dmv <| dsplit rfl (fun c45 => ?_) (fun c45 => ?_)
   ·refine dgfa rfl rfl <| dgmv rfl <| dqg rfl (v := .pointer (some ⟨bw, 0, none⟩)) (o_nilchk rfl rfl) <| dgfa rfl rfl <| dqgyes rfl rfl <| dqld rfl (by simp [isHeld]) (v := .string (str key)) ((hM44.at (i := 0) (j := 0) rfl rfl).cell 1) <| dgyesl rfl <| dl (m_ld (v := .string (str ((key.take V5.toNat) ++ T11))) hM44 (i := 5) (j := 0) rfl rfl rfl rfl <| ⟨(fun b hb => rfl), dgyesl rfl <| dl (m_call (Compare_ok ((key.take V5.toNat) ++ T11) key wd (by first | omega | (simp; done) | (simp; omega)) (by first | omega | (simp; done) | (simp; omega))) rfl fun v46 w46 ⟨hr46, hu46⟩ => ?_)⟩)
    have hM46 : Mem w (ids (⟨bw, 105, [.pointer (some ⟨bc, 0, none⟩), .string (str key)]⟩ :: r0)) w46 [[⟨bw, 105, [.pointer (some ⟨bc, 0, none⟩), .string (str key)]⟩], r'13, [⟨b2, 107, [.string (str ([])), .string (str ([]))]⟩], rs11, rs13, [⟨b14, 107, [.string (str ((key.take V5.toNat) ++ T11)), .string (str T13)]⟩], [⟨b20, 111, [.int .i64 (endE b a13_ e13_), .int .i64 (endA b a13_ e13_ : Nat)]⟩]] := hM44.pure hu46
    subst hr46
    have hh46 := held_upd (wr := wd) (bs := [bw, b14]) hu46 (fun b hb => by
     simp only [List.mem_cons, List.not_mem_nil, or_false] at hb
     rcases hb with h | h
     ·rw [h]; exact ⟨(hM44.at (i := 0) (j := 0) rfl rfl).lt, by simp⟩
     rw [h]; exact ⟨(hM44.at (i := 5) (j := 0) rfl rfl).lt, by simp⟩) (fun b hb => rfl)
    refine ⟨hh46, dgbn rfl rfl rfl <| dpkT rfl <| dmv <| dsplitP rfl (fun c47 => ?_) (fun c47 => ?_)⟩
    ·refine dx rfl <| dx rfl <| dx rfl <| dsplitU rfl <| dgnou rfl <| dgnou rfl <| dgnou rfl <| dgnou rfl <| dgnou rfl <| dqgnou rfl <| dgnolu rfl <| dgnolu rfl <| dgnou rfl <| dx rfl ?_
     refine dpkT rfl <| h43 _ _ <| cndT rfl <| seq fun _ h48 => stp (v := .agg ([.string (str ([])), .string (str ([]))] : List Value).toArray) (o_bld rfl rfl) <| m_stA (l := [.string (str ([])), .string (str ([]))]) hM46 (i := 2) rfl rfl rfl rfl (by simp [oneCells, Value.oneCell', byteV]) (by simp) fun w49 (hM49 : Mem _ _ w49 [_, _, _, _, _, _, _]) => mv <| h48 _ _ ?_
     show resV _ _ _ _ _
     refine res_cell (s := some 2) (by kernel_rfl) <| vl_ldA (cs := [.string (str ([])), .string (str ([]))]) rfl rfl ((hM49.at (i := 2) (j := 0) rfl rfl).agg rfl rfl) <| res_tmp <| ⟨(.tuple [.agg ([.string (str ([])), .string (str ([]))] : List Value).toArray, .bool false].toArray), rfl, ⟨false, _, _, _, _, key, _, rfl, hF.no (fun q => ?_), fun q => absurd q Bool.false_ne_true, hc13, hM49.keep (by simp)⟩⟩
     obtain ⟨q1, q2, q3, q4, q5, q6⟩ := q
     have := q5 (by first | assumption | (simpa using ‹(!fi) = true›) | (simpa using ‹(!rs) = true›) | (simpa using ‹rs = false›) | (simpa using ‹fi = false›)); omega
    refine dgmv rfl <| dqg rfl (v := .bool (!rs)) (o_not rfl rfl) <| dgmv rfl <| dsplit rfl (fun c50 => ?_) (fun c50 => ?_)
    ·refine dgmv rfl <| dqg rfl (v := .pointer (some ⟨bw, 0, none⟩)) (o_nilchk rfl rfl) <| dgfa rfl rfl <| dgfa rfl rfl <| dgmv rfl <| dqgyes rfl rfl <| dqld rfl (by simp [isHeld]) (v := .string (str ((key.take V5.toNat) ++ T11))) ((hM44.at (i := 5) (j := 0) rfl rfl).cell 0) <| dgyesl rfl <| dl (m_ld (v := .string (str key)) hM46 (i := 0) (j := 0) rfl rfl rfl rfl <| ⟨hh46, dgyesl rfl <| dl (m_call (Common_ok key ((key.take V5.toNat) ++ T11) w46 (by first | omega | (simp; done) | (simp; omega)) (by first | omega | (simp; done) | (simp; omega))) rfl fun v51 w51 ⟨hr51, hu51⟩ => ?_)⟩)
     have hM51 : Mem _ _ w51 [_, _, _, _, _, _, _] := hM46.pure hu51
     subst hr51
     have hh51 := held_upd (wr := wd) (bs := [bw, b14]) hu51 (fun b hb => by
      simp only [List.mem_cons, List.not_mem_nil, or_false] at hb
      rcases hb with h | h
      ·rw [h]; exact ⟨(hM46.at (i := 0) (j := 0) rfl rfl).lt, by simp⟩
      rw [h]; exact ⟨(hM46.at (i := 5) (j := 0) rfl rfl).lt, by simp⟩) hh46
     refine ⟨hh51, dqg rfl (v := .bool (decide (¬ ((common key ((key.take V5.toNat) ++ T11) : Nat) : Int) = V5))) (o_bin rfl rfl v_neq) <| dqg rfl (v := .bool (decide (¬ ((common key ((key.take V5.toNat) ++ T11) : Nat) : Int) = V5))) (o_pickT rfl rfl) <| dpkF rfl <| h43 _ _ <| cndP rfl (fun c52 => ?_) (fun c52 => ?_)⟩
     ·refine seq fun _ h53 => stp (v := .agg ([.string (str ([])), .string (str ([]))] : List Value).toArray) (o_bld rfl rfl) <| m_stA (l := [.string (str ([])), .string (str ([]))]) hM51 (i := 2) rfl rfl rfl rfl (by simp [oneCells, Value.oneCell', byteV]) (by simp) fun w54 (hM54 : Mem _ _ w54 [_, _, _, _, _, _, _]) => mv <| h53 _ _ ?_
      show resV _ _ _ _ _
      refine res_cell (s := some 2) (by kernel_rfl) <| vl_ldA (cs := [.string (str ([])), .string (str ([]))]) rfl rfl ((hM54.at (i := 2) (j := 0) rfl rfl).agg rfl rfl) <| res_tmp <| ⟨(.tuple [.agg ([.string (str ([])), .string (str ([]))] : List Value).toArray, .bool false].toArray), rfl, ⟨false, _, _, _, _, key, _, rfl, hF.no (fun q => ?_), fun q => absurd q Bool.false_ne_true, hc13, hM54.keep (by simp)⟩⟩
      obtain ⟨q1, q2, q3, q4, q5, q6⟩ := q
      have := q6 (by first | assumption | (simpa using ‹(!fi) = true›) | (simpa using ‹(!rs) = true›) | (simpa using ‹rs = false›) | (simpa using ‹fi = false›)); omega
     refine h42 _ _ <| seq fun _ h55 => mv <| fa rfl <| m_ld (v := .string (str ((key.take V5.toNat) ++ T11))) hM51 (i := 5) (j := 0) rfl rfl rfl rfl <| nilchk rfl <| fa rfl <| m_st (v := .string (str ((key.take V5.toNat) ++ T11))) hM51 (i := 0) rfl rfl rfl rfl (by simp) fun w56 (hM56 : Mem _ _ w56 [[⟨bw, 105, [.pointer (some ⟨bc, 0, none⟩), .string (str ((key.take V5.toNat) ++ T11))]⟩], _, _, _, _, _, _]) => h55 _ _ <| seq fun _ h57 => m_ldA (l := [.string (str ((key.take V5.toNat) ++ T11)), .string (str T13)]) hM56 (i := 5) (j := 0) rfl rfl rfl rfl rfl <| m_stA (l := [.string (str ((key.take V5.toNat) ++ T11)), .string (str T13)]) hM56 (i := 2) rfl rfl rfl rfl (by simp [oneCells, Value.oneCell', byteV]) (by simp) fun w58 (hM58 : Mem _ _ w58 [_, _, [⟨b2, 107, [.string (str ((key.take V5.toNat) ++ T11)), .string (str T13)]⟩], _, _, _, _]) => mv <| h57 _ _ ?_
     show resV _ _ _ _ _
     refine res_cell (s := some 2) (by kernel_rfl) <| vl_ldA (cs := [.string (str ((key.take V5.toNat) ++ T11)), .string (str T13)]) rfl rfl ((hM58.at (i := 2) (j := 0) rfl rfl).agg rfl rfl) <| res_tmp <| ⟨(.tuple [.agg ([.string (str ((key.take V5.toNat) ++ T11)), .string (str T13)] : List Value).toArray, .bool true].toArray), rfl, ⟨true, _, _, _, _, _, _, rfl, hF.yes ⟨by omega, by omega, fun hh => ?_, by omega, fun hh => ?_, fun hh => ?_⟩, fun _ => ⟨rfl, ?_⟩, hc13, hM58.keep (by simp)⟩⟩
     ·omega
     ·omega
     ·omega
     rw [List.length_append, List.length_take]; have := hF.snd (by omega); omega
    refine dx rfl <| dx rfl <| dx rfl <| dx rfl <| dx rfl <| dxq rfl <| dxl rfl <| dxl rfl <| dx rfl <| dqg rfl (v := .bool false) (o_pickF rfl rfl) <| dpkF rfl <| h43 _ _ <| cndF rfl <| h42 _ _ <| seq fun _ h59 => mv <| fa rfl <| m_ld (v := .string (str ((key.take V5.toNat) ++ T11))) hM46 (i := 5) (j := 0) rfl rfl rfl rfl <| nilchk rfl <| fa rfl <| m_st (v := .string (str ((key.take V5.toNat) ++ T11))) hM46 (i := 0) rfl rfl rfl rfl (by simp) fun w60 (hM60 : Mem _ _ w60 [[⟨bw, 105, [.pointer (some ⟨bc, 0, none⟩), .string (str ((key.take V5.toNat) ++ T11))]⟩], _, _, _, _, _, _]) => h59 _ _ <| seq fun _ h61 => m_ldA (l := [.string (str ((key.take V5.toNat) ++ T11)), .string (str T13)]) hM60 (i := 5) (j := 0) rfl rfl rfl rfl rfl <| m_stA (l := [.string (str ((key.take V5.toNat) ++ T11)), .string (str T13)]) hM60 (i := 2) rfl rfl rfl rfl (by simp [oneCells, Value.oneCell', byteV]) (by simp) fun w62 (hM62 : Mem _ _ w62 [_, _, [⟨b2, 107, [.string (str ((key.take V5.toNat) ++ T11)), .string (str T13)]⟩], _, _, _, _]) => mv <| h61 _ _ ?_
    show resV _ _ _ _ _
    refine res_cell (s := some 2) (by kernel_rfl) <| vl_ldA (cs := [.string (str ((key.take V5.toNat) ++ T11)), .string (str T13)]) rfl rfl ((hM62.at (i := 2) (j := 0) rfl rfl).agg rfl rfl) <| res_tmp <| ⟨(.tuple [.agg ([.string (str ((key.take V5.toNat) ++ T11)), .string (str T13)] : List Value).toArray, .bool true].toArray), rfl, ⟨true, _, _, _, _, _, _, rfl, hF.yes ⟨by omega, by omega, fun hh => ?_, by omega, fun hh => ?_, fun hh => ?_⟩, fun _ => ⟨rfl, ?_⟩, hc13, hM62.keep (by simp)⟩⟩
    ·omega
    ·omega
    ·exact absurd (by first | assumption | (simpa using ‹(!fi) = false›) | (simpa using ‹(!rs) = false›)) hh
    rw [List.length_append, List.length_take]; have := hF.snd (by omega); omega
   refine dx rfl <| dx rfl <| dx rfl <| dx rfl <| dxq rfl <| dxl rfl <| dxl rfl <| dx rfl <| dpkF rfl <| dmv <| dsplitF rfl <| dgmv rfl <| dqg rfl (v := .bool (!rs)) (o_not rfl rfl) <| dgmv rfl <| dsplit rfl (fun c63 => ?_) (fun c63 => ?_)
   ·refine dgmv rfl <| dqg rfl (v := .pointer (some ⟨bw, 0, none⟩)) (o_nilchk rfl rfl) <| dgfa rfl rfl <| dgfa rfl rfl <| dgmv rfl <| dqgyes rfl rfl <| dqld rfl (by simp [isHeld]) (v := .string (str ((key.take V5.toNat) ++ T11))) ((hM44.at (i := 5) (j := 0) rfl rfl).cell 0) <| dgyesl rfl <| dl (m_ld (v := .string (str key)) hM44 (i := 0) (j := 0) rfl rfl rfl rfl <| ⟨(fun b hb => rfl), dgyesl rfl <| dl (m_call (Common_ok key ((key.take V5.toNat) ++ T11) wd (by first | omega | (simp; done) | (simp; omega)) (by first | omega | (simp; done) | (simp; omega))) rfl fun v64 w64 ⟨hr64, hu64⟩ => ?_)⟩)
    have hM64 : Mem w (ids (⟨bw, 105, [.pointer (some ⟨bc, 0, none⟩), .string (str key)]⟩ :: r0)) w64 [[⟨bw, 105, [.pointer (some ⟨bc, 0, none⟩), .string (str key)]⟩], r'13, [⟨b2, 107, [.string (str ([])), .string (str ([]))]⟩], rs11, rs13, [⟨b14, 107, [.string (str ((key.take V5.toNat) ++ T11)), .string (str T13)]⟩], [⟨b20, 111, [.int .i64 (endE b a13_ e13_), .int .i64 (endA b a13_ e13_ : Nat)]⟩]] := hM44.pure hu64
    subst hr64
    have hh64 := held_upd (wr := wd) (bs := [bw, b14]) hu64 (fun b hb => by
     simp only [List.mem_cons, List.not_mem_nil, or_false] at hb
     rcases hb with h | h
     ·rw [h]; exact ⟨(hM44.at (i := 0) (j := 0) rfl rfl).lt, by simp⟩
     rw [h]; exact ⟨(hM44.at (i := 5) (j := 0) rfl rfl).lt, by simp⟩) (fun b hb => rfl)
    refine ⟨hh64, dqg rfl (v := .bool (decide (¬ ((common key ((key.take V5.toNat) ++ T11) : Nat) : Int) = V5))) (o_bin rfl rfl v_neq) <| dqg rfl (v := .bool (decide (¬ ((common key ((key.take V5.toNat) ++ T11) : Nat) : Int) = V5))) (o_pickT rfl rfl) <| dpkF rfl <| h43 _ _ <| cndP rfl (fun c65 => ?_) (fun c65 => ?_)⟩
    ·refine seq fun _ h66 => stp (v := .agg ([.string (str ([])), .string (str ([]))] : List Value).toArray) (o_bld rfl rfl) <| m_stA (l := [.string (str ([])), .string (str ([]))]) hM64 (i := 2) rfl rfl rfl rfl (by simp [oneCells, Value.oneCell', byteV]) (by simp) fun w67 (hM67 : Mem _ _ w67 [_, _, _, _, _, _, _]) => mv <| h66 _ _ ?_
     show resV _ _ _ _ _
     refine res_cell (s := some 2) (by kernel_rfl) <| vl_ldA (cs := [.string (str ([])), .string (str ([]))]) rfl rfl ((hM67.at (i := 2) (j := 0) rfl rfl).agg rfl rfl) <| res_tmp <| ⟨(.tuple [.agg ([.string (str ([])), .string (str ([]))] : List Value).toArray, .bool false].toArray), rfl, ⟨false, _, _, _, _, key, _, rfl, hF.no (fun q => ?_), fun q => absurd q Bool.false_ne_true, hc13, hM67.keep (by simp)⟩⟩
     obtain ⟨q1, q2, q3, q4, q5, q6⟩ := q
     have := q6 (by first | assumption | (simpa using ‹(!fi) = true›) | (simpa using ‹(!rs) = true›) | (simpa using ‹rs = false›) | (simpa using ‹fi = false›)); omega
    refine h42 _ _ <| seq fun _ h68 => mv <| fa rfl <| m_ld (v := .string (str ((key.take V5.toNat) ++ T11))) hM64 (i := 5) (j := 0) rfl rfl rfl rfl <| nilchk rfl <| fa rfl <| m_st (v := .string (str ((key.take V5.toNat) ++ T11))) hM64 (i := 0) rfl rfl rfl rfl (by simp) fun w69 (hM69 : Mem _ _ w69 [[⟨bw, 105, [.pointer (some ⟨bc, 0, none⟩), .string (str ((key.take V5.toNat) ++ T11))]⟩], _, _, _, _, _, _]) => h68 _ _ <| seq fun _ h70 => m_ldA (l := [.string (str ((key.take V5.toNat) ++ T11)), .string (str T13)]) hM69 (i := 5) (j := 0) rfl rfl rfl rfl rfl <| m_stA (l := [.string (str ((key.take V5.toNat) ++ T11)), .string (str T13)]) hM69 (i := 2) rfl rfl rfl rfl (by simp [oneCells, Value.oneCell', byteV]) (by simp) fun w71 (hM71 : Mem _ _ w71 [_, _, [⟨b2, 107, [.string (str ((key.take V5.toNat) ++ T11)), .string (str T13)]⟩], _, _, _, _]) => mv <| h70 _ _ ?_
    show resV _ _ _ _ _
    refine res_cell (s := some 2) (by kernel_rfl) <| vl_ldA (cs := [.string (str ((key.take V5.toNat) ++ T11)), .string (str T13)]) rfl rfl ((hM71.at (i := 2) (j := 0) rfl rfl).agg rfl rfl) <| res_tmp <| ⟨(.tuple [.agg ([.string (str ((key.take V5.toNat) ++ T11)), .string (str T13)] : List Value).toArray, .bool true].toArray), rfl, ⟨true, _, _, _, _, _, _, rfl, hF.yes ⟨by omega, by omega, fun hh => ?_, by omega, fun hh => ?_, fun hh => ?_⟩, fun _ => ⟨rfl, ?_⟩, hc13, hM71.keep (by simp)⟩⟩
    ·omega
    ·exact absurd (by first | assumption | (simpa using ‹(!fi) = false›) | (simpa using ‹(!rs) = false›)) hh
    ·omega
    rw [List.length_append, List.length_take]; have := hF.snd (by omega); omega
   refine dx rfl <| dx rfl <| dx rfl <| dx rfl <| dx rfl <| dxq rfl <| dxl rfl <| dxl rfl <| dx rfl <| dqg rfl (v := .bool false) (o_pickF rfl rfl) <| dpkF rfl <| h43 _ _ <| cndF rfl <| h42 _ _ <| seq fun _ h72 => mv <| fa rfl <| m_ld (v := .string (str ((key.take V5.toNat) ++ T11))) hM44 (i := 5) (j := 0) rfl rfl rfl rfl <| nilchk rfl <| fa rfl <| m_st (v := .string (str ((key.take V5.toNat) ++ T11))) hM44 (i := 0) rfl rfl rfl rfl (by simp) fun w73 (hM73 : Mem w (ids (⟨bw, 105, [.pointer (some ⟨bc, 0, none⟩), .string (str key)]⟩ :: r0)) w73 [[⟨bw, 105, [.pointer (some ⟨bc, 0, none⟩), .string (str ((key.take V5.toNat) ++ T11))]⟩], r'13, [⟨b2, 107, [.string (str ([])), .string (str ([]))]⟩], rs11, rs13, [⟨b14, 107, [.string (str ((key.take V5.toNat) ++ T11)), .string (str T13)]⟩], [⟨b20, 111, [.int .i64 (endE b a13_ e13_), .int .i64 (endA b a13_ e13_ : Nat)]⟩]]) => h72 _ _ <| seq fun _ h74 => m_ldA (l := [.string (str ((key.take V5.toNat) ++ T11)), .string (str T13)]) hM73 (i := 5) (j := 0) rfl rfl rfl rfl rfl <| m_stA (l := [.string (str ((key.take V5.toNat) ++ T11)), .string (str T13)]) hM73 (i := 2) rfl rfl rfl rfl (by simp [oneCells, Value.oneCell', byteV]) (by simp) fun w75 (hM75 : Mem _ _ w75 [_, _, [⟨b2, 107, [.string (str ((key.take V5.toNat) ++ T11)), .string (str T13)]⟩], _, _, _, _]) => mv <| h74 _ _ ?_
   show resV _ _ _ _ _
   refine res_cell (s := some 2) (by kernel_rfl) <| vl_ldA (cs := [.string (str ((key.take V5.toNat) ++ T11)), .string (str T13)]) rfl rfl ((hM75.at (i := 2) (j := 0) rfl rfl).agg rfl rfl) <| res_tmp <| ⟨(.tuple [.agg ([.string (str ((key.take V5.toNat) ++ T11)), .string (str T13)] : List Value).toArray, .bool true].toArray), rfl, ⟨true, _, _, _, _, _, _, rfl, hF.yes ⟨by omega, by omega, fun hh => ?_, by omega, fun hh => ?_, fun hh => ?_⟩, fun _ => ⟨rfl, ?_⟩, hc13, hM75.keep (by simp)⟩⟩
   ·omega
   ·exact absurd (by first | assumption | (simpa using ‹(!fi) = false›) | (simpa using ‹(!rs) = false›)) hh
   ·exact absurd (by first | assumption | (simpa using ‹(!fi) = false›) | (simpa using ‹(!rs) = false›)) hh
   rw [List.length_append, List.length_take]; have := hF.snd (by omega); omega
  refine gx rfl <| gx rfl <| pkF rfl <| mv <| splitF rfl <| gmv rfl <| gmv rfl <| stg rfl (v := .pointer (some ⟨bw, 0, none⟩)) (o_nilchk rfl rfl) <| gfa rfl rfl <| gyesl rfl <| m_ld (v := .string (str key)) hM22 (i := 0) (j := 0) rfl rfl rfl rfl <| stg rfl (v := .int .i64 (key.length : Nat)) (o_lens rfl rfl) <| gbn rfl rfl rfl <| pkF rfl <| mv <| splitP rfl (fun c76 => ?_) (fun c76 => ?_)
  ·refine gx rfl <| gx rfl <| gx rfl <| gx rfl <| pkT rfl <| h29 _ _ <| cndT rfl <| seq fun _ h77 => stp (v := .agg ([.string (str ([])), .string (str ([]))] : List Value).toArray) (o_bld rfl rfl) <| m_stA (l := [.string (str ([])), .string (str ([]))]) hM22 (i := 2) rfl rfl rfl rfl (by simp [oneCells, Value.oneCell', byteV]) (by simp) fun w78 (hM78 : Mem _ _ w78 [_, _, _, _, _, _, _]) => mv <| h77 _ _ ?_
   show resV _ _ _ _ _
   refine res_cell (s := some 2) (by kernel_rfl) <| vl_ldA (cs := [.string (str ([])), .string (str ([]))]) rfl rfl ((hM78.at (i := 2) (j := 0) rfl rfl).agg rfl rfl) <| res_tmp <| ⟨(.tuple [.agg ([.string (str ([])), .string (str ([]))] : List Value).toArray, .bool false].toArray), rfl, ⟨false, _, _, _, _, key, _, rfl, hF.no (fun q => ?_), fun q => absurd q Bool.false_ne_true, hc13, hM78.keep (by simp)⟩⟩
   obtain ⟨q1, q2, q3, q4, q5, q6⟩ := q
   omega
  refine gmv rfl <| gmv rfl <| stg rfl (v := .int .i64 (V5 + V7)) (o_bin rfl rfl (v_add64 (by omega))) <| gbn rfl rfl rfl <| pkF rfl <| h29 _ _ <| cndP rfl (fun c79 => ?_) (fun c79 => ?_)
  ·refine seq fun _ h80 => stp (v := .agg ([.string (str ([])), .string (str ([]))] : List Value).toArray) (o_bld rfl rfl) <| m_stA (l := [.string (str ([])), .string (str ([]))]) hM22 (i := 2) rfl rfl rfl rfl (by simp [oneCells, Value.oneCell', byteV]) (by simp) fun w81 (hM81 : Mem _ _ w81 [_, _, _, _, _, _, _]) => mv <| h80 _ _ ?_
   show resV _ _ _ _ _
   refine res_cell (s := some 2) (by kernel_rfl) <| vl_ldA (cs := [.string (str ([])), .string (str ([]))]) rfl rfl ((hM81.at (i := 2) (j := 0) rfl rfl).agg rfl rfl) <| res_tmp <| ⟨(.tuple [.agg ([.string (str ([])), .string (str ([]))] : List Value).toArray, .bool false].toArray), rfl, ⟨false, _, _, _, _, key, _, rfl, hF.no (fun q => ?_), fun q => absurd q Bool.false_ne_true, hc13, hM81.keep (by simp)⟩⟩
   obtain ⟨q1, q2, q3, q4, q5, q6⟩ := q
   omega
  refine h28 _ _ <| seq fun _ h82 => mv <| nilchk rfl <| fa rfl <| m_ld (v := .string (str key)) hM22 (i := 0) (j := 0) rfl rfl rfl rfl <| mv <| stp (v := .string (str (key.take V5.toNat))) (o_slcs (a := 0) (b := V5.toNat) rfl (by omega) ⟨_, v_int (by omega)⟩ rfl rfl) <| mv <| stp (v := .string (str ((key.take V5.toNat) ++ T11))) (o_sadd rfl rfl (by first | omega | (simp; omega)) rfl) <| fa rfl <| m_st (v := .string (str ((key.take V5.toNat) ++ T11))) hM22 (i := 5) rfl rfl rfl rfl (by simp) fun w83 (hM83 : Mem _ _ w83 [_, _, _, _, _, [⟨b14, 107, [.string (str ((key.take V5.toNat) ++ T11)), .string (str T13)]⟩], _]) => h82 _ _ <| seq fun _ h84 => seq fun _ h85 => ?_
  intro wd e1 e2 e3 e4
  have hd := Upd.same e1 e2 e3 e4 []
  have hM86 := hM83.pure hd
  clear e1 e2 e3 e4
  refine ⟨(some [bw, b14]), ?_⟩
  show vd _ _ _ _ _ _ _
  refine dmv <| dq (v := .bool (!fi)) (o_not rfl rfl) <| dmv <| dsplit rfl (fun c87 => ?_) (fun c87 => ?_)
  ·refine dgfa rfl rfl <| dgmv rfl <| dqg rfl (v := .pointer (some ⟨bw, 0, none⟩)) (o_nilchk rfl rfl) <| dgfa rfl rfl <| dqgyes rfl rfl <| dqld rfl (by simp [isHeld]) (v := .string (str key)) ((hM86.at (i := 0) (j := 0) rfl rfl).cell 1) <| dgyesl rfl <| dl (m_ld (v := .string (str ((key.take V5.toNat) ++ T11))) hM86 (i := 5) (j := 0) rfl rfl rfl rfl <| ⟨(fun b hb => rfl), dgyesl rfl <| dl (m_call (Compare_ok ((key.take V5.toNat) ++ T11) key wd (by first | omega | (simp; done) | (simp; omega)) (by first | omega | (simp; done) | (simp; omega))) rfl fun v88 w88 ⟨hr88, hu88⟩ => ?_)⟩)
   have hM88 : Mem w (ids (⟨bw, 105, [.pointer (some ⟨bc, 0, none⟩), .string (str key)]⟩ :: r0)) w88 [[⟨bw, 105, [.pointer (some ⟨bc, 0, none⟩), .string (str key)]⟩], r'13, [⟨b2, 107, [.string (str ([])), .string (str ([]))]⟩], rs11, rs13, [⟨b14, 107, [.string (str ((key.take V5.toNat) ++ T11)), .string (str T13)]⟩], [⟨b20, 111, [.int .i64 (endE b a13_ e13_), .int .i64 (endA b a13_ e13_ : Nat)]⟩]] := hM86.pure hu88
   subst hr88
   have hh88 := held_upd (wr := wd) (bs := [bw, b14]) hu88 (fun b hb => by
    simp only [List.mem_cons, List.not_mem_nil, or_false] at hb
    rcases hb with h | h
    ·rw [h]; exact ⟨(hM86.at (i := 0) (j := 0) rfl rfl).lt, by simp⟩
    rw [h]; exact ⟨(hM86.at (i := 5) (j := 0) rfl rfl).lt, by simp⟩) (fun b hb => rfl)
   refine ⟨hh88, dgbn rfl rfl rfl <| dpkT rfl <| dmv <| dsplitP rfl (fun c89 => ?_) (fun c89 => ?_)⟩
   ·refine dx rfl <| dx rfl <| dx rfl <| dsplitU rfl <| dgnou rfl <| dgnou rfl <| dgnou rfl <| dgnou rfl <| dgnou rfl <| dqgnou rfl <| dgnolu rfl <| dgnolu rfl <| dgnou rfl <| dx rfl ?_
    refine dpkT rfl <| h85 _ _ <| cndT rfl <| seq fun _ h90 => stp (v := .agg ([.string (str ([])), .string (str ([]))] : List Value).toArray) (o_bld rfl rfl) <| m_stA (l := [.string (str ([])), .string (str ([]))]) hM88 (i := 2) rfl rfl rfl rfl (by simp [oneCells, Value.oneCell', byteV]) (by simp) fun w91 (hM91 : Mem _ _ w91 [_, _, _, _, _, _, _]) => mv <| h90 _ _ ?_
    show resV _ _ _ _ _
    refine res_cell (s := some 2) (by kernel_rfl) <| vl_ldA (cs := [.string (str ([])), .string (str ([]))]) rfl rfl ((hM91.at (i := 2) (j := 0) rfl rfl).agg rfl rfl) <| res_tmp <| ⟨(.tuple [.agg ([.string (str ([])), .string (str ([]))] : List Value).toArray, .bool false].toArray), rfl, ⟨false, _, _, _, _, key, _, rfl, hF.no (fun q => ?_), fun q => absurd q Bool.false_ne_true, hc13, hM91.keep (by simp)⟩⟩
    obtain ⟨q1, q2, q3, q4, q5, q6⟩ := q
    have := q5 (by first | assumption | (simpa using ‹(!fi) = true›) | (simpa using ‹(!rs) = true›) | (simpa using ‹rs = false›) | (simpa using ‹fi = false›)); omega
   refine dgmv rfl <| dqg rfl (v := .bool (!rs)) (o_not rfl rfl) <| dgmv rfl <| dsplit rfl (fun c92 => ?_) (fun c92 => ?_)
   ·refine dgmv rfl <| dqg rfl (v := .pointer (some ⟨bw, 0, none⟩)) (o_nilchk rfl rfl) <| dgfa rfl rfl <| dgfa rfl rfl <| dgmv rfl <| dqgyes rfl rfl <| dqld rfl (by simp [isHeld]) (v := .string (str ((key.take V5.toNat) ++ T11))) ((hM86.at (i := 5) (j := 0) rfl rfl).cell 0) <| dgyesl rfl <| dl (m_ld (v := .string (str key)) hM88 (i := 0) (j := 0) rfl rfl rfl rfl <| ⟨hh88, dgyesl rfl <| dl (m_call (Common_ok key ((key.take V5.toNat) ++ T11) w88 (by first | omega | (simp; done) | (simp; omega)) (by first | omega | (simp; done) | (simp; omega))) rfl fun v93 w93 ⟨hr93, hu93⟩ => ?_)⟩)
    have hM93 : Mem _ _ w93 [_, _, _, _, _, _, _] := hM88.pure hu93
    subst hr93
    have hh93 := held_upd (wr := wd) (bs := [bw, b14]) hu93 (fun b hb => by
     simp only [List.mem_cons, List.not_mem_nil, or_false] at hb
     rcases hb with h | h
     ·rw [h]; exact ⟨(hM88.at (i := 0) (j := 0) rfl rfl).lt, by simp⟩
     rw [h]; exact ⟨(hM88.at (i := 5) (j := 0) rfl rfl).lt, by simp⟩) hh88
    refine ⟨hh93, dqg rfl (v := .bool (decide (¬ ((common key ((key.take V5.toNat) ++ T11) : Nat) : Int) = V5))) (o_bin rfl rfl v_neq) <| dqg rfl (v := .bool (decide (¬ ((common key ((key.take V5.toNat) ++ T11) : Nat) : Int) = V5))) (o_pickT rfl rfl) <| dpkF rfl <| h85 _ _ <| cndP rfl (fun c94 => ?_) (fun c94 => ?_)⟩
    ·refine seq fun _ h95 => stp (v := .agg ([.string (str ([])), .string (str ([]))] : List Value).toArray) (o_bld rfl rfl) <| m_stA (l := [.string (str ([])), .string (str ([]))]) hM93 (i := 2) rfl rfl rfl rfl (by simp [oneCells, Value.oneCell', byteV]) (by simp) fun w96 (hM96 : Mem _ _ w96 [_, _, _, _, _, _, _]) => mv <| h95 _ _ ?_
     show resV _ _ _ _ _
     refine res_cell (s := some 2) (by kernel_rfl) <| vl_ldA (cs := [.string (str ([])), .string (str ([]))]) rfl rfl ((hM96.at (i := 2) (j := 0) rfl rfl).agg rfl rfl) <| res_tmp <| ⟨(.tuple [.agg ([.string (str ([])), .string (str ([]))] : List Value).toArray, .bool false].toArray), rfl, ⟨false, _, _, _, _, key, _, rfl, hF.no (fun q => ?_), fun q => absurd q Bool.false_ne_true, hc13, hM96.keep (by simp)⟩⟩
     obtain ⟨q1, q2, q3, q4, q5, q6⟩ := q
     have := q6 (by first | assumption | (simpa using ‹(!fi) = true›) | (simpa using ‹(!rs) = true›) | (simpa using ‹rs = false›) | (simpa using ‹fi = false›)); omega
    refine h84 _ _ <| seq fun _ h97 => mv <| fa rfl <| m_ld (v := .string (str ((key.take V5.toNat) ++ T11))) hM93 (i := 5) (j := 0) rfl rfl rfl rfl <| nilchk rfl <| fa rfl <| m_st (v := .string (str ((key.take V5.toNat) ++ T11))) hM93 (i := 0) rfl rfl rfl rfl (by simp) fun w98 (hM98 : Mem _ _ w98 [[⟨bw, 105, [.pointer (some ⟨bc, 0, none⟩), .string (str ((key.take V5.toNat) ++ T11))]⟩], _, _, _, _, _, _]) => h97 _ _ <| seq fun _ h99 => m_ldA (l := [.string (str ((key.take V5.toNat) ++ T11)), .string (str T13)]) hM98 (i := 5) (j := 0) rfl rfl rfl rfl rfl <| m_stA (l := [.string (str ((key.take V5.toNat) ++ T11)), .string (str T13)]) hM98 (i := 2) rfl rfl rfl rfl (by simp [oneCells, Value.oneCell', byteV]) (by simp) fun w100 (hM100 : Mem _ _ w100 [_, _, [⟨b2, 107, [.string (str ((key.take V5.toNat) ++ T11)), .string (str T13)]⟩], _, _, _, _]) => mv <| h99 _ _ ?_
    show resV _ _ _ _ _
    refine res_cell (s := some 2) (by kernel_rfl) <| vl_ldA (cs := [.string (str ((key.take V5.toNat) ++ T11)), .string (str T13)]) rfl rfl ((hM100.at (i := 2) (j := 0) rfl rfl).agg rfl rfl) <| res_tmp <| ⟨(.tuple [.agg ([.string (str ((key.take V5.toNat) ++ T11)), .string (str T13)] : List Value).toArray, .bool true].toArray), rfl, ⟨true, _, _, _, _, _, _, rfl, hF.yes ⟨by omega, by omega, fun hh => ?_, by omega, fun hh => ?_, fun hh => ?_⟩, fun _ => ⟨rfl, ?_⟩, hc13, hM100.keep (by simp)⟩⟩
    ·exact absurd hh (by first | assumption | (simpa using ‹(!fi) = true›) | (simpa using ‹(!rs) = true›) | (simpa using ‹rs = false›) | (simpa using ‹fi = false›))
    ·omega
    ·omega
    rw [List.length_append, List.length_take]; have := hF.snd (by omega); omega
   refine dx rfl <| dx rfl <| dx rfl <| dx rfl <| dx rfl <| dxq rfl <| dxl rfl <| dxl rfl <| dx rfl <| dqg rfl (v := .bool false) (o_pickF rfl rfl) <| dpkF rfl <| h85 _ _ <| cndF rfl <| h84 _ _ <| seq fun _ h101 => mv <| fa rfl <| m_ld (v := .string (str ((key.take V5.toNat) ++ T11))) hM88 (i := 5) (j := 0) rfl rfl rfl rfl <| nilchk rfl <| fa rfl <| m_st (v := .string (str ((key.take V5.toNat) ++ T11))) hM88 (i := 0) rfl rfl rfl rfl (by simp) fun w102 (hM102 : Mem _ _ w102 [[⟨bw, 105, [.pointer (some ⟨bc, 0, none⟩), .string (str ((key.take V5.toNat) ++ T11))]⟩], _, _, _, _, _, _]) => h101 _ _ <| seq fun _ h103 => m_ldA (l := [.string (str ((key.take V5.toNat) ++ T11)), .string (str T13)]) hM102 (i := 5) (j := 0) rfl rfl rfl rfl rfl <| m_stA (l := [.string (str ((key.take V5.toNat) ++ T11)), .string (str T13)]) hM102 (i := 2) rfl rfl rfl rfl (by simp [oneCells, Value.oneCell', byteV]) (by simp) fun w104 (hM104 : Mem _ _ w104 [_, _, [⟨b2, 107, [.string (str ((key.take V5.toNat) ++ T11)), .string (str T13)]⟩], _, _, _, _]) => mv <| h103 _ _ ?_
   show resV _ _ _ _ _
   refine res_cell (s := some 2) (by kernel_rfl) <| vl_ldA (cs := [.string (str ((key.take V5.toNat) ++ T11)), .string (str T13)]) rfl rfl ((hM104.at (i := 2) (j := 0) rfl rfl).agg rfl rfl) <| res_tmp <| ⟨(.tuple [.agg ([.string (str ((key.take V5.toNat) ++ T11)), .string (str T13)] : List Value).toArray, .bool true].toArray), rfl, ⟨true, _, _, _, _, _, _, rfl, hF.yes ⟨by omega, by omega, fun hh => ?_, by omega, fun hh => ?_, fun hh => ?_⟩, fun _ => ⟨rfl, ?_⟩, hc13, hM104.keep (by simp)⟩⟩
   ·exact absurd hh (by first | assumption | (simpa using ‹(!fi) = true›) | (simpa using ‹(!rs) = true›) | (simpa using ‹rs = false›) | (simpa using ‹fi = false›))
   ·omega
   ·exact absurd (by first | assumption | (simpa using ‹(!fi) = false›) | (simpa using ‹(!rs) = false›)) hh
   rw [List.length_append, List.length_take]; have := hF.snd (by omega); omega
  refine dx rfl <| dx rfl <| dx rfl <| dx rfl <| dxq rfl <| dxl rfl <| dxl rfl <| dx rfl <| dpkF rfl <| dmv <| dsplitF rfl <| dgmv rfl <| dqg rfl (v := .bool (!rs)) (o_not rfl rfl) <| dgmv rfl <| dsplit rfl (fun c105 => ?_) (fun c105 => ?_)
  ·refine dgmv rfl <| dqg rfl (v := .pointer (some ⟨bw, 0, none⟩)) (o_nilchk rfl rfl) <| dgfa rfl rfl <| dgfa rfl rfl <| dgmv rfl <| dqgyes rfl rfl <| dqld rfl (by simp [isHeld]) (v := .string (str ((key.take V5.toNat) ++ T11))) ((hM86.at (i := 5) (j := 0) rfl rfl).cell 0) <| dgyesl rfl <| dl (m_ld (v := .string (str key)) hM86 (i := 0) (j := 0) rfl rfl rfl rfl <| ⟨(fun b hb => rfl), dgyesl rfl <| dl (m_call (Common_ok key ((key.take V5.toNat) ++ T11) wd (by first | omega | (simp; done) | (simp; omega)) (by first | omega | (simp; done) | (simp; omega))) rfl fun v106 w106 ⟨hr106, hu106⟩ => ?_)⟩)
   have hM106 : Mem w (ids (⟨bw, 105, [.pointer (some ⟨bc, 0, none⟩), .string (str key)]⟩ :: r0)) w106 [[⟨bw, 105, [.pointer (some ⟨bc, 0, none⟩), .string (str key)]⟩], r'13, [⟨b2, 107, [.string (str ([])), .string (str ([]))]⟩], rs11, rs13, [⟨b14, 107, [.string (str ((key.take V5.toNat) ++ T11)), .string (str T13)]⟩], [⟨b20, 111, [.int .i64 (endE b a13_ e13_), .int .i64 (endA b a13_ e13_ : Nat)]⟩]] := hM86.pure hu106
   subst hr106
   have hh106 := held_upd (wr := wd) (bs := [bw, b14]) hu106 (fun b hb => by
    simp only [List.mem_cons, List.not_mem_nil, or_false] at hb
    rcases hb with h | h
    ·rw [h]; exact ⟨(hM86.at (i := 0) (j := 0) rfl rfl).lt, by simp⟩
    rw [h]; exact ⟨(hM86.at (i := 5) (j := 0) rfl rfl).lt, by simp⟩) (fun b hb => rfl)
   refine ⟨hh106, dqg rfl (v := .bool (decide (¬ ((common key ((key.take V5.toNat) ++ T11) : Nat) : Int) = V5))) (o_bin rfl rfl v_neq) <| dqg rfl (v := .bool (decide (¬ ((common key ((key.take V5.toNat) ++ T11) : Nat) : Int) = V5))) (o_pickT rfl rfl) <| dpkF rfl <| h85 _ _ <| cndP rfl (fun c107 => ?_) (fun c107 => ?_)⟩
   ·refine seq fun _ h108 => stp (v := .agg ([.string (str ([])), .string (str ([]))] : List Value).toArray) (o_bld rfl rfl) <| m_stA (l := [.string (str ([])), .string (str ([]))]) hM106 (i := 2) rfl rfl rfl rfl (by simp [oneCells, Value.oneCell', byteV]) (by simp) fun w109 (hM109 : Mem _ _ w109 [_, _, _, _, _, _, _]) => mv <| h108 _ _ ?_
    show resV _ _ _ _ _
    refine res_cell (s := some 2) (by kernel_rfl) <| vl_ldA (cs := [.string (str ([])), .string (str ([]))]) rfl rfl ((hM109.at (i := 2) (j := 0) rfl rfl).agg rfl rfl) <| res_tmp <| ⟨(.tuple [.agg ([.string (str ([])), .string (str ([]))] : List Value).toArray, .bool false].toArray), rfl, ⟨false, _, _, _, _, key, _, rfl, hF.no (fun q => ?_), fun q => absurd q Bool.false_ne_true, hc13, hM109.keep (by simp)⟩⟩
    obtain ⟨q1, q2, q3, q4, q5, q6⟩ := q
    have := q6 (by first | assumption | (simpa using ‹(!fi) = true›) | (simpa using ‹(!rs) = true›) | (simpa using ‹rs = false›) | (simpa using ‹fi = false›)); omega
   refine h84 _ _ <| seq fun _ h110 => mv <| fa rfl <| m_ld (v := .string (str ((key.take V5.toNat) ++ T11))) hM106 (i := 5) (j := 0) rfl rfl rfl rfl <| nilchk rfl <| fa rfl <| m_st (v := .string (str ((key.take V5.toNat) ++ T11))) hM106 (i := 0) rfl rfl rfl rfl (by simp) fun w111 (hM111 : Mem _ _ w111 [[⟨bw, 105, [.pointer (some ⟨bc, 0, none⟩), .string (str ((key.take V5.toNat) ++ T11))]⟩], _, _, _, _, _, _]) => h110 _ _ <| seq fun _ h112 => m_ldA (l := [.string (str ((key.take V5.toNat) ++ T11)), .string (str T13)]) hM111 (i := 5) (j := 0) rfl rfl rfl rfl rfl <| m_stA (l := [.string (str ((key.take V5.toNat) ++ T11)), .string (str T13)]) hM111 (i := 2) rfl rfl rfl rfl (by simp [oneCells, Value.oneCell', byteV]) (by simp) fun w113 (hM113 : Mem _ _ w113 [_, _, [⟨b2, 107, [.string (str ((key.take V5.toNat) ++ T11)), .string (str T13)]⟩], _, _, _, _]) => mv <| h112 _ _ ?_
   show resV _ _ _ _ _
   refine res_cell (s := some 2) (by kernel_rfl) <| vl_ldA (cs := [.string (str ((key.take V5.toNat) ++ T11)), .string (str T13)]) rfl rfl ((hM113.at (i := 2) (j := 0) rfl rfl).agg rfl rfl) <| res_tmp <| ⟨(.tuple [.agg ([.string (str ((key.take V5.toNat) ++ T11)), .string (str T13)] : List Value).toArray, .bool true].toArray), rfl, ⟨true, _, _, _, _, _, _, rfl, hF.yes ⟨by omega, by omega, fun hh => ?_, by omega, fun hh => ?_, fun hh => ?_⟩, fun _ => ⟨rfl, ?_⟩, hc13, hM113.keep (by simp)⟩⟩
   ·exact absurd hh (by first | assumption | (simpa using ‹(!fi) = true›) | (simpa using ‹(!rs) = true›) | (simpa using ‹rs = false›) | (simpa using ‹fi = false›))
   ·exact absurd (by first | assumption | (simpa using ‹(!fi) = false›) | (simpa using ‹(!rs) = false›)) hh
   ·omega
   rw [List.length_append, List.length_take]; have := hF.snd (by omega); omega
  refine dx rfl <| dx rfl <| dx rfl <| dx rfl <| dx rfl <| dxq rfl <| dxl rfl <| dxl rfl <| dx rfl <| dqg rfl (v := .bool false) (o_pickF rfl rfl) <| dpkF rfl <| h85 _ _ <| cndF rfl <| h84 _ _ <| seq fun _ h114 => mv <| fa rfl <| m_ld (v := .string (str ((key.take V5.toNat) ++ T11))) hM86 (i := 5) (j := 0) rfl rfl rfl rfl <| nilchk rfl <| fa rfl <| m_st (v := .string (str ((key.take V5.toNat) ++ T11))) hM86 (i := 0) rfl rfl rfl rfl (by simp) fun w115 (hM115 : Mem w (ids (⟨bw, 105, [.pointer (some ⟨bc, 0, none⟩), .string (str key)]⟩ :: r0)) w115 [[⟨bw, 105, [.pointer (some ⟨bc, 0, none⟩), .string (str ((key.take V5.toNat) ++ T11))]⟩], r'13, [⟨b2, 107, [.string (str ([])), .string (str ([]))]⟩], rs11, rs13, [⟨b14, 107, [.string (str ((key.take V5.toNat) ++ T11)), .string (str T13)]⟩], [⟨b20, 111, [.int .i64 (endE b a13_ e13_), .int .i64 (endA b a13_ e13_ : Nat)]⟩]]) => h114 _ _ <| seq fun _ h116 => m_ldA (l := [.string (str ((key.take V5.toNat) ++ T11)), .string (str T13)]) hM115 (i := 5) (j := 0) rfl rfl rfl rfl rfl <| m_stA (l := [.string (str ((key.take V5.toNat) ++ T11)), .string (str T13)]) hM115 (i := 2) rfl rfl rfl rfl (by simp [oneCells, Value.oneCell', byteV]) (by simp) fun w117 (hM117 : Mem _ _ w117 [_, _, [⟨b2, 107, [.string (str ((key.take V5.toNat) ++ T11)), .string (str T13)]⟩], _, _, _, _]) => mv <| h116 _ _ ?_
  show resV _ _ _ _ _
  refine res_cell (s := some 2) (by kernel_rfl) <| vl_ldA (cs := [.string (str ((key.take V5.toNat) ++ T11)), .string (str T13)]) rfl rfl ((hM117.at (i := 2) (j := 0) rfl rfl).agg rfl rfl) <| res_tmp <| ⟨(.tuple [.agg ([.string (str ((key.take V5.toNat) ++ T11)), .string (str T13)] : List Value).toArray, .bool true].toArray), rfl, ⟨true, _, _, _, _, _, _, rfl, hF.yes ⟨by omega, by omega, fun hh => ?_, by omega, fun hh => ?_, fun hh => ?_⟩, fun _ => ⟨rfl, ?_⟩, hc13, hM117.keep (by simp)⟩⟩
  ·exact absurd hh (by first | assumption | (simpa using ‹(!fi) = true›) | (simpa using ‹(!rs) = true›) | (simpa using ‹rs = false›) | (simpa using ‹fi = false›))
  ·exact absurd (by first | assumption | (simpa using ‹(!fi) = false›) | (simpa using ‹(!rs) = false›)) hh
  ·exact absurd (by first | assumption | (simpa using ‹(!fi) = false›) | (simpa using ‹(!rs) = false›)) hh
  rw [List.length_append, List.length_take]; have := hF.snd (by omega); omega
 refine gx rfl <| gxl rfl <| gx rfl <| pkF rfl <| h23 _ _ <| cndF rfl <| h17 _ _ <| seq fun _ h118 => seq fun _ h119 => mv <| mv <| split rfl (fun c120 => ?_) (fun c120 => ?_)
 ·refine gmv rfl <| gbneq rfl rfl rfl <| pkT rfl <| mv <| splitP rfl (fun c121 => ?_) (fun c121 => ?_)
  ·refine gx rfl <| gx rfl <| gx rfl <| gx rfl <| gxl rfl <| gx rfl <| gx rfl <| pkT rfl <| mv <| splitT rfl <| gx rfl <| gx rfl <| gx rfl <| gx rfl ?_
   refine pkT rfl <| h119 _ _ <| cndT rfl <| seq fun _ h122 => stp (v := .agg ([.string (str ([])), .string (str ([]))] : List Value).toArray) (o_bld rfl rfl) <| m_stA (l := [.string (str ([])), .string (str ([]))]) hM22 (i := 2) rfl rfl rfl rfl (by simp [oneCells, Value.oneCell', byteV]) (by simp) fun w123 (hM123 : Mem _ _ w123 [_, _, _, _, _, _, _]) => mv <| h122 _ _ ?_
   show resV _ _ _ _ _
   refine res_cell (s := some 2) (by kernel_rfl) <| vl_ldA (cs := [.string (str ([])), .string (str ([]))]) rfl rfl ((hM123.at (i := 2) (j := 0) rfl rfl).agg rfl rfl) <| res_tmp <| ⟨(.tuple [.agg ([.string (str ([])), .string (str ([]))] : List Value).toArray, .bool false].toArray), rfl, ⟨false, _, _, _, _, key, _, rfl, hF.no (fun q => ?_), fun q => absurd q Bool.false_ne_true, hc13, hM123.keep (by simp)⟩⟩
   obtain ⟨q1, q2, q3, q4, q5, q6⟩ := q
   have := q3 (by first | assumption | (simpa using ‹(!fi) = true›) | (simpa using ‹(!rs) = true›) | (simpa using ‹rs = false›) | (simpa using ‹fi = false›)); omega
  refine gmv rfl <| gmv rfl <| stg rfl (v := .pointer (some ⟨bw, 0, none⟩)) (o_nilchk rfl rfl) <| gfa rfl rfl <| gyesl rfl <| m_ld (v := .string (str key)) hM22 (i := 0) (j := 0) rfl rfl rfl rfl <| stg rfl (v := .int .i64 (key.length : Nat)) (o_lens rfl rfl) <| gbn rfl rfl rfl <| pkF rfl <| mv <| splitP rfl (fun c124 => ?_) (fun c124 => ?_)
  ·refine gx rfl <| gx rfl <| gx rfl <| gx rfl <| pkT rfl <| h119 _ _ <| cndT rfl <| seq fun _ h125 => stp (v := .agg ([.string (str ([])), .string (str ([]))] : List Value).toArray) (o_bld rfl rfl) <| m_stA (l := [.string (str ([])), .string (str ([]))]) hM22 (i := 2) rfl rfl rfl rfl (by simp [oneCells, Value.oneCell', byteV]) (by simp) fun w126 (hM126 : Mem _ _ w126 [_, _, _, _, _, _, _]) => mv <| h125 _ _ ?_
   show resV _ _ _ _ _
   refine res_cell (s := some 2) (by kernel_rfl) <| vl_ldA (cs := [.string (str ([])), .string (str ([]))]) rfl rfl ((hM126.at (i := 2) (j := 0) rfl rfl).agg rfl rfl) <| res_tmp <| ⟨(.tuple [.agg ([.string (str ([])), .string (str ([]))] : List Value).toArray, .bool false].toArray), rfl, ⟨false, _, _, _, _, key, _, rfl, hF.no (fun q => ?_), fun q => absurd q Bool.false_ne_true, hc13, hM126.keep (by simp)⟩⟩
   obtain ⟨q1, q2, q3, q4, q5, q6⟩ := q
   omega
  refine gmv rfl <| gmv rfl <| stg rfl (v := .int .i64 (V5 + V7)) (o_bin rfl rfl (v_add64 (by omega))) <| gbn rfl rfl rfl <| pkF rfl <| h119 _ _ <| cndP rfl (fun c127 => ?_) (fun c127 => ?_)
  ·refine seq fun _ h128 => stp (v := .agg ([.string (str ([])), .string (str ([]))] : List Value).toArray) (o_bld rfl rfl) <| m_stA (l := [.string (str ([])), .string (str ([]))]) hM22 (i := 2) rfl rfl rfl rfl (by simp [oneCells, Value.oneCell', byteV]) (by simp) fun w129 (hM129 : Mem _ _ w129 [_, _, _, _, _, _, _]) => mv <| h128 _ _ ?_
   show resV _ _ _ _ _
   refine res_cell (s := some 2) (by kernel_rfl) <| vl_ldA (cs := [.string (str ([])), .string (str ([]))]) rfl rfl ((hM129.at (i := 2) (j := 0) rfl rfl).agg rfl rfl) <| res_tmp <| ⟨(.tuple [.agg ([.string (str ([])), .string (str ([]))] : List Value).toArray, .bool false].toArray), rfl, ⟨false, _, _, _, _, key, _, rfl, hF.no (fun q => ?_), fun q => absurd q Bool.false_ne_true, hc13, hM129.keep (by simp)⟩⟩
   obtain ⟨q1, q2, q3, q4, q5, q6⟩ := q
   omega
  refine h118 _ _ <| seq fun _ h130 => mv <| nilchk rfl <| fa rfl <| m_ld (v := .string (str key)) hM22 (i := 0) (j := 0) rfl rfl rfl rfl <| mv <| stp (v := .string (str (key.take V5.toNat))) (o_slcs (a := 0) (b := V5.toNat) rfl (by omega) ⟨_, v_int (by omega)⟩ rfl rfl) <| mv <| stp (v := .string (str ((key.take V5.toNat) ++ T11))) (o_sadd rfl rfl (by first | omega | (simp; omega)) rfl) <| fa rfl <| m_st (v := .string (str ((key.take V5.toNat) ++ T11))) hM22 (i := 5) rfl rfl rfl rfl (by simp) fun w131 (hM131 : Mem _ _ w131 [_, _, _, _, _, [⟨b14, 107, [.string (str ((key.take V5.toNat) ++ T11)), .string (str T13)]⟩], _]) => h130 _ _ <| seq fun _ h132 => seq fun _ h133 => ?_
  intro wd e1 e2 e3 e4
  have hd := Upd.same e1 e2 e3 e4 []
  have hM134 := hM131.pure hd
  clear e1 e2 e3 e4
  refine ⟨(some [bw, b14]), ?_⟩
  show vd _ _ _ _ _ _ _
  refine dmv <| dq (v := .bool (!fi)) (o_not rfl rfl) <| dmv <| dsplit rfl (fun c135 => ?_) (fun c135 => ?_)
  ·refine dgfa rfl rfl <| dgmv rfl <| dqg rfl (v := .pointer (some ⟨bw, 0, none⟩)) (o_nilchk rfl rfl) <| dgfa rfl rfl <| dqgyes rfl rfl <| dqld rfl (by simp [isHeld]) (v := .string (str key)) ((hM134.at (i := 0) (j := 0) rfl rfl).cell 1) <| dgyesl rfl <| dl (m_ld (v := .string (str ((key.take V5.toNat) ++ T11))) hM134 (i := 5) (j := 0) rfl rfl rfl rfl <| ⟨(fun b hb => rfl), dgyesl rfl <| dl (m_call (Compare_ok ((key.take V5.toNat) ++ T11) key wd (by first | omega | (simp; done) | (simp; omega)) (by first | omega | (simp; done) | (simp; omega))) rfl fun v136 w136 ⟨hr136, hu136⟩ => ?_)⟩)
   have hM136 : Mem w (ids (⟨bw, 105, [.pointer (some ⟨bc, 0, none⟩), .string (str key)]⟩ :: r0)) w136 [[⟨bw, 105, [.pointer (some ⟨bc, 0, none⟩), .string (str key)]⟩], r'13, [⟨b2, 107, [.string (str ([])), .string (str ([]))]⟩], rs11, rs13, [⟨b14, 107, [.string (str ((key.take V5.toNat) ++ T11)), .string (str T13)]⟩], [⟨b20, 111, [.int .i64 (endE b a13_ e13_), .int .i64 (endA b a13_ e13_ : Nat)]⟩]] := hM134.pure hu136
   subst hr136
   have hh136 := held_upd (wr := wd) (bs := [bw, b14]) hu136 (fun b hb => by
    simp only [List.mem_cons, List.not_mem_nil, or_false] at hb
    rcases hb with h | h
    ·rw [h]; exact ⟨(hM134.at (i := 0) (j := 0) rfl rfl).lt, by simp⟩
    rw [h]; exact ⟨(hM134.at (i := 5) (j := 0) rfl rfl).lt, by simp⟩) (fun b hb => rfl)
   refine ⟨hh136, dgbn rfl rfl rfl <| dpkT rfl <| dmv <| dsplitP rfl (fun c137 => ?_) (fun c137 => ?_)⟩
   ·refine dx rfl <| dx rfl <| dx rfl <| dsplitU rfl <| dgnou rfl <| dgnou rfl <| dgnou rfl <| dgnou rfl <| dgnou rfl <| dqgnou rfl <| dgnolu rfl <| dgnolu rfl <| dgnou rfl <| dx rfl ?_
    refine dpkT rfl <| h133 _ _ <| cndT rfl <| seq fun _ h138 => stp (v := .agg ([.string (str ([])), .string (str ([]))] : List Value).toArray) (o_bld rfl rfl) <| m_stA (l := [.string (str ([])), .string (str ([]))]) hM136 (i := 2) rfl rfl rfl rfl (by simp [oneCells, Value.oneCell', byteV]) (by simp) fun w139 (hM139 : Mem _ _ w139 [_, _, _, _, _, _, _]) => mv <| h138 _ _ ?_
    show resV _ _ _ _ _
    refine res_cell (s := some 2) (by kernel_rfl) <| vl_ldA (cs := [.string (str ([])), .string (str ([]))]) rfl rfl ((hM139.at (i := 2) (j := 0) rfl rfl).agg rfl rfl) <| res_tmp <| ⟨(.tuple [.agg ([.string (str ([])), .string (str ([]))] : List Value).toArray, .bool false].toArray), rfl, ⟨false, _, _, _, _, key, _, rfl, hF.no (fun q => ?_), fun q => absurd q Bool.false_ne_true, hc13, hM139.keep (by simp)⟩⟩
    obtain ⟨q1, q2, q3, q4, q5, q6⟩ := q
    have := q5 (by first | assumption | (simpa using ‹(!fi) = true›) | (simpa using ‹(!rs) = true›) | (simpa using ‹rs = false›) | (simpa using ‹fi = false›)); omega
   refine dgmv rfl <| dqg rfl (v := .bool (!rs)) (o_not rfl rfl) <| dgmv rfl <| dsplit rfl (fun c140 => ?_) (fun c140 => ?_)
   ·refine dgmv rfl <| dqg rfl (v := .pointer (some ⟨bw, 0, none⟩)) (o_nilchk rfl rfl) <| dgfa rfl rfl <| dgfa rfl rfl <| dgmv rfl <| dqgyes rfl rfl <| dqld rfl (by simp [isHeld]) (v := .string (str ((key.take V5.toNat) ++ T11))) ((hM134.at (i := 5) (j := 0) rfl rfl).cell 0) <| dgyesl rfl <| dl (m_ld (v := .string (str key)) hM136 (i := 0) (j := 0) rfl rfl rfl rfl <| ⟨hh136, dgyesl rfl <| dl (m_call (Common_ok key ((key.take V5.toNat) ++ T11) w136 (by first | omega | (simp; done) | (simp; omega)) (by first | omega | (simp; done) | (simp; omega))) rfl fun v141 w141 ⟨hr141, hu141⟩ => ?_)⟩)
    have hM141 : Mem _ _ w141 [_, _, _, _, _, _, _] := hM136.pure hu141
    subst hr141
    have hh141 := held_upd (wr := wd) (bs := [bw, b14]) hu141 (fun b hb => by
     simp only [List.mem_cons, List.not_mem_nil, or_false] at hb
     rcases hb with h | h
     ·rw [h]; exact ⟨(hM136.at (i := 0) (j := 0) rfl rfl).lt, by simp⟩
     rw [h]; exact ⟨(hM136.at (i := 5) (j := 0) rfl rfl).lt, by simp⟩) hh136
    refine ⟨hh141, dqg rfl (v := .bool (decide (¬ ((common key ((key.take V5.toNat) ++ T11) : Nat) : Int) = V5))) (o_bin rfl rfl v_neq) <| dqg rfl (v := .bool (decide (¬ ((common key ((key.take V5.toNat) ++ T11) : Nat) : Int) = V5))) (o_pickT rfl rfl) <| dpkF rfl <| h133 _ _ <| cndP rfl (fun c142 => ?_) (fun c142 => ?_)⟩
    ·refine seq fun _ h143 => stp (v := .agg ([.string (str ([])), .string (str ([]))] : List Value).toArray) (o_bld rfl rfl) <| m_stA (l := [.string (str ([])), .string (str ([]))]) hM141 (i := 2) rfl rfl rfl rfl (by simp [oneCells, Value.oneCell', byteV]) (by simp) fun w144 (hM144 : Mem _ _ w144 [_, _, _, _, _, _, _]) => mv <| h143 _ _ ?_
     show resV _ _ _ _ _
     refine res_cell (s := some 2) (by kernel_rfl) <| vl_ldA (cs := [.string (str ([])), .string (str ([]))]) rfl rfl ((hM144.at (i := 2) (j := 0) rfl rfl).agg rfl rfl) <| res_tmp <| ⟨(.tuple [.agg ([.string (str ([])), .string (str ([]))] : List Value).toArray, .bool false].toArray), rfl, ⟨false, _, _, _, _, key, _, rfl, hF.no (fun q => ?_), fun q => absurd q Bool.false_ne_true, hc13, hM144.keep (by simp)⟩⟩
     obtain ⟨q1, q2, q3, q4, q5, q6⟩ := q
     have := q6 (by first | assumption | (simpa using ‹(!fi) = true›) | (simpa using ‹(!rs) = true›) | (simpa using ‹rs = false›) | (simpa using ‹fi = false›)); omega
    refine h132 _ _ <| seq fun _ h145 => mv <| fa rfl <| m_ld (v := .string (str ((key.take V5.toNat) ++ T11))) hM141 (i := 5) (j := 0) rfl rfl rfl rfl <| nilchk rfl <| fa rfl <| m_st (v := .string (str ((key.take V5.toNat) ++ T11))) hM141 (i := 0) rfl rfl rfl rfl (by simp) fun w146 (hM146 : Mem _ _ w146 [[⟨bw, 105, [.pointer (some ⟨bc, 0, none⟩), .string (str ((key.take V5.toNat) ++ T11))]⟩], _, _, _, _, _, _]) => h145 _ _ <| seq fun _ h147 => m_ldA (l := [.string (str ((key.take V5.toNat) ++ T11)), .string (str T13)]) hM146 (i := 5) (j := 0) rfl rfl rfl rfl rfl <| m_stA (l := [.string (str ((key.take V5.toNat) ++ T11)), .string (str T13)]) hM146 (i := 2) rfl rfl rfl rfl (by simp [oneCells, Value.oneCell', byteV]) (by simp) fun w148 (hM148 : Mem _ _ w148 [_, _, [⟨b2, 107, [.string (str ((key.take V5.toNat) ++ T11)), .string (str T13)]⟩], _, _, _, _]) => mv <| h147 _ _ ?_
    show resV _ _ _ _ _
    refine res_cell (s := some 2) (by kernel_rfl) <| vl_ldA (cs := [.string (str ((key.take V5.toNat) ++ T11)), .string (str T13)]) rfl rfl ((hM148.at (i := 2) (j := 0) rfl rfl).agg rfl rfl) <| res_tmp <| ⟨(.tuple [.agg ([.string (str ((key.take V5.toNat) ++ T11)), .string (str T13)] : List Value).toArray, .bool true].toArray), rfl, ⟨true, _, _, _, _, _, _, rfl, hF.yes ⟨by omega, by omega, fun hh => ?_, by omega, fun hh => ?_, fun hh => ?_⟩, fun _ => ⟨rfl, ?_⟩, hc13, hM148.keep (by simp)⟩⟩
    ·omega
    ·omega
    ·omega
    rw [List.length_append, List.length_take]; have := hF.snd (by omega); omega
   refine dx rfl <| dx rfl <| dx rfl <| dx rfl <| dx rfl <| dxq rfl <| dxl rfl <| dxl rfl <| dx rfl <| dqg rfl (v := .bool false) (o_pickF rfl rfl) <| dpkF rfl <| h133 _ _ <| cndF rfl <| h132 _ _ <| seq fun _ h149 => mv <| fa rfl <| m_ld (v := .string (str ((key.take V5.toNat) ++ T11))) hM136 (i := 5) (j := 0) rfl rfl rfl rfl <| nilchk rfl <| fa rfl <| m_st (v := .string (str ((key.take V5.toNat) ++ T11))) hM136 (i := 0) rfl rfl rfl rfl (by simp) fun w150 (hM150 : Mem _ _ w150 [[⟨bw, 105, [.pointer (some ⟨bc, 0, none⟩), .string (str ((key.take V5.toNat) ++ T11))]⟩], _, _, _, _, _, _]) => h149 _ _ <| seq fun _ h151 => m_ldA (l := [.string (str ((key.take V5.toNat) ++ T11)), .string (str T13)]) hM150 (i := 5) (j := 0) rfl rfl rfl rfl rfl <| m_stA (l := [.string (str ((key.take V5.toNat) ++ T11)), .string (str T13)]) hM150 (i := 2) rfl rfl rfl rfl (by simp [oneCells, Value.oneCell', byteV]) (by simp) fun w152 (hM152 : Mem _ _ w152 [_, _, [⟨b2, 107, [.string (str ((key.take V5.toNat) ++ T11)), .string (str T13)]⟩], _, _, _, _]) => mv <| h151 _ _ ?_
   show resV _ _ _ _ _
   refine res_cell (s := some 2) (by kernel_rfl) <| vl_ldA (cs := [.string (str ((key.take V5.toNat) ++ T11)), .string (str T13)]) rfl rfl ((hM152.at (i := 2) (j := 0) rfl rfl).agg rfl rfl) <| res_tmp <| ⟨(.tuple [.agg ([.string (str ((key.take V5.toNat) ++ T11)), .string (str T13)] : List Value).toArray, .bool true].toArray), rfl, ⟨true, _, _, _, _, _, _, rfl, hF.yes ⟨by omega, by omega, fun hh => ?_, by omega, fun hh => ?_, fun hh => ?_⟩, fun _ => ⟨rfl, ?_⟩, hc13, hM152.keep (by simp)⟩⟩
   ·omega
   ·omega
   ·exact absurd (by first | assumption | (simpa using ‹(!fi) = false›) | (simpa using ‹(!rs) = false›)) hh
   rw [List.length_append, List.length_take]; have := hF.snd (by omega); omega
  refine dx rfl <| dx rfl <| dx rfl <| dx rfl <| dxq rfl <| dxl rfl <| dxl rfl <| dx rfl <| dpkF rfl <| dmv <| dsplitF rfl <| dgmv rfl <| dqg rfl (v := .bool (!rs)) (o_not rfl rfl) <| dgmv rfl <| dsplit rfl (fun c153 => ?_) (fun c153 => ?_)
  ·refine dgmv rfl <| dqg rfl (v := .pointer (some ⟨bw, 0, none⟩)) (o_nilchk rfl rfl) <| dgfa rfl rfl <| dgfa rfl rfl <| dgmv rfl <| dqgyes rfl rfl <| dqld rfl (by simp [isHeld]) (v := .string (str ((key.take V5.toNat) ++ T11))) ((hM134.at (i := 5) (j := 0) rfl rfl).cell 0) <| dgyesl rfl <| dl (m_ld (v := .string (str key)) hM134 (i := 0) (j := 0) rfl rfl rfl rfl <| ⟨(fun b hb => rfl), dgyesl rfl <| dl (m_call (Common_ok key ((key.take V5.toNat) ++ T11) wd (by first | omega | (simp; done) | (simp; omega)) (by first | omega | (simp; done) | (simp; omega))) rfl fun v154 w154 ⟨hr154, hu154⟩ => ?_)⟩)
   have hM154 : Mem w (ids (⟨bw, 105, [.pointer (some ⟨bc, 0, none⟩), .string (str key)]⟩ :: r0)) w154 [[⟨bw, 105, [.pointer (some ⟨bc, 0, none⟩), .string (str key)]⟩], r'13, [⟨b2, 107, [.string (str ([])), .string (str ([]))]⟩], rs11, rs13, [⟨b14, 107, [.string (str ((key.take V5.toNat) ++ T11)), .string (str T13)]⟩], [⟨b20, 111, [.int .i64 (endE b a13_ e13_), .int .i64 (endA b a13_ e13_ : Nat)]⟩]] := hM134.pure hu154
   subst hr154
   have hh154 := held_upd (wr := wd) (bs := [bw, b14]) hu154 (fun b hb => by
    simp only [List.mem_cons, List.not_mem_nil, or_false] at hb
    rcases hb with h | h
    ·rw [h]; exact ⟨(hM134.at (i := 0) (j := 0) rfl rfl).lt, by simp⟩
    rw [h]; exact ⟨(hM134.at (i := 5) (j := 0) rfl rfl).lt, by simp⟩) (fun b hb => rfl)
   refine ⟨hh154, dqg rfl (v := .bool (decide (¬ ((common key ((key.take V5.toNat) ++ T11) : Nat) : Int) = V5))) (o_bin rfl rfl v_neq) <| dqg rfl (v := .bool (decide (¬ ((common key ((key.take V5.toNat) ++ T11) : Nat) : Int) = V5))) (o_pickT rfl rfl) <| dpkF rfl <| h133 _ _ <| cndP rfl (fun c155 => ?_) (fun c155 => ?_)⟩
   ·refine seq fun _ h156 => stp (v := .agg ([.string (str ([])), .string (str ([]))] : List Value).toArray) (o_bld rfl rfl) <| m_stA (l := [.string (str ([])), .string (str ([]))]) hM154 (i := 2) rfl rfl rfl rfl (by simp [oneCells, Value.oneCell', byteV]) (by simp) fun w157 (hM157 : Mem _ _ w157 [_, _, _, _, _, _, _]) => mv <| h156 _ _ ?_
    show resV _ _ _ _ _
    refine res_cell (s := some 2) (by kernel_rfl) <| vl_ldA (cs := [.string (str ([])), .string (str ([]))]) rfl rfl ((hM157.at (i := 2) (j := 0) rfl rfl).agg rfl rfl) <| res_tmp <| ⟨(.tuple [.agg ([.string (str ([])), .string (str ([]))] : List Value).toArray, .bool false].toArray), rfl, ⟨false, _, _, _, _, key, _, rfl, hF.no (fun q => ?_), fun q => absurd q Bool.false_ne_true, hc13, hM157.keep (by simp)⟩⟩
    obtain ⟨q1, q2, q3, q4, q5, q6⟩ := q
    have := q6 (by first | assumption | (simpa using ‹(!fi) = true›) | (simpa using ‹(!rs) = true›) | (simpa using ‹rs = false›) | (simpa using ‹fi = false›)); omega
   refine h132 _ _ <| seq fun _ h158 => mv <| fa rfl <| m_ld (v := .string (str ((key.take V5.toNat) ++ T11))) hM154 (i := 5) (j := 0) rfl rfl rfl rfl <| nilchk rfl <| fa rfl <| m_st (v := .string (str ((key.take V5.toNat) ++ T11))) hM154 (i := 0) rfl rfl rfl rfl (by simp) fun w159 (hM159 : Mem _ _ w159 [[⟨bw, 105, [.pointer (some ⟨bc, 0, none⟩), .string (str ((key.take V5.toNat) ++ T11))]⟩], _, _, _, _, _, _]) => h158 _ _ <| seq fun _ h160 => m_ldA (l := [.string (str ((key.take V5.toNat) ++ T11)), .string (str T13)]) hM159 (i := 5) (j := 0) rfl rfl rfl rfl rfl <| m_stA (l := [.string (str ((key.take V5.toNat) ++ T11)), .string (str T13)]) hM159 (i := 2) rfl rfl rfl rfl (by simp [oneCells, Value.oneCell', byteV]) (by simp) fun w161 (hM161 : Mem _ _ w161 [_, _, [⟨b2, 107, [.string (str ((key.take V5.toNat) ++ T11)), .string (str T13)]⟩], _, _, _, _]) => mv <| h160 _ _ ?_
   show resV _ _ _ _ _
   refine res_cell (s := some 2) (by kernel_rfl) <| vl_ldA (cs := [.string (str ((key.take V5.toNat) ++ T11)), .string (str T13)]) rfl rfl ((hM161.at (i := 2) (j := 0) rfl rfl).agg rfl rfl) <| res_tmp <| ⟨(.tuple [.agg ([.string (str ((key.take V5.toNat) ++ T11)), .string (str T13)] : List Value).toArray, .bool true].toArray), rfl, ⟨true, _, _, _, _, _, _, rfl, hF.yes ⟨by omega, by omega, fun hh => ?_, by omega, fun hh => ?_, fun hh => ?_⟩, fun _ => ⟨rfl, ?_⟩, hc13, hM161.keep (by simp)⟩⟩
   ·omega
   ·exact absurd (by first | assumption | (simpa using ‹(!fi) = false›) | (simpa using ‹(!rs) = false›)) hh
   ·omega
   rw [List.length_append, List.length_take]; have := hF.snd (by omega); omega
  refine dx rfl <| dx rfl <| dx rfl <| dx rfl <| dx rfl <| dxq rfl <| dxl rfl <| dxl rfl <| dx rfl <| dqg rfl (v := .bool false) (o_pickF rfl rfl) <| dpkF rfl <| h133 _ _ <| cndF rfl <| h132 _ _ <| seq fun _ h162 => mv <| fa rfl <| m_ld (v := .string (str ((key.take V5.toNat) ++ T11))) hM134 (i := 5) (j := 0) rfl rfl rfl rfl <| nilchk rfl <| fa rfl <| m_st (v := .string (str ((key.take V5.toNat) ++ T11))) hM134 (i := 0) rfl rfl rfl rfl (by simp) fun w163 (hM163 : Mem w (ids (⟨bw, 105, [.pointer (some ⟨bc, 0, none⟩), .string (str key)]⟩ :: r0)) w163 [[⟨bw, 105, [.pointer (some ⟨bc, 0, none⟩), .string (str ((key.take V5.toNat) ++ T11))]⟩], r'13, [⟨b2, 107, [.string (str ([])), .string (str ([]))]⟩], rs11, rs13, [⟨b14, 107, [.string (str ((key.take V5.toNat) ++ T11)), .string (str T13)]⟩], [⟨b20, 111, [.int .i64 (endE b a13_ e13_), .int .i64 (endA b a13_ e13_ : Nat)]⟩]]) => h162 _ _ <| seq fun _ h164 => m_ldA (l := [.string (str ((key.take V5.toNat) ++ T11)), .string (str T13)]) hM163 (i := 5) (j := 0) rfl rfl rfl rfl rfl <| m_stA (l := [.string (str ((key.take V5.toNat) ++ T11)), .string (str T13)]) hM163 (i := 2) rfl rfl rfl rfl (by simp [oneCells, Value.oneCell', byteV]) (by simp) fun w165 (hM165 : Mem _ _ w165 [_, _, [⟨b2, 107, [.string (str ((key.take V5.toNat) ++ T11)), .string (str T13)]⟩], _, _, _, _]) => mv <| h164 _ _ ?_
  show resV _ _ _ _ _
  refine res_cell (s := some 2) (by kernel_rfl) <| vl_ldA (cs := [.string (str ((key.take V5.toNat) ++ T11)), .string (str T13)]) rfl rfl ((hM165.at (i := 2) (j := 0) rfl rfl).agg rfl rfl) <| res_tmp <| ⟨(.tuple [.agg ([.string (str ((key.take V5.toNat) ++ T11)), .string (str T13)] : List Value).toArray, .bool true].toArray), rfl, ⟨true, _, _, _, _, _, _, rfl, hF.yes ⟨by omega, by omega, fun hh => ?_, by omega, fun hh => ?_, fun hh => ?_⟩, fun _ => ⟨rfl, ?_⟩, hc13, hM165.keep (by simp)⟩⟩
  ·omega
  ·exact absurd (by first | assumption | (simpa using ‹(!fi) = false›) | (simpa using ‹(!rs) = false›)) hh
  ·exact absurd (by first | assumption | (simpa using ‹(!fi) = false›) | (simpa using ‹(!rs) = false›)) hh
  rw [List.length_append, List.length_take]; have := hF.snd (by omega); omega
 refine gx rfl <| gx rfl <| pkF rfl <| mv <| splitF rfl <| gmv rfl <| gmv rfl <| stg rfl (v := .pointer (some ⟨bw, 0, none⟩)) (o_nilchk rfl rfl) <| gfa rfl rfl <| gyesl rfl <| m_ld (v := .string (str key)) hM22 (i := 0) (j := 0) rfl rfl rfl rfl <| stg rfl (v := .int .i64 (key.length : Nat)) (o_lens rfl rfl) <| gbn rfl rfl rfl <| pkF rfl <| mv <| splitP rfl (fun c166 => ?_) (fun c166 => ?_)
 ·refine gx rfl <| gx rfl <| gx rfl <| gx rfl <| pkT rfl <| h119 _ _ <| cndT rfl <| seq fun _ h167 => stp (v := .agg ([.string (str ([])), .string (str ([]))] : List Value).toArray) (o_bld rfl rfl) <| m_stA (l := [.string (str ([])), .string (str ([]))]) hM22 (i := 2) rfl rfl rfl rfl (by simp [oneCells, Value.oneCell', byteV]) (by simp) fun w168 (hM168 : Mem _ _ w168 [_, _, _, _, _, _, _]) => mv <| h167 _ _ ?_
  show resV _ _ _ _ _
  refine res_cell (s := some 2) (by kernel_rfl) <| vl_ldA (cs := [.string (str ([])), .string (str ([]))]) rfl rfl ((hM168.at (i := 2) (j := 0) rfl rfl).agg rfl rfl) <| res_tmp <| ⟨(.tuple [.agg ([.string (str ([])), .string (str ([]))] : List Value).toArray, .bool false].toArray), rfl, ⟨false, _, _, _, _, key, _, rfl, hF.no (fun q => ?_), fun q => absurd q Bool.false_ne_true, hc13, hM168.keep (by simp)⟩⟩
  obtain ⟨q1, q2, q3, q4, q5, q6⟩ := q
  omega
 refine gmv rfl <| gmv rfl <| stg rfl (v := .int .i64 (V5 + V7)) (o_bin rfl rfl (v_add64 (by omega))) <| gbn rfl rfl rfl <| pkF rfl <| h119 _ _ <| cndP rfl (fun c169 => ?_) (fun c169 => ?_)
 ·refine seq fun _ h170 => stp (v := .agg ([.string (str ([])), .string (str ([]))] : List Value).toArray) (o_bld rfl rfl) <| m_stA (l := [.string (str ([])), .string (str ([]))]) hM22 (i := 2) rfl rfl rfl rfl (by simp [oneCells, Value.oneCell', byteV]) (by simp) fun w171 (hM171 : Mem _ _ w171 [_, _, _, _, _, _, _]) => mv <| h170 _ _ ?_
  show resV _ _ _ _ _
  refine res_cell (s := some 2) (by kernel_rfl) <| vl_ldA (cs := [.string (str ([])), .string (str ([]))]) rfl rfl ((hM171.at (i := 2) (j := 0) rfl rfl).agg rfl rfl) <| res_tmp <| ⟨(.tuple [.agg ([.string (str ([])), .string (str ([]))] : List Value).toArray, .bool false].toArray), rfl, ⟨false, _, _, _, _, key, _, rfl, hF.no (fun q => ?_), fun q => absurd q Bool.false_ne_true, hc13, hM171.keep (by simp)⟩⟩
  obtain ⟨q1, q2, q3, q4, q5, q6⟩ := q
  omega
 refine h118 _ _ <| seq fun _ h172 => mv <| nilchk rfl <| fa rfl <| m_ld (v := .string (str key)) hM22 (i := 0) (j := 0) rfl rfl rfl rfl <| mv <| stp (v := .string (str (key.take V5.toNat))) (o_slcs (a := 0) (b := V5.toNat) rfl (by omega) ⟨_, v_int (by omega)⟩ rfl rfl) <| mv <| stp (v := .string (str ((key.take V5.toNat) ++ T11))) (o_sadd rfl rfl (by first | omega | (simp; omega)) rfl) <| fa rfl <| m_st (v := .string (str ((key.take V5.toNat) ++ T11))) hM22 (i := 5) rfl rfl rfl rfl (by simp) fun w173 (hM173 : Mem _ _ w173 [_, _, _, _, _, [⟨b14, 107, [.string (str ((key.take V5.toNat) ++ T11)), .string (str T13)]⟩], _]) => h172 _ _ <| seq fun _ h174 => seq fun _ h175 => ?_
 intro wd e1 e2 e3 e4
 have hd := Upd.same e1 e2 e3 e4 []
 have hM176 := hM173.pure hd
 clear e1 e2 e3 e4
 refine ⟨(some [bw, b14]), ?_⟩
 show vd _ _ _ _ _ _ _
 refine dmv <| dq (v := .bool (!fi)) (o_not rfl rfl) <| dmv <| dsplit rfl (fun c177 => ?_) (fun c177 => ?_)
 ·refine dgfa rfl rfl <| dgmv rfl <| dqg rfl (v := .pointer (some ⟨bw, 0, none⟩)) (o_nilchk rfl rfl) <| dgfa rfl rfl <| dqgyes rfl rfl <| dqld rfl (by simp [isHeld]) (v := .string (str key)) ((hM176.at (i := 0) (j := 0) rfl rfl).cell 1) <| dgyesl rfl <| dl (m_ld (v := .string (str ((key.take V5.toNat) ++ T11))) hM176 (i := 5) (j := 0) rfl rfl rfl rfl <| ⟨(fun b hb => rfl), dgyesl rfl <| dl (m_call (Compare_ok ((key.take V5.toNat) ++ T11) key wd (by first | omega | (simp; done) | (simp; omega)) (by first | omega | (simp; done) | (simp; omega))) rfl fun v178 w178 ⟨hr178, hu178⟩ => ?_)⟩)
  have hM178 : Mem w (ids (⟨bw, 105, [.pointer (some ⟨bc, 0, none⟩), .string (str key)]⟩ :: r0)) w178 [[⟨bw, 105, [.pointer (some ⟨bc, 0, none⟩), .string (str key)]⟩], r'13, [⟨b2, 107, [.string (str ([])), .string (str ([]))]⟩], rs11, rs13, [⟨b14, 107, [.string (str ((key.take V5.toNat) ++ T11)), .string (str T13)]⟩], [⟨b20, 111, [.int .i64 (endE b a13_ e13_), .int .i64 (endA b a13_ e13_ : Nat)]⟩]] := hM176.pure hu178
  subst hr178
  have hh178 := held_upd (wr := wd) (bs := [bw, b14]) hu178 (fun b hb => by
   simp only [List.mem_cons, List.not_mem_nil, or_false] at hb
   rcases hb with h | h
   ·rw [h]; exact ⟨(hM176.at (i := 0) (j := 0) rfl rfl).lt, by simp⟩
   rw [h]; exact ⟨(hM176.at (i := 5) (j := 0) rfl rfl).lt, by simp⟩) (fun b hb => rfl)
  refine ⟨hh178, dgbn rfl rfl rfl <| dpkT rfl <| dmv <| dsplitP rfl (fun c179 => ?_) (fun c179 => ?_)⟩
  ·refine dx rfl <| dx rfl <| dx rfl <| dsplitU rfl <| dgnou rfl <| dgnou rfl <| dgnou rfl <| dgnou rfl <| dgnou rfl <| dqgnou rfl <| dgnolu rfl <| dgnolu rfl <| dgnou rfl <| dx rfl ?_
   refine dpkT rfl <| h175 _ _ <| cndT rfl <| seq fun _ h180 => stp (v := .agg ([.string (str ([])), .string (str ([]))] : List Value).toArray) (o_bld rfl rfl) <| m_stA (l := [.string (str ([])), .string (str ([]))]) hM178 (i := 2) rfl rfl rfl rfl (by simp [oneCells, Value.oneCell', byteV]) (by simp) fun w181 (hM181 : Mem _ _ w181 [_, _, _, _, _, _, _]) => mv <| h180 _ _ ?_
   show resV _ _ _ _ _
   refine res_cell (s := some 2) (by kernel_rfl) <| vl_ldA (cs := [.string (str ([])), .string (str ([]))]) rfl rfl ((hM181.at (i := 2) (j := 0) rfl rfl).agg rfl rfl) <| res_tmp <| ⟨(.tuple [.agg ([.string (str ([])), .string (str ([]))] : List Value).toArray, .bool false].toArray), rfl, ⟨false, _, _, _, _, key, _, rfl, hF.no (fun q => ?_), fun q => absurd q Bool.false_ne_true, hc13, hM181.keep (by simp)⟩⟩
   obtain ⟨q1, q2, q3, q4, q5, q6⟩ := q
   have := q5 (by first | assumption | (simpa using ‹(!fi) = true›) | (simpa using ‹(!rs) = true›) | (simpa using ‹rs = false›) | (simpa using ‹fi = false›)); omega
  refine dgmv rfl <| dqg rfl (v := .bool (!rs)) (o_not rfl rfl) <| dgmv rfl <| dsplit rfl (fun c182 => ?_) (fun c182 => ?_)
  ·refine dgmv rfl <| dqg rfl (v := .pointer (some ⟨bw, 0, none⟩)) (o_nilchk rfl rfl) <| dgfa rfl rfl <| dgfa rfl rfl <| dgmv rfl <| dqgyes rfl rfl <| dqld rfl (by simp [isHeld]) (v := .string (str ((key.take V5.toNat) ++ T11))) ((hM176.at (i := 5) (j := 0) rfl rfl).cell 0) <| dgyesl rfl <| dl (m_ld (v := .string (str key)) hM178 (i := 0) (j := 0) rfl rfl rfl rfl <| ⟨hh178, dgyesl rfl <| dl (m_call (Common_ok key ((key.take V5.toNat) ++ T11) w178 (by first | omega | (simp; done) | (simp; omega)) (by first | omega | (simp; done) | (simp; omega))) rfl fun v183 w183 ⟨hr183, hu183⟩ => ?_)⟩)
   have hM183 : Mem _ _ w183 [_, _, _, _, _, _, _] := hM178.pure hu183
   subst hr183
   have hh183 := held_upd (wr := wd) (bs := [bw, b14]) hu183 (fun b hb => by
    simp only [List.mem_cons, List.not_mem_nil, or_false] at hb
    rcases hb with h | h
    ·rw [h]; exact ⟨(hM178.at (i := 0) (j := 0) rfl rfl).lt, by simp⟩
    rw [h]; exact ⟨(hM178.at (i := 5) (j := 0) rfl rfl).lt, by simp⟩) hh178
   refine ⟨hh183, dqg rfl (v := .bool (decide (¬ ((common key ((key.take V5.toNat) ++ T11) : Nat) : Int) = V5))) (o_bin rfl rfl v_neq) <| dqg rfl (v := .bool (decide (¬ ((common key ((key.take V5.toNat) ++ T11) : Nat) : Int) = V5))) (o_pickT rfl rfl) <| dpkF rfl <| h175 _ _ <| cndP rfl (fun c184 => ?_) (fun c184 => ?_)⟩
   ·refine seq fun _ h185 => stp (v := .agg ([.string (str ([])), .string (str ([]))] : List Value).toArray) (o_bld rfl rfl) <| m_stA (l := [.string (str ([])), .string (str ([]))]) hM183 (i := 2) rfl rfl rfl rfl (by simp [oneCells, Value.oneCell', byteV]) (by simp) fun w186 (hM186 : Mem _ _ w186 [_, _, _, _, _, _, _]) => mv <| h185 _ _ ?_
    show resV _ _ _ _ _
    refine res_cell (s := some 2) (by kernel_rfl) <| vl_ldA (cs := [.string (str ([])), .string (str ([]))]) rfl rfl ((hM186.at (i := 2) (j := 0) rfl rfl).agg rfl rfl) <| res_tmp <| ⟨(.tuple [.agg ([.string (str ([])), .string (str ([]))] : List Value).toArray, .bool false].toArray), rfl, ⟨false, _, _, _, _, key, _, rfl, hF.no (fun q => ?_), fun q => absurd q Bool.false_ne_true, hc13, hM186.keep (by simp)⟩⟩
    obtain ⟨q1, q2, q3, q4, q5, q6⟩ := q
    have := q6 (by first | assumption | (simpa using ‹(!fi) = true›) | (simpa using ‹(!rs) = true›) | (simpa using ‹rs = false›) | (simpa using ‹fi = false›)); omega
   refine h174 _ _ <| seq fun _ h187 => mv <| fa rfl <| m_ld (v := .string (str ((key.take V5.toNat) ++ T11))) hM183 (i := 5) (j := 0) rfl rfl rfl rfl <| nilchk rfl <| fa rfl <| m_st (v := .string (str ((key.take V5.toNat) ++ T11))) hM183 (i := 0) rfl rfl rfl rfl (by simp) fun w188 (hM188 : Mem _ _ w188 [[⟨bw, 105, [.pointer (some ⟨bc, 0, none⟩), .string (str ((key.take V5.toNat) ++ T11))]⟩], _, _, _, _, _, _]) => h187 _ _ <| seq fun _ h189 => m_ldA (l := [.string (str ((key.take V5.toNat) ++ T11)), .string (str T13)]) hM188 (i := 5) (j := 0) rfl rfl rfl rfl rfl <| m_stA (l := [.string (str ((key.take V5.toNat) ++ T11)), .string (str T13)]) hM188 (i := 2) rfl rfl rfl rfl (by simp [oneCells, Value.oneCell', byteV]) (by simp) fun w190 (hM190 : Mem _ _ w190 [_, _, [⟨b2, 107, [.string (str ((key.take V5.toNat) ++ T11)), .string (str T13)]⟩], _, _, _, _]) => mv <| h189 _ _ ?_
   show resV _ _ _ _ _
   refine res_cell (s := some 2) (by kernel_rfl) <| vl_ldA (cs := [.string (str ((key.take V5.toNat) ++ T11)), .string (str T13)]) rfl rfl ((hM190.at (i := 2) (j := 0) rfl rfl).agg rfl rfl) <| res_tmp <| ⟨(.tuple [.agg ([.string (str ((key.take V5.toNat) ++ T11)), .string (str T13)] : List Value).toArray, .bool true].toArray), rfl, ⟨true, _, _, _, _, _, _, rfl, hF.yes ⟨by omega, by omega, fun hh => ?_, by omega, fun hh => ?_, fun hh => ?_⟩, fun _ => ⟨rfl, ?_⟩, hc13, hM190.keep (by simp)⟩⟩
   ·exact absurd hh (by first | assumption | (simpa using ‹(!fi) = true›) | (simpa using ‹(!rs) = true›) | (simpa using ‹rs = false›) | (simpa using ‹fi = false›))
   ·omega
   ·omega
   rw [List.length_append, List.length_take]; have := hF.snd (by omega); omega
  refine dx rfl <| dx rfl <| dx rfl <| dx rfl <| dx rfl <| dxq rfl <| dxl rfl <| dxl rfl <| dx rfl <| dqg rfl (v := .bool false) (o_pickF rfl rfl) <| dpkF rfl <| h175 _ _ <| cndF rfl <| h174 _ _ <| seq fun _ h191 => mv <| fa rfl <| m_ld (v := .string (str ((key.take V5.toNat) ++ T11))) hM178 (i := 5) (j := 0) rfl rfl rfl rfl <| nilchk rfl <| fa rfl <| m_st (v := .string (str ((key.take V5.toNat) ++ T11))) hM178 (i := 0) rfl rfl rfl rfl (by simp) fun w192 (hM192 : Mem _ _ w192 [[⟨bw, 105, [.pointer (some ⟨bc, 0, none⟩), .string (str ((key.take V5.toNat) ++ T11))]⟩], _, _, _, _, _, _]) => h191 _ _ <| seq fun _ h193 => m_ldA (l := [.string (str ((key.take V5.toNat) ++ T11)), .string (str T13)]) hM192 (i := 5) (j := 0) rfl rfl rfl rfl rfl <| m_stA (l := [.string (str ((key.take V5.toNat) ++ T11)), .string (str T13)]) hM192 (i := 2) rfl rfl rfl rfl (by simp [oneCells, Value.oneCell', byteV]) (by simp) fun w194 (hM194 : Mem _ _ w194 [_, _, [⟨b2, 107, [.string (str ((key.take V5.toNat) ++ T11)), .string (str T13)]⟩], _, _, _, _]) => mv <| h193 _ _ ?_
  show resV _ _ _ _ _
  refine res_cell (s := some 2) (by kernel_rfl) <| vl_ldA (cs := [.string (str ((key.take V5.toNat) ++ T11)), .string (str T13)]) rfl rfl ((hM194.at (i := 2) (j := 0) rfl rfl).agg rfl rfl) <| res_tmp <| ⟨(.tuple [.agg ([.string (str ((key.take V5.toNat) ++ T11)), .string (str T13)] : List Value).toArray, .bool true].toArray), rfl, ⟨true, _, _, _, _, _, _, rfl, hF.yes ⟨by omega, by omega, fun hh => ?_, by omega, fun hh => ?_, fun hh => ?_⟩, fun _ => ⟨rfl, ?_⟩, hc13, hM194.keep (by simp)⟩⟩
  ·exact absurd hh (by first | assumption | (simpa using ‹(!fi) = true›) | (simpa using ‹(!rs) = true›) | (simpa using ‹rs = false›) | (simpa using ‹fi = false›))
  ·omega
  ·exact absurd (by first | assumption | (simpa using ‹(!fi) = false›) | (simpa using ‹(!rs) = false›)) hh
  rw [List.length_append, List.length_take]; have := hF.snd (by omega); omega
 refine dx rfl <| dx rfl <| dx rfl <| dx rfl <| dxq rfl <| dxl rfl <| dxl rfl <| dx rfl <| dpkF rfl <| dmv <| dsplitF rfl <| dgmv rfl <| dqg rfl (v := .bool (!rs)) (o_not rfl rfl) <| dgmv rfl <| dsplit rfl (fun c195 => ?_) (fun c195 => ?_)
 ·refine dgmv rfl <| dqg rfl (v := .pointer (some ⟨bw, 0, none⟩)) (o_nilchk rfl rfl) <| dgfa rfl rfl <| dgfa rfl rfl <| dgmv rfl <| dqgyes rfl rfl <| dqld rfl (by simp [isHeld]) (v := .string (str ((key.take V5.toNat) ++ T11))) ((hM176.at (i := 5) (j := 0) rfl rfl).cell 0) <| dgyesl rfl <| dl (m_ld (v := .string (str key)) hM176 (i := 0) (j := 0) rfl rfl rfl rfl <| ⟨(fun b hb => rfl), dgyesl rfl <| dl (m_call (Common_ok key ((key.take V5.toNat) ++ T11) wd (by first | omega | (simp; done) | (simp; omega)) (by first | omega | (simp; done) | (simp; omega))) rfl fun v196 w196 ⟨hr196, hu196⟩ => ?_)⟩)
  have hM196 : Mem w (ids (⟨bw, 105, [.pointer (some ⟨bc, 0, none⟩), .string (str key)]⟩ :: r0)) w196 [[⟨bw, 105, [.pointer (some ⟨bc, 0, none⟩), .string (str key)]⟩], r'13, [⟨b2, 107, [.string (str ([])), .string (str ([]))]⟩], rs11, rs13, [⟨b14, 107, [.string (str ((key.take V5.toNat) ++ T11)), .string (str T13)]⟩], [⟨b20, 111, [.int .i64 (endE b a13_ e13_), .int .i64 (endA b a13_ e13_ : Nat)]⟩]] := hM176.pure hu196
  subst hr196
  have hh196 := held_upd (wr := wd) (bs := [bw, b14]) hu196 (fun b hb => by
   simp only [List.mem_cons, List.not_mem_nil, or_false] at hb
   rcases hb with h | h
   ·rw [h]; exact ⟨(hM176.at (i := 0) (j := 0) rfl rfl).lt, by simp⟩
   rw [h]; exact ⟨(hM176.at (i := 5) (j := 0) rfl rfl).lt, by simp⟩) (fun b hb => rfl)
  refine ⟨hh196, dqg rfl (v := .bool (decide (¬ ((common key ((key.take V5.toNat) ++ T11) : Nat) : Int) = V5))) (o_bin rfl rfl v_neq) <| dqg rfl (v := .bool (decide (¬ ((common key ((key.take V5.toNat) ++ T11) : Nat) : Int) = V5))) (o_pickT rfl rfl) <| dpkF rfl <| h175 _ _ <| cndP rfl (fun c197 => ?_) (fun c197 => ?_)⟩
  ·refine seq fun _ h198 => stp (v := .agg ([.string (str ([])), .string (str ([]))] : List Value).toArray) (o_bld rfl rfl) <| m_stA (l := [.string (str ([])), .string (str ([]))]) hM196 (i := 2) rfl rfl rfl rfl (by simp [oneCells, Value.oneCell', byteV]) (by simp) fun w199 (hM199 : Mem _ _ w199 [_, _, _, _, _, _, _]) => mv <| h198 _ _ ?_
   show resV _ _ _ _ _
   refine res_cell (s := some 2) (by kernel_rfl) <| vl_ldA (cs := [.string (str ([])), .string (str ([]))]) rfl rfl ((hM199.at (i := 2) (j := 0) rfl rfl).agg rfl rfl) <| res_tmp <| ⟨(.tuple [.agg ([.string (str ([])), .string (str ([]))] : List Value).toArray, .bool false].toArray), rfl, ⟨false, _, _, _, _, key, _, rfl, hF.no (fun q => ?_), fun q => absurd q Bool.false_ne_true, hc13, hM199.keep (by simp)⟩⟩
   obtain ⟨q1, q2, q3, q4, q5, q6⟩ := q
   have := q6 (by first | assumption | (simpa using ‹(!fi) = true›) | (simpa using ‹(!rs) = true›) | (simpa using ‹rs = false›) | (simpa using ‹fi = false›)); omega
  refine h174 _ _ <| seq fun _ h200 => mv <| fa rfl <| m_ld (v := .string (str ((key.take V5.toNat) ++ T11))) hM196 (i := 5) (j := 0) rfl rfl rfl rfl <| nilchk rfl <| fa rfl <| m_st (v := .string (str ((key.take V5.toNat) ++ T11))) hM196 (i := 0) rfl rfl rfl rfl (by simp) fun w201 (hM201 : Mem _ _ w201 [[⟨bw, 105, [.pointer (some ⟨bc, 0, none⟩), .string (str ((key.take V5.toNat) ++ T11))]⟩], _, _, _, _, _, _]) => h200 _ _ <| seq fun _ h202 => m_ldA (l := [.string (str ((key.take V5.toNat) ++ T11)), .string (str T13)]) hM201 (i := 5) (j := 0) rfl rfl rfl rfl rfl <| m_stA (l := [.string (str ((key.take V5.toNat) ++ T11)), .string (str T13)]) hM201 (i := 2) rfl rfl rfl rfl (by simp [oneCells, Value.oneCell', byteV]) (by simp) fun w203 (hM203 : Mem _ _ w203 [_, _, [⟨b2, 107, [.string (str ((key.take V5.toNat) ++ T11)), .string (str T13)]⟩], _, _, _, _]) => mv <| h202 _ _ ?_
  show resV _ _ _ _ _
  refine res_cell (s := some 2) (by kernel_rfl) <| vl_ldA (cs := [.string (str ((key.take V5.toNat) ++ T11)), .string (str T13)]) rfl rfl ((hM203.at (i := 2) (j := 0) rfl rfl).agg rfl rfl) <| res_tmp <| ⟨(.tuple [.agg ([.string (str ((key.take V5.toNat) ++ T11)), .string (str T13)] : List Value).toArray, .bool true].toArray), rfl, ⟨true, _, _, _, _, _, _, rfl, hF.yes ⟨by omega, by omega, fun hh => ?_, by omega, fun hh => ?_, fun hh => ?_⟩, fun _ => ⟨rfl, ?_⟩, hc13, hM203.keep (by simp)⟩⟩
  ·exact absurd hh (by first | assumption | (simpa using ‹(!fi) = true›) | (simpa using ‹(!rs) = true›) | (simpa using ‹rs = false›) | (simpa using ‹fi = false›))
  ·exact absurd (by first | assumption | (simpa using ‹(!fi) = false›) | (simpa using ‹(!rs) = false›)) hh
  ·omega
  rw [List.length_append, List.length_take]; have := hF.snd (by omega); omega
 refine dx rfl <| dx rfl <| dx rfl <| dx rfl <| dx rfl <| dxq rfl <| dxl rfl <| dxl rfl <| dx rfl <| dqg rfl (v := .bool false) (o_pickF rfl rfl) <| dpkF rfl <| h175 _ _ <| cndF rfl <| h174 _ _ <| seq fun _ h204 => mv <| fa rfl <| m_ld (v := .string (str ((key.take V5.toNat) ++ T11))) hM176 (i := 5) (j := 0) rfl rfl rfl rfl <| nilchk rfl <| fa rfl <| m_st (v := .string (str ((key.take V5.toNat) ++ T11))) hM176 (i := 0) rfl rfl rfl rfl (by simp) fun w205 (hM205 : Mem w (ids (⟨bw, 105, [.pointer (some ⟨bc, 0, none⟩), .string (str key)]⟩ :: r0)) w205 [[⟨bw, 105, [.pointer (some ⟨bc, 0, none⟩), .string (str ((key.take V5.toNat) ++ T11))]⟩], r'13, [⟨b2, 107, [.string (str ([])), .string (str ([]))]⟩], rs11, rs13, [⟨b14, 107, [.string (str ((key.take V5.toNat) ++ T11)), .string (str T13)]⟩], [⟨b20, 111, [.int .i64 (endE b a13_ e13_), .int .i64 (endA b a13_ e13_ : Nat)]⟩]]) => h204 _ _ <| seq fun _ h206 => m_ldA (l := [.string (str ((key.take V5.toNat) ++ T11)), .string (str T13)]) hM205 (i := 5) (j := 0) rfl rfl rfl rfl rfl <| m_stA (l := [.string (str ((key.take V5.toNat) ++ T11)), .string (str T13)]) hM205 (i := 2) rfl rfl rfl rfl (by simp [oneCells, Value.oneCell', byteV]) (by simp) fun w207 (hM207 : Mem _ _ w207 [_, _, [⟨b2, 107, [.string (str ((key.take V5.toNat) ++ T11)), .string (str T13)]⟩], _, _, _, _]) => mv <| h206 _ _ ?_
 show resV _ _ _ _ _
 refine res_cell (s := some 2) (by kernel_rfl) <| vl_ldA (cs := [.string (str ((key.take V5.toNat) ++ T11)), .string (str T13)]) rfl rfl ((hM207.at (i := 2) (j := 0) rfl rfl).agg rfl rfl) <| res_tmp <| ⟨(.tuple [.agg ([.string (str ((key.take V5.toNat) ++ T11)), .string (str T13)] : List Value).toArray, .bool true].toArray), rfl, ⟨true, _, _, _, _, _, _, rfl, hF.yes ⟨by omega, by omega, fun hh => ?_, by omega, fun hh => ?_, fun hh => ?_⟩, fun _ => ⟨rfl, ?_⟩, hc13, hM207.keep (by simp)⟩⟩
 ·exact absurd hh (by first | assumption | (simpa using ‹(!fi) = true›) | (simpa using ‹(!rs) = true›) | (simpa using ‹rs = false›) | (simpa using ‹fi = false›))
 ·exact absurd (by first | assumption | (simpa using ‹(!fi) = false›) | (simpa using ‹(!rs) = false›)) hh
 ·exact absurd (by first | assumption | (simpa using ‹(!fi) = false›) | (simpa using ‹(!rs) = false›)) hh
 rw [List.length_append, List.length_take]; have := hF.snd (by omega); omega
end Go.Proofs.YtifnmbmijljhfaaGreat.E
namespace Go.Proofs.YtifnmbmijljhfaaGreat.E
open Go
abbrev Pr2 := List UInt8 × List UInt8
def pairC (x : Pr2) : List Value := [.string (str x.1), .string (str x.2)]
instance : Enc pairC 2 := ⟨fun _ => rfl, by omega, fun c => by intro v hv; simp only [pairC, List.mem_cons, List.not_mem_nil, or_false] at hv; rcases hv with rfl | rfl <;> rfl⟩
def RdrS (br R : Nat) (es : List Pr2) (r : List Ent) : Prop := ∃ v re, r = ⟨br, 101, [.int .i64 (R : Nat), v]⟩ :: re ∧ SlS pairC 2 107 v es re
end Go.Proofs.YtifnmbmijljhfaaGreat.E
namespace Go.Proofs.YtifnmbmijljhfaaGreat.E
open Go
theorem seek_lt {m n R : Nat} (hR : 1 ≤ R) (h : m < (n + R - 1) / R) : m * R < n := by
 have h1 : (m + 1) * R ≤ n + R - 1 := (Nat.le_div_iff_mul_le (by omega)).1 h
 rw [Nat.add_mul] at h1
 omega
theorem seek_mul {a R n : Nat} (h : a * R ≤ n) : 0 ≤ (a : Int) * (R : Int) ∧ (a : Int) * (R : Int) ≤ n := by rw [← Int.natCast_mul]; omega
abbrev blw (es : List Pr2) (k : List UInt8) (i : Nat) : Prop := cmp (es.getD i ([], [])).1 k < 0
def SeekQ (es : List Pr2) (k : List UInt8) (s : Nat) : Prop := s ≤ es.length ∧ (0 < s → blw es k (s - 1)) ∧ (s < es.length → ¬ blw es k s)
theorem below_ok (b1 b2 br R i : Nat) (v : Value) (es : List Pr2) (k : List UInt8) (w : World) (ho1 : Own w ⟨b1, 44, [.pointer (some ⟨br, 0, none⟩)]⟩) (ho2 : Own w ⟨b2, 9, [.string (str k)]⟩) (ho3 : Own w ⟨br, 101, [.int .i64 (R : Nat), v]⟩) (hv : RdS pairC w v es) (hi : i < es.length) (hk : k.length ≤ 1152921504606846976) (he : (es.getD i ([], [])).1.length ≤ 1152921504606846976) : Calls Tryz.prog 78 [.int .i64 (i : Nat), .pointer (some ⟨b1, 0, none⟩), .pointer (some ⟨b2, 0, none⟩)].toArray w (Rt fun r w' => r = .bool (decide (blw es k i)) ∧ Upd [] w w') := by
 have hM0 : Mem w [] w [] := Mem.nil w []
 refine calls_vc mixed Tryz.func78 rfl C78 (by simp [Tryz.ntmps78]) <| seq fun _ h1 => mv <| h1 _ _ <| seq fun _ h2 => ?_
 intro wd e1 e2 e3 e4
 have hd := Upd.same e1 e2 e3 e4 []
 have hM3 := hM0.pure hd
 clear e1 e2 e3 e4
 refine ⟨(some [b2]), ?_⟩
 show vd _ _ _ _ _ _ _
 refine dmv <| dqld rfl (by simp [isHeld]) (v := .string (str k)) ((ho2.upd hM3.upd (by simp)).cell 0) <| dl (ld (v := .pointer (some ⟨br, 0, none⟩)) rfl ((ho1.upd hM3.upd (by simp)).cell 0) <| ⟨(fun b hb => rfl), dq (v := .pointer (some ⟨br, 0, none⟩)) (o_nilchk rfl rfl) <| dfa rfl <| dl (ld (v := v) rfl ((ho3.upd hM3.upd (by simp)).cell 1) <| ⟨(fun b hb => rfl), dqp (m_idxS ([], []) (j := i) (hv.upd hM3.upd) rfl rfl (by omega) fun b4 o4 hp4 => ?_)⟩)⟩)
 show vd _ _ _ _ _ _ _
 refine dfa rfl <| dl (ld (v := .string (str ((es.getD i ([], [])).1))) rfl (hp4.get 0 rfl) <| ⟨(fun b hb => rfl), dl (m_call (Compare_ok ((es.getD i ([], [])).1) k wd (by first | omega | (simp; done) | (simp; omega)) (by first | omega | (simp; done) | (simp; omega))) rfl fun v5 w5 ⟨hr5, hu5⟩ => ?_)⟩)
 have hM5 : Mem w [] w5 [] := hM3.pure hu5
 subst hr5
 have hh5 := held_upd (wr := wd) (bs := [b2]) hu5 (fun b hb => by
  simp only [List.mem_cons, List.not_mem_nil, or_false] at hb
  rw [hb]; exact ⟨(ho2.upd hM3.upd (by simp)).lt, by simp⟩) (fun b hb => rfl)
 refine ⟨hh5, dbn rfl rfl <| dmv <| h2 _ _ <| ⟨(.bool (decide ((cmp ((es.getD i ([], [])).1) k) < 0))), rfl, ⟨rfl, hM5.upd⟩⟩⟩
end Go.Proofs.YtifnmbmijljhfaaGreat.E
namespace Go.Proofs.YtifnmbmijljhfaaGreat.E
open Go
structure Bd where
 raw : List UInt8
 st : List Int
 last : List UInt8
 n : Nat
def Bd.z : Bd := ⟨[], [], [], 0⟩
def Bd.add (R : Nat) (s : Bd) (x : Pr2) : Bd := ⟨s.raw ++ wrB (ahd R s.n s.last) x.1 x.2, if s.n % R = 0 then s.st ++ [(s.raw.length : Int)] else s.st, x.1, s.n + 1⟩
def bldF (R : Nat) (es : List Pr2) : Bd := es.foldl (Bd.add R) .z
def okB (es : List Pr2) : Prop := ∀ i, i < es.length → (es.getD i ([], [])).1.length ≤ 1024 ∧ (es.getD i ([], [])).2.length ≤ 1024 ∧ (0 < i → 0 ≤ cmp (es.getD i ([], [])).1 (es.getD (i - 1) ([], [])).1)
def Blk (R : Nat) (es : List Pr2) (raw : List UInt8) : Prop := (1 ≤ R ∧ R ≤ 64) ∧ 0 < es.length ∧ okB es ∧ raw = rawB R (bldF R es).raw (bldF R es).st es.length
def lastK (es : List Pr2) : List UInt8 := (es.getD (es.length - 1) ([], [])).1
theorem bld_snoc (R : Nat) (es : List Pr2) (x : Pr2) : bldF R (es ++ [x]) = (bldF R es).add R x := by unfold bldF; rw [List.foldl_append]; rfl
theorem getD_snoc {α : Type} (z : α) (es : List α) (x : α) : (es ++ [x]).getD es.length z = x := by simp [List.getD_eq_getElem?_getD]
theorem getD_lt {α : Type} (z : α) (es : List α) (x : α) {i : Nat} (h : i < es.length) : (es ++ [x]).getD i z = es.getD i z := by simp [List.getD_eq_getElem?_getD, List.getElem?_append_left h]
theorem rev_ind {P : List Pr2 → Prop} (h0 : P []) (h1 : ∀ es x, P es → P (es ++ [x])) : ∀ es, P es := by
 intro es
 rw [← List.reverse_reverse es]
 induction es.reverse with
 | nil => exact h0
 | cons a r ih => rw [List.reverse_cons]; exact h1 _ _ ih
theorem bld_n (R : Nat) : ∀ es, (bldF R es).n = es.length := rev_ind rfl fun es x ih => by rw [bld_snoc]; show (bldF R es).n + 1 = _; rw [ih, List.length_append]; rfl
theorem bld_last (R : Nat) : ∀ es, (bldF R es).last = lastK es := rev_ind rfl fun es x _ => by
 rw [bld_snoc]
 show x.1 = _
 unfold lastK
 rw [List.length_append, List.length_singleton, Nat.add_sub_cancel, getD_snoc]
def cdiv (R n : Nat) : Nat := (n + R - 1) / R
theorem cdiv_succ {R n : Nat} (hR : 1 ≤ R) : cdiv R (n + 1) = if n % R = 0 then cdiv R n + 1 else cdiv R n := by
 unfold cdiv
 have hd := Nat.div_add_mod n R
 have hm := Nat.mod_lt n (show 0 < R by omega)
 split
 ·rename_i h
  have e1 : n = R * (n / R) := by omega
  have h1 : (n + 1 + R - 1) / R = n / R + 1 := by
   rw [show n + 1 + R - 1 = n + R by omega, Nat.add_div_right _ (by omega)]
  have h2 : (n + R - 1) / R = n / R := by
   rw [show n + R - 1 = R - 1 + R * (n / R) by omega, Nat.add_mul_div_left _ _ (by omega), Nat.div_eq_of_lt (by omega)]; omega
  rw [h1, h2]
 rename_i h
 have h1 : (n + 1 + R - 1) / R = n / R + 1 := by
  rw [show n + 1 + R - 1 = n + R by omega, Nat.add_div_right _ (by omega)]
 have h2 : (n + R - 1) / R = n / R + 1 := by
  rw [show n + R - 1 = (n % R - 1) + R * (n / R + 1) by rw [Nat.mul_add]; omega, Nat.add_mul_div_left _ _ (by omega), Nat.div_eq_of_lt (by omega)]; omega
 rw [h1, h2]
theorem cdiv_0 {R : Nat} (hR : 1 ≤ R) : cdiv R 0 = 0 := by unfold cdiv; exact Nat.div_eq_of_lt (by omega)
theorem cdiv_at {R n : Nat} (hR : 1 ≤ R) (h : n % R = 0) : cdiv R n = n / R := by
 unfold cdiv
 have hd := Nat.div_add_mod n R
 rw [show n + R - 1 = R - 1 + R * (n / R) by omega, Nat.add_mul_div_left _ _ (by omega), Nat.div_eq_of_lt (by omega)]; omega
theorem cdiv_le {R n m : Nat} (h : n ≤ m) : cdiv R n ≤ cdiv R m := Nat.div_le_div_right (by omega)
theorem bld_st (R : Nat) (hR : 1 ≤ R) : ∀ es, (bldF R es).st.length = cdiv R es.length := rev_ind (by rw [show ([] : List Pr2).length = 0 from rfl, cdiv_0 hR]; rfl) fun es x ih => by
 rw [bld_snoc, List.length_append, List.length_singleton, cdiv_succ hR]
 show (if (bldF R es).n % R = 0 then _ else _ : List Int).length = _
 rw [bld_n]
 split
 ·rw [List.length_append, ih]; rfl
 exact ih
theorem bld_raw {R : Nat} : ∀ es, okB es → 3 * es.length ≤ (bldF R es).raw.length := rev_ind (fun _ => Nat.zero_le _) fun es x ih h => by
 have ho : okB es := fun i hi => by
  have := h i (by rw [List.length_append]; omega)
  rw [getD_lt _ _ _ hi] at this
  refine ⟨this.1, this.2.1, fun h0 => ?_⟩
  have q := this.2.2 h0
  rwa [getD_lt _ _ _ (by omega)] at q
 have hx := h es.length (by simp)
 rw [getD_snoc] at hx
 have := (wrB_len (a := ahd R (bldF R es).n (bldF R es).last) hx.1 hx.2.1).2
 have := ih ho
 rw [bld_snoc]
 show _ ≤ ((bldF R es).raw ++ _).length
 rw [List.length_append, List.length_append, List.length_singleton]; omega
theorem bld_ext (R : Nat) (es : List Pr2) : ∀ l, ∃ r s, (bldF R (es ++ l)).raw = (bldF R es).raw ++ r ∧ (bldF R (es ++ l)).st = (bldF R es).st ++ s := rev_ind ⟨[], [], by simp, by simp⟩ fun l x ⟨r, s, h1, h2⟩ => by
 rw [← List.append_assoc, bld_snoc]
 refine ⟨r ++ wrB (ahd R (bldF R (es ++ l)).n (bldF R (es ++ l)).last) x.1 x.2, if (bldF R (es ++ l)).n % R = 0 then s ++ [((bldF R (es ++ l)).raw.length : Int)] else s, ?_, ?_⟩
 ·show (bldF R (es ++ l)).raw ++ _ = _
  rw [← List.append_assoc, ← h1]
 show (if _ then (bldF R (es ++ l)).st ++ _ else (bldF R (es ++ l)).st) = _
 split
 ·rw [h2, List.append_assoc]
 exact h2
end Go.Proofs.YtifnmbmijljhfaaGreat.E
namespace Go.Proofs.YtifnmbmijljhfaaGreat.E
open Go
def FullB (R n : Nat) (b X : List UInt8) (es : List Pr2) : Prop := okB es ∧ es.length = n ∧ b = (bldF R es).raw ∧ startsF (bldF R es).st = X.take (4 * cdiv R n)
structure PI (R n : Nat) (b X : List UInt8) (i a : Nat) (p : List UInt8) (es : List Pr2) : Prop where
 len : es.length = i
 raw : b.take a = (bldF R es).raw
 ale : a = (bldF R es).raw.length
 key : p = lastK es
 ok : okB es
 st : startsF (bldF R es).st = X.take (4 * cdiv R i)
 cpl : ∀ es', FullB R n b X es' → es'.take i = es
theorem PI.init {R n : Nat} {b X : List UInt8} (hR : 1 ≤ R) : PI R n b X 0 0 [] [] := ⟨rfl, rfl, rfl, rfl, fun i hi => absurd hi (Nat.not_lt_zero _), by rw [cdiv_0 hR]; rfl, fun _ _ => rfl⟩
theorem fix4_word {a : Nat} (h : a < 4294967296) : word (fixedI (a : Nat) 4) = a := by
 rw [fixedI_some (by omega)]
 unfold word
 rw [List.take_of_length_le (by rw [fixed_length]; decide), le_fixed]
 rw [show (256 : Nat) ^ (Int.toNat 4) = 4294967296 by decide]; omega
theorem word_fix4 {l : List UInt8} (h : l.length = 4) : fixedI (word l : Nat) 4 = l := by
 have := fixed_word (b := l) (by omega) (by omega)
 rwa [h] at this
theorem startsF_app (s t : List Int) : startsF (s ++ t) = startsF s ++ startsF t := by unfold startsF; rw [List.map_append, List.flatten_append]
theorem split_at {es es' : List Pr2} {i : Nat} (h : es'.take i = es) (hi : i < es'.length) : es' = es ++ (es'.getD i ([], [])) :: es'.drop (i + 1) := by
 conv => lhs; rw [← List.take_append_drop i es', h, List.drop_eq_getElem_cons hi]
 simp [List.getD_eq_getElem?_getD, List.getElem?_eq_getElem hi]
theorem if_ahd {R i : Nat} {p : List UInt8} : (if decide (i % R = 0) = true then [] else p) = ahd R i p := by unfold ahd; by_cases h : i % R = 0 <;> simp [h]
section
variable {R n i a : Nat} {b X p : List UInt8} {es : List Pr2} (hI : PI R n b X i a p es) (hR : 1 ≤ R)
include hI
theorem PI.al : a ≤ b.length := by
 have h1 := congrArg List.length hI.raw
 rw [List.length_take, ← hI.ale] at h1; omega
theorem PI.add (x : Pr2) : (bldF R (es ++ [x])).raw = b.take a ++ wrB (ahd R i p) x.1 x.2 ∧ (bldF R (es ++ [x])).st = if i % R = 0 then (bldF R es).st ++ [(a : Int)] else (bldF R es).st := by
 rw [bld_snoc]
 constructor
 ·show (bldF R es).raw ++ wrB (ahd R (bldF R es).n (bldF R es).last) x.1 x.2 = _
  rw [bld_n, bld_last, ← hI.key, hI.len, hI.raw]
 show (if (bldF R es).n % R = 0 then (bldF R es).st ++ [((bldF R es).raw.length : Int)] else (bldF R es).st) = _
 rw [bld_n, hI.len, ← hI.ale]
theorem PI.full (hi : i < n) {es' : List Pr2} (h : FullB R n b X es') : ∃ r s, b.drop a = wrB (ahd R i p) (es'.getD i ([], [])).1 (es'.getD i ([], [])).2 ++ r ∧ (bldF R es').st = (if i % R = 0 then (bldF R es).st ++ [(a : Int)] else (bldF R es).st) ++ s := by
 have hs := split_at (hI.cpl _ h) (by rw [h.2.1]; exact hi)
 obtain ⟨r, s, h1, h2⟩ := bld_ext R (es ++ [es'.getD i ([], [])]) (es'.drop (i + 1))
 rw [List.append_assoc, List.singleton_append, ← hs] at h1 h2
 obtain ⟨g1, g2⟩ := hI.add (es'.getD i ([], []))
 refine ⟨r, s, ?_, by rw [h2, g2]⟩
 have hb := h.2.2.1
 rw [h1, g1, List.append_assoc] at hb
 have hal := hI.al
 have := congrArg (List.drop a) hb
 rwa [List.drop_left' (by rw [List.length_take]; omega)] at this
include hR
theorem PI.start (hi : i < n) (h0 : i % R = 0) (hX : X.length = 4 * cdiv R n + 8) (hb : b.length ≤ 65536) {es' : List Pr2} (h : FullB R n b X es') : word ((X.drop (4 * (i / R))).take 4) = a := by
 obtain ⟨r, s, -, h2⟩ := hI.full hi h
 rw [if_pos h0] at h2
 have h3 := h.2.2.2
 have hl := bld_st R hR es
 rw [hI.len, cdiv_at hR h0] at hl
 have hal := hI.al
 rw [h2, startsF_app, startsF_app, List.append_assoc] at h3
 have h4 := congrArg (fun l => (l.drop (4 * (i / R))).take 4) h3
 have hn : cdiv R (i + 1) ≤ cdiv R n := cdiv_le (by omega)
 rw [cdiv_succ hR, if_pos h0, cdiv_at hR h0] at hn
 rw [List.drop_left' (by rw [starts_len, hl]), show startsF [(a : Int)] = fixedI (a : Nat) 4 by simp [startsF], List.take_left' (fix4_len _), List.drop_take, List.take_take, show min 4 (4 * cdiv R n - 4 * (i / R)) = 4 by omega] at h4
 rw [← h4]
 exact fix4_word (by omega)
theorem PI.restart (hi : i < n) (h0 : i % R = 0) (hX : X.length = 4 * cdiv R n + 8) (h : word ((X.drop (4 * (i / R))).take 4) = a) : (X.drop (4 * (i / R))).take 4 = fixedI (a : Nat) 4 := by
 have _ := hI.len
 have hn : cdiv R (i + 1) ≤ cdiv R n := cdiv_le (by omega)
 rw [cdiv_succ hR, if_pos h0, cdiv_at hR h0] at hn
 have := word_fix4 (l := (X.drop (4 * (i / R))).take 4) (by rw [List.length_take, List.length_drop]; omega)
 rw [h] at this
 exact this.symm
theorem PI.step {a' : Nat} {e' : Int} {x1 x2 : List UInt8} (hi : i < n) (ha : a' ≤ b.length) (hs : i % R = 0 → (X.drop (4 * (i / R))).take 4 = fixedI (a : Nat) 4) (hN : NextQ b a p (decide (i % R = 0)) (decide (i = 0)) true x1 x2 a' e') : PI R n b X (i + 1) a' x1 (es ++ [(x1, x2)]) := by
 obtain ⟨-, g1, g2, g3, g4⟩ := hN.1 rfl
 rw [if_ahd] at g1
 have hal := hI.al
 obtain ⟨q1, q2⟩ := hI.add (x1, x2)
 have hbb : b = (bldF R (es ++ [(x1, x2)])).raw ++ b.drop a' := by rw [q1, List.append_assoc, ← g1, List.take_append_drop]
 have hlen : a' = (bldF R (es ++ [(x1, x2)])).raw.length := by
  have := congrArg List.length hbb
  rw [List.length_append, List.length_drop] at this; omega
 have hraw : b.take a' = (bldF R (es ++ [(x1, x2)])).raw := by
  conv => lhs; rw [hbb]
  exact List.take_left' hlen.symm
 refine ⟨by rw [List.length_append, hI.len]; rfl, hraw, hlen, ?_, ?_, ?_, ?_⟩
 ·unfold lastK; rw [List.length_append, List.length_singleton, Nat.add_sub_cancel, getD_snoc]
 ·intro j hj
  rw [List.length_append, List.length_singleton] at hj
  by_cases hje : j = es.length
  ·subst hje
   rw [getD_snoc]
   refine ⟨g2, g3, fun h0 => ?_⟩
   rw [getD_lt _ _ _ (by omega)]
   have := g4 (by rw [← hI.len]; simp; intro q; rw [q] at h0; simp at h0)
   rw [hI.key] at this; exact this
  have := hI.ok j (by omega)
  rw [getD_lt _ _ _ (by omega)]
  refine ⟨this.1, this.2.1, fun h0 => ?_⟩
  rw [getD_lt _ _ _ (by omega)]; exact this.2.2 h0
 ·rw [q2, cdiv_succ hR]
  split
  ·rename_i h0
   rw [startsF_app, hI.st, cdiv_at hR h0, show startsF [(a : Int)] = fixedI (a : Nat) 4 by simp [startsF], ← hs h0, Nat.mul_add, List.take_add]
  exact hI.st
 intro es' h
 obtain ⟨r, s, h1, -⟩ := hI.full hi h
 have hx := h.1 i (by rw [h.2.1]; exact hi)
 have hcp := hI.cpl _ h
 have hsp := split_at hcp (by rw [h.2.1]; exact hi)
 have hq := hN.2 (es'.getD i ([], [])).1 (es'.getD i ([], [])).2 r (by rw [if_ahd]; exact h1) hx.1 hx.2.1 (fun h0 => by
  have hi0 : 0 < i := Nat.pos_of_ne_zero fun q => h0 (by simp [q])
  have := hx.2.2 hi0
  rw [hI.key]
  unfold lastK
  rw [hI.len]
  rwa [show es.getD (i - 1) ([], []) = es'.getD (i - 1) ([], []) by rw [← hcp]; simp [List.getD_eq_getElem?_getD, List.getElem?_take, show i - 1 < i by omega]])
 rw [hsp, ← hI.len, List.take_append, List.take_of_length_le (by omega), show es.length + 1 - es.length = 1 by omega, hI.len, hq.2.1, hq.2.2.1]
 rfl
theorem PI.stop {a' : Nat} {e' : Int} {x1 x2 : List UInt8} (hi : i < n) (hN : NextQ b a p (decide (i % R = 0)) (decide (i = 0)) false x1 x2 a' e') {es' : List Pr2} (h : FullB R n b X es') : False := by
 have _ := hR
 obtain ⟨r, s, h1, -⟩ := hI.full hi h
 have hx := h.1 i (by rw [h.2.1]; exact hi)
 have hcp := hI.cpl _ h
 have hq := hN.2 (es'.getD i ([], [])).1 (es'.getD i ([], [])).2 r (by rw [if_ahd]; exact h1) hx.1 hx.2.1 (fun h0 => by
  have hi0 : 0 < i := Nat.pos_of_ne_zero fun q => h0 (by simp [q])
  have := hx.2.2 hi0
  rw [hI.key]
  unfold lastK
  rw [hI.len]
  rwa [show es.getD (i - 1) ([], []) = es'.getD (i - 1) ([], []) by rw [← hcp]; simp [List.getD_eq_getElem?_getD, List.getElem?_take, show i - 1 < i by omega]])
 exact absurd hq.1 Bool.false_ne_true
theorem PI.done (hi : i = n) (ha : a = b.length) : FullB R n b X es := have _ := hR; ⟨hI.ok, by rw [hI.len, hi], by rw [← hI.raw, ha, List.take_of_length_le (Nat.le_refl _)], by rw [hI.st, hi]⟩
theorem PI.left (hi : i = n) (ha : ¬ a = b.length) {es' : List Pr2} (h : FullB R n b X es') : False := by
 have _ := hR
 have := hI.cpl _ h
 rw [List.take_of_length_le (by rw [h.2.1, hi]; exact Nat.le_refl _)] at this
 subst this
 exact ha (by rw [hI.ale, ← h.2.2.1])
end
end Go.Proofs.YtifnmbmijljhfaaGreat.E
