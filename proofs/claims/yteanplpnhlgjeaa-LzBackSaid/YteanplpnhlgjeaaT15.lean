/- Encode, the program's: the walk. -/
import Derived.Test.YteanplpnhlgjeaaT14
import Derived.Test.YteanplpnhlgjeaaE20
namespace Go.Proofs.Yteanplpnhlgjeaa.E
open Go
/-- the finder's memory, m places being laid -/
def FndS (T : List UInt8) (bf : Nat) (x : Value) (m : Nat) (r : List Ent) : Prop := ∃ (va : Value) (H A : List Int) (ra : List Ent), r = ⟨bf, 56, x :: (H.map i64V ++ [va])⟩ :: ra ∧ SlE i64V 3 va A ra ∧ A.length = T.length ∧ Tab (hashP T) 32768 m H A 1
theorem cs_heads {H : List Int} {x va : Value} {v : Nat} {q : Int} (h : v < H.length) : (x :: (H.map i64V ++ [va])).set (1 + v) (.int .i64 q) = x :: ((H.set v q).map i64V ++ [va]) := by
  rw [Nat.add_comm, List.set_cons_succ, List.set_append_left _ _ (by simpa using h), List.map_set]; rfl

/-- (*lz.finder).add -/
theorem add_ok (bf : Nat) (x : Value) (T : List UInt8) (i : Nat) (r0 : List Ent) (w : World) (hf : FndS T bf x (min i (T.length - 3)) r0) (hr : Res w r0) (hfar : ∀ w', Upd (ids r0) w w' → RdE byteV w' x T) (hi : i < T.length) (hl : T.length ≤ 65536) : Calls Try.prog 39 [.pointer (some ⟨bf, 0, none⟩), .int .i64 ((i : Nat) : Int)].toArray w (Rt fun _ w' => ∃ r', FndS T bf x (min (i + 1) (T.length - 3)) r' ∧ Mem w (ids r0) w' [r']) := by
  obtain ⟨va, H, A, ra, rfl, hA, hAl, ht⟩ := hf
  have hM0 : Mem w (ids (⟨bf, 56, (x :: (H.map i64V ++ [va]))⟩ :: ra)) w [[⟨bf, 56, (x :: (H.map i64V ++ [va]))⟩], ra] := Mem.start2 hr
  refine calls_vc mixed Try.func39 rfl C39 (by simp [Try.ntmps39]) ?_
  refine seq fun K1 h1 => ?_
  refine seq fun K2 h2 => ?_
  refine stp (v := .int .i64 (i : Nat)) (o_mv rfl) ?_
  refine stp (v := .int .i64 ((i : Nat) + 4)) (o_bin rfl rfl (v_add64 (by constructor <;> omega))) ?_
  refine stp (v := .pointer (some ⟨bf, 0, none⟩)) (o_mv rfl) ?_
  refine stp (v := .pointer (some ⟨bf, 0, none⟩)) (o_nilchk rfl rfl) ?_
  refine stp (v := .pointer (some ⟨bf, 0, none⟩)) (o_fa rfl rfl) ?_
  refine ld (v := x) rfl ((hM0.at (i := 0) (j := 0) rfl rfl).cell 0) ?_
  refine stp (v := .int .i64 (T.length : Nat)) (o_lenR ((hfar _ hM0.upd)) rfl rfl) ?_
  refine stp (v := .bool (decide ((T.length : Nat) < ((i : Nat) + 4 : Int)))) (o_bin rfl rfl rfl) ?_
  refine h2 _ _ ?_
  clear h2
  refine cndP rfl (fun c3 => ?_) (fun c3 => ?_)
  ·
    refine ⟨(.tuple [].toArray), rfl, ?_⟩
    exact ⟨_, ⟨va, H, A, ra, rfl, hA, hAl, by rw [show min (i + 1) (T.length - 3) = min i (T.length - 3) by omega]; exact ht⟩, hM0.keep (by simp)⟩
  ·
    refine h1 _ _ ?_
    clear h1
    refine seq fun K4 h4 => ?_
    have hmi : min i (T.length - 3) = i := by omega
    rw [hmi] at ht
    have hhl := hashP_lt T i
    have hhv := ht.hv (hashP T i) hhl
    have hpl := pv_le (hashP T) (hashP T i) i
    have hHl := ht.hl
    refine stp (v := .pointer (some ⟨bf, 0, none⟩)) (o_mv rfl) ?_
    refine stp (v := .int .i64 (i : Nat)) (o_mv rfl) ?_
    refine m_call (hash_ok bf x _ T i w (hM0.at (i := 0) (j := 0) rfl rfl) ((hfar _ hM0.upd)) (by omega) (by omega)) rfl fun v5 w5 ⟨hr5, hu5⟩ => ?_
    have hM5 : Mem w (ids (⟨bf, 56, (x :: (H.map i64V ++ [va]))⟩ :: ra)) w5 [[⟨bf, 56, (x :: (H.map i64V ++ [va]))⟩], ra] := hM0.pure hu5
    subst hr5
    refine stp (v := .int .i64 (hashP T i : Nat)) (o_mv rfl) ?_
    refine h4 _ _ ?_
    clear h4
    refine seq fun K6 h6 => ?_
    intro wd e1 e2 e3 e4
    have hd := Upd.same e1 e2 e3 e4 []
    have hM7 := hM5.pure hd
    clear e1 e2 e3 e4
    refine ⟨(some [bf]), ?_⟩
    show vd _ _ _ _ _ _ _
    refine dq (v := .pointer (some ⟨bf, 0, none⟩)) (o_mv rfl) ?_
    refine dq (v := .pointer (some ⟨bf, 0, none⟩)) (o_nilchk rfl rfl) ?_
    refine dq (v := .pointer (some ⟨bf, 32769, none⟩)) (o_fa rfl rfl) ?_
    refine dq (v := .int .i64 (i : Nat)) (o_mv rfl) ?_
    refine dq (v := .pointer (some ⟨bf, 0, none⟩)) (o_mv rfl) ?_
    refine dq (v := .int .i64 (hashP T i : Nat)) (o_mv rfl) ?_
    refine dq (v := .pointer (some ⟨bf, 0, none⟩)) (o_nilchk rfl rfl) ?_
    refine dq (v := .pointer (some ⟨bf, 1, none⟩)) (o_fa rfl rfl) ?_
    refine dq (v := .pointer (some ⟨bf, 1 + hashP T i, none⟩)) (o_idxa rfl rfl (by omega) (v_ptr (by first | rw [Int.toNat_natCast, Nat.mul_one] | (simp; done) | omega))) ?_
    refine dqld rfl (by simp [isHeld]) (v := va) (((hM7.at (i := 0) (j := 0) rfl rfl).cell 32769).trans (ahead_at ht.hl)) ?_
    refine dl (ld (v := .int .i64 (H.getD (hashP T i) 0)) rfl (((hM7.at (i := 0) (j := 0) rfl rfl).cell _).trans (heads_at (by omega))) ?_)
    refine ⟨(fun b hb => rfl), ?_⟩
    refine dq (v := .int .i64 ((H.getD (hashP T i) 0) - 1)) (o_bin rfl rfl (v_sub64 (by constructor <;> omega))) ?_
    refine dset (m_setU (E := i64V) (q := (H.getD (hashP T i) 0) - 1) (j := i) hM7 (i := 1) rfl hA rfl rfl (by omega) (by simp) (rfl) fun w8 r8 u8 he8 hs8 (hM8 : Mem w (ids (⟨bf, 56, (x :: (H.map i64V ++ [va]))⟩ :: ra)) w8 [[⟨bf, 56, (x :: (H.map i64V ++ [va]))⟩], r8]) hup8 => ?_)
    have hh8 := held_upd (wr := wd) (bs := [bf]) hup8 (fun b hb => by
      simp only [List.mem_cons, List.not_mem_nil, or_false] at hb
      rw [hb]; exact ⟨(hM7.at (i := 0) (j := 0) rfl rfl).lt, hM7.apart (i := 0) (j := 0) (k := 1) rfl rfl rfl (by decide)⟩) (fun b hb => rfl)
    refine ⟨hh8, ?_⟩
    show vd _ _ _ _ _ _ _
    refine h6 _ _ ?_
    clear h6
    refine stp (v := .pointer (some ⟨bf, 0, none⟩)) (o_mv rfl) ?_
    refine stp (v := .int .i64 (hashP T i : Nat)) (o_mv rfl) ?_
    refine stp (v := .int .i64 (i : Nat)) (o_mv rfl) ?_
    refine stp (v := .int .i64 ((i : Nat) + 1)) (o_bin rfl rfl (v_add64 (by constructor <;> omega))) ?_
    refine stp (v := .pointer (some ⟨bf, 0, none⟩)) (o_nilchk rfl rfl) ?_
    refine stp (v := .pointer (some ⟨bf, 1, none⟩)) (o_fa rfl rfl) ?_
    refine stp (v := .pointer (some ⟨bf, 1 + hashP T i, none⟩)) (o_idxa rfl rfl (by omega) (v_ptr (by first | rw [Int.toNat_natCast, Nat.mul_one] | (simp; done) | omega))) ?_
    refine m_st (v := .int .i64 ((i : Nat) + 1)) hM8 (i := 0) rfl rfl rfl rfl (by simp; omega) fun w9 hm9 => ?_
    have hM9 : Mem w (ids (⟨bf, 56, (x :: (H.map i64V ++ [va]))⟩ :: ra)) w9 [[⟨bf, 56, (x :: ((H.set (hashP T i) ((i : Int) + 1)).map i64V ++ [va]))⟩], r8] := by
      have e : (x :: (H.map i64V ++ [va])).set (1 + hashP T i) (.int .i64 ((i : Nat) + 1)) = (x :: ((H.set (hashP T i) ((i : Int) + 1)).map i64V ++ [va])) := cs_heads (by omega)
      rw [← e]; exact hm9
    refine ⟨(.tuple [].toArray), rfl, ?_⟩
    exact ⟨_, ⟨va, _, _, _, rfl, hs8, by rw [List.length_set]; exact hAl, by rw [show min (i + 1) (T.length - 3) = i + 1 by omega]; exact ht.step (by omega) hhl⟩, hM9.keep (by simp)⟩

/-- lz.taken -/
theorem taken_ok (x : Value) (l : List UInt8) (w : World) (hx : RdE byteV w x l) (hl : l.length ≤ 140737488355328) : Calls Try.prog 40 [x].toArray w (Rt fun r w' => ∃ rs, SlE byteV 5 r l rs ∧ Mem w [] w' [rs]) := by
  have hM0 : Mem w [] w [] := Mem.nil w []
  refine calls_vc mixed Try.func40 rfl C40 (by simp [Try.ntmps40]) ?_
  refine seq fun K1 h1 => ?_
  refine stp (v := .slice none 0 0) (o_mv rfl) ?_
  refine h1 _ _ ?_
  clear h1
  refine seq fun K2 h2 => ?_
  refine stp (v := x) (o_mv rfl) ?_
  refine stp (v := .int .i64 (l.length : Nat)) (o_lenR (hx.upd hM0.upd) rfl rfl) ?_
  refine m_mksE (E := byteV) (z := 0) (n := l.length) (c := l.length) rfl hM0 rfl rfl (by omega) (by omega) (by omega) fun v3 w3 r3 hs3 (hM3 : Mem w [] w3 [r3]) => ?_
  refine stp (v := v3) (o_mv rfl) ?_
  refine h2 _ _ ?_
  clear h2
  refine seq fun K4 h4 => ?_
  refine stp (v := v3) (o_mv rfl) ?_
  refine stp (v := x) (o_mv rfl) ?_
  refine m_cpyE (E := byteV) hM3 (i := 0) rfl hs3 rfl rfl (hx.upd hM3.upd) fun w5 r5 hs5 (hM5 : Mem w [] w5 [r5]) => ?_
  have hs5' := SlE.eqL (m := l) hs5 (by simp)
  refine h4 _ _ ?_
  clear h4
  refine seq fun K6 h6 => ?_
  refine stp (v := v3) (o_mv rfl) ?_
  refine stp (v := v3) (o_mv rfl) ?_
  refine h6 _ _ ?_
  clear h6
  refine ⟨v3, rfl, ?_⟩
  exact ⟨_, hs5', hM5⟩

theorem Mem.res1 {w : World} {e : Ent} {r : List Ent} (h : Res w (e :: r)) : Own w e ∧ ∀ x ∈ r, Own w x := ⟨h.1 e (by simp), fun x hx => h.1 x (List.mem_cons_of_mem _ hx)⟩
theorem match_okF (bf : Nat) (x : Value) (T : List UInt8) (i : Nat) (r0 : List Ent) (w : World) (hf : FndS T bf x (min i (T.length - 3)) r0) (hr : Res w r0) (hx : RdE byteV w x T) (hi : i < T.length) (hl : T.length ≤ 65536) : Calls Try.prog 38 [.pointer (some ⟨bf, 0, none⟩), .int .i64 ((i : Nat) : Int)].toArray w (Rt fun r w' => r = .tuple [.int .i64 (((bestF T i).1 : Nat) : Int), .int .i64 (((bestF T i).2 : Nat) : Int)].toArray ∧ Upd [] w w') := by
  obtain ⟨va, H, A, ra, rfl, hA, hAl, ht⟩ := hf
  have h1 := Mem.res1 hr
  exact match_ok bf x va T H A i w h1.1 (hA.rdOwn h1.2) hAl ht hx hi hl
/-- a great zero value, looked through -/
def zeros : Nat → List Value → Bool
  | 0, [.slice none 0 0] => true
  | n + 1, .int .i64 0 :: l => zeros n l
  | _, _ => false
theorem zeros_is : ∀ (n : Nat) (l : List Value), zeros n l = true → l = List.replicate n (.int .i64 0) ++ [.slice none 0 0]
  | 0, l, h => by
    unfold zeros at h
    split at h <;> first | rfl | cases h | (rename_i e; cases e)
  | n + 1, l, h => by
    unfold zeros at h
    split at h
    · rename_i e; cases e
    · rename_i e
      cases e
      rw [zeros_is n _ h]; rfl
    · cases h
def finderZ : List Value → Bool
  | .slice none 0 0 :: l => zeros 32768 l
  | _ => false
theorem finder_zero : zcOf Try.t56 = .slice none 0 0 :: (List.replicate 32768 (.int .i64 0) ++ [.slice none 0 0]) := by
  have h : finderZ (zcOf Try.t56) = true := by kernel_rfl
  revert h
  generalize zcOf Try.t56 = l
  intro h
  unfold finderZ at h
  split at h
  · rw [zeros_is _ _ h]
  · cases h
theorem fillG {x va z y y' : Value} (n : Nat) (hx : x.cells = #[x]) (ha : va.cells = #[va]) : fillC (y :: (List.replicate n z ++ [y'])) [(0, 1, x), (n + 1, 1, va)] = some (x :: (List.replicate n z ++ [va])) := by
  have e1 : (y :: (List.replicate n z ++ [y'])).length = n + 2 := by simp
  rw [fillC, hx, if_pos ⟨rfl, by rw [e1]; omega⟩, fillC, ha]
  have e2 : (List.take 0 (y :: (List.replicate n z ++ [y'])) ++ (#[x] : Array Value).toList ++ List.drop (0 + 1) (y :: (List.replicate n z ++ [y']))) = (x :: List.replicate n z) ++ [y'] := by simp
  rw [e2]
  have e3 : (x :: List.replicate n z).length = n + 1 := by simp
  rw [if_pos ⟨rfl, by rw [List.length_append, e3]; simp⟩, fillC]
  congr 1
  rw [List.take_left' e3, List.drop_eq_nil_of_le (by rw [List.length_append, e3]; simp)]
  simp
theorem fill56 {x va : Value} (hx : x.cells = #[x]) (ha : va.cells = #[va]) : fillC (zcOf Try.t56) [(0, 1, x), (32769, 1, va)] = some (x :: (List.replicate 32768 (.int .i64 0) ++ [va])) := by
  rw [finder_zero]
  exact fillG 32768 hx ha
theorem permF {a : Ent} {r : List Ent} : [a :: r].flatten.Perm [r, [a]].flatten := by
  simp only [List.flatten_cons, List.flatten_nil, List.append_nil]
  exact (List.perm_append_comm (l₁ := [a]) (l₂ := r))
section
variable {T : List UInt8} {k i j : Nat}
theorem own_miss (h : i < T.length) (hk : T.length ≤ i + k) (hb : (bestF T i).2 = 0) : ownK T k i j = ownK T (k - 1) (i + 1) j := by
  obtain ⟨k, rfl⟩ : ∃ m, k = m + 1 := ⟨k - 1, by omega⟩
  rw [ownK, if_pos h, if_pos hb]; rfl
theorem own_hit (h : i < T.length) (hk : T.length ≤ i + k) (hb : ¬ (bestF T i).2 = 0) : ownK T k i j = ((T.take i).drop j, ((bestF T i).1 : Int), ((bestF T i).2 : Int)) :: ownK T (k - 1) (i + (bestF T i).2) (i + (bestF T i).2) := by
  obtain ⟨k, rfl⟩ : ∃ m, k = m + 1 := ⟨k - 1, by omega⟩
  rw [ownK, if_pos h, if_neg hb]; rfl
theorem own_end (h : T.length ≤ i) : ownK T k i j = if j < T.length then [(T.drop j, 0, 0)] else [] := by
  cases k with
  | zero => rfl
  | succ k => rw [ownK, if_neg (by omega)]
end

/-- lz.Encode -/
theorem Encode_ok (x : Value) (T : List UInt8) (w : World) (hx : RdE byteV w x T) (hl : T.length ≤ 140737488355328) : Calls Try.prog 24 [x].toArray w (Rt fun r w' => ∃ v rs, r = .tuple [v, .int .i64 (encF T).2].toArray ∧ SlE byteV 5 v (encF T).1 rs ∧ Mem w [] w' [rs]) := by
  have hM0 : Mem w [] w [] := Mem.nil w []
  refine calls_vc mixed Try.func24 rfl C24 (by simp [Try.ntmps24]) ?_
  refine seq fun K1 h1 => ?_
  refine stp (v := .slice none 0 0) (o_mv rfl) ?_
  refine stp (v := .int .i64 0) (o_mv rfl) ?_
  refine h1 _ _ ?_
  clear h1
  refine seq fun K2 h2 => ?_
  refine seq fun K3 h3 => ?_
  refine stp (v := x) (o_mv rfl) ?_
  refine stp (v := .int .i64 (T.length : Nat)) (o_lenR (hx.upd hM0.upd) rfl rfl) ?_
  refine stp (v := .bool (decide ((65536 : Int) < ((T.length : Nat) : Int)))) (o_bin rfl rfl rfl) ?_
  refine h3 _ _ ?_
  clear h3
  refine cndP rfl (fun c4 => ?_) (fun c4 => ?_)
  ·
    refine seq fun K5 h5 => ?_
    refine stp (v := .slice none 0 0) (o_mv rfl) ?_
    refine stp (v := .int .i64 2) (o_mv rfl) ?_
    refine h5 _ _ ?_
    clear h5
    refine ⟨(.tuple [.slice none 0 0, .int .i64 2].toArray), rfl, ?_⟩
    exact ⟨.slice none 0 0, [], by rw [encF_long (by omega)], by rw [encF_long (by omega)]; exact Sl.nil 1 5, hM0.keep (by simp)⟩
  ·
    refine h2 _ _ ?_
    clear h2
    refine seq fun K6 h6 => ?_
    refine stp (v := x) (o_mv rfl) ?_
    refine stp (v := x) (o_mv rfl) ?_
    refine stp (v := .int .i64 (T.length : Nat)) (o_lenR (hx.upd hM0.upd) rfl rfl) ?_
    refine m_mksE (E := i64V) (z := 0) (n := T.length) (c := T.length) rfl hM0 rfl rfl (by omega) (by omega) (by omega) fun v7 w7 r7 hs7 (hM7 : Mem w [] w7 [r7]) => ?_
    refine stp (v := .agg ((x :: (List.replicate 32768 (Value.int .i64 0) ++ [v7])).toArray)) (o_bld (fill56 hx.cells1 hs7.cells1) rfl) ?_
    refine m_bx (v := .agg (x :: (List.replicate 32768 (Value.int .i64 0) ++ [v7])).toArray) (cs := (x :: (List.replicate 32768 (Value.int .i64 0) ++ [v7]))) hM7 rfl rfl fun bf w18 (hM18 : Mem w [] w18 [r7, [⟨bf, 56, (x :: (List.replicate 32768 (Value.int .i64 0) ++ [v7]))⟩]]) => ?_
    refine stp (v := .pointer (some ⟨bf, 0, none⟩)) (o_mv rfl) ?_
    refine h6 _ _ ?_
    clear h6
    refine seq fun K8 h8 => ?_
    obtain ⟨rf, hrf⟩ : ∃ z, z = ⟨bf, 56, (x :: (List.replicate 32768 (Value.int .i64 0) ++ [v7]))⟩ :: r7 := ⟨_, rfl⟩
    have hF0 : FndS T bf x 0 rf := ⟨_, List.replicate 32768 0, _, _, by rw [List.map_replicate]; exact hrf, hs7, by simp, Tab.init _ _ _ _⟩
    have hM9 : Mem w [] w18 [rf] := by rw [hrf]; exact hM18.perm permF
    refine stp (v := .slice none 0 0) (o_mv rfl) ?_
    refine h8 _ _ ?_
    clear h8
    refine seq fun K10 h10 => ?_
    refine stp (v := .int .i64 0) (o_mv rfl) ?_
    refine h10 _ _ ?_
    clear h10
    refine seq fun K11 h11 => ?_
    refine seq fun K12 h12 => ?_
    refine stp (v := .int .i64 0) (o_mv rfl) ?_
    refine h12 _ _ ?_
    clear h12
    have hM13 : Mem w [] w18 [rf, []] := hM9.addNil
    have hs13 : SlE byteV 5 (.slice none 0 0) [] [] := Sl.nil 1 5
    refine lp (n := fun _ _ => False) (ι := (Nat) × (Nat) × (Nat) × (List UInt8) × (List Ent) × (Value) × (List Ent)) (fun ⟨i, j, k, B, rf, y5_, r5_⟩ f w' => f 4 = .pointer (some ⟨bf, 0, none⟩) ∧ f 5 = y5_ ∧ f 6 = .int .i64 (j : Nat) ∧ f 7 = .int .i64 (i : Nat) ∧ f 0 = x ∧ Mem w [] w' [rf, r5_] ∧ (FndS T bf x (min i (T.length - 3)) rf) ∧ (toksB (ownF T) = B ++ toksB (ownK T k i j)) ∧ (T.length ≤ i + k) ∧ (j ≤ i) ∧ (i ≤ T.length) ∧ (SlE byteV 5 y5_ (B) r5_)) (fun ⟨i, j, k, B, rf, y5_, r5_⟩ => T.length - i) (0, 0, T.length, [], rf, ((.slice none 0 0)), ([])) ?_ ?_
    · exact ⟨rfl, rfl, by first | rfl | exact v_int (by omega) | exact v_int (by simp) | exact v_int (by simp; omega), by first | rfl | exact v_int (by omega) | exact v_int (by simp) | exact v_int (by simp; omega), rfl, hM13, by rw [Nat.zero_min]; exact hF0, rfl, by omega, by omega, by omega, by first | exact hs13 | simpa using hs13⟩
    · rintro ⟨i, j, k, B, rf, y5_, r5_⟩ f w14 ⟨e14_4, e14_5, e14_6, e14_7, e14_0, hM14, hF, hE, hk, hj, hi, hy5_⟩ K15 h15
      obtain ⟨frm, rfl⟩ : ∃ frm, f = (upd (upd (upd (upd (upd frm 4 (.pointer (some ⟨bf, 0, none⟩))) 5 (y5_)) 6 (.int .i64 (j : Nat))) 7 (.int .i64 (i : Nat))) 0 (x)) := ⟨f, by rw [upd_self e14_4, upd_self e14_5, upd_self e14_6, upd_self e14_7, upd_self e14_0]⟩
      clear e14_4 e14_5 e14_6 e14_7 e14_0
      refine seq fun K16 h16 => ?_
      refine seq fun K17 h17 => ?_
      refine stp (v := .int .i64 (i : Nat)) (o_mv rfl) ?_
      refine stp (v := x) (o_mv rfl) ?_
      refine stp (v := .int .i64 (T.length : Nat)) (o_lenR (hx.upd hM14.upd) rfl rfl) ?_
      refine stp (v := .bool (decide (((i : Nat) : Int) < (T.length : Nat)))) (o_bin rfl rfl rfl) ?_
      refine h17 _ _ ?_
      clear h17
      refine cndP rfl (fun c18 => ?_) (fun c18 => ?_)
      ·
        refine h16 _ _ ?_
        clear h16
        refine seq fun K19 h19 => ?_
        refine stp (v := .pointer (some ⟨bf, 0, none⟩)) (o_mv rfl) ?_
        refine stp (v := .int .i64 (i : Nat)) (o_mv rfl) ?_
        refine m_call (match_okF bf x T i rf w14 hF (hM14.res (i := 0) rfl) (hx.upd hM14.upd) (by omega) (by omega)) rfl fun v20 w20 ⟨hr20, hu20⟩ => ?_
        have hM20 : Mem w [] w20 [rf, r5_] := hM14.pure hu20
        subst hr20
        have hbs20 := best_le (T := T) (i := i)
        refine stp (v := .tuple [.int .i64 ((bestF T i).1 : Nat), .int .i64 ((bestF T i).2 : Nat)].toArray) (o_mv rfl) ?_
        refine stp (v := .int .i64 ((bestF T i).1 : Nat)) (o_ext rfl rfl) ?_
        refine stp (v := .int .i64 ((bestF T i).2 : Nat)) (o_ext rfl rfl) ?_
        refine stp (v := .int .i64 ((bestF T i).1 : Nat)) (o_mv rfl) ?_
        refine stp (v := .int .i64 ((bestF T i).2 : Nat)) (o_mv rfl) ?_
        refine h19 _ _ ?_
        clear h19
        refine seq fun K21 h21 => ?_
        refine seq fun K22 h22 => ?_
        refine stp (v := .int .i64 ((bestF T i).2 : Nat)) (o_mv rfl) ?_
        refine stp (v := .bool (decide ((((bestF T i).2 : Nat) : Int) = 0))) (o_bin rfl rfl rfl) ?_
        refine h22 _ _ ?_
        clear h22
        refine cndP rfl (fun c23 => ?_) (fun c23 => ?_)
        ·
          refine seq fun K24 h24 => ?_
          refine stp (v := .pointer (some ⟨bf, 0, none⟩)) (o_mv rfl) ?_
          refine stp (v := .int .i64 (i : Nat)) (o_mv rfl) ?_
          refine m_call (add_ok bf x T i rf w20 hF (hM20.res (i := 0) rfl) (fun w9 hu9 => hx.upd (hM20.far (i := 0) rfl hu9)) (by omega) (by omega)) rfl fun v25 w25 ⟨r'25, hF25, hm25⟩ => ?_
          have hM25 : Mem w [] w25 [r'25, r5_] := hM20.step 0 rfl hm25
          refine h24 _ _ ?_
          clear h24
          refine seq fun K26 h26 => ?_
          refine stp (v := .int .i64 (i : Nat)) (o_mv rfl) ?_
          refine stp (v := .int .i64 ((i : Nat) + 1)) (o_bin rfl rfl (v_add64 (by constructor <;> omega))) ?_
          refine stp (v := .int .i64 ((i : Nat) + 1)) (o_mv rfl) ?_
          refine h26 _ _ ?_
          clear h26
          refine h15 (i + 1, j, k - 1, B, r'25, y5_, r5_) _ _ ⟨rfl, rfl, by first | rfl | exact v_int (by omega) | exact v_int (by simp) | exact v_int (by simp; omega), by first | rfl | exact v_int (by omega) | exact v_int (by simp) | exact v_int (by simp; omega), rfl, hM25, hF25, by rw [← own_miss (by omega) hk (by omega)]; exact hE, by omega, by omega, by omega, by first | exact hy5_ | simpa using hy5_⟩ (by (try dsimp only); omega)
        ·
          refine h21 _ _ ?_
          clear h21
          refine seq fun K27 h27 => ?_
          refine stp (v := y5_) (o_mv rfl) ?_
          refine stp (v := x) (o_mv rfl) ?_
          refine stp (v := .int .i64 (j : Nat)) (o_mv rfl) ?_
          refine stp (v := .int .i64 (i : Nat)) (o_mv rfl) ?_
          refine stp (v := .int .i64 (i : Nat)) (o_mv rfl) ?_
          refine m_slcM j i (hx.upd hM20.upd) rfl (by omega) (by omega) rfl rfl rfl fun u28 hu28 => ?_
          refine m_call (taken_ok _ ((T.take i).drop j) w20 (hu28) (by first | omega | (simp; done) | (simp; omega))) rfl fun v29 w29 ⟨rs29, hs29, hm29⟩ => ?_
          have hM29 : Mem w [] w29 [rf, r5_, rs29] := hM20.add hm29
          refine stp (v := .int .i64 ((bestF T i).1 : Nat)) (o_mv rfl) ?_
          refine stp (v := .int .i64 ((bestF T i).2 : Nat)) (o_mv rfl) ?_
          obtain ⟨a30_, n30_, c30_, rfl⟩ := Sl.isSlice hs29
          refine stp (v := .agg ([(.slice a30_ n30_ c30_), .int .i64 ((bestF T i).1 : Nat), .int .i64 ((bestF T i).2 : Nat)] : List Value).toArray) (o_bld rfl rfl) ?_
          have hll : ((T.take i).drop j).length ≤ 65536 := by rw [List.length_drop, List.length_take]; omega
          refine m_call (bytes_ok (⟨a30_, n30_, c30_, (T.take i).drop j, ((bestF T i).1 : Nat), ((bestF T i).2 : Nat)⟩ : Tk) w29 (hs29.rd hM29 (i := 2) rfl) (by first | omega | (dsimp only; omega)) (by first | omega | (dsimp only; omega)) (by first | omega | (dsimp only; omega))) rfl fun v31 w31 ⟨rs31, hs31, hm31⟩ => ?_
          have hM31 : Mem w [] w31 [rf, r5_, rs29, rs31] := hM29.add hm31
          have hs31 : SlE byteV 5 v31 (tokB ((T.take i).drop j, ((bestF T i).1 : Nat), ((bestF T i).2 : Nat))) rs31 := hs31
          have hE3 : toksB (ownF T) = B ++ (tokB ((T.take i).drop j, ((bestF T i).1 : Int), ((bestF T i).2 : Int)) ++ toksB (ownK T (k - 1) (i + (bestF T i).2) (i + (bestF T i).2))) := by rw [hE, own_hit (by omega) hk (by omega), toksB_cons]
          have hE4 := congrArg List.length hE3
          simp only [List.length_append] at hE4
          have hE5 := enc_len (T := T)
          rw [encF_ok (by omega)] at hE5
          dsimp only at hE5
          refine m_appE hM31 (i := 1) rfl hy5_ rfl rfl (hs31.rd hM31 (i := 3) rfl) (by omega) (by omega) fun v32 w32 r32 (hs32 : SlE byteV 5 v32 (B ++ (tokB ((T.take i).drop j, ((bestF T i).1 : Nat), ((bestF T i).2 : Nat)))) r32) (hM32 : Mem w [] w32 [rf, r32, rs29, rs31]) => ?_
          refine stp (v := v32) (o_mv rfl) ?_
          refine h27 _ _ ?_
          clear h27
          refine seq fun K33 h33 => ?_
          refine seq fun K34 h34 => ?_
          refine stp (v := .int .i64 ((bestF T i).2 : Nat)) (o_mv rfl) ?_
          refine stp (v := .int .i64 0) (o_mv rfl) ?_
          refine h34 _ _ ?_
          clear h34
          refine lp (n := fun _ _ => False) (ι := (Nat) × (List Ent)) (fun ⟨c, rf⟩ f w' => f 4 = .pointer (some ⟨bf, 0, none⟩) ∧ f 7 = .int .i64 (i + c : Nat) ∧ f 49 = .int .i64 (c : Nat) ∧ f 0 = x ∧ f 5 = v32 ∧ f 48 = .int .i64 ((bestF T i).2 : Nat) ∧ Mem w [] w' [rf, r32, rs29, rs31] ∧ (FndS T bf x (min (i + c) (T.length - 3)) rf) ∧ (c ≤ (bestF T i).2)) (fun ⟨c, rf⟩ => (bestF T i).2 - c) (0, rf) ?_ ?_
          · exact ⟨rfl, by first | rfl | exact v_int (by omega) | exact v_int (by simp) | exact v_int (by simp; omega), by first | rfl | exact v_int (by omega) | exact v_int (by simp) | exact v_int (by simp; omega), rfl, rfl, by first | rfl | exact v_int (by omega) | exact v_int (by simp) | exact v_int (by simp; omega), hM32, hF, by omega⟩
          · rintro ⟨c, rf⟩ f w35 ⟨e35_4, e35_7, e35_49, e35_0, e35_5, e35_48, hM35, hF, hc⟩ K36 h36
            obtain ⟨frm, rfl⟩ : ∃ frm, f = (upd (upd (upd (upd (upd (upd frm 4 (.pointer (some ⟨bf, 0, none⟩))) 7 (.int .i64 (i + c : Nat))) 49 (.int .i64 (c : Nat))) 0 (x)) 5 (v32)) 48 (.int .i64 ((bestF T i).2 : Nat))) := ⟨f, by rw [upd_self e35_4, upd_self e35_7, upd_self e35_49, upd_self e35_0, upd_self e35_5, upd_self e35_48]⟩
            clear e35_4 e35_7 e35_49 e35_0 e35_5 e35_48
            refine seq fun K37 h37 => ?_
            refine stp (v := .bool (decide (((c : Nat) : Int) < ((bestF T i).2 : Nat)))) (o_bin rfl rfl rfl) ?_
            refine h37 _ _ ?_
            clear h37
            refine seq fun K38 h38 => ?_
            refine cndP rfl (fun c39 => ?_) (fun c39 => ?_)
            ·
              refine h38 _ _ ?_
              clear h38
              refine seq fun K40 h40 => ?_
              refine seq fun K41 h41 => ?_
              refine stp (v := .pointer (some ⟨bf, 0, none⟩)) (o_mv rfl) ?_
              refine stp (v := .int .i64 (i + c : Nat)) (o_mv rfl) ?_
              refine m_call (add_ok bf x T (i + c) rf w35 hF (hM35.res (i := 0) rfl) (fun w9 hu9 => hx.upd (hM35.far (i := 0) rfl hu9)) (by omega) (by omega)) rfl fun v42 w42 ⟨r'42, hF42, hm42⟩ => ?_
              have hM42 : Mem w [] w42 [r'42, r32, rs29, rs31] := hM35.step 0 rfl hm42
              refine h41 _ _ ?_
              clear h41
              refine stp (v := .int .i64 (i + c : Nat)) (o_mv rfl) ?_
              refine stp (v := .int .i64 ((i + c : Nat) + 1)) (o_bin rfl rfl (v_add64 (by constructor <;> omega))) ?_
              refine stp (v := .int .i64 ((i + c : Nat) + 1)) (o_mv rfl) ?_
              refine h40 _ _ ?_
              clear h40
              refine stp (v := .int .i64 ((c : Nat) + 1)) (o_bin rfl rfl (v_add64 (by constructor <;> omega))) ?_
              refine stp (v := .int .i64 ((c : Nat) + 1)) (o_mv rfl) ?_
              refine h36 (c + 1, r'42) _ _ ⟨rfl, by first | rfl | exact v_int (by omega) | exact v_int (by simp) | exact v_int (by simp; omega), by first | rfl | exact v_int (by omega) | exact v_int (by simp) | exact v_int (by simp; omega), rfl, rfl, by first | rfl | exact v_int (by omega) | exact v_int (by simp) | exact v_int (by simp; omega), hM42, hF42, by omega⟩ (by (try dsimp only); omega)
            ·
              refine h33 _ _ ?_
              clear h33
              have hcc : c = (bestF T i).2 := by omega
              refine stp (v := .int .i64 (i + c : Nat)) (o_mv rfl) ?_
              refine stp (v := .int .i64 (i + c : Nat)) (o_mv rfl) ?_
              refine h15 (i + (bestF T i).2, i + (bestF T i).2, k - 1, (B ++ (tokB ((T.take i).drop j, ((bestF T i).1 : Nat), ((bestF T i).2 : Nat)))), rf, v32, r32) _ _ ⟨rfl, rfl, by first | rfl | exact v_int (by omega) | exact v_int (by simp) | exact v_int (by simp; omega), by first | rfl | exact v_int (by omega) | exact v_int (by simp) | exact v_int (by simp; omega), rfl, hM35.keep (by simp), by rw [← hcc]; exact hF, by rw [hE3, List.append_assoc], by omega, by omega, by omega, by first | exact hs32 | simpa using hs32⟩ (by (try dsimp only); omega)
      ·
        refine h11 _ _ ?_
        clear h11
        refine seq fun K43 h43 => ?_
        refine seq fun K44 h44 => ?_
        refine stp (v := .int .i64 (j : Nat)) (o_mv rfl) ?_
        refine stp (v := x) (o_mv rfl) ?_
        refine stp (v := .int .i64 (T.length : Nat)) (o_lenR (hx.upd hM14.upd) rfl rfl) ?_
        refine stp (v := .bool (decide (((j : Nat) : Int) < (T.length : Nat)))) (o_bin rfl rfl rfl) ?_
        refine h44 _ _ ?_
        clear h44
        refine cndP rfl (fun c45 => ?_) (fun c45 => ?_)
        ·
          refine stp (v := y5_) (o_mv rfl) ?_
          refine stp (v := x) (o_mv rfl) ?_
          refine stp (v := .int .i64 (j : Nat)) (o_mv rfl) ?_
          refine stp (v := x) (o_mv rfl) ?_
          refine stp (v := .int .i64 (T.length : Nat)) (o_lenR (hx.upd hM14.upd) rfl rfl) ?_
          refine stp (v := x) (o_mv rfl) ?_
          refine stp (v := .int .i64 (T.length : Nat)) (o_lenR (hx.upd hM14.upd) rfl rfl) ?_
          refine m_slcM j T.length (hx.upd hM14.upd) rfl (by omega) (by omega) rfl rfl rfl fun u46 hu46 => ?_
          have hu46' : RdE byteV w14 u46 (T.drop j) := by
            have e : (T.take T.length).drop j = (T.drop j) := by rw [List.take_length]
            rw [e] at hu46; exact hu46
          refine m_call (taken_ok _ (T.drop j) w14 (hu46') (by first | omega | (simp; done) | (simp; omega))) rfl fun v47 w47 ⟨rs47, hs47, hm47⟩ => ?_
          have hM47 : Mem w [] w47 [rf, r5_, rs47] := hM14.add hm47
          obtain ⟨a48_, n48_, c48_, rfl⟩ := Sl.isSlice hs47
          refine stp (v := .agg ([(.slice a48_ n48_ c48_), .int .i64 0, .int .i64 0] : List Value).toArray) (o_bld rfl rfl) ?_
          have hll : (T.drop j).length ≤ 65536 := by rw [List.length_drop]; omega
          refine m_call (bytes_ok (⟨a48_, n48_, c48_, T.drop j, 0, 0⟩ : Tk) w47 (hs47.rd hM47 (i := 2) rfl) (by first | omega | (dsimp only; omega)) (by first | omega | (dsimp only; omega)) (by first | omega | (dsimp only; omega))) rfl fun v49 w49 ⟨rs49, hs49, hm49⟩ => ?_
          have hM49 : Mem w [] w49 [rf, r5_, rs47, rs49] := hM47.add hm49
          have hs49 : SlE byteV 5 v49 (tokB (T.drop j, 0, 0)) rs49 := hs49
          have hE3 : toksB (ownF T) = B ++ tokB (T.drop j, 0, 0) := by rw [hE, own_end (by omega), if_pos (by omega), toksB_cons]; simp [toksB]
          have hE4 := congrArg List.length hE3
          simp only [List.length_append] at hE4
          have hE5 := enc_len (T := T)
          rw [encF_ok (by omega)] at hE5
          dsimp only at hE5
          refine m_appE hM49 (i := 1) rfl hy5_ rfl rfl (hs49.rd hM49 (i := 3) rfl) (by omega) (by omega) fun v50 w50 r50 (hs50 : SlE byteV 5 v50 (B ++ (tokB (T.drop j, 0, 0))) r50) (hM50 : Mem w [] w50 [rf, r50, rs47, rs49]) => ?_
          refine stp (v := v50) (o_mv rfl) ?_
          refine h43 _ _ ?_
          clear h43
          refine seq fun K51 h51 => ?_
          refine stp (v := v50) (o_mv rfl) ?_
          refine stp (v := v50) (o_mv rfl) ?_
          refine stp (v := .int .i64 0) (o_mv rfl) ?_
          refine h51 _ _ ?_
          clear h51
          refine ⟨(.tuple [v50, .int .i64 0].toArray), rfl, ?_⟩
          exact ⟨_, _, by rw [encF_ok (by omega)], by rw [encF_ok (by omega), hE3]; exact hs50, hM50.keep (by simp)⟩
        ·
          refine h43 _ _ ?_
          clear h43
          refine seq fun K52 h52 => ?_
          refine stp (v := y5_) (o_mv rfl) ?_
          refine stp (v := y5_) (o_mv rfl) ?_
          refine stp (v := .int .i64 0) (o_mv rfl) ?_
          refine h52 _ _ ?_
          clear h52
          refine ⟨(.tuple [y5_, .int .i64 0].toArray), rfl, ?_⟩
          exact ⟨_, _, by rw [encF_ok (by omega)], by rw [encF_ok (by omega), hE, own_end (by omega), if_neg (by omega)]; simpa [toksB] using hy5_, hM14.keep (by simp)⟩
