/- Filters as bytes: the reference, and the laws' helpers. -/
import Derived.Test.YtjockanmmfmidaaDoorG7
namespace Go.Proofs.YtjockanmmfmidaaDoor.E
open Go
theorem chk_ne {a : Bool} {h : Int} {d : List UInt8} (k : ¬ chk a h d = 0) : fk a h d = 0 ∧ chk a h d = 70 := by
  have : fk a h d = 0 := Decidable.byContradiction fun c => k (chk_0 c)
  exact ⟨this, chk_70 this⟩
theorem fk_true {h : Int} {d : List UInt8} (k : ¬ fk true h d = 0) : fk true h d = 1 := by
  unfold fk at k ⊢
  split
  · rfl
  · rename_i c; rw [if_neg c, if_neg (fun k => by cases k.1)] at k; exact absurd rfl k
theorem dec_h0 {b : List UInt8} (h1 : (b.length : Int) = 1) (h : ((b.getD 0 0).toNat : Int) = 0) : decF b = (false, 0, [], 0) := by
  match b, h1, h with
  | [c], _, h => rw [decF_cons, if_pos (by simpa using h)]; rfl
theorem dec_h255 {b : List UInt8} (h1 : (b.length : Int) = 1) (h : ((b.getD 0 0).toNat : Int) = 255) : decF b = (true, 0, [], 0) := by
  match b, h1, h with
  | [c], _, h =>
    have e : c.toNat = 255 := by have : ((c.toNat : Nat) : Int) = 255 := by simpa using h
                                 omega
    rw [decF_cons, if_neg (by omega), if_pos e]; rfl
theorem dec_hbad {b : List UInt8} (n0 : ¬ ((b.length : Int) = 1 ∧ ((b.getD 0 0).toNat : Int) = 0)) (n1 : ¬ ((b.length : Int) = 1 ∧ ((b.getD 0 0).toNat : Int) = 255)) (h : (b.length : Int) < 1 ∨ ((b.getD 0 0).toNat : Int) < 1 ∨ (8 : Int) < ((b.getD 0 0).toNat : Int)) : decF b = (false, 0, [], 70) := by
  cases b with
  | nil => rfl
  | cons c r =>
    have e : (c :: r).getD 0 0 = c := rfl
    rw [e] at n0 n1 h
    simp only [List.length_cons] at n0 n1 h
    rw [decF_cons]
    by_cases c0 : c.toNat = 0
    · rw [if_pos c0, if_neg (by omega)]
    · rw [if_neg c0]
      by_cases c1 : c.toNat = 255
      · rw [if_pos c1, if_neg (by omega)]
      · rw [if_neg c1, if_pos (by omega)]
theorem dec_hget {b : List UInt8} (h : ¬ (b.length : Int) < 1) (h1 : ¬ ((b.getD 0 0).toNat : Int) < 1) (h8 : ¬ (8 : Int) < ((b.getD 0 0).toNat : Int)) :
    decF b = if ¬ (get (b.drop 1)).2.2 = 0 ∨ (get (b.drop 1)).1 < 1 ∨ 4096 < (get (b.drop 1)).1 ∨ ¬ b.length = 1 + (get (b.drop 1)).2.1 + (get (b.drop 1)).1 then (false, 0, [], 70) else (false, ((b.getD 0 0).toNat : Int), b.drop (1 + (get (b.drop 1)).2.1), 0) := by
  cases b with
  | nil => simp at h
  | cons c r =>
    have e : (c :: r).getD 0 0 = c := rfl
    rw [e] at h1 h8 ⊢
    rw [decF_cons, if_neg (by omega), if_neg (by omega), if_neg (by omega), List.drop_succ_cons, List.drop_zero, Nat.add_comm 1 (get r).2.1, List.drop_succ_cons]
    by_cases g : ¬ (get r).2.2 = 0 ∨ (get r).1 < 1 ∨ 4096 < (get r).1 ∨ ¬ r.length = (get r).2.1 + (get r).1
    · rw [if_pos g, if_pos (by simp only [List.length_cons]; omega)]
    · rw [if_neg g, if_neg (by simp only [List.length_cons]; omega)]
theorem get_le {b : List UInt8} : (get b).2.1 ≤ b.length ∨ ¬ (get b).2.2 = 0 := by
  by_cases h : (get b).2.2 = 0
  · exact .inl (get_ok h).2.1
  · exact .inr h

/-- bytes of which the last is another one -/
def turnL (l : List UInt8) : List UInt8 := l.set (l.length - 1) (l.getD (l.length - 1) 0 ^^^ 85)
theorem turnL_length (l : List UInt8) : (turnL l).length = l.length := by simp [turnL]
theorem turnL_nil {l : List UInt8} (h : l.length ≤ 0) : turnL l = l := by
  obtain rfl := List.length_eq_zero_iff.1 (by omega : l.length = 0); rfl
theorem xor85 (c : UInt8) : xorI .u8 (c.toNat : Int) 85 = ((c ^^^ 85).toNat : Int) := by
  have hc := c.toNat_lt
  have h : c.toNat ^^^ 85 < 2 ^ 8 := Nat.xor_lt_two_pow hc (by decide)
  have := xorI_nat (k := .u8) (a := c.toNat) (b := 85) (by simpa [IntKind.bits] using hc) (by decide) (by simp only [inK]; omega)
  rw [show (85 : Int) = ((85 : Nat) : Int) from rfl, this]
  simp

/-- winnowlaw7.turned -/
theorem turned_ok (x : Value) (l : List UInt8) (r0 : List Ent) (w : World) (hs0 : SlE byteV 5 x l r0) (hr : Res w r0) (hl : l.length ≤ 140737488351232) : Calls Tryd.prog 12 [x].toArray w (Rt fun r w' => r = x ∧ Mem w (ids r0) w' [upR byteV (turnL l) r0]) := by
  have hM0 : Mem w (ids r0) w [r0] := Mem.start hr
  refine calls_vc mixed Tryd.func12 rfl C12 (by simp [Tryd.ntmps12]) ?_
  refine seq fun K1 h1 => ?_
  refine stp (v := .slice none 0 0) (o_mv rfl) ?_
  refine h1 _ _ ?_
  clear h1
  refine seq fun K2 h2 => ?_
  refine seq fun K3 h3 => ?_
  refine stp (v := x) (o_mv rfl) ?_
  refine stp (v := .int .i64 (l.length : Nat)) (o_lenR (hs0.rd hM0 (i := 0) rfl) rfl rfl) ?_
  refine stp (v := .bool (decide ((0 : Int) < ((l.length : Nat) : Int)))) (o_bin rfl rfl rfl) ?_
  refine h3 _ _ ?_
  clear h3
  refine cndP rfl (fun c4 => ?_) (fun c4 => ?_)
  ·
    refine stp (v := x) (o_mv rfl) ?_
    refine stp (v := x) (o_mv rfl) ?_
    refine stp (v := .int .i64 (l.length : Nat)) (o_lenR (hs0.rd hM0 (i := 0) rfl) rfl rfl) ?_
    refine stp (v := .int .i64 ((l.length : Nat) - 1)) (o_bin rfl rfl (v_sub64 (by constructor <;> omega))) ?_
    refine stp (v := x) (o_mv rfl) ?_
    refine stp (v := x) (o_mv rfl) ?_
    refine stp (v := .int .i64 (l.length : Nat)) (o_lenR (hs0.rd hM0 (i := 0) rfl) rfl rfl) ?_
    refine stp (v := .int .i64 ((l.length : Nat) - 1)) (o_bin rfl rfl (v_sub64 (by constructor <;> omega))) ?_
    refine m_idxE 0 (j := (l.length - 1)) (hs0.rd hM0 (i := 0) rfl) rfl (v_int (by omega)) (by omega) fun b5 o5 hp5 => ?_
    refine ld (v := byteV (l.getD (l.length - 1) 0)) rfl (hp5) ?_
    refine stp (v := .int .u8 ((l.getD (l.length - 1) 0 ^^^ 85).toNat : Int)) (o_bin rfl rfl (v_int (xor85 _))) ?_
    refine m_set (E := byteV) (q := l.getD (l.length - 1) 0 ^^^ 85) (j := (l.length - 1)) hM0 (i := 0) rfl hs0 rfl (v_int (by omega)) (by omega) (by simp) (rfl) fun w6 r6 u6 he6 hs6 (hM6 : Mem w (ids r0) w6 [r6]) => ?_
    refine h2 _ _ ?_
    clear h2
    refine seq fun K7 h7 => ?_
    refine stp (v := x) (o_mv rfl) ?_
    refine stp (v := x) (o_mv rfl) ?_
    refine h7 _ _ ?_
    clear h7
    refine ⟨x, rfl, ?_⟩
    have e : r6 = upR byteV (turnL l) r0 := he6
    rw [← e]
    exact ⟨rfl, hM6⟩
  ·
    refine h2 _ _ ?_
    clear h2
    refine seq fun K8 h8 => ?_
    refine stp (v := x) (o_mv rfl) ?_
    refine stp (v := x) (o_mv rfl) ?_
    refine h8 _ _ ?_
    clear h8
    refine ⟨x, rfl, ?_⟩
    rw [turnL_nil (by omega), up_self hs0]
    exact ⟨rfl, hM0⟩

/-- winnowlaw7.roomy -/
theorem roomy_ok (x : Value) (b : List UInt8) (w : World) (hx : RdE byteV w x b) (hl : b.length ≤ 140737488351232) : Calls Tryd.prog 22 [x].toArray w (Rt fun r w' => ∃ rs, SlE byteV 5 r (b ++ List.replicate 64 (165 : UInt8)) rs ∧ Mem w [] w' [rs]) := by
  have hM0 : Mem w [] w [] := Mem.nil w []
  refine calls_vc mixed Tryd.func22 rfl C22 (by simp [Tryd.ntmps22]) ?_
  refine seq fun K1 h1 => ?_
  refine stp (v := .slice none 0 0) (o_mv rfl) ?_
  refine h1 _ _ ?_
  clear h1
  refine seq fun K2 h2 => ?_
  refine stp (v := x) (o_mv rfl) ?_
  refine stp (v := .int .i64 (b.length : Nat)) (o_lenR (hx.upd hM0.upd) rfl rfl) ?_
  refine stp (v := .int .i64 ((b.length : Nat) + 64)) (o_bin rfl rfl (v_add64 (by constructor <;> omega))) ?_
  refine m_mksE (E := byteV) (z := 0) (n := (b.length + 64)) (c := (b.length + 64)) rfl hM0 (v_int (by omega)) (v_int (by omega)) (by omega) (by omega) (by omega) fun v3 w3 r3 hs3 (hM3 : Mem w [] w3 [r3]) => ?_
  refine stp (v := v3) (o_mv rfl) ?_
  refine h2 _ _ ?_
  clear h2
  refine seq fun K4 h4 => ?_
  refine seq fun K5 h5 => ?_
  refine stp (v := .int .i64 0) (o_mv rfl) ?_
  refine h5 _ _ ?_
  clear h5
  refine lp (n := fun _ _ => False) (ι := (Nat) × (Value) × (List Ent)) (fun ⟨i, g, r⟩ f w' => f 0 = x ∧ f 3 = g ∧ f 4 = .int .i64 (i : Nat) ∧ Mem w [] w' [r] ∧ (SlE byteV 5 g ((b ++ List.replicate 64 (165 : UInt8)).take i ++ List.replicate ((b.length + 64) - i) (0 : UInt8)) r) ∧ (i ≤ (b.length + 64)) ∧ (((b ++ List.replicate 64 (165 : UInt8)).take i ++ List.replicate ((b.length + 64) - i) (0 : UInt8)).length = (b.length + 64))) (fun ⟨i, g, r⟩ => (b.length + 64) - i) (0, v3, r3) ?_ ?_
  · exact ⟨rfl, rfl, by first | rfl | exact v_int (by omega) | exact v_int (by simp) | exact v_int (by simp; omega), hM3, by simpa using hs3, by omega, by simp⟩
  · rintro ⟨i, g, r⟩ f w6 ⟨e6_0, e6_3, e6_4, hM6, hs, hi, hq⟩ K7 h7
    obtain ⟨frm, rfl⟩ : ∃ frm, f = (upd (upd (upd frm 0 (x)) 3 (g)) 4 (.int .i64 (i : Nat))) := ⟨f, by rw [upd_self e6_0, upd_self e6_3, upd_self e6_4]⟩
    clear e6_0 e6_3 e6_4
    refine seq fun K8 h8 => ?_
    refine seq fun K9 h9 => ?_
    refine stp (v := .int .i64 (i : Nat)) (o_mv rfl) ?_
    refine stp (v := g) (o_mv rfl) ?_
    refine stp (v := .int .i64 (((b ++ List.replicate 64 (165 : UInt8)).take i ++ List.replicate ((b.length + 64) - i) (0 : UInt8)).length : Nat)) (o_lenR (hs.rd hM6 (i := 0) rfl) rfl rfl) ?_
    refine stp (v := .bool (decide (((i : Nat) : Int) < (((b ++ List.replicate 64 (165 : UInt8)).take i ++ List.replicate ((b.length + 64) - i) (0 : UInt8)).length : Nat)))) (o_bin rfl rfl rfl) ?_
    refine h9 _ _ ?_
    clear h9
    refine cndP rfl (fun c10 => ?_) (fun c10 => ?_)
    ·
      refine h8 _ _ ?_
      clear h8
      refine seq fun K11 h11 => ?_
      refine seq fun K12 h12 => ?_
      refine stp (v := g) (o_mv rfl) ?_
      refine stp (v := .int .i64 (i : Nat)) (o_mv rfl) ?_
      refine m_set (E := byteV) (q := 165) (j := i) hM6 (i := 0) rfl hs rfl rfl (by omega) (by simp) (rfl) fun w13 r13 u13 he13 hs13 (hM13 : Mem w [] w13 [r13]) => ?_
      refine h12 _ _ ?_
      clear h12
      refine seq fun K14 h14 => ?_
      refine stp (v := .int .i64 (i : Nat)) (o_mv rfl) ?_
      refine stp (v := x) (o_mv rfl) ?_
      refine stp (v := .int .i64 (b.length : Nat)) (o_lenR (hx.upd hM13.upd) rfl rfl) ?_
      refine stp (v := .bool (decide (((i : Nat) : Int) < (b.length : Nat)))) (o_bin rfl rfl rfl) ?_
      refine h14 _ _ ?_
      clear h14
      refine cndP rfl (fun c15 => ?_) (fun c15 => ?_)
      ·
        refine stp (v := g) (o_mv rfl) ?_
        refine stp (v := .int .i64 (i : Nat)) (o_mv rfl) ?_
        refine stp (v := x) (o_mv rfl) ?_
        refine stp (v := .int .i64 (i : Nat)) (o_mv rfl) ?_
        refine m_idxE 0 (j := i) (hx.upd hM13.upd) rfl rfl (by omega) fun b16 o16 hp16 => ?_
        refine ld (v := byteV (b.getD i 0)) rfl (hp16) ?_
        refine m_set (E := byteV) (q := b.getD i 0) (j := i) hM13 (i := 0) rfl hs13 rfl rfl (by simp; omega) (by simp) (rfl) fun w17 r17 u17 he17 hs17 (hM17 : Mem w [] w17 [r17]) => ?_
        refine h11 _ _ ?_
        clear h11
        refine stp (v := .int .i64 (i : Nat)) (o_mv rfl) ?_
        refine stp (v := .int .i64 ((i : Nat) + 1)) (o_bin rfl rfl (v_add64 (by constructor <;> omega))) ?_
        refine stp (v := .int .i64 ((i : Nat) + 1)) (o_mv rfl) ?_
        refine h7 (i + 1, g, r17) _ _ ⟨rfl, rfl, by first | rfl | exact v_int (by omega) | exact v_int (by simp) | exact v_int (by simp; omega), hM17, by rw [← setG 0 rfl (c := b.getD i 0) (by omega) rfl]; simpa [List.set_set] using hs17, by omega, by simp; omega⟩ (by (try dsimp only); omega)
      ·
        refine h11 _ _ ?_
        clear h11
        refine stp (v := .int .i64 (i : Nat)) (o_mv rfl) ?_
        refine stp (v := .int .i64 ((i : Nat) + 1)) (o_bin rfl rfl (v_add64 (by constructor <;> omega))) ?_
        refine stp (v := .int .i64 ((i : Nat) + 1)) (o_mv rfl) ?_
        refine h7 (i + 1, g, r13) _ _ ⟨rfl, rfl, by first | rfl | exact v_int (by omega) | exact v_int (by simp) | exact v_int (by simp; omega), hM13, by rw [← setG2 0 rfl (by omega) (by omega)]; exact hs13, by omega, by simp; omega⟩ (by (try dsimp only); omega)
    ·
      refine h4 _ _ ?_
      clear h4
      refine seq fun K18 h18 => ?_
      refine stp (v := g) (o_mv rfl) ?_
      refine stp (v := g) (o_mv rfl) ?_
      refine h18 _ _ ?_
      clear h18
      refine ⟨g, rfl, ?_⟩
      have e : i = (b.length + 64) := by omega
      subst e
      rw [Nat.sub_self, List.replicate_zero, List.append_nil, List.take_of_length_le (by simp)] at hs
      exact ⟨_, hs, hM6⟩

set_option maxRecDepth 100000 in
/-- winnowlaw7.given -/
theorem given_ok (a : Bool) (h : Int) (v : Value) (d : List UInt8) (w : World) (hx : RdE byteV w v d) (hl : d.length ≤ 140737488351232) : Calls Tryd.prog 6 [.agg [.bool a, .int .i64 h, v].toArray].toArray w (Rt fun r w' => ∃ bg cp rs, r = .agg #[.bool a, .int .i64 h, .slice (some ⟨bg, 0, none⟩) d.length cp] ∧ (d ++ List.replicate 64 (165 : UInt8)).length ≤ cp ∧ SlE byteV 5 (.slice (some ⟨bg, 0, none⟩) (d ++ List.replicate 64 (165 : UInt8)).length cp) (d ++ List.replicate 64 (165 : UInt8)) rs ∧ Mem w [] w' [rs]) := by
  obtain ⟨av, nv, cv, rfl⟩ := hx.isSlice
  have hM0 : Mem w [] w [] := Mem.nil w []
  refine calls_vc mixed Tryd.func6 rfl C6 (by simp [Tryd.ntmps6]) ?_
  refine seq fun K1 h1 => ?_
  refine m_bx (v := .agg ([.bool a, .int .i64 h, (.slice av nv cv)] : List Value).toArray) hM0 rfl rfl fun b2 w3 (hM3 : Mem w [] w3 [[⟨b2, 24, [.bool a, .int .i64 h, (.slice av nv cv)]⟩]]) => ?_
  refine m_al hM3 fun b4 w5 (hM5 : Mem w [] w5 [[⟨b2, 24, [.bool a, .int .i64 h, (.slice av nv cv)]⟩], [⟨b4, 24, [.bool false, .int .i64 0, .slice none 0 0]⟩]]) => ?_
  refine h1 _ _ ?_
  clear h1
  refine seq fun K6 h6 => ?_
  refine m_ldA (l := [.bool a, .int .i64 h, (.slice av nv cv)]) hM5 (i := 0) (j := 0) rfl rfl rfl rfl rfl ?_
  refine m_al hM5 fun b7 w8 (hM8 : Mem w [] w8 [[⟨b2, 24, [.bool a, .int .i64 h, (.slice av nv cv)]⟩], [⟨b4, 24, [.bool false, .int .i64 0, .slice none 0 0]⟩], [⟨b7, 24, [.bool false, .int .i64 0, .slice none 0 0]⟩]]) => ?_
  refine m_stA (l := [.bool a, .int .i64 h, (.slice av nv cv)]) hM8 (i := 2) rfl rfl rfl rfl (by simp [oneCells, Value.oneCell', byteV]) (by simp) fun w9 (hM9 : Mem w [] w9 [[⟨b2, 24, [.bool a, .int .i64 h, (.slice av nv cv)]⟩], [⟨b4, 24, [.bool false, .int .i64 0, .slice none 0 0]⟩], [⟨b7, 24, [.bool a, .int .i64 h, (.slice av nv cv)]⟩]]) => ?_
  refine h6 _ _ ?_
  clear h6
  refine seq fun K10 h10 => ?_
  intro wd e1 e2 e3 e4
  have hd := Upd.same e1 e2 e3 e4 []
  have hM11 := hM9.pure hd
  clear e1 e2 e3 e4
  refine ⟨(some [b2]), ?_⟩
  show vd _ _ _ _ _ _ _
  refine dq (v := .pointer (some ⟨b2, 2, none⟩)) (o_fa rfl rfl) ?_
  refine dq (v := .pointer (some ⟨b2, 2, none⟩)) (o_fa rfl rfl) ?_
  refine dqld rfl (by simp [isHeld]) (v := (.slice av nv cv)) ((hM11.at (i := 0) (j := 0) rfl rfl).cell 2) ?_
  refine dq (v := .int .i64 (d.length : Nat)) (o_lenR (hx.upd hM11.upd) rfl rfl) ?_
  refine dl (m_ld (v := (.slice av nv cv)) hM11 (i := 0) (j := 0) rfl rfl rfl rfl ?_)
  refine ⟨(fun b hb => rfl), ?_⟩
  refine dl (m_call (roomy_ok _ d wd (hx.upd hM11.upd) (by first | omega | (simp; done) | (simp; omega))) rfl fun v12 w12 ⟨rs12, hs12, hm12⟩ => ?_)
  have hM12 : Mem w [] w12 [[⟨b2, 24, [.bool a, .int .i64 h, (.slice av nv cv)]⟩], [⟨b4, 24, [.bool false, .int .i64 0, .slice none 0 0]⟩], [⟨b7, 24, [.bool a, .int .i64 h, (.slice av nv cv)]⟩], rs12] := hM11.add hm12
  obtain ⟨bg12, cp12, rfl, hcp12⟩ := hs12.isSome (by simp)
  have hh12 := held_upd (wr := wd) (bs := [b2]) hm12.upd (fun b hb => by
    simp only [List.mem_cons, List.not_mem_nil, or_false] at hb
    rw [hb]; exact ⟨(hM11.at (i := 0) (j := 0) rfl rfl).lt, by simp⟩) (fun b hb => rfl)
  refine ⟨hh12, ?_⟩
  refine dq (v := (.slice (some ⟨bg12, 0, none⟩) d.length cp12)) (o_slcU rfl rfl (by first | omega | (simp at *; omega)) rfl) ?_
  refine dq (v := .pointer (some ⟨b7, 2, none⟩)) (o_fa rfl rfl) ?_
  refine dl (m_stU (v := (.slice (some ⟨bg12, 0, none⟩) d.length cp12)) hM12 (i := 2) rfl rfl rfl (Sl.one hs12.cutTo) (by simp) fun w13 hup13 (hM13 : Mem w [] w13 [[⟨b2, 24, [.bool a, .int .i64 h, (.slice av nv cv)]⟩], [⟨b4, 24, [.bool false, .int .i64 0, .slice none 0 0]⟩], [⟨b7, 24, [.bool a, .int .i64 h, (.slice (some ⟨bg12, 0, none⟩) d.length cp12)]⟩], rs12]) => ?_)
  have hh13 := held_upd (wr := wd) (bs := [b2]) hup13 (fun b hb => by
    simp only [List.mem_cons, List.not_mem_nil, or_false] at hb
    rw [hb]; exact ⟨(hM12.at (i := 0) (j := 0) rfl rfl).lt, hM12.apart (i := 0) (j := 0) (k := 2) rfl rfl rfl (by decide)⟩) hh12
  refine ⟨hh13, ?_⟩
  refine h10 _ _ ?_
  clear h10
  refine seq fun K14 h14 => ?_
  refine m_ldA (l := [.bool a, .int .i64 h, (.slice (some ⟨bg12, 0, none⟩) d.length cp12)]) hM13 (i := 2) (j := 0) rfl rfl rfl rfl rfl ?_
  refine m_stA (l := [.bool a, .int .i64 h, (.slice (some ⟨bg12, 0, none⟩) d.length cp12)]) hM13 (i := 1) rfl rfl rfl rfl (by simp [oneCells, Value.oneCell', byteV]) (by simp) fun w15 (hM15 : Mem w [] w15 [[⟨b2, 24, [.bool a, .int .i64 h, (.slice av nv cv)]⟩], [⟨b4, 24, [.bool a, .int .i64 h, (.slice (some ⟨bg12, 0, none⟩) d.length cp12)]⟩], [⟨b7, 24, [.bool a, .int .i64 h, (.slice (some ⟨bg12, 0, none⟩) d.length cp12)]⟩], rs12]) => ?_
  refine h14 _ _ ?_
  clear h14
  show resV _ _ _ _ _
  refine res_cell (s := some 3) (by kernel_rfl) ?_
  refine vl_ldA (cs := [.bool a, .int .i64 h, (.slice (some ⟨bg12, 0, none⟩) d.length cp12)]) rfl rfl ((hM15.at (i := 1) (j := 0) rfl rfl).agg rfl rfl) ?_
  refine ⟨(.agg ([.bool a, .int .i64 h, (.slice (some ⟨bg12, 0, none⟩) d.length cp12)] : List Value).toArray), rfl, ?_⟩
  exact ⟨_, _, _, rfl, by assumption, by assumption, (((hM15.drop 0).drop 1).drop 2).keep (by simp)⟩
