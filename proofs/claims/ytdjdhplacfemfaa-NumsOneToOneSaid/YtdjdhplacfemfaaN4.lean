/- NumsWords, NumsOrder: the laws' walks; the memory of the laws' own helpers. -/
import Derived.Test.YtdjdhplacfemfaaN3
namespace Go.Proofs.Ytdjdhplacfemfaa.E
open Go

theorem le_fixed (n : Nat) : ∀ v, le (fixed n v) = v % 256 ^ n := by
  induction n with
  | zero => intro v; simp [fixed, le, Nat.mod_one]
  | succ n ih =>
    intro v
    rw [fixed_succ, le_snoc, fixed_length, ih]
    have : (v / 256 ^ n % 256).toUInt8.toNat = v / 256 ^ n % 256 := by simp
    rw [this, Nat.pow_succ, Nat.mod_mul, Nat.mul_comm]
theorem fixed_le : ∀ (b : List UInt8), fixed b.length (le b) = b := by
  intro b
  apply List.ext_getElem (by rw [fixed_length])
  intro i h1 h2
  simp only [fixed, List.getElem_map, List.getElem_range]
  have key : ∀ (l : List UInt8) (i : Nat) (h : i < l.length), le l / 256 ^ i % 256 = l[i].toNat := by
    intro l
    induction l with
    | nil => intro i h; simp at h
    | cons c r ih =>
      intro i h
      have hc := c.toNat_lt
      cases i with
      | zero => simp only [le, Nat.pow_zero, Nat.div_one, List.getElem_cons_zero]; omega
      | succ i =>
        simp only [le, List.getElem_cons_succ, Nat.pow_succ]
        rw [Nat.mul_comm (256 ^ i), ← Nat.div_div_eq_div_mul, show (c.toNat + 256 * le r) / 256 = le r by omega]
        exact ih i (by simpa using h)
  rw [key b i h2]
  simp
theorem word_fixed {v : Int} (h : 0 ≤ v ∧ v ≤ 18446744073709551615) : (word (fixedI v 8) : Int) = v := by
  rw [fixedI_some (by omega)]
  unfold word
  rw [List.take_of_length_le (by rw [fixed_length]; decide), le_fixed, Nat.mod_eq_of_lt (by
    have : (256 : Nat) ^ (8 : Int).toNat = 18446744073709551616 := by decide
    rw [this]; omega)]
  omega
theorem fixed_word {b : List UInt8} (h0 : 0 < b.length) (h : b.length ≤ 8) : fixedI (word b : Nat) (b.length : Nat) = b := by
  rw [fixedI_some (by omega), Int.toNat_natCast, Int.toNat_natCast]
  unfold word
  rw [List.take_of_length_le h, fixed_le]
theorem word_lt (b : List UInt8) : word b < 18446744073709551616 := by
  unfold word
  have h := le_lt (b.take 8)
  have h2 : 256 ^ (b.take 8).length ≤ 256 ^ 8 := Nat.pow_le_pow_right (by omega) (by simp; omega)
  omega
theorem ne_at {a c : List UInt8} {i : Nat} {q : UInt8} (hc : c.getD i 0 = q) (h : ¬ ((a.getD i 0).toNat : Int) = q.toNat) : ¬ a = c := fun e => h (by rw [e, hc])
theorem U150 : ((150 : UInt8).toNat : Int) = 150 := rfl
theorem getD_app1 {a b : List UInt8} {i : Nat} (h : i < a.length) : (a ++ b).getD i 0 = a.getD i 0 := by
  rw [List.getD_eq_getElem?_getD, List.getElem?_append_left h, ← List.getD_eq_getElem?_getD]
theorem getD_app2 {a b : List UInt8} {i : Nat} (h : a.length ≤ i) : (a ++ b).getD i 0 = b.getD (i - a.length) 0 := by
  rw [List.getD_eq_getElem?_getD, List.getElem?_append_right h, ← List.getD_eq_getElem?_getD]
theorem ap_set {b : List UInt8} {q c : UInt8} {i m n : Nat} (hn : n = b.length + m) (hi : i < b.length) (hc : c = b.getD i 0) : ((b ++ List.replicate m q).take i ++ List.replicate (n - i) 0).set i c = (b ++ List.replicate m q).take (i + 1) ++ List.replicate (n - (i + 1)) 0 := by
  have e : (b ++ List.replicate m q).take (i + 1) = (b ++ List.replicate m q).take i ++ [b.getD i 0] := by
    rw [take_getD (by simp; omega), getD_app1 hi]
  subst hc
  rw [e, List.set_append_right _ _ (by simp; omega)]
  have h1 : ((b ++ List.replicate m q).take i).length = i := by simp; omega
  obtain ⟨k, hk⟩ : ∃ k, n - i = k + 1 := ⟨n - i - 1, by omega⟩
  rw [h1, Nat.sub_self, hk, List.replicate_succ, List.set_cons_zero, show n - (i + 1) = k by omega]; simp
theorem ap_set2 {b : List UInt8} {q : UInt8} {i m n : Nat} (hn : n = b.length + m) (hi : b.length ≤ i) (h2 : i < n) : ((b ++ List.replicate m q).take i ++ List.replicate (n - i) 0).set i q = (b ++ List.replicate m q).take (i + 1) ++ List.replicate (n - (i + 1)) 0 := by
  have e : (b ++ List.replicate m q).take (i + 1) = (b ++ List.replicate m q).take i ++ [q] := by
    rw [take_getD (by simp; omega), getD_app2 hi, getD_rep (by omega)]
  rw [e, List.set_append_right _ _ (by simp; omega)]
  have h1 : ((b ++ List.replicate m q).take i).length = i := by simp; omega
  obtain ⟨k, hk⟩ : ∃ k, n - i = k + 1 := ⟨n - i - 1, by omega⟩
  rw [h1, Nat.sub_self, hk, List.replicate_succ, List.set_cons_zero, show n - (i + 1) = k by omega]; simp

/-- winnowlaw2.head -/
theorem head_ok (w : World) : Calls Try.prog 27 [].toArray w (Rt fun r w' => r = .bool true ∧ Upd [] w w') := by
  have hM0 : Mem w [] w [] := Mem.nil w []
  refine calls_vc mixed Try.func27 rfl C27 (by simp [Try.ntmps27]) ?_
  refine seq fun K1 h1 => ?_
  refine stp (v := .bool false) (o_mv rfl) ?_
  refine h1 _ _ ?_
  clear h1
  refine seq fun K2 h2 => ?_
  refine m_bs hM0 rfl fun b3 w4 (hM4 : Mem w [] w4 [[⟨b3, 5, [.int .u8 172, .int .u8 2, .int .u8 7]⟩]]) => ?_
  refine m_call (Get_ok _ ([172, 2, 7]) w4 (own_rdE (E := byteV) (l := [172, 2, 7]) (hM4.at (i := 0) (j := 0) rfl rfl) rfl) (by first | omega | (simp; done) | (simp; omega))) rfl fun v5 w5 ⟨hr5, hu5⟩ => ?_
  have hM5 : Mem w [] w5 [[⟨b3, 5, [.int .u8 172, .int .u8 2, .int .u8 7]⟩]] := hM4.pure hu5
  subst hr5
  refine stp (v := .tuple [.int .i64 ((get ([172, 2, 7])).1 : Nat), .int .i64 ((get ([172, 2, 7])).2.1 : Nat), .int .i64 ((get ([172, 2, 7])).2.2)].toArray) (o_mv rfl) ?_
  refine stp (v := .int .i64 ((get ([172, 2, 7])).1 : Nat)) (o_ext rfl rfl) ?_
  refine stp (v := .int .i64 ((get ([172, 2, 7])).2.1 : Nat)) (o_ext rfl rfl) ?_
  refine stp (v := .int .i64 ((get ([172, 2, 7])).2.2)) (o_ext rfl rfl) ?_
  refine stp (v := .int .i64 ((get ([172, 2, 7])).1 : Nat)) (o_mv rfl) ?_
  refine stp (v := .int .i64 ((get ([172, 2, 7])).2.1 : Nat)) (o_mv rfl) ?_
  refine stp (v := .int .i64 ((get ([172, 2, 7])).2.2)) (o_mv rfl) ?_
  refine h2 _ _ ?_
  clear h2
  refine seq fun K6 h6 => ?_
  refine m_call (Put_ok 300 (by simp only [inK]; omega) w5) rfl fun v7 w7 ⟨rs7, hs7, hm7⟩ => ?_
  have hM7 : Mem w [] w7 [[⟨b3, 5, [.int .u8 172, .int .u8 2, .int .u8 7]⟩], rs7] := hM5.add hm7
  have hn7 := putI_len (v := 300) (by omega)
  refine m_bs hM7 rfl fun b8 w9 (hM9 : Mem w [] w9 [[⟨b3, 5, [.int .u8 172, .int .u8 2, .int .u8 7]⟩], rs7, [⟨b8, 5, [.int .u8 172, .int .u8 2]⟩]]) => ?_
  refine m_call (same_ok _ _ (putI 300) ([172, 2]) w9 (hs7.rd hM9 (i := 1) rfl) (own_rdE (E := byteV) (l := [172, 2]) (hM9.at (i := 2) (j := 0) rfl rfl) rfl) (by first | omega | (simp; done) | (simp; omega))) rfl fun v10 w10 ⟨hr10, hu10⟩ => ?_
  have hM10 : Mem w [] w10 [[⟨b3, 5, [.int .u8 172, .int .u8 2, .int .u8 7]⟩], rs7, [⟨b8, 5, [.int .u8 172, .int .u8 2]⟩]] := hM9.pure hu10
  subst hr10
  refine stp (v := .bool (decide ((putI 300) = ([172, 2])))) (o_mv rfl) ?_
  refine splitP rfl (fun c11 => ?_) (fun c11 => (c11 (by rw [putI_ge (by omega), putI_lt (by omega) (by omega)]; rfl)).elim)
  refine stg rfl (v := .int .i64 ((get ([172, 2, 7])).1 : Nat)) (o_mv rfl) ?_
  refine stg rfl (v := .bool (decide ((((get ([172, 2, 7])).1 : Nat) : Int) = 300))) (o_bin rfl rfl rfl) ?_
  refine stp (v := .bool (decide ((((get ([172, 2, 7])).1 : Nat) : Int) = 300))) (o_pickT rfl rfl) ?_
  refine stp (v := .bool (decide ((((get ([172, 2, 7])).1 : Nat) : Int) = 300))) (o_mv rfl) ?_
  refine splitP rfl (fun c12 => ?_) (fun c12 => (c12 (by decide)).elim)
  refine stg rfl (v := .int .i64 ((get ([172, 2, 7])).2.1 : Nat)) (o_mv rfl) ?_
  refine stg rfl (v := .bool (decide ((((get ([172, 2, 7])).2.1 : Nat) : Int) = 2))) (o_bin rfl rfl rfl) ?_
  refine stp (v := .bool (decide ((((get ([172, 2, 7])).2.1 : Nat) : Int) = 2))) (o_pickT rfl rfl) ?_
  refine stp (v := .bool (decide ((((get ([172, 2, 7])).2.1 : Nat) : Int) = 2))) (o_mv rfl) ?_
  refine splitP rfl (fun c13 => ?_) (fun c13 => (c13 (by decide)).elim)
  refine stg rfl (v := .int .i64 ((get ([172, 2, 7])).2.2)) (o_mv rfl) ?_
  refine stg rfl (v := .bool (decide (((get ([172, 2, 7])).2.2) = 0))) (o_bin rfl rfl rfl) ?_
  refine stp (v := .bool (decide (((get ([172, 2, 7])).2.2) = 0))) (o_pickT rfl rfl) ?_
  refine stp (v := .bool (decide (((get ([172, 2, 7])).2.2) = 0))) (o_mv rfl) ?_
  refine h6 _ _ ?_
  clear h6
  refine ⟨(.bool (decide (((get ([172, 2, 7])).2.2) = 0))), rfl, ?_⟩
  exact ⟨by rw [decide_eq_true (by decide)], hM10.upd⟩

/-- winnowlaw2.spare -/
theorem spare_ok (x : Value) (b : List UInt8) (w : World) (hx : RdB w x b) (hl : b.length ≤ 140737488351232) : Calls Try.prog 17 [x].toArray w (Rt fun r w' => ∃ rs, SlB 5 r (b ++ List.replicate 64 150) rs ∧ Mem w [] w' [rs]) := by
  have hM0 : Mem w [] w [] := Mem.nil w []
  refine calls_vc mixed Try.func17 rfl C17 (by simp [Try.ntmps17]) ?_
  refine seq fun K1 h1 => ?_
  refine stp (v := .slice none 0 0) (o_mv rfl) ?_
  refine h1 _ _ ?_
  clear h1
  refine seq fun K2 h2 => ?_
  refine stp (v := x) (o_mv rfl) ?_
  refine stp (v := .int .i64 (b.length : Nat)) (o_lenR (hx.upd hM0.upd) rfl rfl) ?_
  refine stp (v := .int .i64 ((b.length : Nat) + 64)) (o_bin rfl rfl (v_add64 (by constructor <;> omega))) ?_
  refine m_mksE (E := byteV) (z := 0) (n := (b.length + 64)) (c := (b.length + 64)) rfl hM0 (v_int (by omega)) (v_int (by omega)) (by omega) (by omega) (by omega) fun v3 w3 r3 hs3 (hM3 : Mem w [] w3 [r3]) => ?_
  refine stp (v := v3) (o_mv rfl) ?_
  refine h2 _ _ ?_
  clear h2
  refine seq fun K4 h4 => ?_
  refine seq fun K5 h5 => ?_
  refine stp (v := .int .i64 0) (o_mv rfl) ?_
  refine h5 _ _ ?_
  clear h5
  refine lp (n := fun _ _ => False) (ι := (Nat) × (Value) × (List Ent)) (fun ⟨i, g, r⟩ f w' => f 0 = x ∧ f 3 = g ∧ f 4 = .int .i64 (i : Nat) ∧ Mem w [] w' [r] ∧ (SlB 5 g ((b ++ List.replicate 64 (150 : UInt8)).take i ++ List.replicate ((b.length + 64) - i) 0) r) ∧ (i ≤ (b.length + 64)) ∧ (((b ++ List.replicate 64 (150 : UInt8)).take i ++ List.replicate ((b.length + 64) - i) 0).length = (b.length + 64))) (fun ⟨i, g, r⟩ => (b.length + 64) - i) (0, v3, r3) ?_ ?_
  · exact ⟨rfl, rfl, by first | rfl | exact v_int (by omega) | exact v_int (by simp) | exact v_int (by simp; omega), hM3, by simpa using hs3, by omega, by simp⟩
  · rintro ⟨i, g, r⟩ f w6 ⟨e6_0, e6_3, e6_4, hM6, hs, hi, hq⟩ K7 h7
    obtain ⟨frm, rfl⟩ : ∃ frm, f = (upd (upd (upd frm 0 (x)) 3 (g)) 4 (.int .i64 (i : Nat))) := ⟨f, by rw [upd_self e6_0, upd_self e6_3, upd_self e6_4]⟩
    clear e6_0 e6_3 e6_4
    refine seq fun K8 h8 => ?_
    refine seq fun K9 h9 => ?_
    refine stp (v := .int .i64 (i : Nat)) (o_mv rfl) ?_
    refine stp (v := g) (o_mv rfl) ?_
    refine stp (v := .int .i64 (((b ++ List.replicate 64 (150 : UInt8)).take i ++ List.replicate ((b.length + 64) - i) 0).length : Nat)) (o_lenR (hs.rd hM6 (i := 0) rfl) rfl rfl) ?_
    refine stp (v := .bool (decide (((i : Nat) : Int) < (((b ++ List.replicate 64 (150 : UInt8)).take i ++ List.replicate ((b.length + 64) - i) 0).length : Nat)))) (o_bin rfl rfl rfl) ?_
    refine h9 _ _ ?_
    clear h9
    refine cndP rfl (fun c10 => ?_) (fun c10 => ?_)
    ·
      refine h8 _ _ ?_
      clear h8
      refine seq fun K11 h11 => ?_
      refine seq fun K12 h12 => ?_
      refine stp (v := g) (o_mv rfl) ?_
      refine stp (v := .int .i64 (i : Nat)) (o_mv rfl) ?_
      refine m_set (E := byteV) (q := 150) (j := i) hM6 (i := 0) rfl hs rfl rfl (by omega) (by simp) (rfl) fun w13 r13 u13 hs13 (hM13 : Mem w [] w13 [r13]) => ?_
      refine h12 _ _ ?_
      clear h12
      refine seq fun K14 h14 => ?_
      refine stp (v := .int .i64 (i : Nat)) (o_mv rfl) ?_
      refine stp (v := x) (o_mv rfl) ?_
      refine stp (v := .int .i64 (b.length : Nat)) (o_lenR (hx.upd hM13.upd) rfl rfl) ?_
      refine stp (v := .bool (decide (((i : Nat) : Int) < (b.length : Nat)))) (o_bin rfl rfl rfl) ?_
      refine h14 _ _ ?_
      clear h14
      refine cndP rfl (fun c15 => ?_) (fun c15 => ?_)
      ·
        refine stp (v := g) (o_mv rfl) ?_
        refine stp (v := .int .i64 (i : Nat)) (o_mv rfl) ?_
        refine stp (v := x) (o_mv rfl) ?_
        refine stp (v := .int .i64 (i : Nat)) (o_mv rfl) ?_
        refine m_idxE 0 (j := i) (hx.upd hM13.upd) rfl rfl (by omega) fun b16 o16 hp16 => ?_
        refine ld (v := byteV (b.getD i 0)) rfl (hp16) ?_
        refine m_set (E := byteV) (q := b.getD i 0) (j := i) hM13 (i := 0) rfl hs13 rfl rfl (by simp; omega) (by simp) (rfl) fun w17 r17 u17 hs17 (hM17 : Mem w [] w17 [r17]) => ?_
        refine h11 _ _ ?_
        clear h11
        refine stp (v := .int .i64 (i : Nat)) (o_mv rfl) ?_
        refine stp (v := .int .i64 ((i : Nat) + 1)) (o_bin rfl rfl (v_add64 (by constructor <;> omega))) ?_
        refine stp (v := .int .i64 ((i : Nat) + 1)) (o_mv rfl) ?_
        refine h7 (i + 1, g, r17) _ _ ⟨rfl, rfl, by first | rfl | exact v_int (by omega) | exact v_int (by simp) | exact v_int (by simp; omega), hM17, by rw [← ap_set rfl (c := b.getD i 0) (by omega) rfl]; simpa [List.set_set] using hs17, by omega, by simp; omega⟩ (by (try dsimp only); omega)
      ·
        refine h11 _ _ ?_
        clear h11
        refine stp (v := .int .i64 (i : Nat)) (o_mv rfl) ?_
        refine stp (v := .int .i64 ((i : Nat) + 1)) (o_bin rfl rfl (v_add64 (by constructor <;> omega))) ?_
        refine stp (v := .int .i64 ((i : Nat) + 1)) (o_mv rfl) ?_
        refine h7 (i + 1, g, r13) _ _ ⟨rfl, rfl, by first | rfl | exact v_int (by omega) | exact v_int (by simp) | exact v_int (by simp; omega), hM13, by rw [← ap_set2 rfl (by omega) (by omega)]; exact hs13, by omega, by simp; omega⟩ (by (try dsimp only); omega)
    ·
      refine h4 _ _ ?_
      clear h4
      refine seq fun K18 h18 => ?_
      refine stp (v := g) (o_mv rfl) ?_
      refine stp (v := g) (o_mv rfl) ?_
      refine h18 _ _ ?_
      clear h18
      refine ⟨g, rfl, ?_⟩
      have e : i = (b.length + 64) := by omega
      subst e
      rw [Nat.sub_self, List.replicate_zero, List.append_nil, List.take_of_length_le (by simp)] at hs
      exact ⟨_, hs, hM6⟩

/-- winnowlaw2.kept -/
theorem kept_ok (g x : Value) (a b : List UInt8) (w : World) (hg : RdB w g a) (hx : RdB w x b) (hla : a.length ≤ 1152921504606846976) (hl : b.length ≤ 1152921504606846976) : Calls Try.prog 22 [g, x].toArray w (Rt fun r w' => r = .bool (decide (a = b ++ List.replicate 64 150)) ∧ Upd [] w w') := by
  have hM0 : Mem w [] w [] := Mem.nil w []
  refine calls_vc mixed Try.func22 rfl C22 (by simp [Try.ntmps22]) ?_
  refine seq fun K1 h1 => ?_
  refine stp (v := .bool false) (o_mv rfl) ?_
  refine h1 _ _ ?_
  clear h1
  refine seq fun K2 h2 => ?_
  refine seq fun K3 h3 => ?_
  refine stp (v := g) (o_mv rfl) ?_
  refine stp (v := .int .i64 (a.length : Nat)) (o_lenR (hg.upd hM0.upd) rfl rfl) ?_
  refine stp (v := x) (o_mv rfl) ?_
  refine stp (v := .int .i64 (b.length : Nat)) (o_lenR (hx.upd hM0.upd) rfl rfl) ?_
  refine stp (v := .int .i64 ((b.length : Nat) + 64)) (o_bin rfl rfl (v_add64 (by constructor <;> omega))) ?_
  refine stp (v := .bool (decide (¬ ((a.length : Nat) : Int) = ((b.length : Nat) + 64)))) (o_bin rfl rfl v_neq) ?_
  refine h3 _ _ ?_
  clear h3
  refine cndP rfl (fun c4 => ?_) (fun c4 => ?_)
  ·
    refine seq fun K5 h5 => ?_
    refine stp (v := .bool false) (o_mv rfl) ?_
    refine h5 _ _ ?_
    clear h5
    refine ⟨(.bool false), rfl, ?_⟩
    exact ⟨by rw [decide_eq_false (fun e => by have := congrArg List.length e; simp at this; omega)], hM0.upd⟩
  ·
    refine h2 _ _ ?_
    clear h2
    refine seq fun K6 h6 => ?_
    refine seq fun K7 h7 => ?_
    refine stp (v := .int .i64 0) (o_mv rfl) ?_
    refine h7 _ _ ?_
    clear h7
    refine lp (n := fun _ _ => False) (ι := (Nat)) (fun i f w' => f 0 = g ∧ f 1 = x ∧ f 5 = .int .i64 (i : Nat) ∧ Mem w [] w' [] ∧ (i ≤ a.length) ∧ (a.take i = (b ++ List.replicate 64 (150 : UInt8)).take i)) (fun i => a.length - i) (0) ?_ ?_
    · exact ⟨rfl, rfl, by first | rfl | exact v_int (by omega) | exact v_int (by simp) | exact v_int (by simp; omega), hM0, by omega, by simp⟩
    · rintro i f w8 ⟨e8_0, e8_1, e8_5, hM8, hi, hp⟩ K9 h9
      obtain ⟨frm, rfl⟩ : ∃ frm, f = (upd (upd (upd frm 0 (g)) 1 (x)) 5 (.int .i64 (i : Nat))) := ⟨f, by rw [upd_self e8_0, upd_self e8_1, upd_self e8_5]⟩
      clear e8_0 e8_1 e8_5
      refine seq fun K10 h10 => ?_
      refine seq fun K11 h11 => ?_
      refine stp (v := .int .i64 (i : Nat)) (o_mv rfl) ?_
      refine stp (v := g) (o_mv rfl) ?_
      refine stp (v := .int .i64 (a.length : Nat)) (o_lenR (hg.upd hM8.upd) rfl rfl) ?_
      refine stp (v := .bool (decide (((i : Nat) : Int) < (a.length : Nat)))) (o_bin rfl rfl rfl) ?_
      refine h11 _ _ ?_
      clear h11
      refine cndP rfl (fun c12 => ?_) (fun c12 => ?_)
      ·
        refine h10 _ _ ?_
        clear h10
        refine seq fun K13 h13 => ?_
        refine seq fun K14 h14 => ?_
        intro wd e1 e2 e3 e4
        have hd := Upd.same e1 e2 e3 e4 []
        have hM15 := hM8.pure hd
        clear e1 e2 e3 e4
        refine ⟨none, ?_⟩
        refine dq (v := .int .i64 (i : Nat)) (o_mv rfl) ?_
        refine dq (v := x) (o_mv rfl) ?_
        refine dq (v := .int .i64 (b.length : Nat)) (o_lenR (hx.upd hM15.upd) rfl rfl) ?_
        refine dq (v := .bool (decide (((i : Nat) : Int) < (b.length : Nat)))) (o_bin rfl rfl rfl) ?_
        refine dq (v := .bool (decide (((i : Nat) : Int) < (b.length : Nat)))) (o_mv rfl) ?_
        refine dsplitP rfl (fun c16 => ?_) (fun c16 => ?_)
        ·
          refine dqg rfl (v := g) (o_mv rfl) ?_
          refine dqg rfl (v := .int .i64 (i : Nat)) (o_mv rfl) ?_
          refine dgyes rfl rfl (dqp (m_idxE 0 (j := i) (hg.upd hM15.upd) rfl rfl (by omega) fun b17 o17 hp17 => ?_))
          show vd _ _ _ _ _ _ _
          refine dqg rfl (v := x) (o_mv rfl) ?_
          refine dqg rfl (v := .int .i64 (i : Nat)) (o_mv rfl) ?_
          refine dgyes rfl rfl (dqp (m_idxE 0 (j := i) (hx.upd hM15.upd) rfl rfl (by omega) fun b18 o18 hp18 => ?_))
          show vd _ _ _ _ _ _ _
          refine dqgyes rfl rfl ?_
          refine dqld rfl (trivial) (v := byteV (a.getD i 0)) (hp17) ?_
          refine dgyesl rfl ?_
          refine dl (ld (v := byteV (b.getD i 0)) rfl (hp18) ?_)
          refine ⟨rfl, ?_⟩
          refine dqg rfl (v := .bool (decide (¬ ((a.getD i 0).toNat : Int) = ((b.getD i 0).toNat : Int)))) (o_bin rfl rfl v_neq) ?_
          refine dq (v := .bool (decide (¬ ((a.getD i 0).toNat : Int) = ((b.getD i 0).toNat : Int)))) (o_pickT rfl rfl) ?_
          refine dq (v := .bool (decide (¬ ((a.getD i 0).toNat : Int) = ((b.getD i 0).toNat : Int)))) (o_mv rfl) ?_
          refine dsplitP rfl (fun c19 => ?_) (fun c19 => ?_)
          ·
            refine dgno rfl (by simp) ?_
            refine dgno rfl (by simp) ?_
            refine dgno rfl (by simp) ?_
            refine dgno rfl (by simp) ?_
            refine dgno rfl (by simp) ?_
            refine dsplitU rfl ?_
            refine dgnou rfl ?_
            refine dgnou rfl ?_
            refine dgnou rfl ?_
            refine dgnolu rfl ?_
            refine dgnou rfl ?_
            refine dgno rfl (by simp) ?_
            refine dq (v := .bool true) (o_pickT rfl rfl) ?_
            refine h14 _ _ ?_
            clear h14
            refine cndT rfl ?_
            refine seq fun K20 h20 => ?_
            refine stp (v := .bool false) (o_mv rfl) ?_
            refine h20 _ _ ?_
            clear h20
            refine ⟨(.bool false), rfl, ?_⟩
            exact ⟨by rw [decide_eq_false (ne_at (i := i) (getD_app1 (by omega)) (by assumption))], hM15.upd⟩
          ·
            refine dqg rfl (v := .int .i64 (i : Nat)) (o_mv rfl) ?_
            refine dqg rfl (v := x) (o_mv rfl) ?_
            refine dqg rfl (v := .int .i64 (b.length : Nat)) (o_lenR (hx.upd hM15.upd) rfl rfl) ?_
            refine dqg rfl (v := .bool (decide (((b.length : Nat) : Int) ≤ ((i : Nat) : Int)))) (o_bin rfl rfl rfl) ?_
            refine dqg rfl (v := .bool (decide (((b.length : Nat) : Int) ≤ ((i : Nat) : Int)))) (o_mv rfl) ?_
            refine dsplitP rfl (fun c21 => absurd c21 (by omega)) (fun c21 => ?_)
            refine dgno rfl (by simp) ?_
            refine dgno rfl (by simp) ?_
            refine dgno rfl (by simp) ?_
            refine dgnol rfl (by simp) ?_
            refine dgno rfl (by simp) ?_
            refine dqg rfl (v := .bool false) (o_pickF rfl rfl) ?_
            refine dq (v := .bool false) (o_pickF rfl rfl) ?_
            refine h14 _ _ ?_
            clear h14
            refine cndF rfl ?_
            refine h13 _ _ ?_
            clear h13
            refine stp (v := .int .i64 (i : Nat)) (o_mv rfl) ?_
            refine stp (v := .int .i64 ((i : Nat) + 1)) (o_bin rfl rfl (v_add64 (by constructor <;> omega))) ?_
            refine stp (v := .int .i64 ((i : Nat) + 1)) (o_mv rfl) ?_
            refine h9 (i + 1) _ _ ⟨rfl, rfl, by first | rfl | exact v_int (by omega) | exact v_int (by simp) | exact v_int (by simp; omega), hM15, by omega, take_succ_eq hp (by omega) (by simp; omega) (by rw [getD_app1 (by omega)]; exact u8_eq (by omega))⟩ (by (try dsimp only); omega)
        ·
          refine dgno rfl (by simp) ?_
          refine dgno rfl (by simp) ?_
          refine dgno rfl (by simp) ?_
          refine dgno rfl (by simp) ?_
          refine dgno rfl (by simp) ?_
          refine dgno rfl (by simp) ?_
          refine dqgno rfl (by simp) ?_
          refine dgnol rfl (by simp) ?_
          refine dgno rfl (by simp) ?_
          refine dq (v := .bool false) (o_pickF rfl rfl) ?_
          refine dq (v := .bool false) (o_mv rfl) ?_
          refine dsplitF rfl ?_
          refine dqg rfl (v := .int .i64 (i : Nat)) (o_mv rfl) ?_
          refine dqg rfl (v := x) (o_mv rfl) ?_
          refine dqg rfl (v := .int .i64 (b.length : Nat)) (o_lenR (hx.upd hM15.upd) rfl rfl) ?_
          refine dqg rfl (v := .bool (decide (((b.length : Nat) : Int) ≤ ((i : Nat) : Int)))) (o_bin rfl rfl rfl) ?_
          refine dqg rfl (v := .bool (decide (((b.length : Nat) : Int) ≤ ((i : Nat) : Int)))) (o_mv rfl) ?_
          refine dsplitP rfl (fun c22 => ?_) (fun c22 => (c22 (by omega)).elim)
          refine dqg rfl (v := g) (o_mv rfl) ?_
          refine dqg rfl (v := .int .i64 (i : Nat)) (o_mv rfl) ?_
          refine dgyes rfl rfl (dqp (m_idxE 0 (j := i) (hg.upd hM15.upd) rfl rfl (by omega) fun b23 o23 hp23 => ?_))
          show vd _ _ _ _ _ _ _
          refine dgyesl rfl ?_
          refine dl (ld (v := byteV (a.getD i 0)) rfl (hp23) ?_)
          refine ⟨rfl, ?_⟩
          refine dqg rfl (v := .bool (decide (¬ ((a.getD i 0).toNat : Int) = 150))) (o_bin rfl rfl v_neq) ?_
          refine dqg rfl (v := .bool (decide (¬ ((a.getD i 0).toNat : Int) = 150))) (o_pickT rfl rfl) ?_
          refine dq (v := .bool (decide (¬ ((a.getD i 0).toNat : Int) = 150))) (o_pickF rfl rfl) ?_
          refine h14 _ _ ?_
          clear h14
          refine cndP rfl (fun c24 => ?_) (fun c24 => ?_)
          ·
            refine seq fun K25 h25 => ?_
            refine stp (v := .bool false) (o_mv rfl) ?_
            refine h25 _ _ ?_
            clear h25
            refine ⟨(.bool false), rfl, ?_⟩
            exact ⟨by rw [decide_eq_false (ne_at (i := i) (q := 150) (by rw [getD_app2 (by omega), getD_rep (by omega)]) (by rw [U150]; assumption))], hM15.upd⟩
          ·
            refine h13 _ _ ?_
            clear h13
            refine stp (v := .int .i64 (i : Nat)) (o_mv rfl) ?_
            refine stp (v := .int .i64 ((i : Nat) + 1)) (o_bin rfl rfl (v_add64 (by constructor <;> omega))) ?_
            refine stp (v := .int .i64 ((i : Nat) + 1)) (o_mv rfl) ?_
            refine h9 (i + 1) _ _ ⟨rfl, rfl, by first | rfl | exact v_int (by omega) | exact v_int (by simp) | exact v_int (by simp; omega), hM15, by omega, take_succ_eq hp (by omega) (by simp; omega) (by rw [getD_app2 (by omega), getD_rep (by omega)]; exact u8_eq (by simp only [U150]; omega))⟩ (by (try dsimp only); omega)
      ·
        refine h6 _ _ ?_
        clear h6
        refine seq fun K26 h26 => ?_
        refine stp (v := .bool true) (o_mv rfl) ?_
        refine h26 _ _ ?_
        clear h26
        refine ⟨(.bool true), rfl, ?_⟩
        exact ⟨by rw [decide_eq_true]; rw [List.take_of_length_le (by omega), List.take_of_length_le (by simp; omega)] at hp; exact hp, hM8.upd⟩

/-- winnowlaw2.NumsWords -/
theorem NumsWords_ok (v : Int) (x : Value) (b : List UInt8) (hv : inK .u64 v) (w : World) (hx : RdB w x b) (hl : b.length ≤ 140737488351232) : Calls Try.prog 7 [.int .u64 v, x].toArray w (Rt fun r w' => r = .bool true ∧ Upd [] w w') := by
  have hM0 : Mem w [] w [] := Mem.nil w []
  simp only [inK] at hv
  have hw := word_lt b
  refine calls_vc mixed Try.func7 rfl C7 (by simp [Try.ntmps7]) ?_
  refine seq fun K1 h1 => ?_
  refine stp (v := .bool false) (o_mv rfl) ?_
  refine h1 _ _ ?_
  clear h1
  refine seq fun K2 h2 => ?_
  refine seq fun K3 h3 => ?_
  refine stp (v := .int .u64 v) (o_mv rfl) ?_
  refine m_call (Fixed_ok v 8 (by simp only [inK]; omega) (by simp only [inK]; omega) w) rfl fun v4 w4 ⟨rs4, hs4, hm4⟩ => ?_
  have hM4 : Mem w [] w4 [rs4] := hM0.add hm4
  have hn4 := fixedI_len (v := v) (n := 8)
  refine m_call (Word_ok _ (fixedI v 8) w4 (hs4.rd hM4 (i := 0) rfl) (by first | omega | (simp; done) | (simp; omega))) rfl fun v5 w5 ⟨hr5, hu5⟩ => ?_
  have hM5 : Mem w [] w5 [rs4] := hM4.pure hu5
  subst hr5
  refine stp (v := .int .u64 v) (o_mv rfl) ?_
  refine stp (v := .bool (decide (¬ ((word (fixedI v 8) : Nat) : Int) = v))) (o_bin rfl rfl v_neq) ?_
  refine h3 _ _ ?_
  clear h3
  refine cndP rfl (fun c6 => absurd c6 (by rw [word_fixed hv]; exact fun h => h rfl)) (fun c6 => ?_)
  refine h2 _ _ ?_
  clear h2
  refine seq fun K7 h7 => ?_
  refine seq fun K8 h8 => ?_
  refine stp (v := x) (o_mv rfl) ?_
  refine stp (v := .int .i64 (b.length : Nat)) (o_lenR (hx.upd hM5.upd) rfl rfl) ?_
  refine stp (v := .bool (decide ((8 : Int) < ((b.length : Nat) : Int)))) (o_bin rfl rfl rfl) ?_
  refine h8 _ _ ?_
  clear h8
  refine cndP rfl (fun c9 => ?_) (fun c9 => ?_)
  ·
    refine seq fun K10 h10 => ?_
    intro wd e1 e2 e3 e4
    have hd := Upd.same e1 e2 e3 e4 []
    have hM11 := hM5.pure hd
    clear e1 e2 e3 e4
    refine ⟨(some []), ?_⟩
    refine dq (v := x) (o_mv rfl) ?_
    refine dq (v := x) (o_mv rfl) ?_
    refine dqp (m_slcE 0 8 (hx) rfl (by omega) (by omega) ⟨_, rfl⟩ rfl fun u12 hu12 => ?_)
    show vd _ _ _ _ _ _ _
    refine dl (m_call (Word_ok _ b wd (hx.upd hM11.upd) (by first | omega | (simp; done) | (simp; omega))) rfl fun v13 w13 ⟨hr13, hu13⟩ => ?_)
    have hM13 : Mem w [] w13 [rs4] := hM11.pure hu13
    subst hr13
    refine ⟨(fun b hb => by cases hb), ?_⟩
    refine dl (m_call (Word_ok _ ((b.take 8).drop 0) w13 ((hu12.upd hM13.upd)) (by first | omega | (simp; done) | (simp; omega))) rfl fun v14 w14 ⟨hr14, hu14⟩ => ?_)
    have hM14 : Mem w [] w14 [rs4] := hM13.pure hu14
    subst hr14
    refine ⟨(fun b hb => by cases hb), ?_⟩
    refine dq (v := .bool (decide (((word b : Nat) : Int) = (word ((b.take 8).drop 0) : Nat)))) (o_bin rfl rfl rfl) ?_
    refine dq (v := .bool (decide (((word b : Nat) : Int) = (word ((b.take 8).drop 0) : Nat)))) (o_mv rfl) ?_
    refine dsplitP rfl (fun c15 => ?_) (fun c15 => (c15 (by simp [word, List.take_take])).elim)
    refine dgyesl rfl ?_
    refine dl (m_call (head_ok w14) rfl fun v16 w16 ⟨hr16, hu16⟩ => ?_)
    have hM16 : Mem w [] w16 [rs4] := hM14.pure hu16
    subst hr16
    refine ⟨(fun b hb => by cases hb), ?_⟩
    refine dq (v := .bool true) (o_pickT rfl rfl) ?_
    refine dq (v := .bool true) (o_mv rfl) ?_
    refine h10 _ _ ?_
    clear h10
    refine ⟨(.bool true), rfl, ?_⟩
    exact ⟨rfl, hM16.upd⟩
  ·
    refine h7 _ _ ?_
    clear h7
    refine seq fun K17 h17 => ?_
    refine seq fun K18 h18 => ?_
    refine stp (v := x) (o_mv rfl) ?_
    refine stp (v := .int .i64 (b.length : Nat)) (o_lenR (hx.upd hM5.upd) rfl rfl) ?_
    refine stp (v := .bool (decide (((b.length : Nat) : Int) = 0))) (o_bin rfl rfl rfl) ?_
    refine h18 _ _ ?_
    clear h18
    refine cndP rfl (fun c19 => ?_) (fun c19 => ?_)
    ·
      refine seq fun K20 h20 => ?_
      refine stp (v := x) (o_mv rfl) ?_
      refine m_call (Word_ok _ b w5 (hx.upd hM5.upd) (by first | omega | (simp; done) | (simp; omega))) rfl fun v21 w21 ⟨hr21, hu21⟩ => ?_
      have hM21 : Mem w [] w21 [rs4] := hM5.pure hu21
      subst hr21
      refine stp (v := .bool (decide (((word b : Nat) : Int) = 0))) (o_bin rfl rfl rfl) ?_
      refine stp (v := .bool (decide (((word b : Nat) : Int) = 0))) (o_mv rfl) ?_
      refine splitP rfl (fun c22 => ?_) (fun c22 => (c22 (by rw [show b = [] from List.length_eq_zero_iff.1 (by omega)]; rfl)).elim)
      refine gyesl rfl ?_
      refine m_call (head_ok w21) rfl fun v23 w23 ⟨hr23, hu23⟩ => ?_
      have hM23 : Mem w [] w23 [rs4] := hM21.pure hu23
      subst hr23
      refine stp (v := .bool true) (o_pickT rfl rfl) ?_
      refine stp (v := .bool true) (o_mv rfl) ?_
      refine h20 _ _ ?_
      clear h20
      refine ⟨(.bool true), rfl, ?_⟩
      exact ⟨rfl, hM23.upd⟩
    ·
      refine h17 _ _ ?_
      clear h17
      refine seq fun K24 h24 => ?_
      refine stp (v := x) (o_mv rfl) ?_
      refine m_call (Word_ok _ b w5 (hx.upd hM5.upd) (by first | omega | (simp; done) | (simp; omega))) rfl fun v25 w25 ⟨hr25, hu25⟩ => ?_
      have hM25 : Mem w [] w25 [rs4] := hM5.pure hu25
      subst hr25
      refine stp (v := x) (o_mv rfl) ?_
      refine stp (v := .int .i64 (b.length : Nat)) (o_lenR (hx.upd hM25.upd) rfl rfl) ?_
      refine m_call (Fixed_ok (word b : Nat) (b.length : Nat) (by simp only [inK]; omega) (by simp only [inK]; omega) w25) rfl fun v26 w26 ⟨rs26, hs26, hm26⟩ => ?_
      have hM26 : Mem w [] w26 [rs4, rs26] := hM25.add hm26
      have hn26 := fixedI_len (v := (word b : Nat)) (n := (b.length : Nat))
      refine stp (v := x) (o_mv rfl) ?_
      refine m_call (same_ok _ _ (fixedI (word b : Nat) (b.length : Nat)) b w26 (hs26.rd hM26 (i := 1) rfl) (hx.upd hM26.upd) (by first | omega | (simp; done) | (simp; omega))) rfl fun v27 w27 ⟨hr27, hu27⟩ => ?_
      have hM27 : Mem w [] w27 [rs4, rs26] := hM26.pure hu27
      subst hr27
      refine stp (v := .bool (decide ((fixedI (word b : Nat) (b.length : Nat)) = b))) (o_mv rfl) ?_
      refine splitP rfl (fun c28 => ?_) (fun c28 => (c28 (fixed_word (by omega) (by omega))).elim)
      refine gyesl rfl ?_
      refine m_call (head_ok w27) rfl fun v29 w29 ⟨hr29, hu29⟩ => ?_
      have hM29 : Mem w [] w29 [rs4, rs26] := hM27.pure hu29
      subst hr29
      refine stp (v := .bool true) (o_pickT rfl rfl) ?_
      refine stp (v := .bool true) (o_mv rfl) ?_
      refine h24 _ _ ?_
      clear h24
      refine ⟨(.bool true), rfl, ?_⟩
      exact ⟨rfl, hM29.upd⟩
