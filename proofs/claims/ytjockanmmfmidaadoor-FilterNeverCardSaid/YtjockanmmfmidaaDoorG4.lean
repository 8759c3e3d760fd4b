/- The reference's filter of keys, the helpers of the laws. -/
import Derived.Test.YtjockanmmfmidaaDoorG3
namespace Go.Proofs.YtjockanmmfmidaaDoor.E
open Go
theorem byN_max {q : Nat} (h : 1 ≤ q) : min (max (((q : Int) + 7) / 8) 1) 4096 = ((min ((q + 7) / 8) 4096 : Nat) : Int) := by
  rw [Int.max_eq_left (by omega)]; exact byN_int q
theorem pm_pos {m : Nat} {p : Int} (h : 1 ≤ p) (hm : 0 < m) : 1 ≤ p.toNat * m := Nat.mul_pos (by omega) hm
/-- the first k places of a key set -/
def pK (hs n : Nat) (d : List UInt8) (key : List UInt8) (k : Nat) : List UInt8 := ((places key hs n).take k).foldl setB d
theorem pK_zero (hs n : Nat) (d key : List UInt8) : pK hs n d key 0 = d := rfl
theorem pK_length (hs n : Nat) (d key : List UInt8) (k : Nat) : (pK hs n d key k).length = d.length := foldB_length _ _
theorem pK_succ {hs n k : Nat} {d key : List UInt8} (h : k < hs) : setB (pK hs n d key k) (bitN key k n) = pK hs n d key (k + 1) := by
  have hl : k < (places key hs n).length := by simp [places]; exact h
  unfold pK
  rw [takeG 0 hl, List.foldl_append]
  simp [places, h]
theorem pK_end {hs n k : Nat} {d key : List UInt8} (h : hs ≤ k) (hn : d.length = n) : pK hs n d key k = addK hs d key := by
  subst hn
  unfold pK addK
  rw [List.take_of_length_le (by simp [places]; exact h)]
theorem fillK_next {hs n k i : Nat} {d : List UInt8} {keys : List (List UInt8)} (h : hs ≤ k) (hn : d.length = n) (hi : i < keys.length) : pK hs n (fillK hs d (keys.take i)) (keys.getD i []) k = fillK hs d (keys.take (i + 1)) := by
  rw [fillK_snoc hi, pK_end h (by rw [fillK_length]; exact hn)]
/-- a list with a letter behind each of its first i texts -/
def zI (i : Nat) (l : List (List UInt8)) : List (List UInt8) := (l.take i).map (· ++ [122]) ++ l.drop i
theorem zI_length (i : Nat) (l : List (List UInt8)) : (zI i l).length = l.length := by simp [zI]; omega
theorem zI_getD {i j : Nat} {l : List (List UInt8)} (h : j < l.length) : (zI i l).getD j [] = if j < i then l.getD j [] ++ [122] else l.getD j [] := by
  unfold zI
  rw [List.getD_eq_getElem?_getD, List.getD_eq_getElem?_getD]
  by_cases c : j < i
  · rw [if_pos c, List.getElem?_append_left (by simp; omega), List.getElem?_map, List.getElem?_take_of_lt c, List.getElem?_eq_getElem h]; rfl
  · rw [if_neg c, List.getElem?_append_right (by simp; omega), List.getElem?_drop]
    congr 2; simp; omega
theorem zI_set {i : Nat} {l : List (List UInt8)} (h : i < l.length) : (zI i l).set i ((zI i l).getD i [] ++ [122]) = zI (i + 1) l := by
  refine ext_getD [] (by simp [zI_length]) fun j hj => ?_
  have hj' : j < l.length := by simpa [zI_length] using hj
  rw [set_getD [] (by rw [zI_length]; exact hj'), zI_getD h, zI_getD hj', zI_getD hj', if_neg (show ¬ i < i by omega)]
  by_cases e : i = j
  · subst e; rw [if_pos rfl, if_pos (by omega)]
  · rw [if_neg e]
    by_cases c : j < i
    · rw [if_pos c, if_pos (by omega)]
    · rw [if_neg c, if_neg (by omega)]
theorem zI_zero (l : List (List UInt8)) : zI 0 l = l := by simp [zI]
theorem zI_end {i : Nat} {l : List (List UInt8)} (h : l.length ≤ i) : zI i l = l.map (· ++ [122]) := by
  unfold zI; rw [List.take_of_length_le h, List.drop_eq_nil_of_le h, List.append_nil]

/-- winnowlaw7.same -/
theorem same_ok (x y : Value) (a b : List UInt8) (w : World) (hx : RdE byteV w x a) (hy : RdE byteV w y b) (hla : a.length ≤ 9223372036854775807) : Calls Tryd.prog 26 [x, y].toArray w (Rt fun r w' => r = .bool (decide (a = b)) ∧ Upd [] w w') := by
  have hM0 : Mem w [] w [] := Mem.nil w []
  refine calls_vc mixed Tryd.func26 rfl C26 (by simp [Tryd.ntmps26]) ?_
  refine seq fun K1 h1 => ?_
  refine stp (v := .bool false) (o_mv rfl) ?_
  refine h1 _ _ ?_
  clear h1
  refine seq fun K2 h2 => ?_
  refine seq fun K3 h3 => ?_
  refine stp (v := x) (o_mv rfl) ?_
  refine stp (v := .int .i64 (a.length : Nat)) (o_lenR (hx.upd hM0.upd) rfl rfl) ?_
  refine stp (v := y) (o_mv rfl) ?_
  refine stp (v := .int .i64 (b.length : Nat)) (o_lenR (hy.upd hM0.upd) rfl rfl) ?_
  refine stp (v := .bool (decide (¬ ((a.length : Nat) : Int) = (b.length : Nat)))) (o_bin rfl rfl v_neq) ?_
  refine h3 _ _ ?_
  clear h3
  refine cndP rfl (fun c4 => ?_) (fun c4 => ?_)
  ·
    refine seq fun K5 h5 => ?_
    refine stp (v := .bool false) (o_mv rfl) ?_
    refine h5 _ _ ?_
    clear h5
    refine ⟨(.bool false), rfl, ?_⟩
    exact ⟨by rw [decide_eq_false (fun e => c4 (by rw [e]))], hM0.upd⟩
  ·
    refine h2 _ _ ?_
    clear h2
    refine seq fun K6 h6 => ?_
    refine seq fun K7 h7 => ?_
    refine stp (v := .int .i64 0) (o_mv rfl) ?_
    refine h7 _ _ ?_
    clear h7
    refine lp (n := fun _ _ => False) (ι := (Nat)) (fun i f w' => f 0 = x ∧ f 1 = y ∧ f 5 = .int .i64 (i : Nat) ∧ Mem w [] w' [] ∧ (i ≤ a.length) ∧ (a.take i = b.take i)) (fun i => a.length - i) (0) ?_ ?_
    · exact ⟨rfl, rfl, by first | rfl | exact v_int (by omega) | exact v_int (by simp) | exact v_int (by simp; omega), hM0, by omega, by simp⟩
    · rintro i f w8 ⟨e8_0, e8_1, e8_5, hM8, hi, hp⟩ K9 h9
      obtain ⟨frm, rfl⟩ : ∃ frm, f = (upd (upd (upd frm 0 (x)) 1 (y)) 5 (.int .i64 (i : Nat))) := ⟨f, by rw [upd_self e8_0, upd_self e8_1, upd_self e8_5]⟩
      clear e8_0 e8_1 e8_5
      refine seq fun K10 h10 => ?_
      refine seq fun K11 h11 => ?_
      refine stp (v := .int .i64 (i : Nat)) (o_mv rfl) ?_
      refine stp (v := x) (o_mv rfl) ?_
      refine stp (v := .int .i64 (a.length : Nat)) (o_lenR (hx.upd hM8.upd) rfl rfl) ?_
      refine stp (v := .bool (decide (((i : Nat) : Int) < (a.length : Nat)))) (o_bin rfl rfl rfl) ?_
      refine h11 _ _ ?_
      clear h11
      refine cndP rfl (fun c12 => ?_) (fun c12 => ?_)
      ·
        refine h10 _ _ ?_
        clear h10
        refine seq fun K13 h13 => ?_
        refine seq fun K14 h14 => ?_
        intro wd e1 e2 e3 e4
        have hd := Upd.same e1 e2 e3 e4 []
        have hM15 := hM8.pure hd
        clear e1 e2 e3 e4
        refine ⟨none, ?_⟩
        show vd _ _ _ _ _ _ _
        refine dq (v := x) (o_mv rfl) ?_
        refine dq (v := .int .i64 (i : Nat)) (o_mv rfl) ?_
        refine dqp (m_idxE 0 (j := i) (hx.upd hM15.upd) rfl rfl (by omega) fun b16 o16 hp16 => ?_)
        show vd _ _ _ _ _ _ _
        refine dq (v := y) (o_mv rfl) ?_
        refine dq (v := .int .i64 (i : Nat)) (o_mv rfl) ?_
        refine dqp (m_idxE 0 (j := i) (hy.upd hM15.upd) rfl rfl (by omega) fun b17 o17 hp17 => ?_)
        show vd _ _ _ _ _ _ _
        refine dqld rfl (trivial) (v := byteV (b.getD i 0)) (hp17) ?_
        refine dl (ld (v := byteV (a.getD i 0)) rfl (hp16) ?_)
        refine ⟨rfl, ?_⟩
        refine dq (v := .bool (decide (¬ ((a.getD i 0).toNat : Int) = ((b.getD i 0).toNat : Int)))) (o_bin rfl rfl v_neq) ?_
        refine h14 _ _ ?_
        clear h14
        refine cndP rfl (fun c18 => ?_) (fun c18 => ?_)
        ·
          refine seq fun K19 h19 => ?_
          refine stp (v := .bool false) (o_mv rfl) ?_
          refine h19 _ _ ?_
          clear h19
          refine ⟨(.bool false), rfl, ?_⟩
          exact ⟨by rw [decide_eq_false (ne_atG 0 i (nat_neG (by assumption)))], hM15.upd⟩
        ·
          refine h13 _ _ ?_
          clear h13
          refine stp (v := .int .i64 (i : Nat)) (o_mv rfl) ?_
          refine stp (v := .int .i64 ((i : Nat) + 1)) (o_bin rfl rfl (v_add64 (by constructor <;> omega))) ?_
          refine stp (v := .int .i64 ((i : Nat) + 1)) (o_mv rfl) ?_
          refine h9 (i + 1) _ _ ⟨rfl, rfl, by first | rfl | exact v_int (by omega) | exact v_int (by simp) | exact v_int (by simp; omega), hM15, by omega, take_eqG 0 hp (by omega) (by omega) (u8_eq (by omega))⟩ (by (try dsimp only); omega)
      ·
        refine h6 _ _ ?_
        clear h6
        refine seq fun K20 h20 => ?_
        refine stp (v := .bool true) (o_mv rfl) ?_
        refine h20 _ _ ?_
        clear h20
        refine ⟨(.bool true), rfl, ?_⟩
        exact ⟨by rw [decide_eq_true]; rw [← List.take_of_length_le (l := a) (i := i) (by omega), ← List.take_of_length_le (l := b) (i := i) (by omega), hp], hM8.upd⟩

/-- winnowlaw7.fill -/
theorem fill_ok (x : Value) (l : List UInt8) (m : UInt8) (r0 : List Ent) (w : World) (hs0 : SlE byteV 5 x l r0) (hr : Res w r0) (hl : l.length ≤ 140737489403904) : Calls Tryd.prog 8 [x, byteV m].toArray w (Rt fun r w' => r = .int .i64 ((l.length + 64 : Nat) : Int) ∧ Mem w (ids r0) w' []) := by
  have hM0 : Mem w (ids r0) w [r0] := Mem.start hr
  refine calls_vc mixed Tryd.func8 rfl C8 (by simp [Tryd.ntmps8]) ?_
  refine seq fun K1 h1 => ?_
  refine stp (v := .int .i64 0) (o_mv rfl) ?_
  refine h1 _ _ ?_
  clear h1
  refine seq fun K2 h2 => ?_
  refine seq fun K3 h3 => ?_
  refine stp (v := .int .i64 0) (o_mv rfl) ?_
  refine h3 _ _ ?_
  clear h3
  refine lp (n := fun _ _ => False) (ι := (Nat) × (List UInt8) × (Value) × (List Ent)) (fun ⟨i, la, y0_, r0_⟩ f w' => f 0 = y0_ ∧ f 5 = .int .i64 (i : Nat) ∧ f 1 = byteV m ∧ Mem w (ids r0) w' [r0_] ∧ (la.length = l.length) ∧ (i ≤ la.length) ∧ (SlE byteV 5 y0_ (la) r0_)) (fun ⟨i, la, y0_, r0_⟩ => l.length - i) (0, l, x, r0) ?_ ?_
  · exact ⟨rfl, by first | rfl | exact v_int (by omega) | exact v_int (by simp) | exact v_int (by simp; omega), by first | rfl | exact v_int (by omega) | exact v_int (by simp) | exact v_int (by simp; omega), hM0, rfl, by omega, by first | exact hs0 | simpa using hs0⟩
  · rintro ⟨i, la, y0_, r0_⟩ f w4 ⟨e4_0, e4_5, e4_1, hM4, hla, hi, hy0_⟩ K5 h5
    obtain ⟨frm, rfl⟩ : ∃ frm, f = (upd (upd (upd frm 0 (y0_)) 5 (.int .i64 (i : Nat))) 1 (byteV m)) := ⟨f, by rw [upd_self e4_0, upd_self e4_5, upd_self e4_1]⟩
    clear e4_0 e4_5 e4_1
    refine seq fun K6 h6 => ?_
    refine seq fun K7 h7 => ?_
    refine stp (v := .int .i64 (i : Nat)) (o_mv rfl) ?_
    refine stp (v := y0_) (o_mv rfl) ?_
    refine stp (v := .int .i64 (la.length : Nat)) (o_lenR (hy0_.rd hM4 (i := 0) rfl) rfl rfl) ?_
    refine stp (v := .bool (decide (((i : Nat) : Int) < (la.length : Nat)))) (o_bin rfl rfl rfl) ?_
    refine h7 _ _ ?_
    clear h7
    refine cndP rfl (fun c8 => ?_) (fun c8 => ?_)
    ·
      refine h6 _ _ ?_
      clear h6
      refine seq fun K9 h9 => ?_
      refine stp (v := y0_) (o_mv rfl) ?_
      refine stp (v := .int .i64 (i : Nat)) (o_mv rfl) ?_
      refine stp (v := byteV m) (o_mv rfl) ?_
      refine m_set (E := byteV) (q := m) (j := i) hM4 (i := 0) rfl hy0_ rfl rfl (by omega) (by simp) (rfl) fun w10 r10 u10 he10 hs10 (hM10 : Mem w (ids r0) w10 [r10]) => ?_
      refine h9 _ _ ?_
      clear h9
      refine stp (v := .int .i64 (i : Nat)) (o_mv rfl) ?_
      refine stp (v := .int .i64 ((i : Nat) + 1)) (o_bin rfl rfl (v_add64 (by constructor <;> omega))) ?_
      refine stp (v := .int .i64 ((i : Nat) + 1)) (o_mv rfl) ?_
      refine h5 (i + 1, la.set i m, y0_, r10) _ _ ⟨rfl, by first | rfl | exact v_int (by omega) | exact v_int (by simp) | exact v_int (by simp; omega), by first | rfl | exact v_int (by omega) | exact v_int (by simp) | exact v_int (by simp; omega), hM10, by simp; omega, by simp; omega, by first | exact hs10 | simpa using hs10⟩ (by (try dsimp only); omega)
    ·
      refine h2 _ _ ?_
      clear h2
      refine seq fun K11 h11 => ?_
      refine seq fun K12 h12 => ?_
      refine stp (v := .int .i64 0) (o_mv rfl) ?_
      refine h12 _ _ ?_
      clear h12
      refine lp (n := fun _ _ => False) (ι := (Nat) × (List UInt8) × (Value) × (List Ent)) (fun ⟨i, lb, y0_, r0_⟩ f w' => f 0 = y0_ ∧ f 6 = .int .i64 (i : Nat) ∧ f 1 = byteV m ∧ Mem w (ids r0) w' [r0_] ∧ (lb.length = l.length + i) ∧ (i ≤ 64) ∧ (SlE byteV 5 y0_ (lb) r0_)) (fun ⟨i, lb, y0_, r0_⟩ => 64 - i) (0, la, y0_, r0_) ?_ ?_
      · exact ⟨rfl, by first | rfl | exact v_int (by omega) | exact v_int (by simp) | exact v_int (by simp; omega), by first | rfl | exact v_int (by omega) | exact v_int (by simp) | exact v_int (by simp; omega), hM4, by omega, by omega, by first | exact hy0_ | simpa using hy0_⟩
      · rintro ⟨i, lb, y0_, r0_⟩ f w13 ⟨e13_0, e13_6, e13_1, hM13, hlb, hi, hy0_⟩ K14 h14
        obtain ⟨frm, rfl⟩ : ∃ frm, f = (upd (upd (upd frm 0 (y0_)) 6 (.int .i64 (i : Nat))) 1 (byteV m)) := ⟨f, by rw [upd_self e13_0, upd_self e13_6, upd_self e13_1]⟩
        clear e13_0 e13_6 e13_1
        refine seq fun K15 h15 => ?_
        refine seq fun K16 h16 => ?_
        refine stp (v := .int .i64 (i : Nat)) (o_mv rfl) ?_
        refine stp (v := .bool (decide (((i : Nat) : Int) < 64))) (o_bin rfl rfl rfl) ?_
        refine h16 _ _ ?_
        clear h16
        refine cndP rfl (fun c17 => ?_) (fun c17 => ?_)
        ·
          refine h15 _ _ ?_
          clear h15
          refine seq fun K18 h18 => ?_
          refine stp (v := y0_) (o_mv rfl) ?_
          refine stp (v := byteV m) (o_mv rfl) ?_
          refine stp (v := .int .u8 (((m.toNat : Int) + 1) % 256)) (o_bin rfl rfl (v_u8 _)) ?_
          refine m_app1 (E := byteV) (q := (((m.toNat : Int) + 1) % 256).toNat.toUInt8) hM13 (i := 0) rfl hy0_ rfl (by simp) (byteV_of (by omega) (by omega)) (by omega) (by omega) fun v19 w19 r19 u19 (hs19 : SlE byteV 5 v19 (lb ++ [(((m.toNat : Int) + 1) % 256).toNat.toUInt8]) r19) (hM19 : Mem w (ids r0) w19 [r19]) => ?_
          refine stp (v := v19) (o_mv rfl) ?_
          refine h18 _ _ ?_
          clear h18
          refine stp (v := .int .i64 (i : Nat)) (o_mv rfl) ?_
          refine stp (v := .int .i64 ((i : Nat) + 1)) (o_bin rfl rfl (v_add64 (by constructor <;> omega))) ?_
          refine stp (v := .int .i64 ((i : Nat) + 1)) (o_mv rfl) ?_
          refine h14 (i + 1, lb ++ [((m.toNat : Int) + 1) % 256 |>.toNat.toUInt8], v19, r19) _ _ ⟨rfl, by first | rfl | exact v_int (by omega) | exact v_int (by simp) | exact v_int (by simp; omega), by first | rfl | exact v_int (by omega) | exact v_int (by simp) | exact v_int (by simp; omega), hM19, by simp; omega, by omega, by first | exact hs19 | simpa using hs19⟩ (by (try dsimp only); omega)
        ·
          refine h11 _ _ ?_
          clear h11
          refine seq fun K20 h20 => ?_
          refine stp (v := y0_) (o_mv rfl) ?_
          refine stp (v := .int .i64 (lb.length : Nat)) (o_lenR (hy0_.rd hM13 (i := 0) rfl) rfl rfl) ?_
          refine stp (v := .int .i64 (lb.length : Nat)) (o_mv rfl) ?_
          refine h20 _ _ ?_
          clear h20
          refine ⟨(.int .i64 (lb.length : Nat)), rfl, ?_⟩
          exact ⟨v_int (by omega), hM13.keep (by simp)⟩
