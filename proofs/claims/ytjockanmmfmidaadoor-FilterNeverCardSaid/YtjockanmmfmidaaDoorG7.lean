/- Filters as bytes and back: the law. -/
import Derived.Test.YtjockanmmfmidaaDoorG6
namespace Go.Proofs.YtjockanmmfmidaaDoor.E
open Go
theorem encF_len (a : Bool) (h : Int) (d : List UInt8) : (encF a h d).1.length ≤ 4099 := by
  by_cases k1 : fk a h d = 1
  · rw [encF_1 k1]; simp
  · by_cases k2 : fk a h d = 2
    · rw [encF_2 k2]; simp
    · by_cases k3 : fk a h d = 3
      · have h3 := fk3 k3
        have hp : (putI (d.length : Int)).length ≤ 2 := by
          unfold putI; rw [if_neg (by omega)]; exact put_len 1 _ (by rw [Int.toNat_natCast]; omega)
        rw [encF_3 k3]; simp only [List.length_cons, List.length_append]; omega
      · rw [encF_0 k1 k2 k3]; simp
theorem fk1 {a : Bool} {h : Int} {d : List UInt8} (h0 : fk a h d = 1) : a = true ∧ h = 0 ∧ d = [] := by
  unfold fk at h0
  split at h0
  · rename_i c
    cases a
    · simp at h0
    · exact ⟨rfl, c.1, List.length_eq_zero_iff.1 c.2⟩
  · split at h0 <;> omega
theorem fk2 {a : Bool} {h : Int} {d : List UInt8} (h0 : fk a h d = 2) : a = false ∧ h = 0 ∧ d = [] := by
  unfold fk at h0
  split at h0
  · rename_i c
    cases a
    · exact ⟨rfl, c.1, List.length_eq_zero_iff.1 c.2⟩
    · simp at h0
  · split at h0 <;> omega
theorem dec_enc {a : Bool} {h : Int} {d : List UInt8} (h0 : (encF a h d).2 = 0) : decF (encF a h d).1 = (a, h, d, 0) := by
  by_cases k1 : fk a h d = 1
  · rw [encF_1 k1]; obtain ⟨rfl, rfl, rfl⟩ := fk1 k1; rfl
  · by_cases k2 : fk a h d = 2
    · rw [encF_2 k2]; obtain ⟨rfl, rfl, rfl⟩ := fk2 k2; rfl
    · by_cases k3 : fk a h d = 3
      · obtain ⟨rfl, h1, h8, d1, d4⟩ := fk3 k3
        have g := get_put (v := (d.length : Int)) (by omega) (by omega) d
        rw [Int.toNat_natCast] at g
        have hu : (h.toNat.toUInt8).toNat = h.toNat := by simp; omega
        rw [encF_3 k3]
        show decF (h.toNat.toUInt8 :: (putI (d.length : Int) ++ d)) = _
        rw [decF_cons, hu, if_neg (show ¬ h.toNat = 0 by omega), if_neg (show ¬ h.toNat = 255 by omega), if_neg (show ¬ 8 < h.toNat by omega), g]
        dsimp only
        rw [if_neg (show ¬ (¬ (0 : Int) = 0 ∨ d.length < 1 ∨ 4096 < d.length ∨ ¬ (putI (d.length : Int) ++ d).length = (putI (d.length : Int)).length + d.length) by have hal : (putI (d.length : Int) ++ d).length = (putI (d.length : Int)).length + d.length := List.length_append; omega), List.drop_left, Int.toNat_of_nonneg (by omega)]
      · rw [encF_0 k1 k2 k3] at h0; simp at h0
theorem decF_err (b : List UInt8) : (decF b).2.2.2 = 0 ∨ decF b = (false, 0, [], 70) := by
  cases b with
  | nil => exact .inr rfl
  | cons c r =>
    rw [decF_cons]
    split
    · split
      · exact .inl rfl
      · exact .inr rfl
    · split
      · split
        · exact .inl rfl
        · exact .inr rfl
      · split
        · exact .inr rfl
        · split
          · exact .inr rfl
          · exact .inl rfl
theorem decF_no {b : List UInt8} (h : ¬ (decF b).2.2.2 = 0) : decF b = (false, 0, [], 70) := (decF_err b).resolve_left h
theorem decF_len (b : List UInt8) : (decF b).2.2.1.length ≤ b.length := by
  cases b with
  | nil => exact Nat.le_refl _
  | cons c r =>
    rw [decF_cons]
    split
    · split <;> simp
    · split
      · split <;> simp
      · split
        · simp
        · split
          · simp
          · simp only [List.length_drop, List.length_cons]; omega
theorem enc_dec {b : List UInt8} (h0 : (decF b).2.2.2 = 0) : encF (decF b).1 (decF b).2.1 (decF b).2.2.1 = (b, 0) := by
  cases b with
  | nil => exact absurd h0 (by decide)
  | cons c r =>
    have hc := c.toNat_lt
    rw [decF_cons] at h0 ⊢
    by_cases c0 : c.toNat = 0
    · rw [if_pos c0] at h0 ⊢
      by_cases r0 : r.length = 0
      · rw [if_pos r0]
        obtain rfl := List.length_eq_zero_iff.1 r0
        obtain rfl : c = 0 := UInt8.toNat_inj.1 c0
        rfl
      · rw [if_neg r0] at h0; simp at h0
    · rw [if_neg c0] at h0 ⊢
      by_cases c1 : c.toNat = 255
      · rw [if_pos c1] at h0 ⊢
        by_cases r0 : r.length = 0
        · rw [if_pos r0]
          obtain rfl := List.length_eq_zero_iff.1 r0
          obtain rfl : c = 255 := UInt8.toNat_inj.1 c1
          rfl
        · rw [if_neg r0] at h0; simp at h0
      · rw [if_neg c1] at h0 ⊢
        by_cases c8 : 8 < c.toNat
        · rw [if_pos c8] at h0; simp at h0
        · rw [if_neg c8] at h0 ⊢
          by_cases g : ¬ (get r).2.2 = 0 ∨ (get r).1 < 1 ∨ 4096 < (get r).1 ∨ ¬ r.length = (get r).2.1 + (get r).1
          · rw [if_pos g] at h0; simp at h0
          · rw [if_neg g]
            have g0 : (get r).2.2 = 0 := by omega
            have go := get_ok g0
            have hl : (r.drop (get r).2.1).length = (get r).1 := by rw [List.length_drop]; omega
            rw [encF_3 (fk_bits (by simp only [hl]; omega))]
            simp only [hl, Int.toNat_natCast, go.2.2, List.take_append_drop]
            rw [show c.toNat.toUInt8 = c by simp]
structure Fil where
  a : Bool
  h : Int
  v : Value
  d : List UInt8
def Fil.ok (f : Fil) (w : World) : Prop := RdE byteV w f.v f.d ∧ f.d.length ≤ 140737488351232 ∧ inK .i64 f.h
def filC (f : Fil) : List Value := [.bool f.a, .int .i64 f.h, f.v]

/-- winnowlaw7.works -/
theorem works_ok (w : World) : Calls Tryd.prog 18 [].toArray w (Rt fun r w' => r = .bool true ∧ Upd [] w w') := by
  have hM0 : Mem w [] w [] := Mem.nil w []
  have hp : inK .i64 8 := by simp only [inK]; omega
  have hk1 : ∀ k ∈ ([[97]] : List (List UInt8)), k.length ≤ 9223372036854775000 := by decide
  have hk2 : ∀ k ∈ ([] : List (List UInt8)), k.length ≤ 9223372036854775000 := by decide
  have e1 : (buildF [[97]] 8).2.2.2 = 0 := by decide +kernel
  have e2 : (buildF [] 8).2.2.2 = 0 := by decide +kernel
  have e3 : hasF (buildF [[97]] 8).1 (buildF [[97]] 8).2.1 (buildF [[97]] 8).2.2.1 [97] = true := by decide +kernel
  have e4 : hasF (buildF [] 8).1 (buildF [] 8).2.1 (buildF [] 8).2.2.1 [97] = false := by decide +kernel
  have e5 : (buildF [[97]] 8).2.2.1.length = 1 := by decide +kernel
  have hb2 := buildF_hs (l := [[97]]) (p := 8)
  have hb3 := buildF_hs (l := []) (p := 8)
  have hb4 := buildF_len (l := []) (p := 8)
  refine calls_vc mixed Tryd.func18 rfl C18 (by simp [Tryd.ntmps18]) ?_
  refine seq fun K1 h1 => ?_
  refine stp (v := .bool false) (o_mv rfl) ?_
  refine h1 _ _ ?_
  clear h1
  refine seq fun K2 h2 => ?_
  refine m_bs hM0 rfl fun b3 w4 (hM4 : Mem w [] w4 [[⟨b3, 9, [.string (str ([97]))]⟩]]) => ?_
  refine m_call (Build_ok _ ([[97]]) 8 w4 (own_rdE (E := strV) (l := [[97]]) (hM4.at (i := 0) (j := 0) rfl rfl) rfl) (by first | exact hk1 | exact hk2) (by first | omega | (simp; omega) | (simp; done)) hp) rfl fun v5 w5 ⟨vd5, rs5, hr5, hs5, hm5⟩ => ?_
  have hM5 : Mem w [] w5 [[⟨b3, 9, [.string (str ([97]))]⟩], rs5] := hM4.add hm5
  obtain ⟨av5, lv5, cv5, rfl⟩ := hs5.isSlice
  subst hr5
  refine stp (v := .tuple [.agg ([.bool ((buildF ([[97]]) 8).1), .int .i64 ((buildF ([[97]]) 8).2.1), (.slice av5 lv5 cv5)] : List Value).toArray, .int .i64 ((buildF ([[97]]) 8).2.2.2)].toArray) (o_mv rfl) ?_
  refine stp (v := .agg ([.bool ((buildF ([[97]]) 8).1), .int .i64 ((buildF ([[97]]) 8).2.1), (.slice av5 lv5 cv5)] : List Value).toArray) (o_ext rfl rfl) ?_
  refine stp (v := .int .i64 ((buildF ([[97]]) 8).2.2.2)) (o_ext rfl rfl) ?_
  refine m_al hM5 fun b6 w7 (hM7 : Mem w [] w7 [[⟨b3, 9, [.string (str ([97]))]⟩], rs5, [⟨b6, 24, [.bool false, .int .i64 0, .slice none 0 0]⟩]]) => ?_
  refine m_stA (l := [.bool ((buildF ([[97]]) 8).1), .int .i64 ((buildF ([[97]]) 8).2.1), (.slice av5 lv5 cv5)]) hM7 (i := 2) rfl rfl rfl rfl (by simp [oneCells, Value.oneCell', byteV]) (by simp) fun w8 (hM8 : Mem w [] w8 [[⟨b3, 9, [.string (str ([97]))]⟩], rs5, [⟨b6, 24, [.bool ((buildF ([[97]]) 8).1), .int .i64 ((buildF ([[97]]) 8).2.1), (.slice av5 lv5 cv5)]⟩]]) => ?_
  refine stp (v := .int .i64 ((buildF ([[97]]) 8).2.2.2)) (o_mv rfl) ?_
  refine h2 _ _ ?_
  clear h2
  refine seq fun K9 h9 => ?_
  refine m_call (Build_ok _ ([]) 8 w8 (Rd.nilE strV _) (by first | exact hk1 | exact hk2) (by first | omega | (simp; omega) | (simp; done)) hp) rfl fun v10 w10 ⟨vd10, rs10, hr10, hs10, hm10⟩ => ?_
  have hM10 : Mem w [] w10 [[⟨b3, 9, [.string (str ([97]))]⟩], rs5, [⟨b6, 24, [.bool ((buildF ([[97]]) 8).1), .int .i64 ((buildF ([[97]]) 8).2.1), (.slice av5 lv5 cv5)]⟩], rs10] := hM8.add hm10
  obtain ⟨av10, lv10, cv10, rfl⟩ := hs10.isSlice
  subst hr10
  refine stp (v := .tuple [.agg ([.bool ((buildF ([]) 8).1), .int .i64 ((buildF ([]) 8).2.1), (.slice av10 lv10 cv10)] : List Value).toArray, .int .i64 ((buildF ([]) 8).2.2.2)].toArray) (o_mv rfl) ?_
  refine stp (v := .agg ([.bool ((buildF ([]) 8).1), .int .i64 ((buildF ([]) 8).2.1), (.slice av10 lv10 cv10)] : List Value).toArray) (o_ext rfl rfl) ?_
  refine stp (v := .int .i64 ((buildF ([]) 8).2.2.2)) (o_ext rfl rfl) ?_
  refine m_al hM10 fun b11 w12 (hM12 : Mem w [] w12 [[⟨b3, 9, [.string (str ([97]))]⟩], rs5, [⟨b6, 24, [.bool ((buildF ([[97]]) 8).1), .int .i64 ((buildF ([[97]]) 8).2.1), (.slice av5 lv5 cv5)]⟩], rs10, [⟨b11, 24, [.bool false, .int .i64 0, .slice none 0 0]⟩]]) => ?_
  refine m_stA (l := [.bool ((buildF ([]) 8).1), .int .i64 ((buildF ([]) 8).2.1), (.slice av10 lv10 cv10)]) hM12 (i := 4) rfl rfl rfl rfl (by simp [oneCells, Value.oneCell', byteV]) (by simp) fun w13 (hM13 : Mem w [] w13 [[⟨b3, 9, [.string (str ([97]))]⟩], rs5, [⟨b6, 24, [.bool ((buildF ([[97]]) 8).1), .int .i64 ((buildF ([[97]]) 8).2.1), (.slice av5 lv5 cv5)]⟩], rs10, [⟨b11, 24, [.bool ((buildF ([]) 8).1), .int .i64 ((buildF ([]) 8).2.1), (.slice av10 lv10 cv10)]⟩]]) => ?_
  refine stp (v := .int .i64 ((buildF ([]) 8).2.2.2)) (o_mv rfl) ?_
  refine h9 _ _ ?_
  clear h9
  refine seq fun K14 h14 => ?_
  refine stp (v := .int .i64 ((buildF ([[97]]) 8).2.2.2)) (o_mv rfl) ?_
  refine stp (v := .bool (decide (((buildF ([[97]]) 8).2.2.2) = 0))) (o_bin rfl rfl rfl) ?_
  refine stp (v := .bool (decide (((buildF ([[97]]) 8).2.2.2) = 0))) (o_mv rfl) ?_
  refine splitP rfl (fun c15 => ?_) (fun c15 => (c15 (e1)).elim)
  refine stg rfl (v := .int .i64 ((buildF ([]) 8).2.2.2)) (o_mv rfl) ?_
  refine stg rfl (v := .bool (decide (((buildF ([]) 8).2.2.2) = 0))) (o_bin rfl rfl rfl) ?_
  refine stp (v := .bool (decide (((buildF ([]) 8).2.2.2) = 0))) (o_pickT rfl rfl) ?_
  refine stp (v := .bool (decide (((buildF ([]) 8).2.2.2) = 0))) (o_mv rfl) ?_
  refine splitP rfl (fun c16 => ?_) (fun c16 => (c16 (e2)).elim)
  refine gyesl rfl ?_
  refine m_ldA (l := [.bool ((buildF ([[97]]) 8).1), .int .i64 ((buildF ([[97]]) 8).2.1), (.slice av5 lv5 cv5)]) hM13 (i := 2) (j := 0) rfl rfl rfl rfl rfl ?_
  refine gyesl rfl ?_
  refine m_call (Has_ok (buildF ([[97]]) 8).1 ((buildF ([[97]]) 8).2.1) _ ((buildF ([[97]]) 8).2.2.1) ([97]) w13 (hs5.rd hM13 (i := 1) rfl) (by first | omega | (simp; done) | (simp; omega)) (by first | omega | (simp; done) | (simp; omega)) (by first | assumption | omega)) rfl fun v17 w17 ⟨hr17, hu17⟩ => ?_
  have hM17 : Mem w [] w17 [[⟨b3, 9, [.string (str ([97]))]⟩], rs5, [⟨b6, 24, [.bool ((buildF ([[97]]) 8).1), .int .i64 ((buildF ([[97]]) 8).2.1), (.slice av5 lv5 cv5)]⟩], rs10, [⟨b11, 24, [.bool ((buildF ([]) 8).1), .int .i64 ((buildF ([]) 8).2.1), (.slice av10 lv10 cv10)]⟩]] := hM13.pure hu17
  subst hr17
  refine stp (v := .bool (hasF (buildF ([[97]]) 8).1 ((buildF ([[97]]) 8).2.1) ((buildF ([[97]]) 8).2.2.1) ([97]))) (o_pickT rfl rfl) ?_
  refine stp (v := .bool (hasF (buildF ([[97]]) 8).1 ((buildF ([[97]]) 8).2.1) ((buildF ([[97]]) 8).2.2.1) ([97]))) (o_mv rfl) ?_
  refine split rfl (fun c18 => ?_) (fun c18 => absurd ((show (hasF (buildF ([[97]]) 8).1 ((buildF ([[97]]) 8).2.1) ((buildF ([[97]]) 8).2.2.1) ([97])) = true from (e3)).symm.trans c18) (by decide))
  refine gyesl rfl ?_
  refine m_ldA (l := [.bool ((buildF ([]) 8).1), .int .i64 ((buildF ([]) 8).2.1), (.slice av10 lv10 cv10)]) hM17 (i := 4) (j := 0) rfl rfl rfl rfl rfl ?_
  refine gyesl rfl ?_
  refine m_call (Has_ok (buildF ([]) 8).1 ((buildF ([]) 8).2.1) _ ((buildF ([]) 8).2.2.1) ([97]) w17 (hs10.rd hM17 (i := 3) rfl) (by first | omega | (simp; done) | (simp; omega)) (by first | omega | (simp; done) | (simp; omega)) (by first | assumption | omega)) rfl fun v19 w19 ⟨hr19, hu19⟩ => ?_
  have hM19 : Mem w [] w19 [[⟨b3, 9, [.string (str ([97]))]⟩], rs5, [⟨b6, 24, [.bool ((buildF ([[97]]) 8).1), .int .i64 ((buildF ([[97]]) 8).2.1), (.slice av5 lv5 cv5)]⟩], rs10, [⟨b11, 24, [.bool ((buildF ([]) 8).1), .int .i64 ((buildF ([]) 8).2.1), (.slice av10 lv10 cv10)]⟩]] := hM17.pure hu19
  subst hr19
  refine stg rfl (v := .bool (!(hasF (buildF ([]) 8).1 ((buildF ([]) 8).2.1) ((buildF ([]) 8).2.2.1) ([97])))) (o_not rfl rfl) ?_
  refine stp (v := .bool (!(hasF (buildF ([]) 8).1 ((buildF ([]) 8).2.1) ((buildF ([]) 8).2.2.1) ([97])))) (o_pickT rfl rfl) ?_
  refine stp (v := .bool (!(hasF (buildF ([]) 8).1 ((buildF ([]) 8).2.1) ((buildF ([]) 8).2.2.1) ([97])))) (o_mv rfl) ?_
  refine split rfl (fun c20 => ?_) (fun c20 => absurd ((show (!(hasF (buildF ([]) 8).1 ((buildF ([]) 8).2.1) ((buildF ([]) 8).2.2.1) ([97]))) = true from (by rw [e4]; rfl)).symm.trans c20) (by decide))
  refine stg rfl (v := .pointer (some ⟨b6, 2, none⟩)) (o_fa rfl rfl) ?_
  refine gyesl rfl ?_
  refine m_ld (v := (.slice av5 lv5 cv5)) hM19 (i := 2) (j := 0) rfl rfl rfl rfl ?_
  refine stg rfl (v := .int .i64 (((buildF ([[97]]) 8).2.2.1).length : Nat)) (o_lenR (hs5.rd hM19 (i := 1) rfl) rfl rfl) ?_
  refine stg rfl (v := .bool true) (o_bin rfl rfl (by rw [e5]; rfl)) ?_
  refine stp (v := .bool true) (o_pickT rfl rfl) ?_
  refine stp (v := .bool true) (o_mv rfl) ?_
  refine h14 _ _ ?_
  clear h14
  refine ⟨(.bool true), rfl, ?_⟩
  exact ⟨rfl, hM19.upd⟩

theorem open_fil {W : World} {cs : List Value} (h : Arg Tryd.prog W 24 cs) : ∃ f : Fil, cs = filC f ∧ f.ok W := by
  obtain ⟨hl, hf⟩ := h.struct Tryd.underlying24
  have c22 : Tryd.prog.cellsOf 22 = 1 := by kernel_rfl
  have c3 : Tryd.prog.cellsOf 3 = 1 := by kernel_rfl
  have c4 : Tryd.prog.cellsOf 4 = 1 := by kernel_rfl
  rw [show Tryd.prog.cellsOf 24 = 3 by kernel_rfl] at hl
  match cs, hl with
  | [a0, a1, a2], _ =>
    obtain ⟨n0, e0⟩ := (hf 0 _ rfl).bool Tryd.underlying4
    obtain rfl : a0 = .bool n0 := by simpa [c4] using e0
    obtain ⟨n1, e1, k1⟩ := (hf 1 _ rfl).int Tryd.underlying3
    obtain rfl : a1 = .int .i64 n1 := by simpa [c3] using e1
    obtain ⟨v2, l2, e2, k2, q2⟩ := (hf 2 _ rfl).bytes Tryd.underlying22 Tryd.underlying5 (by kernel_rfl)
    obtain rfl : a2 = v2 := by simpa [c22] using e2
    exact ⟨⟨n0, n1, a2, l2⟩, rfl, k2, q2, k1⟩
