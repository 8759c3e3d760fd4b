/- Filters as bytes and back: the law. -/
import Derived.Test.YtjockanmmfmidaaG6
namespace Go.Proofs.Ytjockanmmfmidaa.E
open Go
theorem encF_len (a : Bool) (h : Int) (d : List UInt8) : (encF a h d).1.length ≤ 4099 := by
  by_cases k1 : fk a h d = 1
  · rw [encF_1 k1]; simp
  · by_cases k2 : fk a h d = 2
    · rw [encF_2 k2]; simp
    · by_cases k3 : fk a h d = 3
      · have h3 := fk3 k3
        have hp : (putI (d.length : Int)).length ≤ 2 := by
          unfold putI; rw [if_neg (by omega)]; exact put_len 1 _ (by rw [Int.toNat_natCast]; omega)
        rw [encF_3 k3]; simp only [List.length_cons, List.length_append]; omega
      · rw [encF_0 k1 k2 k3]; simp
theorem fk1 {a : Bool} {h : Int} {d : List UInt8} (h0 : fk a h d = 1) : a = true ∧ h = 0 ∧ d = [] := by
  unfold fk at h0
  split at h0
  · rename_i c
    cases a
    · simp at h0
    · exact ⟨rfl, c.1, List.length_eq_zero_iff.1 c.2⟩
  · split at h0 <;> omega
theorem fk2 {a : Bool} {h : Int} {d : List UInt8} (h0 : fk a h d = 2) : a = false ∧ h = 0 ∧ d = [] := by
  unfold fk at h0
  split at h0
  · rename_i c
    cases a
    · exact ⟨rfl, c.1, List.length_eq_zero_iff.1 c.2⟩
    · simp at h0
  · split at h0 <;> omega
theorem dec_enc {a : Bool} {h : Int} {d : List UInt8} (h0 : (encF a h d).2 = 0) : decF (encF a h d).1 = (a, h, d, 0) := by
  by_cases k1 : fk a h d = 1
  · rw [encF_1 k1]; obtain ⟨rfl, rfl, rfl⟩ := fk1 k1; rfl
  · by_cases k2 : fk a h d = 2
    · rw [encF_2 k2]; obtain ⟨rfl, rfl, rfl⟩ := fk2 k2; rfl
    · by_cases k3 : fk a h d = 3
      · obtain ⟨rfl, h1, h8, d1, d4⟩ := fk3 k3
        have g := get_put (v := (d.length : Int)) (by omega) (by omega) d
        rw [Int.toNat_natCast] at g
        have hu : (h.toNat.toUInt8).toNat = h.toNat := by simp; omega
        rw [encF_3 k3]
        show decF (h.toNat.toUInt8 :: (putI (d.length : Int) ++ d)) = _
        rw [decF_cons, hu, if_neg (show ¬ h.toNat = 0 by omega), if_neg (show ¬ h.toNat = 255 by omega), if_neg (show ¬ 8 < h.toNat by omega), g]
        dsimp only
        rw [if_neg (show ¬ (¬ (0 : Int) = 0 ∨ d.length < 1 ∨ 4096 < d.length ∨ ¬ (putI (d.length : Int) ++ d).length = (putI (d.length : Int)).length + d.length) by have hal : (putI (d.length : Int) ++ d).length = (putI (d.length : Int)).length + d.length := List.length_append; omega), List.drop_left, Int.toNat_of_nonneg (by omega)]
      · rw [encF_0 k1 k2 k3] at h0; simp at h0
theorem decF_err (b : List UInt8) : (decF b).2.2.2 = 0 ∨ decF b = (false, 0, [], 70) := by
  cases b with
  | nil => exact .inr rfl
  | cons c r =>
    rw [decF_cons]
    split
    · split
      · exact .inl rfl
      · exact .inr rfl
    · split
      · split
        · exact .inl rfl
        · exact .inr rfl
      · split
        · exact .inr rfl
        · split
          · exact .inr rfl
          · exact .inl rfl
theorem decF_no {b : List UInt8} (h : ¬ (decF b).2.2.2 = 0) : decF b = (false, 0, [], 70) := (decF_err b).resolve_left h
theorem decF_len (b : List UInt8) : (decF b).2.2.1.length ≤ b.length := by
  cases b with
  | nil => exact Nat.le_refl _
  | cons c r =>
    rw [decF_cons]
    split
    · split <;> simp
    · split
      · split <;> simp
      · split
        · simp
        · split
          · simp
          · simp only [List.length_drop, List.length_cons]; omega
theorem enc_dec {b : List UInt8} (h0 : (decF b).2.2.2 = 0) : encF (decF b).1 (decF b).2.1 (decF b).2.2.1 = (b, 0) := by
  cases b with
  | nil => exact absurd h0 (by decide)
  | cons c r =>
    have hc := c.toNat_lt
    rw [decF_cons] at h0 ⊢
    by_cases c0 : c.toNat = 0
    · rw [if_pos c0] at h0 ⊢
      by_cases r0 : r.length = 0
      · rw [if_pos r0]
        obtain rfl := List.length_eq_zero_iff.1 r0
        obtain rfl : c = 0 := UInt8.toNat_inj.1 c0
        rfl
      · rw [if_neg r0] at h0; simp at h0
    · rw [if_neg c0] at h0 ⊢
      by_cases c1 : c.toNat = 255
      · rw [if_pos c1] at h0 ⊢
        by_cases r0 : r.length = 0
        · rw [if_pos r0]
          obtain rfl := List.length_eq_zero_iff.1 r0
          obtain rfl : c = 255 := UInt8.toNat_inj.1 c1
          rfl
        · rw [if_neg r0] at h0; simp at h0
      · rw [if_neg c1] at h0 ⊢
        by_cases c8 : 8 < c.toNat
        · rw [if_pos c8] at h0; simp at h0
        · rw [if_neg c8] at h0 ⊢
          by_cases g : ¬ (get r).2.2 = 0 ∨ (get r).1 < 1 ∨ 4096 < (get r).1 ∨ ¬ r.length = (get r).2.1 + (get r).1
          · rw [if_pos g] at h0; simp at h0
          · rw [if_neg g]
            have g0 : (get r).2.2 = 0 := by omega
            have go := get_ok g0
            have hl : (r.drop (get r).2.1).length = (get r).1 := by rw [List.length_drop]; omega
            rw [encF_3 (fk_bits (by simp only [hl]; omega))]
            simp only [hl, Int.toNat_natCast, go.2.2, List.take_append_drop]
            rw [show c.toNat.toUInt8 = c by simp]
structure Fil where
  a : Bool
  h : Int
  v : Value
  d : List UInt8
def Fil.ok (f : Fil) (w : World) : Prop := RdE byteV w f.v f.d ∧ f.d.length ≤ 140737488351232 ∧ inK .i64 f.h
def filC (f : Fil) : List Value := [.bool f.a, .int .i64 f.h, f.v]

/-- winnowlaw7.works -/
theorem works_ok (w : World) : Calls Try.prog 29 [].toArray w (Rt fun r w' => r = .bool true ∧ Upd [] w w') := by
  have hM0 : Mem w [] w [] := Mem.nil w []
  have hp : inK .i64 8 := by simp only [inK]; omega
  have hk1 : ∀ k ∈ ([[97]] : List (List UInt8)), k.length ≤ 9223372036854775000 := by decide
  have hk2 : ∀ k ∈ ([] : List (List UInt8)), k.length ≤ 9223372036854775000 := by decide
  have e1 : (buildF [[97]] 8).2.2.2 = 0 := by decide +kernel
  have e2 : (buildF [] 8).2.2.2 = 0 := by decide +kernel
  have e3 : hasF (buildF [[97]] 8).1 (buildF [[97]] 8).2.1 (buildF [[97]] 8).2.2.1 [97] = true := by decide +kernel
  have e4 : hasF (buildF [] 8).1 (buildF [] 8).2.1 (buildF [] 8).2.2.1 [97] = false := by decide +kernel
  have e5 : (buildF [[97]] 8).2.2.1.length = 1 := by decide +kernel
  have hb2 := buildF_hs (l := [[97]]) (p := 8)
  have hb3 := buildF_hs (l := []) (p := 8)
  have hb4 := buildF_len (l := []) (p := 8)
  refine calls_vc mixed Try.func29 rfl C29 (by simp [Try.ntmps29]) ?_
  refine seq fun K1 h1 => ?_
  refine stp (v := .bool false) (o_mv rfl) ?_
  refine h1 _ _ ?_
  clear h1
  refine seq fun K2 h2 => ?_
  refine m_bs hM0 rfl fun b3 w4 (hM4 : Mem w [] w4 [[⟨b3, 9, [.string (str ([97]))]⟩]]) => ?_
  refine m_call (Build_ok _ ([[97]]) 8 w4 (own_rdE (E := strV) (l := [[97]]) (hM4.at (i := 0) (j := 0) rfl rfl) rfl) (by first | exact hk1 | exact hk2) (by first | omega | (simp; omega) | (simp; done)) hp) rfl fun v5 w5 ⟨vd5, rs5, hr5, hs5, hm5⟩ => ?_
  have hM5 : Mem w [] w5 [[⟨b3, 9, [.string (str ([97]))]⟩], rs5] := hM4.add hm5
  obtain ⟨av5, lv5, cv5, rfl⟩ := hs5.isSlice
  subst hr5
  refine stp (v := .tuple [.agg ([.bool ((buildF ([[97]]) 8).1), .int .i64 ((buildF ([[97]]) 8).2.1), (.slice av5 lv5 cv5)] : List Value).toArray, .int .i64 ((buildF ([[97]]) 8).2.2.2)].toArray) (o_mv rfl) ?_
  refine stp (v := .agg ([.bool ((buildF ([[97]]) 8).1), .int .i64 ((buildF ([[97]]) 8).2.1), (.slice av5 lv5 cv5)] : List Value).toArray) (o_ext rfl rfl) ?_
  refine stp (v := .int .i64 ((buildF ([[97]]) 8).2.2.2)) (o_ext rfl rfl) ?_
  refine m_al hM5 fun b6 w7 (hM7 : Mem w [] w7 [[⟨b3, 9, [.string (str ([97]))]⟩], rs5, [⟨b6, 30, [.bool false, .int .i64 0, .slice none 0 0]⟩]]) => ?_
  refine m_stA (l := [.bool ((buildF ([[97]]) 8).1), .int .i64 ((buildF ([[97]]) 8).2.1), (.slice av5 lv5 cv5)]) hM7 (i := 2) rfl rfl rfl rfl (by simp [oneCells, Value.oneCell', byteV]) (by simp) fun w8 (hM8 : Mem w [] w8 [[⟨b3, 9, [.string (str ([97]))]⟩], rs5, [⟨b6, 30, [.bool ((buildF ([[97]]) 8).1), .int .i64 ((buildF ([[97]]) 8).2.1), (.slice av5 lv5 cv5)]⟩]]) => ?_
  refine stp (v := .int .i64 ((buildF ([[97]]) 8).2.2.2)) (o_mv rfl) ?_
  refine h2 _ _ ?_
  clear h2
  refine seq fun K9 h9 => ?_
  refine m_call (Build_ok _ ([]) 8 w8 (Rd.nilE strV _) (by first | exact hk1 | exact hk2) (by first | omega | (simp; omega) | (simp; done)) hp) rfl fun v10 w10 ⟨vd10, rs10, hr10, hs10, hm10⟩ => ?_
  have hM10 : Mem w [] w10 [[⟨b3, 9, [.string (str ([97]))]⟩], rs5, [⟨b6, 30, [.bool ((buildF ([[97]]) 8).1), .int .i64 ((buildF ([[97]]) 8).2.1), (.slice av5 lv5 cv5)]⟩], rs10] := hM8.add hm10
  obtain ⟨av10, lv10, cv10, rfl⟩ := hs10.isSlice
  subst hr10
  refine stp (v := .tuple [.agg ([.bool ((buildF ([]) 8).1), .int .i64 ((buildF ([]) 8).2.1), (.slice av10 lv10 cv10)] : List Value).toArray, .int .i64 ((buildF ([]) 8).2.2.2)].toArray) (o_mv rfl) ?_
  refine stp (v := .agg ([.bool ((buildF ([]) 8).1), .int .i64 ((buildF ([]) 8).2.1), (.slice av10 lv10 cv10)] : List Value).toArray) (o_ext rfl rfl) ?_
  refine stp (v := .int .i64 ((buildF ([]) 8).2.2.2)) (o_ext rfl rfl) ?_
  refine m_al hM10 fun b11 w12 (hM12 : Mem w [] w12 [[⟨b3, 9, [.string (str ([97]))]⟩], rs5, [⟨b6, 30, [.bool ((buildF ([[97]]) 8).1), .int .i64 ((buildF ([[97]]) 8).2.1), (.slice av5 lv5 cv5)]⟩], rs10, [⟨b11, 30, [.bool false, .int .i64 0, .slice none 0 0]⟩]]) => ?_
  refine m_stA (l := [.bool ((buildF ([]) 8).1), .int .i64 ((buildF ([]) 8).2.1), (.slice av10 lv10 cv10)]) hM12 (i := 4) rfl rfl rfl rfl (by simp [oneCells, Value.oneCell', byteV]) (by simp) fun w13 (hM13 : Mem w [] w13 [[⟨b3, 9, [.string (str ([97]))]⟩], rs5, [⟨b6, 30, [.bool ((buildF ([[97]]) 8).1), .int .i64 ((buildF ([[97]]) 8).2.1), (.slice av5 lv5 cv5)]⟩], rs10, [⟨b11, 30, [.bool ((buildF ([]) 8).1), .int .i64 ((buildF ([]) 8).2.1), (.slice av10 lv10 cv10)]⟩]]) => ?_
  refine stp (v := .int .i64 ((buildF ([]) 8).2.2.2)) (o_mv rfl) ?_
  refine h9 _ _ ?_
  clear h9
  refine seq fun K14 h14 => ?_
  refine stp (v := .int .i64 ((buildF ([[97]]) 8).2.2.2)) (o_mv rfl) ?_
  refine stp (v := .bool (decide (((buildF ([[97]]) 8).2.2.2) = 0))) (o_bin rfl rfl rfl) ?_
  refine stp (v := .bool (decide (((buildF ([[97]]) 8).2.2.2) = 0))) (o_mv rfl) ?_
  refine splitP rfl (fun c15 => ?_) (fun c15 => (c15 (e1)).elim)
  refine stg rfl (v := .int .i64 ((buildF ([]) 8).2.2.2)) (o_mv rfl) ?_
  refine stg rfl (v := .bool (decide (((buildF ([]) 8).2.2.2) = 0))) (o_bin rfl rfl rfl) ?_
  refine stp (v := .bool (decide (((buildF ([]) 8).2.2.2) = 0))) (o_pickT rfl rfl) ?_
  refine stp (v := .bool (decide (((buildF ([]) 8).2.2.2) = 0))) (o_mv rfl) ?_
  refine splitP rfl (fun c16 => ?_) (fun c16 => (c16 (e2)).elim)
  refine gyesl rfl ?_
  refine m_ldA (l := [.bool ((buildF ([[97]]) 8).1), .int .i64 ((buildF ([[97]]) 8).2.1), (.slice av5 lv5 cv5)]) hM13 (i := 2) (j := 0) rfl rfl rfl rfl rfl ?_
  refine gyesl rfl ?_
  refine m_call (Has_ok (buildF ([[97]]) 8).1 ((buildF ([[97]]) 8).2.1) _ ((buildF ([[97]]) 8).2.2.1) ([97]) w13 (hs5.rd hM13 (i := 1) rfl) (by first | omega | (simp; done) | (simp; omega)) (by first | omega | (simp; done) | (simp; omega)) (by first | assumption | omega)) rfl fun v17 w17 ⟨hr17, hu17⟩ => ?_
  have hM17 : Mem w [] w17 [[⟨b3, 9, [.string (str ([97]))]⟩], rs5, [⟨b6, 30, [.bool ((buildF ([[97]]) 8).1), .int .i64 ((buildF ([[97]]) 8).2.1), (.slice av5 lv5 cv5)]⟩], rs10, [⟨b11, 30, [.bool ((buildF ([]) 8).1), .int .i64 ((buildF ([]) 8).2.1), (.slice av10 lv10 cv10)]⟩]] := hM13.pure hu17
  subst hr17
  refine stp (v := .bool (hasF (buildF ([[97]]) 8).1 ((buildF ([[97]]) 8).2.1) ((buildF ([[97]]) 8).2.2.1) ([97]))) (o_pickT rfl rfl) ?_
  refine stp (v := .bool (hasF (buildF ([[97]]) 8).1 ((buildF ([[97]]) 8).2.1) ((buildF ([[97]]) 8).2.2.1) ([97]))) (o_mv rfl) ?_
  refine split rfl (fun c18 => ?_) (fun c18 => absurd ((show (hasF (buildF ([[97]]) 8).1 ((buildF ([[97]]) 8).2.1) ((buildF ([[97]]) 8).2.2.1) ([97])) = true from (e3)).symm.trans c18) (by decide))
  refine gyesl rfl ?_
  refine m_ldA (l := [.bool ((buildF ([]) 8).1), .int .i64 ((buildF ([]) 8).2.1), (.slice av10 lv10 cv10)]) hM17 (i := 4) (j := 0) rfl rfl rfl rfl rfl ?_
  refine gyesl rfl ?_
  refine m_call (Has_ok (buildF ([]) 8).1 ((buildF ([]) 8).2.1) _ ((buildF ([]) 8).2.2.1) ([97]) w17 (hs10.rd hM17 (i := 3) rfl) (by first | omega | (simp; done) | (simp; omega)) (by first | omega | (simp; done) | (simp; omega)) (by first | assumption | omega)) rfl fun v19 w19 ⟨hr19, hu19⟩ => ?_
  have hM19 : Mem w [] w19 [[⟨b3, 9, [.string (str ([97]))]⟩], rs5, [⟨b6, 30, [.bool ((buildF ([[97]]) 8).1), .int .i64 ((buildF ([[97]]) 8).2.1), (.slice av5 lv5 cv5)]⟩], rs10, [⟨b11, 30, [.bool ((buildF ([]) 8).1), .int .i64 ((buildF ([]) 8).2.1), (.slice av10 lv10 cv10)]⟩]] := hM17.pure hu19
  subst hr19
  refine stg rfl (v := .bool (!(hasF (buildF ([]) 8).1 ((buildF ([]) 8).2.1) ((buildF ([]) 8).2.2.1) ([97])))) (o_not rfl rfl) ?_
  refine stp (v := .bool (!(hasF (buildF ([]) 8).1 ((buildF ([]) 8).2.1) ((buildF ([]) 8).2.2.1) ([97])))) (o_pickT rfl rfl) ?_
  refine stp (v := .bool (!(hasF (buildF ([]) 8).1 ((buildF ([]) 8).2.1) ((buildF ([]) 8).2.2.1) ([97])))) (o_mv rfl) ?_
  refine split rfl (fun c20 => ?_) (fun c20 => absurd ((show (!(hasF (buildF ([]) 8).1 ((buildF ([]) 8).2.1) ((buildF ([]) 8).2.2.1) ([97]))) = true from (by rw [e4]; rfl)).symm.trans c20) (by decide))
  refine stg rfl (v := .pointer (some ⟨b6, 2, none⟩)) (o_fa rfl rfl) ?_
  refine gyesl rfl ?_
  refine m_ld (v := (.slice av5 lv5 cv5)) hM19 (i := 2) (j := 0) rfl rfl rfl rfl ?_
  refine stg rfl (v := .int .i64 (((buildF ([[97]]) 8).2.2.1).length : Nat)) (o_lenR (hs5.rd hM19 (i := 1) rfl) rfl rfl) ?_
  refine stg rfl (v := .bool true) (o_bin rfl rfl (by rw [e5]; rfl)) ?_
  refine stp (v := .bool true) (o_pickT rfl rfl) ?_
  refine stp (v := .bool true) (o_mv rfl) ?_
  refine h14 _ _ ?_
  clear h14
  refine ⟨(.bool true), rfl, ?_⟩
  exact ⟨rfl, hM19.upd⟩

/-- winnowlaw7.FilterRound -/
theorem FilterRound_ok (fl : Fil) (x : Value) (b : List UInt8) (w : World) (hf : fl.ok w) (hx : RdE byteV w x b) (hl : b.length ≤ 140737488351232) : Calls Try.prog 6 [.agg (filC fl).toArray, x].toArray w (Rt fun r w' => r = .bool true ∧ Upd [] w w') := by
  have hM0 : Mem w [] w [] := Mem.nil w []
  obtain ⟨hd0, hdl, hh0⟩ := hf
  have hel := encF_len fl.a fl.h fl.d
  have hdl2 := decF_len b
  have hdl3 := decF_len (encF fl.a fl.h fl.d).1
  have hel2 := encF_len (decF b).1 (decF b).2.1 (decF b).2.2.1
  refine calls_vc mixed Try.func6 rfl C6 (by simp [Try.ntmps6]) ?_
  refine seq fun K1 h1 => ?_
  refine m_bx (v := .agg ([.bool fl.a, .int .i64 fl.h, fl.v] : List Value).toArray) hM0 rfl rfl fun b2 w3 (hM3 : Mem w [] w3 [[⟨b2, 30, [.bool fl.a, .int .i64 fl.h, fl.v]⟩]]) => ?_
  refine stp (v := .bool false) (o_mv rfl) ?_
  refine h1 _ _ ?_
  clear h1
  refine seq fun K4 h4 => ?_
  refine m_ldA (l := [.bool fl.a, .int .i64 fl.h, fl.v]) hM3 (i := 0) (j := 0) rfl rfl rfl rfl rfl ?_
  refine m_call (Encode_ok fl.a fl.h _ fl.d w3 (hd0.upd hM3.upd) (by first | omega | (simp; done) | (simp; omega))) rfl fun v5 w5 ⟨v5_, rs5, hr5, hs5, hm5⟩ => ?_
  have hM5 : Mem w [] w5 [[⟨b2, 30, [.bool fl.a, .int .i64 fl.h, fl.v]⟩], rs5] := hM3.add hm5
  subst hr5
  refine stp (v := .tuple [v5_, .int .i64 ((encF fl.a fl.h fl.d).2)].toArray) (o_mv rfl) ?_
  refine stp (v := v5_) (o_ext rfl rfl) ?_
  refine stp (v := .int .i64 ((encF fl.a fl.h fl.d).2)) (o_ext rfl rfl) ?_
  refine stp (v := v5_) (o_mv rfl) ?_
  refine stp (v := .int .i64 ((encF fl.a fl.h fl.d).2)) (o_mv rfl) ?_
  refine h4 _ _ ?_
  clear h4
  refine seq fun K6 h6 => ?_
  refine seq fun K7 h7 => ?_
  refine stp (v := .int .i64 ((encF fl.a fl.h fl.d).2)) (o_mv rfl) ?_
  refine stp (v := .bool (decide (((encF fl.a fl.h fl.d).2) = 0))) (o_bin rfl rfl rfl) ?_
  refine h7 _ _ ?_
  clear h7
  refine cndP rfl (fun c8 => ?_) (fun c8 => ?_)
  ·
    refine seq fun K9 h9 => ?_
    refine stp (v := v5_) (o_mv rfl) ?_
    have hde := dec_enc (a := fl.a) (h := fl.h) (d := fl.d) (by omega)
    refine m_call (Decode_ok _ ((encF fl.a fl.h fl.d).1) w5 (hs5.rd hM5 (i := 1) rfl) (by first | omega | (simp; done) | (simp; omega))) rfl fun v10 w10 ⟨vd10, rs10, hr10, hs10, hm10⟩ => ?_
    have hM10 : Mem w [] w10 [[⟨b2, 30, [.bool fl.a, .int .i64 fl.h, fl.v]⟩], rs5, rs10] := hM5.add hm10
    obtain ⟨av10, lv10, cv10, rfl⟩ := hs10.isSlice
    subst hr10
    refine stp (v := .tuple [.agg ([.bool ((decF ((encF fl.a fl.h fl.d).1)).1), .int .i64 ((decF ((encF fl.a fl.h fl.d).1)).2.1), (.slice av10 lv10 cv10)] : List Value).toArray, .int .i64 ((decF ((encF fl.a fl.h fl.d).1)).2.2.2)].toArray) (o_mv rfl) ?_
    refine stp (v := .agg ([.bool ((decF ((encF fl.a fl.h fl.d).1)).1), .int .i64 ((decF ((encF fl.a fl.h fl.d).1)).2.1), (.slice av10 lv10 cv10)] : List Value).toArray) (o_ext rfl rfl) ?_
    refine stp (v := .int .i64 ((decF ((encF fl.a fl.h fl.d).1)).2.2.2)) (o_ext rfl rfl) ?_
    refine m_al hM10 fun b11 w12 (hM12 : Mem w [] w12 [[⟨b2, 30, [.bool fl.a, .int .i64 fl.h, fl.v]⟩], rs5, rs10, [⟨b11, 30, [.bool false, .int .i64 0, .slice none 0 0]⟩]]) => ?_
    refine m_stA (l := [.bool ((decF ((encF fl.a fl.h fl.d).1)).1), .int .i64 ((decF ((encF fl.a fl.h fl.d).1)).2.1), (.slice av10 lv10 cv10)]) hM12 (i := 3) rfl rfl rfl rfl (by simp [oneCells, Value.oneCell', byteV]) (by simp) fun w13 (hM13 : Mem w [] w13 [[⟨b2, 30, [.bool fl.a, .int .i64 fl.h, fl.v]⟩], rs5, rs10, [⟨b11, 30, [.bool ((decF ((encF fl.a fl.h fl.d).1)).1), .int .i64 ((decF ((encF fl.a fl.h fl.d).1)).2.1), (.slice av10 lv10 cv10)]⟩]]) => ?_
    refine stp (v := .int .i64 ((decF ((encF fl.a fl.h fl.d).1)).2.2.2)) (o_mv rfl) ?_
    refine h9 _ _ ?_
    clear h9
    refine seq fun K14 h14 => ?_
    refine stp (v := .int .i64 ((decF ((encF fl.a fl.h fl.d).1)).2.2.2)) (o_mv rfl) ?_
    refine stp (v := .bool (decide (¬ ((decF ((encF fl.a fl.h fl.d).1)).2.2.2) = 0))) (o_bin rfl rfl v_neq) ?_
    refine stp (v := .bool (decide (¬ ((decF ((encF fl.a fl.h fl.d).1)).2.2.2) = 0))) (o_mv rfl) ?_
    refine splitP rfl (fun c15 => absurd c15 (by rw [hde]; simp)) (fun c15 => ?_)
    refine gyesl rfl ?_
    refine m_ldA (l := [.bool ((decF ((encF fl.a fl.h fl.d).1)).1), .int .i64 ((decF ((encF fl.a fl.h fl.d).1)).2.1), (.slice av10 lv10 cv10)]) hM13 (i := 3) (j := 0) rfl rfl rfl rfl rfl ?_
    refine gyesl rfl ?_
    refine m_ldA (l := [.bool fl.a, .int .i64 fl.h, fl.v]) hM13 (i := 0) (j := 0) rfl rfl rfl rfl rfl ?_
    refine gyesl rfl ?_
    refine m_call (alike_ok ((decF ((encF fl.a fl.h fl.d).1)).1) fl.a ((decF ((encF fl.a fl.h fl.d).1)).2.1) fl.h _ _ ((decF ((encF fl.a fl.h fl.d).1)).2.2.1) fl.d w13 (hs10.rd hM13 (i := 2) rfl) (hd0.upd hM13.upd) (by first | omega | (simp; done) | (simp; omega))) rfl fun v16 w16 ⟨hr16, hu16⟩ => ?_
    have hM16 : Mem w [] w16 [[⟨b2, 30, [.bool fl.a, .int .i64 fl.h, fl.v]⟩], rs5, rs10, [⟨b11, 30, [.bool ((decF ((encF fl.a fl.h fl.d).1)).1), .int .i64 ((decF ((encF fl.a fl.h fl.d).1)).2.1), (.slice av10 lv10 cv10)]⟩]] := hM13.pure hu16
    subst hr16
    refine stg rfl (v := .bool (!(alikeF ((decF ((encF fl.a fl.h fl.d).1)).1) ((decF ((encF fl.a fl.h fl.d).1)).2.1) ((decF ((encF fl.a fl.h fl.d).1)).2.2.1) fl.a fl.h fl.d))) (o_not rfl rfl) ?_
    refine stp (v := .bool (!(alikeF ((decF ((encF fl.a fl.h fl.d).1)).1) ((decF ((encF fl.a fl.h fl.d).1)).2.1) ((decF ((encF fl.a fl.h fl.d).1)).2.2.1) fl.a fl.h fl.d))) (o_pickF rfl rfl) ?_
    refine stp (v := .bool (!(alikeF ((decF ((encF fl.a fl.h fl.d).1)).1) ((decF ((encF fl.a fl.h fl.d).1)).2.1) ((decF ((encF fl.a fl.h fl.d).1)).2.2.1) fl.a fl.h fl.d))) (o_mv rfl) ?_
    refine split rfl (fun c17 => absurd c17 (show ¬ (!(alikeF ((decF ((encF fl.a fl.h fl.d).1)).1) ((decF ((encF fl.a fl.h fl.d).1)).2.1) ((decF ((encF fl.a fl.h fl.d).1)).2.2.1) fl.a fl.h fl.d)) = true from (by rw [hde, alikeF_self]; simp))) (fun c17 => ?_)
    refine stg rfl (v := v5_) (o_mv rfl) ?_
    refine stg rfl (v := .int .i64 (((encF fl.a fl.h fl.d).1).length : Nat)) (o_lenR (hs5.rd hM16 (i := 1) rfl) rfl rfl) ?_
    refine stg rfl (v := .bool (decide ((4099 : Int) < ((((encF fl.a fl.h fl.d).1).length : Nat) : Int)))) (o_bin rfl rfl rfl) ?_
    refine stp (v := .bool (decide ((4099 : Int) < ((((encF fl.a fl.h fl.d).1).length : Nat) : Int)))) (o_pickF rfl rfl) ?_
    refine h14 _ _ ?_
    clear h14
    refine cndP rfl (fun c18 => absurd c18 (by omega)) (fun c18 => ?_)
    refine h6 _ _ ?_
    clear h6
    refine seq fun K19 h19 => ?_
    refine stp (v := x) (o_mv rfl) ?_
    refine m_call (Decode_ok _ b w16 (hx.upd hM16.upd) (by first | omega | (simp; done) | (simp; omega))) rfl fun v20 w20 ⟨vd20, rs20, hr20, hs20, hm20⟩ => ?_
    have hM20 : Mem w [] w20 [[⟨b2, 30, [.bool fl.a, .int .i64 fl.h, fl.v]⟩], rs5, rs10, [⟨b11, 30, [.bool ((decF ((encF fl.a fl.h fl.d).1)).1), .int .i64 ((decF ((encF fl.a fl.h fl.d).1)).2.1), (.slice av10 lv10 cv10)]⟩], rs20] := hM16.add hm20
    obtain ⟨av20, lv20, cv20, rfl⟩ := hs20.isSlice
    subst hr20
    refine stp (v := .tuple [.agg ([.bool ((decF b).1), .int .i64 ((decF b).2.1), (.slice av20 lv20 cv20)] : List Value).toArray, .int .i64 ((decF b).2.2.2)].toArray) (o_mv rfl) ?_
    refine stp (v := .agg ([.bool ((decF b).1), .int .i64 ((decF b).2.1), (.slice av20 lv20 cv20)] : List Value).toArray) (o_ext rfl rfl) ?_
    refine stp (v := .int .i64 ((decF b).2.2.2)) (o_ext rfl rfl) ?_
    refine m_al hM20 fun b21 w22 (hM22 : Mem w [] w22 [[⟨b2, 30, [.bool fl.a, .int .i64 fl.h, fl.v]⟩], rs5, rs10, [⟨b11, 30, [.bool ((decF ((encF fl.a fl.h fl.d).1)).1), .int .i64 ((decF ((encF fl.a fl.h fl.d).1)).2.1), (.slice av10 lv10 cv10)]⟩], rs20, [⟨b21, 30, [.bool false, .int .i64 0, .slice none 0 0]⟩]]) => ?_
    refine m_stA (l := [.bool ((decF b).1), .int .i64 ((decF b).2.1), (.slice av20 lv20 cv20)]) hM22 (i := 5) rfl rfl rfl rfl (by simp [oneCells, Value.oneCell', byteV]) (by simp) fun w23 (hM23 : Mem w [] w23 [[⟨b2, 30, [.bool fl.a, .int .i64 fl.h, fl.v]⟩], rs5, rs10, [⟨b11, 30, [.bool ((decF ((encF fl.a fl.h fl.d).1)).1), .int .i64 ((decF ((encF fl.a fl.h fl.d).1)).2.1), (.slice av10 lv10 cv10)]⟩], rs20, [⟨b21, 30, [.bool ((decF b).1), .int .i64 ((decF b).2.1), (.slice av20 lv20 cv20)]⟩]]) => ?_
    refine stp (v := .int .i64 ((decF b).2.2.2)) (o_mv rfl) ?_
    refine h19 _ _ ?_
    clear h19
    refine seq fun K24 h24 => ?_
    refine seq fun K25 h25 => ?_
    refine stp (v := .int .i64 ((decF b).2.2.2)) (o_mv rfl) ?_
    refine stp (v := .bool (decide (¬ ((decF b).2.2.2) = 0))) (o_bin rfl rfl v_neq) ?_
    refine h25 _ _ ?_
    clear h25
    refine cndP rfl (fun c26 => ?_) (fun c26 => ?_)
    ·
      refine seq fun K27 h27 => ?_
      refine stp (v := .int .i64 ((decF b).2.2.2)) (o_mv rfl) ?_
      refine stp (v := .bool (decide (((decF b).2.2.2) = 70))) (o_bin rfl rfl rfl) ?_
      refine stp (v := .bool (decide (((decF b).2.2.2) = 70))) (o_mv rfl) ?_
      refine splitP rfl (fun c28 => ?_) (fun c28 => (c28 (by rw [decF_no (by omega)])).elim)
      refine gyesl rfl ?_
      refine m_ldA (l := [.bool ((decF b).1), .int .i64 ((decF b).2.1), (.slice av20 lv20 cv20)]) hM23 (i := 5) (j := 0) rfl rfl rfl rfl rfl ?_
      refine stg rfl (v := .agg ([.bool false, .int .i64 0, .slice none 0 0] : List Value).toArray) (o_bld rfl rfl) ?_
      refine gyesl rfl ?_
      refine m_call (alike_ok ((decF b).1) false ((decF b).2.1) 0 _ _ ((decF b).2.2.1) ([]) w23 (hs20.rd hM23 (i := 4) rfl) (Rd.nilE byteV _) (by first | omega | (simp; done) | (simp; omega))) rfl fun v29 w29 ⟨hr29, hu29⟩ => ?_
      have hM29 : Mem w [] w29 [[⟨b2, 30, [.bool fl.a, .int .i64 fl.h, fl.v]⟩], rs5, rs10, [⟨b11, 30, [.bool ((decF ((encF fl.a fl.h fl.d).1)).1), .int .i64 ((decF ((encF fl.a fl.h fl.d).1)).2.1), (.slice av10 lv10 cv10)]⟩], rs20, [⟨b21, 30, [.bool ((decF b).1), .int .i64 ((decF b).2.1), (.slice av20 lv20 cv20)]⟩]] := hM23.pure hu29
      subst hr29
      refine stp (v := .bool (alikeF ((decF b).1) ((decF b).2.1) ((decF b).2.2.1) false 0 ([]))) (o_pickT rfl rfl) ?_
      refine stp (v := .bool (alikeF ((decF b).1) ((decF b).2.1) ((decF b).2.2.1) false 0 ([]))) (o_mv rfl) ?_
      refine split rfl (fun c30 => ?_) (fun c30 => absurd ((show (alikeF ((decF b).1) ((decF b).2.1) ((decF b).2.2.1) false 0 ([])) = true from (by rw [decF_no (by omega)]; rfl)).symm.trans c30) (by decide))
      refine gyesl rfl ?_
      refine m_call (works_ok w29) rfl fun v31 w31 ⟨hr31, hu31⟩ => ?_
      have hM31 : Mem w [] w31 [[⟨b2, 30, [.bool fl.a, .int .i64 fl.h, fl.v]⟩], rs5, rs10, [⟨b11, 30, [.bool ((decF ((encF fl.a fl.h fl.d).1)).1), .int .i64 ((decF ((encF fl.a fl.h fl.d).1)).2.1), (.slice av10 lv10 cv10)]⟩], rs20, [⟨b21, 30, [.bool ((decF b).1), .int .i64 ((decF b).2.1), (.slice av20 lv20 cv20)]⟩]] := hM29.pure hu31
      subst hr31
      refine stp (v := .bool true) (o_pickT rfl rfl) ?_
      refine stp (v := .bool true) (o_mv rfl) ?_
      refine h27 _ _ ?_
      clear h27
      refine ⟨(.bool true), rfl, ?_⟩
      exact ⟨rfl, hM31.upd⟩
    ·
      refine h24 _ _ ?_
      clear h24
      refine seq fun K32 h32 => ?_
      refine m_ldA (l := [.bool ((decF b).1), .int .i64 ((decF b).2.1), (.slice av20 lv20 cv20)]) hM23 (i := 5) (j := 0) rfl rfl rfl rfl rfl ?_
      refine m_call (Encode_ok ((decF b).1) ((decF b).2.1) _ ((decF b).2.2.1) w23 (hs20.rd hM23 (i := 4) rfl) (by first | omega | (simp; done) | (simp; omega))) rfl fun v33 w33 ⟨v33_, rs33, hr33, hs33, hm33⟩ => ?_
      have hM33 : Mem w [] w33 [[⟨b2, 30, [.bool fl.a, .int .i64 fl.h, fl.v]⟩], rs5, rs10, [⟨b11, 30, [.bool ((decF ((encF fl.a fl.h fl.d).1)).1), .int .i64 ((decF ((encF fl.a fl.h fl.d).1)).2.1), (.slice av10 lv10 cv10)]⟩], rs20, [⟨b21, 30, [.bool ((decF b).1), .int .i64 ((decF b).2.1), (.slice av20 lv20 cv20)]⟩], rs33] := hM23.add hm33
      subst hr33
      refine stp (v := .tuple [v33_, .int .i64 ((encF ((decF b).1) ((decF b).2.1) ((decF b).2.2.1)).2)].toArray) (o_mv rfl) ?_
      refine stp (v := v33_) (o_ext rfl rfl) ?_
      refine stp (v := .int .i64 ((encF ((decF b).1) ((decF b).2.1) ((decF b).2.2.1)).2)) (o_ext rfl rfl) ?_
      refine stp (v := v33_) (o_mv rfl) ?_
      refine stp (v := .int .i64 ((encF ((decF b).1) ((decF b).2.1) ((decF b).2.2.1)).2)) (o_mv rfl) ?_
      refine h32 _ _ ?_
      clear h32
      refine seq fun K34 h34 => ?_
      refine stp (v := .int .i64 ((encF ((decF b).1) ((decF b).2.1) ((decF b).2.2.1)).2)) (o_mv rfl) ?_
      refine stp (v := .bool (decide (((encF ((decF b).1) ((decF b).2.1) ((decF b).2.2.1)).2) = 0))) (o_bin rfl rfl rfl) ?_
      refine stp (v := .bool (decide (((encF ((decF b).1) ((decF b).2.1) ((decF b).2.2.1)).2) = 0))) (o_mv rfl) ?_
      refine splitP rfl (fun c35 => ?_) (fun c35 => (c35 (by rw [enc_dec (by omega)])).elim)
      refine stg rfl (v := v33_) (o_mv rfl) ?_
      refine stg rfl (v := x) (o_mv rfl) ?_
      refine gyesl rfl ?_
      refine m_call (same_ok _ _ ((encF ((decF b).1) ((decF b).2.1) ((decF b).2.2.1)).1) b w33 (hs33.rd hM33 (i := 6) rfl) (hx.upd hM33.upd) (by first | omega | (simp; done) | (simp; omega))) rfl fun v36 w36 ⟨hr36, hu36⟩ => ?_
      have hM36 : Mem w [] w36 [[⟨b2, 30, [.bool fl.a, .int .i64 fl.h, fl.v]⟩], rs5, rs10, [⟨b11, 30, [.bool ((decF ((encF fl.a fl.h fl.d).1)).1), .int .i64 ((decF ((encF fl.a fl.h fl.d).1)).2.1), (.slice av10 lv10 cv10)]⟩], rs20, [⟨b21, 30, [.bool ((decF b).1), .int .i64 ((decF b).2.1), (.slice av20 lv20 cv20)]⟩], rs33] := hM33.pure hu36
      subst hr36
      refine stp (v := .bool (decide (((encF ((decF b).1) ((decF b).2.1) ((decF b).2.2.1)).1) = b))) (o_pickT rfl rfl) ?_
      refine stp (v := .bool (decide (((encF ((decF b).1) ((decF b).2.1) ((decF b).2.2.1)).1) = b))) (o_mv rfl) ?_
      refine splitP rfl (fun c37 => ?_) (fun c37 => (c37 (by rw [enc_dec (by omega)])).elim)
      refine gyesl rfl ?_
      refine m_call (works_ok w36) rfl fun v38 w38 ⟨hr38, hu38⟩ => ?_
      have hM38 : Mem w [] w38 [[⟨b2, 30, [.bool fl.a, .int .i64 fl.h, fl.v]⟩], rs5, rs10, [⟨b11, 30, [.bool ((decF ((encF fl.a fl.h fl.d).1)).1), .int .i64 ((decF ((encF fl.a fl.h fl.d).1)).2.1), (.slice av10 lv10 cv10)]⟩], rs20, [⟨b21, 30, [.bool ((decF b).1), .int .i64 ((decF b).2.1), (.slice av20 lv20 cv20)]⟩], rs33] := hM36.pure hu38
      subst hr38
      refine stp (v := .bool true) (o_pickT rfl rfl) ?_
      refine stp (v := .bool true) (o_mv rfl) ?_
      refine h34 _ _ ?_
      clear h34
      refine ⟨(.bool true), rfl, ?_⟩
      exact ⟨rfl, hM38.upd⟩
  ·
    refine h6 _ _ ?_
    clear h6
    refine seq fun K39 h39 => ?_
    refine stp (v := x) (o_mv rfl) ?_
    refine m_call (Decode_ok _ b w5 (hx.upd hM5.upd) (by first | omega | (simp; done) | (simp; omega))) rfl fun v40 w40 ⟨vd40, rs40, hr40, hs40, hm40⟩ => ?_
    have hM40 : Mem w [] w40 [[⟨b2, 30, [.bool fl.a, .int .i64 fl.h, fl.v]⟩], rs5, rs40] := hM5.add hm40
    obtain ⟨av40, lv40, cv40, rfl⟩ := hs40.isSlice
    subst hr40
    refine stp (v := .tuple [.agg ([.bool ((decF b).1), .int .i64 ((decF b).2.1), (.slice av40 lv40 cv40)] : List Value).toArray, .int .i64 ((decF b).2.2.2)].toArray) (o_mv rfl) ?_
    refine stp (v := .agg ([.bool ((decF b).1), .int .i64 ((decF b).2.1), (.slice av40 lv40 cv40)] : List Value).toArray) (o_ext rfl rfl) ?_
    refine stp (v := .int .i64 ((decF b).2.2.2)) (o_ext rfl rfl) ?_
    refine m_al hM40 fun b41 w42 (hM42 : Mem w [] w42 [[⟨b2, 30, [.bool fl.a, .int .i64 fl.h, fl.v]⟩], rs5, rs40, [⟨b41, 30, [.bool false, .int .i64 0, .slice none 0 0]⟩]]) => ?_
    refine m_stA (l := [.bool ((decF b).1), .int .i64 ((decF b).2.1), (.slice av40 lv40 cv40)]) hM42 (i := 3) rfl rfl rfl rfl (by simp [oneCells, Value.oneCell', byteV]) (by simp) fun w43 (hM43 : Mem w [] w43 [[⟨b2, 30, [.bool fl.a, .int .i64 fl.h, fl.v]⟩], rs5, rs40, [⟨b41, 30, [.bool ((decF b).1), .int .i64 ((decF b).2.1), (.slice av40 lv40 cv40)]⟩]]) => ?_
    refine stp (v := .int .i64 ((decF b).2.2.2)) (o_mv rfl) ?_
    refine h39 _ _ ?_
    clear h39
    refine seq fun K44 h44 => ?_
    refine seq fun K45 h45 => ?_
    refine stp (v := .int .i64 ((decF b).2.2.2)) (o_mv rfl) ?_
    refine stp (v := .bool (decide (¬ ((decF b).2.2.2) = 0))) (o_bin rfl rfl v_neq) ?_
    refine h45 _ _ ?_
    clear h45
    refine cndP rfl (fun c46 => ?_) (fun c46 => ?_)
    ·
      refine seq fun K47 h47 => ?_
      refine stp (v := .int .i64 ((decF b).2.2.2)) (o_mv rfl) ?_
      refine stp (v := .bool (decide (((decF b).2.2.2) = 70))) (o_bin rfl rfl rfl) ?_
      refine stp (v := .bool (decide (((decF b).2.2.2) = 70))) (o_mv rfl) ?_
      refine splitP rfl (fun c48 => ?_) (fun c48 => (c48 (by rw [decF_no (by omega)])).elim)
      refine gyesl rfl ?_
      refine m_ldA (l := [.bool ((decF b).1), .int .i64 ((decF b).2.1), (.slice av40 lv40 cv40)]) hM43 (i := 3) (j := 0) rfl rfl rfl rfl rfl ?_
      refine stg rfl (v := .agg ([.bool false, .int .i64 0, .slice none 0 0] : List Value).toArray) (o_bld rfl rfl) ?_
      refine gyesl rfl ?_
      refine m_call (alike_ok ((decF b).1) false ((decF b).2.1) 0 _ _ ((decF b).2.2.1) ([]) w43 (hs40.rd hM43 (i := 2) rfl) (Rd.nilE byteV _) (by first | omega | (simp; done) | (simp; omega))) rfl fun v49 w49 ⟨hr49, hu49⟩ => ?_
      have hM49 : Mem w [] w49 [[⟨b2, 30, [.bool fl.a, .int .i64 fl.h, fl.v]⟩], rs5, rs40, [⟨b41, 30, [.bool ((decF b).1), .int .i64 ((decF b).2.1), (.slice av40 lv40 cv40)]⟩]] := hM43.pure hu49
      subst hr49
      refine stp (v := .bool (alikeF ((decF b).1) ((decF b).2.1) ((decF b).2.2.1) false 0 ([]))) (o_pickT rfl rfl) ?_
      refine stp (v := .bool (alikeF ((decF b).1) ((decF b).2.1) ((decF b).2.2.1) false 0 ([]))) (o_mv rfl) ?_
      refine split rfl (fun c50 => ?_) (fun c50 => absurd ((show (alikeF ((decF b).1) ((decF b).2.1) ((decF b).2.2.1) false 0 ([])) = true from (by rw [decF_no (by omega)]; rfl)).symm.trans c50) (by decide))
      refine gyesl rfl ?_
      refine m_call (works_ok w49) rfl fun v51 w51 ⟨hr51, hu51⟩ => ?_
      have hM51 : Mem w [] w51 [[⟨b2, 30, [.bool fl.a, .int .i64 fl.h, fl.v]⟩], rs5, rs40, [⟨b41, 30, [.bool ((decF b).1), .int .i64 ((decF b).2.1), (.slice av40 lv40 cv40)]⟩]] := hM49.pure hu51
      subst hr51
      refine stp (v := .bool true) (o_pickT rfl rfl) ?_
      refine stp (v := .bool true) (o_mv rfl) ?_
      refine h47 _ _ ?_
      clear h47
      refine ⟨(.bool true), rfl, ?_⟩
      exact ⟨rfl, hM51.upd⟩
    ·
      refine h44 _ _ ?_
      clear h44
      refine seq fun K52 h52 => ?_
      refine m_ldA (l := [.bool ((decF b).1), .int .i64 ((decF b).2.1), (.slice av40 lv40 cv40)]) hM43 (i := 3) (j := 0) rfl rfl rfl rfl rfl ?_
      refine m_call (Encode_ok ((decF b).1) ((decF b).2.1) _ ((decF b).2.2.1) w43 (hs40.rd hM43 (i := 2) rfl) (by first | omega | (simp; done) | (simp; omega))) rfl fun v53 w53 ⟨v53_, rs53, hr53, hs53, hm53⟩ => ?_
      have hM53 : Mem w [] w53 [[⟨b2, 30, [.bool fl.a, .int .i64 fl.h, fl.v]⟩], rs5, rs40, [⟨b41, 30, [.bool ((decF b).1), .int .i64 ((decF b).2.1), (.slice av40 lv40 cv40)]⟩], rs53] := hM43.add hm53
      subst hr53
      refine stp (v := .tuple [v53_, .int .i64 ((encF ((decF b).1) ((decF b).2.1) ((decF b).2.2.1)).2)].toArray) (o_mv rfl) ?_
      refine stp (v := v53_) (o_ext rfl rfl) ?_
      refine stp (v := .int .i64 ((encF ((decF b).1) ((decF b).2.1) ((decF b).2.2.1)).2)) (o_ext rfl rfl) ?_
      refine stp (v := v53_) (o_mv rfl) ?_
      refine stp (v := .int .i64 ((encF ((decF b).1) ((decF b).2.1) ((decF b).2.2.1)).2)) (o_mv rfl) ?_
      refine h52 _ _ ?_
      clear h52
      refine seq fun K54 h54 => ?_
      refine stp (v := .int .i64 ((encF ((decF b).1) ((decF b).2.1) ((decF b).2.2.1)).2)) (o_mv rfl) ?_
      refine stp (v := .bool (decide (((encF ((decF b).1) ((decF b).2.1) ((decF b).2.2.1)).2) = 0))) (o_bin rfl rfl rfl) ?_
      refine stp (v := .bool (decide (((encF ((decF b).1) ((decF b).2.1) ((decF b).2.2.1)).2) = 0))) (o_mv rfl) ?_
      refine splitP rfl (fun c55 => ?_) (fun c55 => (c55 (by rw [enc_dec (by omega)])).elim)
      refine stg rfl (v := v53_) (o_mv rfl) ?_
      refine stg rfl (v := x) (o_mv rfl) ?_
      refine gyesl rfl ?_
      refine m_call (same_ok _ _ ((encF ((decF b).1) ((decF b).2.1) ((decF b).2.2.1)).1) b w53 (hs53.rd hM53 (i := 4) rfl) (hx.upd hM53.upd) (by first | omega | (simp; done) | (simp; omega))) rfl fun v56 w56 ⟨hr56, hu56⟩ => ?_
      have hM56 : Mem w [] w56 [[⟨b2, 30, [.bool fl.a, .int .i64 fl.h, fl.v]⟩], rs5, rs40, [⟨b41, 30, [.bool ((decF b).1), .int .i64 ((decF b).2.1), (.slice av40 lv40 cv40)]⟩], rs53] := hM53.pure hu56
      subst hr56
      refine stp (v := .bool (decide (((encF ((decF b).1) ((decF b).2.1) ((decF b).2.2.1)).1) = b))) (o_pickT rfl rfl) ?_
      refine stp (v := .bool (decide (((encF ((decF b).1) ((decF b).2.1) ((decF b).2.2.1)).1) = b))) (o_mv rfl) ?_
      refine splitP rfl (fun c57 => ?_) (fun c57 => (c57 (by rw [enc_dec (by omega)])).elim)
      refine gyesl rfl ?_
      refine m_call (works_ok w56) rfl fun v58 w58 ⟨hr58, hu58⟩ => ?_
      have hM58 : Mem w [] w58 [[⟨b2, 30, [.bool fl.a, .int .i64 fl.h, fl.v]⟩], rs5, rs40, [⟨b41, 30, [.bool ((decF b).1), .int .i64 ((decF b).2.1), (.slice av40 lv40 cv40)]⟩], rs53] := hM56.pure hu58
      subst hr58
      refine stp (v := .bool true) (o_pickT rfl rfl) ?_
      refine stp (v := .bool true) (o_mv rfl) ?_
      refine h54 _ _ ?_
      clear h54
      refine ⟨(.bool true), rfl, ?_⟩
      exact ⟨rfl, hM58.upd⟩

theorem open_fil {W : World} {cs : List Value} (h : Arg Try.prog W 30 cs) : ∃ f : Fil, cs = filC f ∧ f.ok W := by
  obtain ⟨hl, hf⟩ := h.struct Try.underlying30
  have c28 : Try.prog.cellsOf 28 = 1 := by kernel_rfl
  have c3 : Try.prog.cellsOf 3 = 1 := by kernel_rfl
  have c4 : Try.prog.cellsOf 4 = 1 := by kernel_rfl
  rw [show Try.prog.cellsOf 30 = 3 by kernel_rfl] at hl
  match cs, hl with
  | [a0, a1, a2], _ =>
    obtain ⟨n0, e0⟩ := (hf 0 _ rfl).bool Try.underlying4
    obtain rfl : a0 = .bool n0 := by simpa [c4] using e0
    obtain ⟨n1, e1, k1⟩ := (hf 1 _ rfl).int Try.underlying3
    obtain rfl : a1 = .int .i64 n1 := by simpa [c3] using e1
    obtain ⟨v2, l2, e2, k2, q2⟩ := (hf 2 _ rfl).bytes Try.underlying28 Try.underlying5 (by kernel_rfl)
    obtain rfl : a2 = v2 := by simpa [c28] using e2
    exact ⟨⟨n0, n1, a2, l2⟩, rfl, k2, q2, k1⟩
