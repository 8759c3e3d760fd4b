/- FootEncode: the law's walk. -/
import Derived.Test.YthhmhmnhbababaaD37
import Derived.Test.YthhmhmnhbababaaD16
namespace Go.Proofs.Ythhmhmnhbababaa.E
open Go
theorem fill_len {L : List UInt8} {i : Nat} (h : i ≤ L.length) : (List.replicate i (51 : UInt8) ++ L.drop i).length = L.length := by
  rw [List.length_append, List.length_replicate, List.length_drop]; omega
theorem fill_set {L : List UInt8} {i : Nat} (h : i < L.length) : (List.replicate i (51 : UInt8) ++ L.drop i).set i 51 = List.replicate (i + 1) 51 ++ L.drop (i + 1) := by
  rw [List.set_append_right _ _ (by rw [List.length_replicate]; exact Nat.le_refl _), List.length_replicate, Nat.sub_self, List.replicate_succ', List.append_assoc, dropG 0 h]; rfl
theorem tail_len (n k : Nat) : (List.replicate n (51 : UInt8) ++ List.replicate k 52).length = n + k := by
  rw [List.length_append, List.length_replicate, List.length_replicate]

/-- winnowlaw8.FootEncode -/
theorem FootEncode_ok (parts : Int) (x : Value) (ps : List Pr) (w : World) (hx : RdS prC w x ps) (hok : ∀ p ∈ ps, p.ok w) (hl : ps.length ≤ 1954687338211) (hp : inK .i64 parts) : Calls Try.prog 5 [.agg [.int .i64 parts, x].toArray].toArray w (Rt fun r w' => r = .bool true ∧ Upd [] w w') := by
  have hM0 : Mem w [] w [] := Mem.nil w []
  simp only [inK] at hp
  refine calls_vc mixed Try.func5 rfl C5 (by simp [Try.ntmps5]) ?_
  refine seq fun K1 h1 => ?_
  refine m_bx (v := .agg ([.int .i64 parts, x] : List Value).toArray) hM0 rfl rfl fun b2 w3 (hM3 : Mem w [] w3 [[⟨b2, 24, [.int .i64 parts, x]⟩]]) => ?_
  refine stp (v := .bool false) (o_mv rfl) ?_
  refine h1 _ _ ?_
  clear h1
  refine seq fun K4 h4 => ?_
  refine m_ldA (l := [.int .i64 parts, x]) hM3 (i := 0) (j := 0) rfl rfl rfl rfl rfl ?_
  refine m_call (twin_ok parts _ ps w3 (hx.upd hM3.upd) (fun p hp => (hok p hp).upd hM3.upd) (by omega) (by simp only [inK]; omega)) rfl fun v5 w5 ⟨a5, c5, qs5, rs5, NS5, hr5, hs5, hT5, hq5, hm5⟩ => ?_
  have hM5 : Mem w [] w5 [[⟨b2, 24, [.int .i64 parts, x]⟩], rs5, NS5] := hM3.add2 hm5
  subst hr5
  have hll5 : qs5.length = ps.length := by simpa using congrArg List.length hq5
  have hz5 := sl_less hs5 hll5
  refine m_al hM5 fun b6 w7 (hM7 : Mem w [] w7 [[⟨b2, 24, [.int .i64 parts, x]⟩], rs5, NS5, [⟨b6, 24, [.int .i64 0, .slice none 0 0]⟩]]) => ?_
  refine m_stA (l := [.int .i64 parts, (.slice a5 ps.length c5)]) hM7 (i := 3) rfl rfl rfl rfl (by simp [oneCells, Value.oneCell', byteV]) (by simp) fun w8 (hM8 : Mem w [] w8 [[⟨b2, 24, [.int .i64 parts, x]⟩], rs5, NS5, [⟨b6, 24, [.int .i64 parts, (.slice a5 ps.length c5)]⟩]]) => ?_
  refine h4 _ _ ?_
  clear h4
  refine seq fun K9 h9 => ?_
  refine m_ldA (l := [.int .i64 parts, (.slice a5 ps.length c5)]) hM8 (i := 3) (j := 0) rfl rfl rfl rfl rfl ?_
  refine m_call (Check_ok parts _ qs5 w8 (hz5.rd hM8 (i := 1) rfl) (fun p hp => (hT5.tk (hM8.res (i := 2) rfl).1 p hp).ok) (by omega) (by simp only [inK]; omega)) rfl fun v10 w10 ⟨hr10, hu10⟩ => ?_
  have hM10 : Mem w [] w10 [[⟨b2, 24, [.int .i64 parts, x]⟩], rs5, NS5, [⟨b6, 24, [.int .i64 parts, (.slice a5 ps.length c5)]⟩]] := hM8.pure hu10
  rw [hq5] at hr10
  subst hr10
  refine stp (v := .int .i64 (chkF parts (List.map Pr.p ps))) (o_mv rfl) ?_
  refine h9 _ _ ?_
  clear h9
  refine seq fun K11 h11 => ?_
  refine m_ldA (l := [.int .i64 parts, (.slice a5 ps.length c5)]) hM10 (i := 3) (j := 0) rfl rfl rfl rfl rfl ?_
  refine m_call (Encode_ok parts _ qs5 w10 (hz5.rd hM10 (i := 1) rfl) (fun p hp => (hT5.tk (hM10.res (i := 2) rfl).1 p hp).ok) (by omega) (by simp only [inK]; omega)) rfl fun v12 w12 ⟨y12, rs12, hr12, hs12, hm12⟩ => ?_
  have hM12 : Mem w [] w12 [[⟨b2, 24, [.int .i64 parts, x]⟩], rs5, NS5, [⟨b6, 24, [.int .i64 parts, (.slice a5 ps.length c5)]⟩], rs12] := hM10.add hm12
  rw [hq5] at hr12 hs12
  subst hr12
  have hel12 := encT_len parts (List.map Pr.p ps)
  refine stp (v := .tuple [y12, .int .i64 ((encT parts (List.map Pr.p ps)).2)].toArray) (o_mv rfl) ?_
  refine stp (v := y12) (o_ext rfl rfl) ?_
  refine stp (v := .int .i64 ((encT parts (List.map Pr.p ps)).2)) (o_ext rfl rfl) ?_
  refine stp (v := y12) (o_mv rfl) ?_
  refine stp (v := .int .i64 ((encT parts (List.map Pr.p ps)).2)) (o_mv rfl) ?_
  refine h11 _ _ ?_
  clear h11
  refine seq fun K13 h13 => ?_
  refine m_ldA (l := [.int .i64 parts, (.slice a5 ps.length c5)]) hM12 (i := 3) (j := 0) rfl rfl rfl rfl rfl ?_
  refine m_call (Encode_ok parts _ qs5 w12 (hz5.rd hM12 (i := 1) rfl) (fun p hp => (hT5.tk (hM12.res (i := 2) rfl).1 p hp).ok) (by omega) (by simp only [inK]; omega)) rfl fun v14 w14 ⟨y14, rs14, hr14, hs14, hm14⟩ => ?_
  have hM14 : Mem w [] w14 [[⟨b2, 24, [.int .i64 parts, x]⟩], rs5, NS5, [⟨b6, 24, [.int .i64 parts, (.slice a5 ps.length c5)]⟩], rs12, rs14] := hM12.add hm14
  rw [hq5] at hr14 hs14
  subst hr14
  have hel14 := encT_len parts (List.map Pr.p ps)
  refine stp (v := .tuple [y14, .int .i64 ((encT parts (List.map Pr.p ps)).2)].toArray) (o_mv rfl) ?_
  refine stp (v := y14) (o_ext rfl rfl) ?_
  refine stp (v := .int .i64 ((encT parts (List.map Pr.p ps)).2)) (o_ext rfl rfl) ?_
  refine stp (v := y14) (o_mv rfl) ?_
  refine stp (v := .int .i64 ((encT parts (List.map Pr.p ps)).2)) (o_mv rfl) ?_
  refine h13 _ _ ?_
  clear h13
  refine seq fun K15 h15 => ?_
  refine m_ldA (l := [.int .i64 parts, x]) hM14 (i := 0) (j := 0) rfl rfl rfl rfl rfl ?_
  refine m_call (refEnc_ok parts _ ps w14 (hx.upd hM14.upd) (fun p hp => (hok p hp).upd hM14.upd) (by omega) (by simp only [inK]; omega)) rfl fun v16 w16 ⟨y16, rs16, hr16, hs16, hm16⟩ => ?_
  have hM16 : Mem w [] w16 [[⟨b2, 24, [.int .i64 parts, x]⟩], rs5, NS5, [⟨b6, 24, [.int .i64 parts, (.slice a5 ps.length c5)]⟩], rs12, rs14, rs16] := hM14.add hm16
  subst hr16
  have hel16 := encT_len parts (List.map Pr.p ps)
  refine stp (v := .tuple [y16, .int .i64 ((encT parts (List.map Pr.p ps)).2)].toArray) (o_mv rfl) ?_
  refine stp (v := y16) (o_ext rfl rfl) ?_
  refine stp (v := .int .i64 ((encT parts (List.map Pr.p ps)).2)) (o_ext rfl rfl) ?_
  refine stp (v := y16) (o_mv rfl) ?_
  refine stp (v := .int .i64 ((encT parts (List.map Pr.p ps)).2)) (o_mv rfl) ?_
  refine h15 _ _ ?_
  clear h15
  refine seq fun K17 h17 => ?_
  refine seq fun K18 h18 => ?_
  refine stp (v := .int .i64 (chkF parts (List.map Pr.p ps))) (o_mv rfl) ?_
  refine m_ldA (l := [.int .i64 parts, x]) hM16 (i := 0) (j := 0) rfl rfl rfl rfl rfl ?_
  refine m_call (refChk_ok parts _ ps w16 (hx.upd hM16.upd) (fun p hp => (hok p hp).upd hM16.upd) (by omega) (by simp only [inK]; omega)) rfl fun v19 w19 ⟨hr19, hu19⟩ => ?_
  have hM19 : Mem w [] w19 [[⟨b2, 24, [.int .i64 parts, x]⟩], rs5, NS5, [⟨b6, 24, [.int .i64 parts, (.slice a5 ps.length c5)]⟩], rs12, rs14, rs16] := hM16.pure hu19
  subst hr19
  refine stp (v := .bool false) (o_bin rfl rfl v_neF) ?_
  refine stp (v := .bool false) (o_mv rfl) ?_
  refine splitF rfl ?_
  refine stg rfl (v := .int .i64 ((encT parts (List.map Pr.p ps)).2)) (o_mv rfl) ?_
  refine stg rfl (v := .int .i64 ((encT parts (List.map Pr.p ps)).2)) (o_mv rfl) ?_
  refine stg rfl (v := .bool false) (o_bin rfl rfl v_neF) ?_
  refine stp (v := .bool false) (o_pickF rfl rfl) ?_
  refine stp (v := .bool false) (o_mv rfl) ?_
  refine splitF rfl ?_
  refine stg rfl (v := .int .i64 ((encT parts (List.map Pr.p ps)).2)) (o_mv rfl) ?_
  refine stg rfl (v := .int .i64 ((encT parts (List.map Pr.p ps)).2)) (o_mv rfl) ?_
  refine stg rfl (v := .bool false) (o_bin rfl rfl v_neF) ?_
  refine stp (v := .bool false) (o_pickF rfl rfl) ?_
  refine stp (v := .bool false) (o_mv rfl) ?_
  refine splitF rfl ?_
  refine stg rfl (v := y12) (o_mv rfl) ?_
  refine stg rfl (v := y16) (o_mv rfl) ?_
  refine gyesl rfl ?_
  refine m_call (sameL_ok _ _ ((encT parts (List.map Pr.p ps)).1) ((encT parts (List.map Pr.p ps)).1) w19 (hs12.rd hM19 (i := 4) rfl) (hs16.rd hM19 (i := 6) rfl) (by first | omega | (simp; done) | (simp; omega))) rfl fun v20 w20 ⟨hr20, hu20⟩ => ?_
  have hM20 : Mem w [] w20 [[⟨b2, 24, [.int .i64 parts, x]⟩], rs5, NS5, [⟨b6, 24, [.int .i64 parts, (.slice a5 ps.length c5)]⟩], rs12, rs14, rs16] := hM19.pure hu20
  obtain rfl : v20 = .bool true := hr20.trans (by simp)
  clear hr20
  refine stg rfl (v := .bool false) (o_not rfl rfl) ?_
  refine stp (v := .bool false) (o_pickF rfl rfl) ?_
  refine h18 _ _ ?_
  clear h18
  refine cndF rfl ?_
  refine h17 _ _ ?_
  clear h17
  refine seq fun K21 h21 => ?_
  refine seq fun K22 h22 => ?_
  refine stp (v := .int .i64 0) (o_mv rfl) ?_
  refine h22 _ _ ?_
  clear h22
  refine lp (n := fun _ _ => False) (ι := (Nat) × (Value) × (List Ent)) (fun ⟨i, y5_, r5_⟩ f w' => f 5 = y5_ ∧ f 11 = .int .i64 (i : Nat) ∧ f 1 = .pointer (some ⟨b2, 0, none⟩) ∧ f 3 = .pointer (some ⟨b6, 0, none⟩) ∧ f 7 = y14 ∧ f 9 = y16 ∧ Mem w [] w' [[⟨b2, 24, [.int .i64 parts, x]⟩], rs5, NS5, [⟨b6, 24, [.int .i64 parts, (.slice a5 ps.length c5)]⟩], r5_, rs14, rs16] ∧ (i ≤ (encT parts (List.map Pr.p ps)).1.length) ∧ ((List.replicate i (51 : UInt8) ++ (encT parts (List.map Pr.p ps)).1.drop i).length = (encT parts (List.map Pr.p ps)).1.length) ∧ (SlE byteV 5 y5_ (List.replicate i (51 : UInt8) ++ (encT parts (List.map Pr.p ps)).1.drop i) r5_)) (fun ⟨i, y5_, r5_⟩ => (encT parts (List.map Pr.p ps)).1.length - i) (0, y12, rs12) ?_ ?_
  · exact ⟨rfl, by first | rfl | exact v_int (by omega) | exact v_int (by simp) | exact v_int (by simp; omega), rfl, rfl, rfl, rfl, hM20, by omega, fill_len (by omega), by simpa using hs12⟩
  · rintro ⟨i, y5_, r5_⟩ f w23 ⟨e23_5, e23_11, e23_1, e23_3, e23_7, e23_9, hM23, hi, hlen, hy5_⟩ K24 h24
    obtain ⟨frm, rfl⟩ : ∃ frm, f = (upd (upd (upd (upd (upd (upd frm 5 (y5_)) 11 (.int .i64 (i : Nat))) 1 (.pointer (some ⟨b2, 0, none⟩))) 3 (.pointer (some ⟨b6, 0, none⟩))) 7 (y14)) 9 (y16)) := ⟨f, by rw [upd_self e23_5, upd_self e23_11, upd_self e23_1, upd_self e23_3, upd_self e23_7, upd_self e23_9]⟩
    clear e23_5 e23_11 e23_1 e23_3 e23_7 e23_9
    refine seq fun K25 h25 => ?_
    refine seq fun K26 h26 => ?_
    refine stp (v := .int .i64 (i : Nat)) (o_mv rfl) ?_
    refine stp (v := y5_) (o_mv rfl) ?_
    refine stp (v := .int .i64 ((List.replicate i (51 : UInt8) ++ (encT parts (List.map Pr.p ps)).1.drop i).length : Nat)) (o_lenR (hy5_.rd hM23 (i := 4) rfl) rfl rfl) ?_
    refine stp (v := .bool (decide (((i : Nat) : Int) < ((List.replicate i (51 : UInt8) ++ (encT parts (List.map Pr.p ps)).1.drop i).length : Nat)))) (o_bin rfl rfl rfl) ?_
    refine h26 _ _ ?_
    clear h26
    refine cndP rfl (fun c27 => ?_) (fun c27 => ?_)
    ·
      refine h25 _ _ ?_
      clear h25
      refine seq fun K28 h28 => ?_
      have hfl := fill_len (L := (encT parts (List.map Pr.p ps)).1) (i := i) (by omega)
      refine stp (v := y5_) (o_mv rfl) ?_
      refine stp (v := .int .i64 (i : Nat)) (o_mv rfl) ?_
      refine m_set (E := byteV) (q := 51) (j := i) hM23 (i := 4) rfl hy5_ rfl rfl (by omega) (by simp) (rfl) fun w29 r29 u29 he29 hs29 (hM29 : Mem w [] w29 [[⟨b2, 24, [.int .i64 parts, x]⟩], rs5, NS5, [⟨b6, 24, [.int .i64 parts, (.slice a5 ps.length c5)]⟩], r29, rs14, rs16]) => ?_
      refine h28 _ _ ?_
      clear h28
      refine stp (v := .int .i64 (i : Nat)) (o_mv rfl) ?_
      refine stp (v := .int .i64 ((i : Nat) + 1)) (o_bin rfl rfl (v_add64 (by constructor <;> omega))) ?_
      refine stp (v := .int .i64 ((i : Nat) + 1)) (o_mv rfl) ?_
      refine h24 (i + 1, y5_, r29) _ _ ⟨rfl, by first | rfl | exact v_int (by omega) | exact v_int (by simp) | exact v_int (by simp; omega), rfl, rfl, rfl, rfl, hM29, by omega, fill_len (by omega), by rw [← fill_set (by omega)]; exact hs29⟩ (by (try dsimp only); omega)
    ·
      refine h21 _ _ ?_
      clear h21
      refine seq fun K30 h30 => ?_
      refine seq fun K31 h31 => ?_
      refine stp (v := .int .i64 0) (o_mv rfl) ?_
      refine h31 _ _ ?_
      clear h31
      refine lp (n := fun _ _ => False) (ι := (Nat) × (Value) × (List Ent)) (fun ⟨k, y5_, r5_⟩ f w' => f 5 = y5_ ∧ f 12 = .int .i64 (k : Nat) ∧ f 1 = .pointer (some ⟨b2, 0, none⟩) ∧ f 3 = .pointer (some ⟨b6, 0, none⟩) ∧ f 7 = y14 ∧ f 9 = y16 ∧ Mem w [] w' [[⟨b2, 24, [.int .i64 parts, x]⟩], rs5, NS5, [⟨b6, 24, [.int .i64 parts, (.slice a5 ps.length c5)]⟩], r5_, rs14, rs16] ∧ (k ≤ 64) ∧ (SlE byteV 5 y5_ (List.replicate (encT parts (List.map Pr.p ps)).1.length (51 : UInt8) ++ List.replicate k 52) r5_)) (fun ⟨k, y5_, r5_⟩ => 64 - k) (0, y5_, r5_) ?_ ?_
      · exact ⟨rfl, by first | rfl | exact v_int (by omega) | exact v_int (by simp) | exact v_int (by simp; omega), rfl, rfl, rfl, rfl, hM23, by omega, by
        have h := hy5_
        rw [show i = (encT parts (List.map Pr.p ps)).1.length by omega, List.drop_length, List.append_nil] at h
        simpa using h⟩
      · rintro ⟨k, y5_, r5_⟩ f w32 ⟨e32_5, e32_12, e32_1, e32_3, e32_7, e32_9, hM32, hk, hy5_⟩ K33 h33
        obtain ⟨frm, rfl⟩ : ∃ frm, f = (upd (upd (upd (upd (upd (upd frm 5 (y5_)) 12 (.int .i64 (k : Nat))) 1 (.pointer (some ⟨b2, 0, none⟩))) 3 (.pointer (some ⟨b6, 0, none⟩))) 7 (y14)) 9 (y16)) := ⟨f, by rw [upd_self e32_5, upd_self e32_12, upd_self e32_1, upd_self e32_3, upd_self e32_7, upd_self e32_9]⟩
        clear e32_5 e32_12 e32_1 e32_3 e32_7 e32_9
        refine seq fun K34 h34 => ?_
        refine seq fun K35 h35 => ?_
        refine stp (v := .int .i64 (k : Nat)) (o_mv rfl) ?_
        refine stp (v := .bool (decide (((k : Nat) : Int) < 64))) (o_bin rfl rfl rfl) ?_
        refine h35 _ _ ?_
        clear h35
        refine cndP rfl (fun c36 => ?_) (fun c36 => ?_)
        ·
          refine h34 _ _ ?_
          clear h34
          refine seq fun K37 h37 => ?_
          have htl9 := tail_len (encT parts (List.map Pr.p ps)).1.length k
          refine stp (v := y5_) (o_mv rfl) ?_
          refine m_app1 (E := byteV) (q := 52) hM32 (i := 4) rfl hy5_ rfl (by simp) (rfl) (by omega) (by omega) fun v38 w38 r38 u38 (hs38 : SlE byteV 5 v38 ((List.replicate (encT parts (List.map Pr.p ps)).1.length (51 : UInt8) ++ List.replicate k 52) ++ [52]) r38) (hM38 : Mem w [] w38 [[⟨b2, 24, [.int .i64 parts, x]⟩], rs5, NS5, [⟨b6, 24, [.int .i64 parts, (.slice a5 ps.length c5)]⟩], r38, rs14, rs16]) => ?_
          refine stp (v := v38) (o_mv rfl) ?_
          refine h37 _ _ ?_
          clear h37
          refine stp (v := .int .i64 (k : Nat)) (o_mv rfl) ?_
          refine stp (v := .int .i64 ((k : Nat) + 1)) (o_bin rfl rfl (v_add64 (by constructor <;> omega))) ?_
          refine stp (v := .int .i64 ((k : Nat) + 1)) (o_mv rfl) ?_
          refine h33 (k + 1, v38, r38) _ _ ⟨rfl, by first | rfl | exact v_int (by omega) | exact v_int (by simp) | exact v_int (by simp; omega), rfl, rfl, rfl, rfl, hM38, by omega, by have h := hs38; rw [List.append_assoc] at h; rw [List.replicate_succ']; exact h⟩ (by (try dsimp only); omega)
        ·
          refine h30 _ _ ?_
          clear h30
          refine seq fun K39 h39 => ?_
          refine m_ldA (l := [.int .i64 parts, (.slice a5 ps.length c5)]) hM32 (i := 3) (j := 0) rfl rfl rfl rfl rfl ?_
          refine m_call (Tiles_ok parts _ qs5 w32 (hz5.rd hM32 (i := 1) rfl) (fun p hp => (hT5.tk (hM32.res (i := 2) rfl).1 p hp).ok) (by omega) (by simp only [inK]; omega)) rfl fun v40 w40 ⟨y40, rs40, hr40, hs40, hm40⟩ => ?_
          have hM40 : Mem w [] w40 [[⟨b2, 24, [.int .i64 parts, x]⟩], rs5, NS5, [⟨b6, 24, [.int .i64 parts, (.slice a5 ps.length c5)]⟩], r5_, rs14, rs16, rs40] := hM32.add hm40
          rw [hq5] at hs40
          subst hr40
          have htl40 := tiles_len parts ps (by omega) (by omega)
          refine stp (v := v40) (o_mv rfl) ?_
          refine h39 _ _ ?_
          clear h39
          refine seq fun K41 h41 => ?_
          refine m_ldA (l := [.int .i64 parts, (.slice a5 ps.length c5)]) hM40 (i := 3) (j := 0) rfl rfl rfl rfl rfl ?_
          refine m_call (Tiles_ok parts _ qs5 w40 (hz5.rd hM40 (i := 1) rfl) (fun p hp => (hT5.tk (hM40.res (i := 2) rfl).1 p hp).ok) (by omega) (by simp only [inK]; omega)) rfl fun v42 w42 ⟨y42, rs42, hr42, hs42, hm42⟩ => ?_
          have hM42 : Mem w [] w42 [[⟨b2, 24, [.int .i64 parts, x]⟩], rs5, NS5, [⟨b6, 24, [.int .i64 parts, (.slice a5 ps.length c5)]⟩], r5_, rs14, rs16, rs40, rs42] := hM40.add hm42
          rw [hq5] at hs42
          subst hr42
          have htl42 := tiles_len parts ps (by omega) (by omega)
          refine stp (v := v42) (o_mv rfl) ?_
          refine h41 _ _ ?_
          clear h41
          refine seq fun K43 h43 => ?_
          refine m_ldA (l := [.int .i64 parts, x]) hM42 (i := 0) (j := 0) rfl rfl rfl rfl rfl ?_
          refine m_call (refTiles_ok parts _ ps w42 (hx.upd hM42.upd) (fun p hp => (hok p hp).upd hM42.upd) (by omega) (by simp only [inK]; omega)) rfl fun v44 w44 ⟨y44, rs44, hr44, hs44, hm44⟩ => ?_
          have hM44 : Mem w [] w44 [[⟨b2, 24, [.int .i64 parts, x]⟩], rs5, NS5, [⟨b6, 24, [.int .i64 parts, (.slice a5 ps.length c5)]⟩], r5_, rs14, rs16, rs40, rs42, rs44] := hM42.add hm44
          subst hr44
          have htl44 := tiles_len parts ps (by omega) (by omega)
          refine stp (v := v44) (o_mv rfl) ?_
          refine h43 _ _ ?_
          clear h43
          refine seq fun K45 h45 => ?_
          refine seq fun K46 h46 => ?_
          refine stp (v := y14) (o_mv rfl) ?_
          refine stp (v := y16) (o_mv rfl) ?_
          refine m_call (sameL_ok _ _ ((encT parts (List.map Pr.p ps)).1) ((encT parts (List.map Pr.p ps)).1) w44 (hs14.rd hM44 (i := 5) rfl) (hs16.rd hM44 (i := 6) rfl) (by first | omega | (simp; done) | (simp; omega))) rfl fun v47 w47 ⟨hr47, hu47⟩ => ?_
          have hM47 : Mem w [] w47 [[⟨b2, 24, [.int .i64 parts, x]⟩], rs5, NS5, [⟨b6, 24, [.int .i64 parts, (.slice a5 ps.length c5)]⟩], r5_, rs14, rs16, rs40, rs42, rs44] := hM44.pure hu47
          obtain rfl : v47 = .bool true := hr47.trans (by simp)
          clear hr47
          refine stp (v := .bool false) (o_not rfl rfl) ?_
          refine stp (v := .bool false) (o_mv rfl) ?_
          refine splitF rfl ?_
          refine stg rfl (v := v40) (o_mv rfl) ?_
          refine stg rfl (v := v44) (o_mv rfl) ?_
          refine gyesl rfl ?_
          refine m_call (sameTiles_eq _ (tilesF parts (List.map Pr.p ps)) _ _ w47 (hs40.rd hM47 (i := 7) rfl) (hs44.rd hM47 (i := 9) rfl) (by omega) rfl) rfl fun v48 w48 ⟨hr48, hu48⟩ => ?_
          have hM48 : Mem w [] w48 [[⟨b2, 24, [.int .i64 parts, x]⟩], rs5, NS5, [⟨b6, 24, [.int .i64 parts, (.slice a5 ps.length c5)]⟩], r5_, rs14, rs16, rs40, rs42, rs44] := hM47.pure hu48
          subst hr48
          refine stg rfl (v := .bool false) (o_not rfl rfl) ?_
          refine stp (v := .bool false) (o_pickF rfl rfl) ?_
          refine h46 _ _ ?_
          clear h46
          refine cndF rfl ?_
          refine h45 _ _ ?_
          clear h45
          refine seq fun K49 h49 => ?_
          refine seq fun K50 h50 => ?_
          refine stp (v := .int .i64 0) (o_mv rfl) ?_
          refine h50 _ _ ?_
          clear h50
          refine lp (n := fun _ _ => False) (ι := (Nat) × (List Ti) × (Value) × (List Ent)) (fun ⟨i, l1, y13_, r13_⟩ f w' => f 13 = y13_ ∧ f 16 = .int .i64 (i : Nat) ∧ f 1 = .pointer (some ⟨b2, 0, none⟩) ∧ f 3 = .pointer (some ⟨b6, 0, none⟩) ∧ f 5 = y5_ ∧ f 9 = y16 ∧ f 14 = v42 ∧ f 15 = v44 ∧ Mem w [] w' [[⟨b2, 24, [.int .i64 parts, x]⟩], rs5, NS5, [⟨b6, 24, [.int .i64 parts, (.slice a5 ps.length c5)]⟩], r5_, rs14, rs16, r13_, rs42, rs44] ∧ (i ≤ (tilesF parts (List.map Pr.p ps)).length) ∧ (l1.length = (tilesF parts (List.map Pr.p ps)).length) ∧ (SlS tiC 3 47 y13_ (l1) r13_)) (fun ⟨i, l1, y13_, r13_⟩ => (tilesF parts (List.map Pr.p ps)).length - i) (0, (tilesF parts (List.map Pr.p ps)), v40, rs40) ?_ ?_
          · exact ⟨rfl, by first | rfl | exact v_int (by omega) | exact v_int (by simp) | exact v_int (by simp; omega), rfl, rfl, rfl, rfl, rfl, rfl, hM48, by omega, rfl, by first | exact hs40 | simpa using hs40⟩
          · rintro ⟨i, l1, y13_, r13_⟩ f w51 ⟨e51_13, e51_16, e51_1, e51_3, e51_5, e51_9, e51_14, e51_15, hM51, hi4, hl1, hy13_⟩ K52 h52
            obtain ⟨frm, rfl⟩ : ∃ frm, f = (upd (upd (upd (upd (upd (upd (upd (upd frm 13 (y13_)) 16 (.int .i64 (i : Nat))) 1 (.pointer (some ⟨b2, 0, none⟩))) 3 (.pointer (some ⟨b6, 0, none⟩))) 5 (y5_)) 9 (y16)) 14 (v42)) 15 (v44)) := ⟨f, by rw [upd_self e51_13, upd_self e51_16, upd_self e51_1, upd_self e51_3, upd_self e51_5, upd_self e51_9, upd_self e51_14, upd_self e51_15]⟩
            clear e51_13 e51_16 e51_1 e51_3 e51_5 e51_9 e51_14 e51_15
            refine seq fun K53 h53 => ?_
            refine seq fun K54 h54 => ?_
            refine stp (v := .int .i64 (i : Nat)) (o_mv rfl) ?_
            refine stp (v := y13_) (o_mv rfl) ?_
            refine stp (v := .int .i64 (l1.length : Nat)) (o_lenR (hy13_.rd hM51 (i := 7) rfl) rfl rfl) ?_
            refine stp (v := .bool (decide (((i : Nat) : Int) < (l1.length : Nat)))) (o_bin rfl rfl rfl) ?_
            refine h54 _ _ ?_
            clear h54
            refine cndP rfl (fun c55 => ?_) (fun c55 => ?_)
            ·
              refine h53 _ _ ?_
              clear h53
              refine seq fun K56 h56 => ?_
              refine stp (v := y13_) (o_mv rfl) ?_
              refine stp (v := .int .i64 (i : Nat)) (o_mv rfl) ?_
              refine stp (v := .agg ([.int .i64 9, .int .i64 0, .int .i64 0] : List Value).toArray) (o_bld rfl rfl) ?_
              refine m_setS (enc := tiC) ti0 (q := (⟨9, 0, 0⟩ : Ti)) (j := i) hM51 (i := 7) rfl hy13_ rfl rfl (by omega) (by simp) (rfl) fun w57 r57 u57 he57 hs57 (hM57 : Mem w [] w57 [[⟨b2, 24, [.int .i64 parts, x]⟩], rs5, NS5, [⟨b6, 24, [.int .i64 parts, (.slice a5 ps.length c5)]⟩], r5_, rs14, rs16, r57, rs42, rs44]) => ?_
              refine h56 _ _ ?_
              clear h56
              refine stp (v := .int .i64 (i : Nat)) (o_mv rfl) ?_
              refine stp (v := .int .i64 ((i : Nat) + 1)) (o_bin rfl rfl (v_add64 (by constructor <;> omega))) ?_
              refine stp (v := .int .i64 ((i : Nat) + 1)) (o_mv rfl) ?_
              refine h52 (i + 1, l1.set i (⟨9, 0, 0⟩ : Ti), y13_, r57) _ _ ⟨rfl, by first | rfl | exact v_int (by omega) | exact v_int (by simp) | exact v_int (by simp; omega), rfl, rfl, rfl, rfl, rfl, rfl, hM57, by omega, by rw [List.length_set]; exact hl1, by first | exact hs57 | simpa using hs57⟩ (by (try dsimp only); omega)
            ·
              refine h49 _ _ ?_
              clear h49
              refine seq fun K58 h58 => ?_
              refine seq fun K59 h59 => ?_
              refine stp (v := .int .i64 0) (o_mv rfl) ?_
              refine h59 _ _ ?_
              clear h59
              refine lp (n := fun _ _ => False) (ι := (Nat) × (List Ti) × (Value) × (List Ent)) (fun ⟨k2, l2, y13_, r13_⟩ f w' => f 13 = y13_ ∧ f 17 = .int .i64 (k2 : Nat) ∧ f 1 = .pointer (some ⟨b2, 0, none⟩) ∧ f 3 = .pointer (some ⟨b6, 0, none⟩) ∧ f 5 = y5_ ∧ f 9 = y16 ∧ f 14 = v42 ∧ f 15 = v44 ∧ Mem w [] w' [[⟨b2, 24, [.int .i64 parts, x]⟩], rs5, NS5, [⟨b6, 24, [.int .i64 parts, (.slice a5 ps.length c5)]⟩], r5_, rs14, rs16, r13_, rs42, rs44] ∧ (k2 ≤ 64) ∧ (l2.length ≤ 17180000 + k2) ∧ (SlS tiC 3 47 y13_ (l2) r13_)) (fun ⟨k2, l2, y13_, r13_⟩ => 64 - k2) (0, l1, y13_, r13_) ?_ ?_
              · exact ⟨rfl, by first | rfl | exact v_int (by omega) | exact v_int (by simp) | exact v_int (by simp; omega), rfl, rfl, rfl, rfl, rfl, rfl, hM51, by omega, by omega, by first | exact hy13_ | simpa using hy13_⟩
              · rintro ⟨k2, l2, y13_, r13_⟩ f w60 ⟨e60_13, e60_17, e60_1, e60_3, e60_5, e60_9, e60_14, e60_15, hM60, hk6, hl2, hy13_⟩ K61 h61
                obtain ⟨frm, rfl⟩ : ∃ frm, f = (upd (upd (upd (upd (upd (upd (upd (upd frm 13 (y13_)) 17 (.int .i64 (k2 : Nat))) 1 (.pointer (some ⟨b2, 0, none⟩))) 3 (.pointer (some ⟨b6, 0, none⟩))) 5 (y5_)) 9 (y16)) 14 (v42)) 15 (v44)) := ⟨f, by rw [upd_self e60_13, upd_self e60_17, upd_self e60_1, upd_self e60_3, upd_self e60_5, upd_self e60_9, upd_self e60_14, upd_self e60_15]⟩
                clear e60_13 e60_17 e60_1 e60_3 e60_5 e60_9 e60_14 e60_15
                refine seq fun K62 h62 => ?_
                refine seq fun K63 h63 => ?_
                refine stp (v := .int .i64 (k2 : Nat)) (o_mv rfl) ?_
                refine stp (v := .bool (decide (((k2 : Nat) : Int) < 64))) (o_bin rfl rfl rfl) ?_
                refine h63 _ _ ?_
                clear h63
                refine cndP rfl (fun c64 => ?_) (fun c64 => ?_)
                ·
                  refine h62 _ _ ?_
                  clear h62
                  refine seq fun K65 h65 => ?_
                  refine stp (v := y13_) (o_mv rfl) ?_
                  refine stp (v := .agg ([.int .i64 10, .int .i64 0, .int .i64 0] : List Value).toArray) (o_bld rfl rfl) ?_
                  refine m_app1S (enc := tiC) (q := (⟨10, 0, 0⟩ : Ti)) hM60 (i := 7) rfl hy13_ rfl (by simp) (rfl) (rfl) (by first | omega | (simp; omega)) (by omega) fun v66 w66 r66 u66 (hs66 : SlS tiC 3 47 v66 (l2 ++ [(⟨10, 0, 0⟩ : Ti)]) r66) (hM66 : Mem w [] w66 [[⟨b2, 24, [.int .i64 parts, x]⟩], rs5, NS5, [⟨b6, 24, [.int .i64 parts, (.slice a5 ps.length c5)]⟩], r5_, rs14, rs16, r66, rs42, rs44]) => ?_
                  refine stp (v := v66) (o_mv rfl) ?_
                  refine h65 _ _ ?_
                  clear h65
                  refine stp (v := .int .i64 (k2 : Nat)) (o_mv rfl) ?_
                  refine stp (v := .int .i64 ((k2 : Nat) + 1)) (o_bin rfl rfl (v_add64 (by constructor <;> omega))) ?_
                  refine stp (v := .int .i64 ((k2 : Nat) + 1)) (o_mv rfl) ?_
                  refine h61 (k2 + 1, l2 ++ [(⟨10, 0, 0⟩ : Ti)], v66, r66) _ _ ⟨rfl, by first | rfl | exact v_int (by omega) | exact v_int (by simp) | exact v_int (by simp; omega), rfl, rfl, rfl, rfl, rfl, rfl, hM66, by omega, by rw [List.length_append]; simp only [List.length_cons, List.length_nil]; omega, by first | exact hs66 | simpa using hs66⟩ (by (try dsimp only); omega)
                ·
                  refine h58 _ _ ?_
                  clear h58
                  refine seq fun K67 h67 => ?_
                  refine stp (v := v42) (o_mv rfl) ?_
                  refine stp (v := v44) (o_mv rfl) ?_
                  refine m_call (sameTiles_eq _ (tilesF parts (List.map Pr.p ps)) _ _ w60 (hs42.rd hM60 (i := 8) rfl) (hs44.rd hM60 (i := 9) rfl) (by omega) rfl) rfl fun v68 w68 ⟨hr68, hu68⟩ => ?_
                  have hM68 : Mem w [] w68 [[⟨b2, 24, [.int .i64 parts, x]⟩], rs5, NS5, [⟨b6, 24, [.int .i64 parts, (.slice a5 ps.length c5)]⟩], r5_, rs14, rs16, r13_, rs42, rs44] := hM60.pure hu68
                  subst hr68
                  refine stp (v := .bool true) (o_mv rfl) ?_
                  refine splitT rfl ?_
                  refine gyesl rfl ?_
                  refine m_ldA (l := [.int .i64 parts, (.slice a5 ps.length c5)]) hM68 (i := 3) (j := 0) rfl rfl rfl rfl rfl ?_
                  refine gyesl rfl ?_
                  refine m_ldA (l := [.int .i64 parts, x]) hM68 (i := 0) (j := 0) rfl rfl rfl rfl rfl ?_
                  refine gyesl rfl ?_
                  refine m_call (still_ok parts _ _ _ qs5 ps w68 (hz5.rd hM68 (i := 1) rfl) (hs5.rd hM68 (i := 1) rfl) (hT5.tk (hM68.res (i := 2) rfl).1) (hx.upd hM68.upd) (fun p hp => (hok p hp).upd hM68.upd) (by omega) hq5) rfl fun v69 w69 ⟨hr69, hu69⟩ => ?_
                  have hM69 : Mem w [] w69 [[⟨b2, 24, [.int .i64 parts, x]⟩], rs5, NS5, [⟨b6, 24, [.int .i64 parts, (.slice a5 ps.length c5)]⟩], r5_, rs14, rs16, r13_, rs42, rs44] := hM68.pure hu69
                  subst hr69
                  refine stp (v := .bool true) (o_pickT rfl rfl) ?_
                  refine stp (v := .bool true) (o_mv rfl) ?_
                  refine splitT rfl ?_
                  refine gyesl rfl ?_
                  refine m_ldA (l := [.int .i64 parts, (.slice a5 ps.length c5)]) hM69 (i := 3) (j := 0) rfl rfl rfl rfl rfl ?_
                  refine gyesl rfl ?_
                  refine m_call (encodedAnew_ok parts a5 c5 ps.length qs5 rs5 NS5 w69 hs5 hT5 hll5 (hM69.res2 1 2 rfl rfl (by decide)) (by omega) (by simp only [inK]; omega)) rfl fun v70 w70 ⟨hr70, NS70, hm70⟩ => ?_
                  have hM70 : Mem w [] w70 [[⟨b2, 24, [.int .i64 parts, x]⟩], rs5, NS70, [⟨b6, 24, [.int .i64 parts, (.slice a5 ps.length c5)]⟩], r5_, rs14, rs16, r13_, rs42, rs44] := hM69.step2 1 2 rfl rfl (by decide) hm70
                  subst hr70
                  refine stp (v := .bool true) (o_pickT rfl rfl) ?_
                  refine stp (v := .bool true) (o_mv rfl) ?_
                  refine splitT rfl ?_
                  refine stg rfl (v := y5_) (o_mv rfl) ?_
                  refine stg rfl (v := y16) (o_mv rfl) ?_
                  refine stg rfl (v := .int .i64 (((encT parts (List.map Pr.p ps)).1).length : Nat)) (o_lenR (hs16.rd hM70 (i := 6) rfl) rfl rfl) ?_
                  refine gyesl rfl ?_
                  refine m_call (stays_ok _ (encT parts (List.map Pr.p ps)).1.length w70 (by have h := hy5_.rd hM70 (i := 4) rfl; rw [show k = 64 by omega] at h; exact h) (by omega)) rfl fun v71 w71 ⟨hr71, hu71⟩ => ?_
                  have hM71 : Mem w [] w71 [[⟨b2, 24, [.int .i64 parts, x]⟩], rs5, NS70, [⟨b6, 24, [.int .i64 parts, (.slice a5 ps.length c5)]⟩], r5_, rs14, rs16, r13_, rs42, rs44] := hM70.pure hu71
                  subst hr71
                  refine stp (v := .bool true) (o_pickT rfl rfl) ?_
                  refine stp (v := .bool true) (o_mv rfl) ?_
                  refine h67 _ _ ?_
                  clear h67
                  refine ⟨(.bool true), rfl, ?_⟩
                  exact ⟨rfl, hM71.upd⟩

theorem FootEncode_row (f : Ft) (w : World) (hf : f.ok w) : Calls Try.prog 5 [.agg (ftC f).toArray].toArray w (Rt fun r w' => r = .bool true ∧ Upd [] w w') :=
  FootEncode_ok f.parts f.x f.ps w hf.rd hf.ok hf.hl hf.kp
