/- Joining two filters: the law. -/
import Derived.Test.YtjockanmmfmidaaDoorJ3
namespace Go.Proofs.YtjockanmmfmidaaDoor.E
open Go
theorem fk_len {a : Bool} {h : Int} {d : List UInt8} (h0 : ¬ fk a h d = 0) : d.length ≤ 4096 := by
  have h1 := fk_lt (a := a) (h := h) (d := d)
  rcases (show fk a h d = 1 ∨ fk a h d = 2 ∨ fk a h d = 3 by omega) with c | c | c
  · rw [(fkk1 c).2.2]; simp
  · rw [(fkk2 c).2.2]; simp
  · exact (fk3 c).2.2.2.2
theorem joinF_len (a : Bool) (h : Int) (d : List UInt8) (b : Bool) (k : Int) (e : List UInt8) : (joinF a h d b k e).2.2.1.length ≤ 4096 := by
  unfold joinF
  split
  · simp
  · rename_i c
    have h1 := fk_len (a := a) (h := h) (d := d) (fun q => c (.inl q))
    have h2 := fk_len (a := b) (h := k) (d := e) (fun q => c (.inr q))
    split
    · simp
    · split
      · exact h2
      · split
        · exact h1
        · split
          · dsimp only; unfold orL; rw [List.length_zipWith]; omega
          · simp

/-- the slots' order is turned at one place -/
def swapN : Nat → List (List Ent) → List (List Ent)
  | 0, x :: y :: B => y :: x :: B
  | n + 1, a :: R => a :: swapN n R
  | _, R => R
theorem swapN_perm : ∀ (n : Nat) (R : List (List Ent)), (swapN n R).flatten.Perm R.flatten
  | 0, [] => List.Perm.refl _
  | 0, [_] => List.Perm.refl _
  | 0, x :: y :: B => by
    show (y ++ (x ++ B.flatten)).Perm (x ++ (y ++ B.flatten))
    exact List.perm_append_comm_assoc _ _ _
  | _ + 1, [] => List.Perm.refl _
  | n + 1, a :: R => by
    show (a ++ (swapN n R).flatten).Perm (a ++ R.flatten)
    exact (swapN_perm n R).append_left a
theorem Mem.sw {w0 w : World} {S : List Nat} {R : List (List Ent)} (h : Mem w0 S w R) (n : Nat) : Mem w0 S w (swapN n R) := h.perm (swapN_perm n R)

/-- winnowlaw7.FilterJoins -/
theorem FilterJoins_ok (fa fb : Fil) (w : World) (hT : Tab w) (hfa : fa.ok w) (hfb : fb.ok w) : Calls Tryd.prog 3 [.agg (filC fa).toArray, .agg (filC fb).toArray].toArray w (Rt fun r w' => r = .bool true ∧ Upd [] w w') := by
  have hM0 : Mem w [] w [] := Mem.nil w []
  obtain ⟨hda, hdla, hha⟩ := hfa
  obtain ⟨hdb, hdlb, hhb⟩ := hfb
  have htla := turnL_length fa.d
  have htlb := turnL_length fb.d
  refine calls_vc mixed Tryd.func3 rfl C3 (by simp [Tryd.ntmps3]) ?_
  refine seq fun K1 h1 => ?_
  refine m_bx (v := .agg ([.bool fa.a, .int .i64 fa.h, fa.v] : List Value).toArray) hM0 rfl rfl fun b2 w3 (hM3 : Mem w [] w3 [[⟨b2, 24, [.bool fa.a, .int .i64 fa.h, fa.v]⟩]]) => ?_
  refine m_bx (v := .agg ([.bool fb.a, .int .i64 fb.h, fb.v] : List Value).toArray) hM3 rfl rfl fun b4 w5 (hM5 : Mem w [] w5 [[⟨b2, 24, [.bool fa.a, .int .i64 fa.h, fa.v]⟩], [⟨b4, 24, [.bool fb.a, .int .i64 fb.h, fb.v]⟩]]) => ?_
  refine stp (v := .bool false) (o_mv rfl) ?_
  refine h1 _ _ ?_
  clear h1
  refine seq fun K6 h6 => ?_
  refine m_ldA (l := [.bool fa.a, .int .i64 fa.h, fa.v]) hM5 (i := 0) (j := 0) rfl rfl rfl rfl rfl ?_
  refine m_call (given_ok fa.a fa.h _ fa.d w5 (hda.upd hM5.upd) (by first | omega | (simp; done) | (simp; omega))) rfl fun v7 w7 ⟨bg7, cp7, rs7, hr7, hcp7, hs7, hm7⟩ => ?_
  have hM7 : Mem w [] w7 [[⟨b2, 24, [.bool fa.a, .int .i64 fa.h, fa.v]⟩], [⟨b4, 24, [.bool fb.a, .int .i64 fb.h, fb.v]⟩], rs7] := hM5.add hm7
  subst hr7
  refine m_al hM7 fun b8 w9 (hM9 : Mem w [] w9 [[⟨b2, 24, [.bool fa.a, .int .i64 fa.h, fa.v]⟩], [⟨b4, 24, [.bool fb.a, .int .i64 fb.h, fb.v]⟩], rs7, [⟨b8, 24, [.bool false, .int .i64 0, .slice none 0 0]⟩]]) => ?_
  refine m_stA (l := [.bool fa.a, .int .i64 fa.h, (.slice (some ⟨bg7, 0, none⟩) fa.d.length cp7)]) hM9 (i := 3) rfl rfl rfl rfl (by simp [oneCells, Value.oneCell', byteV]) (by simp) fun w10 (hM10 : Mem w [] w10 [[⟨b2, 24, [.bool fa.a, .int .i64 fa.h, fa.v]⟩], [⟨b4, 24, [.bool fb.a, .int .i64 fb.h, fb.v]⟩], rs7, [⟨b8, 24, [.bool fa.a, .int .i64 fa.h, (.slice (some ⟨bg7, 0, none⟩) fa.d.length cp7)]⟩]]) => ?_
  refine h6 _ _ ?_
  clear h6
  refine seq fun K11 h11 => ?_
  refine m_ldA (l := [.bool fb.a, .int .i64 fb.h, fb.v]) hM10 (i := 1) (j := 0) rfl rfl rfl rfl rfl ?_
  refine m_call (given_ok fb.a fb.h _ fb.d w10 (hdb.upd hM10.upd) (by first | omega | (simp; done) | (simp; omega))) rfl fun v12 w12 ⟨bg12, cp12, rs12, hr12, hcp12, hs12, hm12⟩ => ?_
  have hM12 : Mem w [] w12 [[⟨b2, 24, [.bool fa.a, .int .i64 fa.h, fa.v]⟩], [⟨b4, 24, [.bool fb.a, .int .i64 fb.h, fb.v]⟩], rs7, [⟨b8, 24, [.bool fa.a, .int .i64 fa.h, (.slice (some ⟨bg7, 0, none⟩) fa.d.length cp7)]⟩], rs12] := hM10.add hm12
  subst hr12
  refine m_al hM12 fun b13 w14 (hM14 : Mem w [] w14 [[⟨b2, 24, [.bool fa.a, .int .i64 fa.h, fa.v]⟩], [⟨b4, 24, [.bool fb.a, .int .i64 fb.h, fb.v]⟩], rs7, [⟨b8, 24, [.bool fa.a, .int .i64 fa.h, (.slice (some ⟨bg7, 0, none⟩) fa.d.length cp7)]⟩], rs12, [⟨b13, 24, [.bool false, .int .i64 0, .slice none 0 0]⟩]]) => ?_
  refine m_stA (l := [.bool fb.a, .int .i64 fb.h, (.slice (some ⟨bg12, 0, none⟩) fb.d.length cp12)]) hM14 (i := 5) rfl rfl rfl rfl (by simp [oneCells, Value.oneCell', byteV]) (by simp) fun w15 (hM15 : Mem w [] w15 [[⟨b2, 24, [.bool fa.a, .int .i64 fa.h, fa.v]⟩], [⟨b4, 24, [.bool fb.a, .int .i64 fb.h, fb.v]⟩], rs7, [⟨b8, 24, [.bool fa.a, .int .i64 fa.h, (.slice (some ⟨bg7, 0, none⟩) fa.d.length cp7)]⟩], rs12, [⟨b13, 24, [.bool fb.a, .int .i64 fb.h, (.slice (some ⟨bg12, 0, none⟩) fb.d.length cp12)]⟩]]) => ?_
  refine h11 _ _ ?_
  clear h11
  refine seq fun K16 h16 => ?_
  refine m_ldA (l := [.bool fa.a, .int .i64 fa.h, (.slice (some ⟨bg7, 0, none⟩) fa.d.length cp7)]) hM15 (i := 3) (j := 0) rfl rfl rfl rfl rfl ?_
  refine m_ldA (l := [.bool fb.a, .int .i64 fb.h, (.slice (some ⟨bg12, 0, none⟩) fb.d.length cp12)]) hM15 (i := 5) (j := 0) rfl rfl rfl rfl rfl ?_
  refine m_call (Join_ok fa.a fb.a fa.h fb.h _ _ fa.d fb.d w15 (hT.upd hM15.upd) ((hs7.cutTo).rd hM15 (i := 2) rfl) ((hs12.cutTo).rd hM15 (i := 4) rfl) (by first | omega | (simp; done) | (simp; omega)) (by first | omega | (simp; done) | (simp; omega))) rfl fun v17 w17 ⟨vd17, rs17, hr17, hs17, hm17⟩ => ?_
  have hM17 : Mem w [] w17 [[⟨b2, 24, [.bool fa.a, .int .i64 fa.h, fa.v]⟩], [⟨b4, 24, [.bool fb.a, .int .i64 fb.h, fb.v]⟩], rs7, [⟨b8, 24, [.bool fa.a, .int .i64 fa.h, (.slice (some ⟨bg7, 0, none⟩) fa.d.length cp7)]⟩], rs12, [⟨b13, 24, [.bool fb.a, .int .i64 fb.h, (.slice (some ⟨bg12, 0, none⟩) fb.d.length cp12)]⟩], rs17] := hM15.add hm17
  obtain ⟨av17, lv17, cv17, rfl⟩ := hs17.isSlice
  subst hr17
  have hjl17 := joinF_len fa.a fa.h fa.d fb.a fb.h fb.d
  refine stp (v := .tuple [.agg ([.bool ((joinF fa.a fa.h fa.d fb.a fb.h fb.d).1), .int .i64 ((joinF fa.a fa.h fa.d fb.a fb.h fb.d).2.1), (.slice av17 lv17 cv17)] : List Value).toArray, .int .i64 ((joinF fa.a fa.h fa.d fb.a fb.h fb.d).2.2.2)].toArray) (o_mv rfl) ?_
  refine stp (v := .agg ([.bool ((joinF fa.a fa.h fa.d fb.a fb.h fb.d).1), .int .i64 ((joinF fa.a fa.h fa.d fb.a fb.h fb.d).2.1), (.slice av17 lv17 cv17)] : List Value).toArray) (o_ext rfl rfl) ?_
  refine stp (v := .int .i64 ((joinF fa.a fa.h fa.d fb.a fb.h fb.d).2.2.2)) (o_ext rfl rfl) ?_
  refine m_al hM17 fun b18 w19 (hM19 : Mem w [] w19 [[⟨b2, 24, [.bool fa.a, .int .i64 fa.h, fa.v]⟩], [⟨b4, 24, [.bool fb.a, .int .i64 fb.h, fb.v]⟩], rs7, [⟨b8, 24, [.bool fa.a, .int .i64 fa.h, (.slice (some ⟨bg7, 0, none⟩) fa.d.length cp7)]⟩], rs12, [⟨b13, 24, [.bool fb.a, .int .i64 fb.h, (.slice (some ⟨bg12, 0, none⟩) fb.d.length cp12)]⟩], rs17, [⟨b18, 24, [.bool false, .int .i64 0, .slice none 0 0]⟩]]) => ?_
  refine m_stA (l := [.bool ((joinF fa.a fa.h fa.d fb.a fb.h fb.d).1), .int .i64 ((joinF fa.a fa.h fa.d fb.a fb.h fb.d).2.1), (.slice av17 lv17 cv17)]) hM19 (i := 7) rfl rfl rfl rfl (by simp [oneCells, Value.oneCell', byteV]) (by simp) fun w20 (hM20 : Mem w [] w20 [[⟨b2, 24, [.bool fa.a, .int .i64 fa.h, fa.v]⟩], [⟨b4, 24, [.bool fb.a, .int .i64 fb.h, fb.v]⟩], rs7, [⟨b8, 24, [.bool fa.a, .int .i64 fa.h, (.slice (some ⟨bg7, 0, none⟩) fa.d.length cp7)]⟩], rs12, [⟨b13, 24, [.bool fb.a, .int .i64 fb.h, (.slice (some ⟨bg12, 0, none⟩) fb.d.length cp12)]⟩], rs17, [⟨b18, 24, [.bool ((joinF fa.a fa.h fa.d fb.a fb.h fb.d).1), .int .i64 ((joinF fa.a fa.h fa.d fb.a fb.h fb.d).2.1), (.slice av17 lv17 cv17)]⟩]]) => ?_
  refine stp (v := .int .i64 ((joinF fa.a fa.h fa.d fb.a fb.h fb.d).2.2.2)) (o_mv rfl) ?_
  refine h16 _ _ ?_
  clear h16
  refine seq fun K21 h21 => ?_
  refine m_ldA (l := [.bool fa.a, .int .i64 fa.h, (.slice (some ⟨bg7, 0, none⟩) fa.d.length cp7)]) hM20 (i := 3) (j := 0) rfl rfl rfl rfl rfl ?_
  refine m_ldA (l := [.bool fb.a, .int .i64 fb.h, (.slice (some ⟨bg12, 0, none⟩) fb.d.length cp12)]) hM20 (i := 5) (j := 0) rfl rfl rfl rfl rfl ?_
  refine m_call (Join_ok fa.a fb.a fa.h fb.h _ _ fa.d fb.d w20 (hT.upd hM20.upd) ((hs7.cutTo).rd hM20 (i := 2) rfl) ((hs12.cutTo).rd hM20 (i := 4) rfl) (by first | omega | (simp; done) | (simp; omega)) (by first | omega | (simp; done) | (simp; omega))) rfl fun v22 w22 ⟨vd22, rs22, hr22, hs22, hm22⟩ => ?_
  have hM22 : Mem w [] w22 [[⟨b2, 24, [.bool fa.a, .int .i64 fa.h, fa.v]⟩], [⟨b4, 24, [.bool fb.a, .int .i64 fb.h, fb.v]⟩], rs7, [⟨b8, 24, [.bool fa.a, .int .i64 fa.h, (.slice (some ⟨bg7, 0, none⟩) fa.d.length cp7)]⟩], rs12, [⟨b13, 24, [.bool fb.a, .int .i64 fb.h, (.slice (some ⟨bg12, 0, none⟩) fb.d.length cp12)]⟩], rs17, [⟨b18, 24, [.bool ((joinF fa.a fa.h fa.d fb.a fb.h fb.d).1), .int .i64 ((joinF fa.a fa.h fa.d fb.a fb.h fb.d).2.1), (.slice av17 lv17 cv17)]⟩], rs22] := hM20.add hm22
  obtain ⟨av22, lv22, cv22, rfl⟩ := hs22.isSlice
  subst hr22
  have hjl22 := joinF_len fa.a fa.h fa.d fb.a fb.h fb.d
  refine stp (v := .tuple [.agg ([.bool ((joinF fa.a fa.h fa.d fb.a fb.h fb.d).1), .int .i64 ((joinF fa.a fa.h fa.d fb.a fb.h fb.d).2.1), (.slice av22 lv22 cv22)] : List Value).toArray, .int .i64 ((joinF fa.a fa.h fa.d fb.a fb.h fb.d).2.2.2)].toArray) (o_mv rfl) ?_
  refine stp (v := .agg ([.bool ((joinF fa.a fa.h fa.d fb.a fb.h fb.d).1), .int .i64 ((joinF fa.a fa.h fa.d fb.a fb.h fb.d).2.1), (.slice av22 lv22 cv22)] : List Value).toArray) (o_ext rfl rfl) ?_
  refine stp (v := .int .i64 ((joinF fa.a fa.h fa.d fb.a fb.h fb.d).2.2.2)) (o_ext rfl rfl) ?_
  refine m_al hM22 fun b23 w24 (hM24 : Mem w [] w24 [[⟨b2, 24, [.bool fa.a, .int .i64 fa.h, fa.v]⟩], [⟨b4, 24, [.bool fb.a, .int .i64 fb.h, fb.v]⟩], rs7, [⟨b8, 24, [.bool fa.a, .int .i64 fa.h, (.slice (some ⟨bg7, 0, none⟩) fa.d.length cp7)]⟩], rs12, [⟨b13, 24, [.bool fb.a, .int .i64 fb.h, (.slice (some ⟨bg12, 0, none⟩) fb.d.length cp12)]⟩], rs17, [⟨b18, 24, [.bool ((joinF fa.a fa.h fa.d fb.a fb.h fb.d).1), .int .i64 ((joinF fa.a fa.h fa.d fb.a fb.h fb.d).2.1), (.slice av17 lv17 cv17)]⟩], rs22, [⟨b23, 24, [.bool false, .int .i64 0, .slice none 0 0]⟩]]) => ?_
  refine m_stA (l := [.bool ((joinF fa.a fa.h fa.d fb.a fb.h fb.d).1), .int .i64 ((joinF fa.a fa.h fa.d fb.a fb.h fb.d).2.1), (.slice av22 lv22 cv22)]) hM24 (i := 9) rfl rfl rfl rfl (by simp [oneCells, Value.oneCell', byteV]) (by simp) fun w25 (hM25 : Mem w [] w25 [[⟨b2, 24, [.bool fa.a, .int .i64 fa.h, fa.v]⟩], [⟨b4, 24, [.bool fb.a, .int .i64 fb.h, fb.v]⟩], rs7, [⟨b8, 24, [.bool fa.a, .int .i64 fa.h, (.slice (some ⟨bg7, 0, none⟩) fa.d.length cp7)]⟩], rs12, [⟨b13, 24, [.bool fb.a, .int .i64 fb.h, (.slice (some ⟨bg12, 0, none⟩) fb.d.length cp12)]⟩], rs17, [⟨b18, 24, [.bool ((joinF fa.a fa.h fa.d fb.a fb.h fb.d).1), .int .i64 ((joinF fa.a fa.h fa.d fb.a fb.h fb.d).2.1), (.slice av17 lv17 cv17)]⟩], rs22, [⟨b23, 24, [.bool ((joinF fa.a fa.h fa.d fb.a fb.h fb.d).1), .int .i64 ((joinF fa.a fa.h fa.d fb.a fb.h fb.d).2.1), (.slice av22 lv22 cv22)]⟩]]) => ?_
  refine stp (v := .int .i64 ((joinF fa.a fa.h fa.d fb.a fb.h fb.d).2.2.2)) (o_mv rfl) ?_
  refine h21 _ _ ?_
  clear h21
  refine seq fun K26 h26 => ?_
  refine stp (v := .pointer (some ⟨b18, 2, none⟩)) (o_fa rfl rfl) ?_
  refine m_ld (v := (.slice av17 lv17 cv17)) hM25 (i := 7) (j := 0) rfl rfl rfl rfl ?_
  refine m_call (fill_ok _ ((joinF fa.a fa.h fa.d fb.a fb.h fb.d).2.2.1) 7 rs17 w25 hs17 (hM25.res (i := 6) rfl) (by first | omega | (simp; done) | (simp; omega))) rfl fun v27 w27 ⟨hr27, hm27⟩ => ?_
  have hM27 : Mem w [] w27 [[⟨b2, 24, [.bool fa.a, .int .i64 fa.h, fa.v]⟩], [⟨b4, 24, [.bool fb.a, .int .i64 fb.h, fb.v]⟩], rs7, [⟨b8, 24, [.bool fa.a, .int .i64 fa.h, (.slice (some ⟨bg7, 0, none⟩) fa.d.length cp7)]⟩], rs12, [⟨b13, 24, [.bool fb.a, .int .i64 fb.h, (.slice (some ⟨bg12, 0, none⟩) fb.d.length cp12)]⟩], [], [⟨b18, 24, [.bool ((joinF fa.a fa.h fa.d fb.a fb.h fb.d).1), .int .i64 ((joinF fa.a fa.h fa.d fb.a fb.h fb.d).2.1), (.slice av17 lv17 cv17)]⟩], rs22, [⟨b23, 24, [.bool ((joinF fa.a fa.h fa.d fb.a fb.h fb.d).1), .int .i64 ((joinF fa.a fa.h fa.d fb.a fb.h fb.d).2.1), (.slice av22 lv22 cv22)]⟩]] := hM25.step 6 (r' := []) rfl (hm27.keep (by simp))
  subst hr27
  refine stp (v := .int .i64 (((joinF fa.a fa.h fa.d fb.a fb.h fb.d).2.2.1).length + 64 : Nat)) (o_mv rfl) ?_
  refine h26 _ _ ?_
  clear h26
  refine seq fun K28 h28 => ?_
  refine m_ldA (l := [.bool fa.a, .int .i64 fa.h, fa.v]) hM27 (i := 0) (j := 0) rfl rfl rfl rfl rfl ?_
  refine m_ldA (l := [.bool fb.a, .int .i64 fb.h, fb.v]) hM27 (i := 1) (j := 0) rfl rfl rfl rfl rfl ?_
  refine m_call (refJoin_ok fa.a fb.a fa.h fb.h _ _ fa.d fb.d w27 (hda.upd hM27.upd) (hdb.upd hM27.upd) (by first | omega | (simp; done) | (simp; omega)) (by first | omega | (simp; done) | (simp; omega))) rfl fun v29 w29 ⟨vd29, rs29, hr29, hs29, hm29⟩ => ?_
  have hM29 : Mem w [] w29 [[⟨b2, 24, [.bool fa.a, .int .i64 fa.h, fa.v]⟩], [⟨b4, 24, [.bool fb.a, .int .i64 fb.h, fb.v]⟩], rs7, [⟨b8, 24, [.bool fa.a, .int .i64 fa.h, (.slice (some ⟨bg7, 0, none⟩) fa.d.length cp7)]⟩], rs12, [⟨b13, 24, [.bool fb.a, .int .i64 fb.h, (.slice (some ⟨bg12, 0, none⟩) fb.d.length cp12)]⟩], [], [⟨b18, 24, [.bool ((joinF fa.a fa.h fa.d fb.a fb.h fb.d).1), .int .i64 ((joinF fa.a fa.h fa.d fb.a fb.h fb.d).2.1), (.slice av17 lv17 cv17)]⟩], rs22, [⟨b23, 24, [.bool ((joinF fa.a fa.h fa.d fb.a fb.h fb.d).1), .int .i64 ((joinF fa.a fa.h fa.d fb.a fb.h fb.d).2.1), (.slice av22 lv22 cv22)]⟩], rs29] := hM27.add hm29
  obtain ⟨av29, lv29, cv29, rfl⟩ := hs29.isSlice
  subst hr29
  have hjl29 := joinF_len fa.a fa.h fa.d fb.a fb.h fb.d
  refine stp (v := .tuple [.agg ([.bool ((joinF fa.a fa.h fa.d fb.a fb.h fb.d).1), .int .i64 ((joinF fa.a fa.h fa.d fb.a fb.h fb.d).2.1), (.slice av29 lv29 cv29)] : List Value).toArray, .int .i64 ((joinF fa.a fa.h fa.d fb.a fb.h fb.d).2.2.2)].toArray) (o_mv rfl) ?_
  refine stp (v := .agg ([.bool ((joinF fa.a fa.h fa.d fb.a fb.h fb.d).1), .int .i64 ((joinF fa.a fa.h fa.d fb.a fb.h fb.d).2.1), (.slice av29 lv29 cv29)] : List Value).toArray) (o_ext rfl rfl) ?_
  refine stp (v := .int .i64 ((joinF fa.a fa.h fa.d fb.a fb.h fb.d).2.2.2)) (o_ext rfl rfl) ?_
  refine m_al hM29 fun b30 w31 (hM31 : Mem w [] w31 [[⟨b2, 24, [.bool fa.a, .int .i64 fa.h, fa.v]⟩], [⟨b4, 24, [.bool fb.a, .int .i64 fb.h, fb.v]⟩], rs7, [⟨b8, 24, [.bool fa.a, .int .i64 fa.h, (.slice (some ⟨bg7, 0, none⟩) fa.d.length cp7)]⟩], rs12, [⟨b13, 24, [.bool fb.a, .int .i64 fb.h, (.slice (some ⟨bg12, 0, none⟩) fb.d.length cp12)]⟩], [], [⟨b18, 24, [.bool ((joinF fa.a fa.h fa.d fb.a fb.h fb.d).1), .int .i64 ((joinF fa.a fa.h fa.d fb.a fb.h fb.d).2.1), (.slice av17 lv17 cv17)]⟩], rs22, [⟨b23, 24, [.bool ((joinF fa.a fa.h fa.d fb.a fb.h fb.d).1), .int .i64 ((joinF fa.a fa.h fa.d fb.a fb.h fb.d).2.1), (.slice av22 lv22 cv22)]⟩], rs29, [⟨b30, 24, [.bool false, .int .i64 0, .slice none 0 0]⟩]]) => ?_
  refine m_stA (l := [.bool ((joinF fa.a fa.h fa.d fb.a fb.h fb.d).1), .int .i64 ((joinF fa.a fa.h fa.d fb.a fb.h fb.d).2.1), (.slice av29 lv29 cv29)]) hM31 (i := 11) rfl rfl rfl rfl (by simp [oneCells, Value.oneCell', byteV]) (by simp) fun w32 (hM32 : Mem w [] w32 [[⟨b2, 24, [.bool fa.a, .int .i64 fa.h, fa.v]⟩], [⟨b4, 24, [.bool fb.a, .int .i64 fb.h, fb.v]⟩], rs7, [⟨b8, 24, [.bool fa.a, .int .i64 fa.h, (.slice (some ⟨bg7, 0, none⟩) fa.d.length cp7)]⟩], rs12, [⟨b13, 24, [.bool fb.a, .int .i64 fb.h, (.slice (some ⟨bg12, 0, none⟩) fb.d.length cp12)]⟩], [], [⟨b18, 24, [.bool ((joinF fa.a fa.h fa.d fb.a fb.h fb.d).1), .int .i64 ((joinF fa.a fa.h fa.d fb.a fb.h fb.d).2.1), (.slice av17 lv17 cv17)]⟩], rs22, [⟨b23, 24, [.bool ((joinF fa.a fa.h fa.d fb.a fb.h fb.d).1), .int .i64 ((joinF fa.a fa.h fa.d fb.a fb.h fb.d).2.1), (.slice av22 lv22 cv22)]⟩], rs29, [⟨b30, 24, [.bool ((joinF fa.a fa.h fa.d fb.a fb.h fb.d).1), .int .i64 ((joinF fa.a fa.h fa.d fb.a fb.h fb.d).2.1), (.slice av29 lv29 cv29)]⟩]]) => ?_
  refine stp (v := .int .i64 ((joinF fa.a fa.h fa.d fb.a fb.h fb.d).2.2.2)) (o_mv rfl) ?_
  refine h28 _ _ ?_
  clear h28
  refine seq fun K33 h33 => ?_
  refine seq fun K34 h34 => ?_
  refine stp (v := .int .i64 ((joinF fa.a fa.h fa.d fb.a fb.h fb.d).2.2.2)) (o_mv rfl) ?_
  refine stp (v := .int .i64 ((joinF fa.a fa.h fa.d fb.a fb.h fb.d).2.2.2)) (o_mv rfl) ?_
  refine stp (v := .bool false) (o_bin rfl rfl v_neF) ?_
  refine stp (v := .bool false) (o_mv rfl) ?_
  refine splitF rfl ?_
  refine stg rfl (v := .int .i64 ((joinF fa.a fa.h fa.d fb.a fb.h fb.d).2.2.2)) (o_mv rfl) ?_
  refine stg rfl (v := .int .i64 ((joinF fa.a fa.h fa.d fb.a fb.h fb.d).2.2.2)) (o_mv rfl) ?_
  refine stg rfl (v := .bool false) (o_bin rfl rfl v_neF) ?_
  refine stp (v := .bool false) (o_pickF rfl rfl) ?_
  refine stp (v := .bool false) (o_mv rfl) ?_
  refine splitF rfl ?_
  refine gyesl rfl ?_
  refine m_ldA (l := [.bool ((joinF fa.a fa.h fa.d fb.a fb.h fb.d).1), .int .i64 ((joinF fa.a fa.h fa.d fb.a fb.h fb.d).2.1), (.slice av22 lv22 cv22)]) hM32 (i := 9) (j := 0) rfl rfl rfl rfl rfl ?_
  refine gyesl rfl ?_
  refine m_ldA (l := [.bool ((joinF fa.a fa.h fa.d fb.a fb.h fb.d).1), .int .i64 ((joinF fa.a fa.h fa.d fb.a fb.h fb.d).2.1), (.slice av29 lv29 cv29)]) hM32 (i := 11) (j := 0) rfl rfl rfl rfl rfl ?_
  refine gyesl rfl ?_
  refine m_call (alike_ok ((joinF fa.a fa.h fa.d fb.a fb.h fb.d).1) ((joinF fa.a fa.h fa.d fb.a fb.h fb.d).1) ((joinF fa.a fa.h fa.d fb.a fb.h fb.d).2.1) ((joinF fa.a fa.h fa.d fb.a fb.h fb.d).2.1) _ _ ((joinF fa.a fa.h fa.d fb.a fb.h fb.d).2.2.1) ((joinF fa.a fa.h fa.d fb.a fb.h fb.d).2.2.1) w32 (hs22.rd hM32 (i := 8) rfl) (hs29.rd hM32 (i := 10) rfl) (by first | omega | (simp; done) | (simp; omega))) rfl fun v35 w35 ⟨hr35, hu35⟩ => ?_
  have hM35 : Mem w [] w35 [[⟨b2, 24, [.bool fa.a, .int .i64 fa.h, fa.v]⟩], [⟨b4, 24, [.bool fb.a, .int .i64 fb.h, fb.v]⟩], rs7, [⟨b8, 24, [.bool fa.a, .int .i64 fa.h, (.slice (some ⟨bg7, 0, none⟩) fa.d.length cp7)]⟩], rs12, [⟨b13, 24, [.bool fb.a, .int .i64 fb.h, (.slice (some ⟨bg12, 0, none⟩) fb.d.length cp12)]⟩], [], [⟨b18, 24, [.bool ((joinF fa.a fa.h fa.d fb.a fb.h fb.d).1), .int .i64 ((joinF fa.a fa.h fa.d fb.a fb.h fb.d).2.1), (.slice av17 lv17 cv17)]⟩], rs22, [⟨b23, 24, [.bool ((joinF fa.a fa.h fa.d fb.a fb.h fb.d).1), .int .i64 ((joinF fa.a fa.h fa.d fb.a fb.h fb.d).2.1), (.slice av22 lv22 cv22)]⟩], rs29, [⟨b30, 24, [.bool ((joinF fa.a fa.h fa.d fb.a fb.h fb.d).1), .int .i64 ((joinF fa.a fa.h fa.d fb.a fb.h fb.d).2.1), (.slice av29 lv29 cv29)]⟩]] := hM32.pure hu35
  obtain rfl : v35 = .bool true := hr35.trans (by rw [alikeF_self])
  refine stg rfl (v := .bool false) (o_not rfl rfl) ?_
  refine stp (v := .bool false) (o_pickF rfl rfl) ?_
  refine stp (v := .bool false) (o_mv rfl) ?_
  refine splitF rfl ?_
  refine stg rfl (v := .int .i64 (((joinF fa.a fa.h fa.d fb.a fb.h fb.d).2.2.1).length + 64 : Nat)) (o_mv rfl) ?_
  refine stg rfl (v := .pointer (some ⟨b30, 2, none⟩)) (o_fa rfl rfl) ?_
  refine gyesl rfl ?_
  refine m_ld (v := (.slice av29 lv29 cv29)) hM35 (i := 11) (j := 0) rfl rfl rfl rfl ?_
  refine stg rfl (v := .int .i64 (((joinF fa.a fa.h fa.d fb.a fb.h fb.d).2.2.1).length : Nat)) (o_lenR (hs29.rd hM35 (i := 10) rfl) rfl rfl) ?_
  refine stg rfl (v := .int .i64 ((((joinF fa.a fa.h fa.d fb.a fb.h fb.d).2.2.1).length : Nat) + 64)) (o_bin rfl rfl (v_add64 (by constructor <;> omega))) ?_
  refine stg rfl (v := .bool (decide (¬ ((((joinF fa.a fa.h fa.d fb.a fb.h fb.d).2.2.1).length + 64 : Nat) : Int) = ((((joinF fa.a fa.h fa.d fb.a fb.h fb.d).2.2.1).length : Nat) + 64)))) (o_bin rfl rfl v_neq) ?_
  refine stp (v := .bool (decide (¬ ((((joinF fa.a fa.h fa.d fb.a fb.h fb.d).2.2.1).length + 64 : Nat) : Int) = ((((joinF fa.a fa.h fa.d fb.a fb.h fb.d).2.2.1).length : Nat) + 64)))) (o_pickF rfl rfl) ?_
  refine stp (v := .bool (decide (¬ ((((joinF fa.a fa.h fa.d fb.a fb.h fb.d).2.2.1).length + 64 : Nat) : Int) = ((((joinF fa.a fa.h fa.d fb.a fb.h fb.d).2.2.1).length : Nat) + 64)))) (o_mv rfl) ?_
  refine splitP rfl (fun c36 => absurd c36 (by omega)) (fun c36 => ?_)
  refine gyesl rfl ?_
  refine m_ldA (l := [.bool fa.a, .int .i64 fa.h, (.slice (some ⟨bg7, 0, none⟩) fa.d.length cp7)]) hM35 (i := 3) (j := 0) rfl rfl rfl rfl rfl ?_
  refine gyesl rfl ?_
  refine m_ldA (l := [.bool fa.a, .int .i64 fa.h, fa.v]) hM35 (i := 0) (j := 0) rfl rfl rfl rfl rfl ?_
  refine gyesl rfl ?_
  refine m_call (kept_ok fa.a fa.h bg7 cp7 _ fa.d w35 ((hs7.cutTo).rd hM35 (i := 2) rfl) (hs7.rd hM35 (i := 2) rfl) hcp7 (hda.upd hM35.upd) (by first | omega | (simp; done) | (simp; omega))) rfl fun v37 w37 ⟨hr37, hu37⟩ => ?_
  have hM37 : Mem w [] w37 [[⟨b2, 24, [.bool fa.a, .int .i64 fa.h, fa.v]⟩], [⟨b4, 24, [.bool fb.a, .int .i64 fb.h, fb.v]⟩], rs7, [⟨b8, 24, [.bool fa.a, .int .i64 fa.h, (.slice (some ⟨bg7, 0, none⟩) fa.d.length cp7)]⟩], rs12, [⟨b13, 24, [.bool fb.a, .int .i64 fb.h, (.slice (some ⟨bg12, 0, none⟩) fb.d.length cp12)]⟩], [], [⟨b18, 24, [.bool ((joinF fa.a fa.h fa.d fb.a fb.h fb.d).1), .int .i64 ((joinF fa.a fa.h fa.d fb.a fb.h fb.d).2.1), (.slice av17 lv17 cv17)]⟩], rs22, [⟨b23, 24, [.bool ((joinF fa.a fa.h fa.d fb.a fb.h fb.d).1), .int .i64 ((joinF fa.a fa.h fa.d fb.a fb.h fb.d).2.1), (.slice av22 lv22 cv22)]⟩], rs29, [⟨b30, 24, [.bool ((joinF fa.a fa.h fa.d fb.a fb.h fb.d).1), .int .i64 ((joinF fa.a fa.h fa.d fb.a fb.h fb.d).2.1), (.slice av29 lv29 cv29)]⟩]] := hM35.pure hu37
  subst hr37
  refine stg rfl (v := .bool false) (o_not rfl rfl) ?_
  refine stp (v := .bool false) (o_pickF rfl rfl) ?_
  refine stp (v := .bool false) (o_mv rfl) ?_
  refine splitF rfl ?_
  refine gyesl rfl ?_
  refine m_ldA (l := [.bool fb.a, .int .i64 fb.h, (.slice (some ⟨bg12, 0, none⟩) fb.d.length cp12)]) hM37 (i := 5) (j := 0) rfl rfl rfl rfl rfl ?_
  refine gyesl rfl ?_
  refine m_ldA (l := [.bool fb.a, .int .i64 fb.h, fb.v]) hM37 (i := 1) (j := 0) rfl rfl rfl rfl rfl ?_
  refine gyesl rfl ?_
  refine m_call (kept_ok fb.a fb.h bg12 cp12 _ fb.d w37 ((hs12.cutTo).rd hM37 (i := 4) rfl) (hs12.rd hM37 (i := 4) rfl) hcp12 (hdb.upd hM37.upd) (by first | omega | (simp; done) | (simp; omega))) rfl fun v38 w38 ⟨hr38, hu38⟩ => ?_
  have hM38 : Mem w [] w38 [[⟨b2, 24, [.bool fa.a, .int .i64 fa.h, fa.v]⟩], [⟨b4, 24, [.bool fb.a, .int .i64 fb.h, fb.v]⟩], rs7, [⟨b8, 24, [.bool fa.a, .int .i64 fa.h, (.slice (some ⟨bg7, 0, none⟩) fa.d.length cp7)]⟩], rs12, [⟨b13, 24, [.bool fb.a, .int .i64 fb.h, (.slice (some ⟨bg12, 0, none⟩) fb.d.length cp12)]⟩], [], [⟨b18, 24, [.bool ((joinF fa.a fa.h fa.d fb.a fb.h fb.d).1), .int .i64 ((joinF fa.a fa.h fa.d fb.a fb.h fb.d).2.1), (.slice av17 lv17 cv17)]⟩], rs22, [⟨b23, 24, [.bool ((joinF fa.a fa.h fa.d fb.a fb.h fb.d).1), .int .i64 ((joinF fa.a fa.h fa.d fb.a fb.h fb.d).2.1), (.slice av22 lv22 cv22)]⟩], rs29, [⟨b30, 24, [.bool ((joinF fa.a fa.h fa.d fb.a fb.h fb.d).1), .int .i64 ((joinF fa.a fa.h fa.d fb.a fb.h fb.d).2.1), (.slice av29 lv29 cv29)]⟩]] := hM37.pure hu38
  subst hr38
  refine stg rfl (v := .bool false) (o_not rfl rfl) ?_
  refine stp (v := .bool false) (o_pickF rfl rfl) ?_
  refine h34 _ _ ?_
  clear h34
  refine cndF rfl ?_
  refine h33 _ _ ?_
  clear h33
  refine seqc (fun f w' => ∃ (b14 : Nat) (b15 : Nat) (gp : Nat) (cp : Nat) (gq : Nat) (cq : Nat) (rp : List Ent) (rq : List Ent), f 14 = .pointer (some ⟨b14, 0, none⟩) ∧ f 15 = .pointer (some ⟨b15, 0, none⟩) ∧ f 5 = .pointer (some ⟨b8, 0, none⟩) ∧ f 6 = .pointer (some ⟨b13, 0, none⟩) ∧ f 9 = .pointer (some ⟨b23, 0, none⟩) ∧ f 12 = .pointer (some ⟨b30, 0, none⟩) ∧ Mem w [] w' [[⟨b2, 24, [.bool fa.a, .int .i64 fa.h, fa.v]⟩], [⟨b4, 24, [.bool fb.a, .int .i64 fb.h, fb.v]⟩], rs7, [⟨b8, 24, [.bool fa.a, .int .i64 fa.h, (.slice (some ⟨bg7, 0, none⟩) fa.d.length cp7)]⟩], rs12, [⟨b13, 24, [.bool fb.a, .int .i64 fb.h, (.slice (some ⟨bg12, 0, none⟩) fb.d.length cp12)]⟩], [], [⟨b18, 24, [.bool ((joinF fa.a fa.h fa.d fb.a fb.h fb.d).1), .int .i64 ((joinF fa.a fa.h fa.d fb.a fb.h fb.d).2.1), (.slice av17 lv17 cv17)]⟩], rs22, [⟨b23, 24, [.bool ((joinF fa.a fa.h fa.d fb.a fb.h fb.d).1), .int .i64 ((joinF fa.a fa.h fa.d fb.a fb.h fb.d).2.1), (.slice av22 lv22 cv22)]⟩], rs29, [⟨b30, 24, [.bool ((joinF fa.a fa.h fa.d fb.a fb.h fb.d).1), .int .i64 ((joinF fa.a fa.h fa.d fb.a fb.h fb.d).2.1), (.slice av29 lv29 cv29)]⟩], rp, rq, [⟨b14, 24, [.bool fa.a, .int .i64 fa.h, (.slice (some ⟨gp, 0, none⟩) fa.d.length cp)]⟩], [⟨b15, 24, [.bool fb.a, .int .i64 fb.h, (.slice (some ⟨gq, 0, none⟩) fb.d.length cq)]⟩]] ∧ ((fa.d ++ List.replicate 64 (165 : UInt8)).length ≤ cp) ∧ (SlE byteV 5 (.slice (some ⟨gp, 0, none⟩) (fa.d ++ List.replicate 64 (165 : UInt8)).length cp) (fa.d ++ List.replicate 64 (165 : UInt8)) rp) ∧ ((fb.d ++ List.replicate 64 (165 : UInt8)).length ≤ cq) ∧ (SlE byteV 5 (.slice (some ⟨gq, 0, none⟩) (fb.d ++ List.replicate 64 (165 : UInt8)).length cq) (fb.d ++ List.replicate 64 (165 : UInt8)) rq)) ?_ ?_
  · intro K39 h39
    intro wd e1 e2 e3 e4
    have hd := Upd.same e1 e2 e3 e4 []
    have hM41 := hM38.pure hd
    clear e1 e2 e3 e4
    refine ⟨(some [b4, b2]), ?_⟩
    show vd _ _ _ _ _ _ _
    refine dqldA (cs := [.bool fb.a, .int .i64 fb.h, fb.v]) rfl (by simp [isHeld]) rfl ((hM41.at (i := 1) (j := 0) rfl rfl).agg rfl rfl) ?_
    refine dqldA (cs := [.bool fa.a, .int .i64 fa.h, fa.v]) rfl (by simp [isHeld]) rfl ((hM41.at (i := 0) (j := 0) rfl rfl).agg rfl rfl) ?_
    show _ ∧ _
    refine ⟨?_, ?_⟩
    ·
      show vd _ _ _ _ _ _ _
      refine dl (m_call (given_ok fa.a fa.h _ fa.d wd (hda.upd hM41.upd) (by first | omega | (simp; done) | (simp; omega))) rfl fun v42 w42 ⟨bg42, cp42, rs42, hr42, hcp42, hs42, hm42⟩ => ?_)
      have hM42 : Mem w [] w42 [[⟨b2, 24, [.bool fa.a, .int .i64 fa.h, fa.v]⟩], [⟨b4, 24, [.bool fb.a, .int .i64 fb.h, fb.v]⟩], rs7, [⟨b8, 24, [.bool fa.a, .int .i64 fa.h, (.slice (some ⟨bg7, 0, none⟩) fa.d.length cp7)]⟩], rs12, [⟨b13, 24, [.bool fb.a, .int .i64 fb.h, (.slice (some ⟨bg12, 0, none⟩) fb.d.length cp12)]⟩], [], [⟨b18, 24, [.bool ((joinF fa.a fa.h fa.d fb.a fb.h fb.d).1), .int .i64 ((joinF fa.a fa.h fa.d fb.a fb.h fb.d).2.1), (.slice av17 lv17 cv17)]⟩], rs22, [⟨b23, 24, [.bool ((joinF fa.a fa.h fa.d fb.a fb.h fb.d).1), .int .i64 ((joinF fa.a fa.h fa.d fb.a fb.h fb.d).2.1), (.slice av22 lv22 cv22)]⟩], rs29, [⟨b30, 24, [.bool ((joinF fa.a fa.h fa.d fb.a fb.h fb.d).1), .int .i64 ((joinF fa.a fa.h fa.d fb.a fb.h fb.d).2.1), (.slice av29 lv29 cv29)]⟩], rs42] := hM41.add hm42
      subst hr42
      have hh42 := held_upd (wr := wd) (bs := [b4, b2]) hm42.upd (fun b hb => by
        simp only [List.mem_cons, List.not_mem_nil, or_false] at hb
        rcases hb with h | h
        · rw [h]; exact ⟨(hM41.at (i := 1) (j := 0) rfl rfl).lt, by simp⟩
        · rw [h]; exact ⟨(hM41.at (i := 0) (j := 0) rfl rfl).lt, by simp⟩) (fun b hb => rfl)
      refine ⟨hh42, ?_⟩
      show _ ∧ _
      refine ⟨?_, ?_⟩
      ·
        show vd _ _ _ _ _ _ _
        refine dl (m_call (given_ok fb.a fb.h _ fb.d w42 (hdb.upd hM42.upd) (by first | omega | (simp; done) | (simp; omega))) rfl fun v43 w43 ⟨bg43, cp43, rs43, hr43, hcp43, hs43, hm43⟩ => ?_)
        have hM43 : Mem w [] w43 [[⟨b2, 24, [.bool fa.a, .int .i64 fa.h, fa.v]⟩], [⟨b4, 24, [.bool fb.a, .int .i64 fb.h, fb.v]⟩], rs7, [⟨b8, 24, [.bool fa.a, .int .i64 fa.h, (.slice (some ⟨bg7, 0, none⟩) fa.d.length cp7)]⟩], rs12, [⟨b13, 24, [.bool fb.a, .int .i64 fb.h, (.slice (some ⟨bg12, 0, none⟩) fb.d.length cp12)]⟩], [], [⟨b18, 24, [.bool ((joinF fa.a fa.h fa.d fb.a fb.h fb.d).1), .int .i64 ((joinF fa.a fa.h fa.d fb.a fb.h fb.d).2.1), (.slice av17 lv17 cv17)]⟩], rs22, [⟨b23, 24, [.bool ((joinF fa.a fa.h fa.d fb.a fb.h fb.d).1), .int .i64 ((joinF fa.a fa.h fa.d fb.a fb.h fb.d).2.1), (.slice av22 lv22 cv22)]⟩], rs29, [⟨b30, 24, [.bool ((joinF fa.a fa.h fa.d fb.a fb.h fb.d).1), .int .i64 ((joinF fa.a fa.h fa.d fb.a fb.h fb.d).2.1), (.slice av29 lv29 cv29)]⟩], rs42, rs43] := hM42.add hm43
        subst hr43
        have hh43 := held_upd (wr := wd) (bs := [b4, b2]) hm43.upd (fun b hb => by
          simp only [List.mem_cons, List.not_mem_nil, or_false] at hb
          rcases hb with h | h
          · rw [h]; exact ⟨(hM42.at (i := 1) (j := 0) rfl rfl).lt, by simp⟩
          · rw [h]; exact ⟨(hM42.at (i := 0) (j := 0) rfl rfl).lt, by simp⟩) hh42
        refine ⟨hh43, ?_⟩
        show _ ∧ _
        refine ⟨?_, ?_⟩
        ·
          show vd _ _ _ _ _ _ _
          refine dl (m_alU hM43 fun b44 w45 hup45 (hM45 : Mem w [] w45 [[⟨b2, 24, [.bool fa.a, .int .i64 fa.h, fa.v]⟩], [⟨b4, 24, [.bool fb.a, .int .i64 fb.h, fb.v]⟩], rs7, [⟨b8, 24, [.bool fa.a, .int .i64 fa.h, (.slice (some ⟨bg7, 0, none⟩) fa.d.length cp7)]⟩], rs12, [⟨b13, 24, [.bool fb.a, .int .i64 fb.h, (.slice (some ⟨bg12, 0, none⟩) fb.d.length cp12)]⟩], [], [⟨b18, 24, [.bool ((joinF fa.a fa.h fa.d fb.a fb.h fb.d).1), .int .i64 ((joinF fa.a fa.h fa.d fb.a fb.h fb.d).2.1), (.slice av17 lv17 cv17)]⟩], rs22, [⟨b23, 24, [.bool ((joinF fa.a fa.h fa.d fb.a fb.h fb.d).1), .int .i64 ((joinF fa.a fa.h fa.d fb.a fb.h fb.d).2.1), (.slice av22 lv22 cv22)]⟩], rs29, [⟨b30, 24, [.bool ((joinF fa.a fa.h fa.d fb.a fb.h fb.d).1), .int .i64 ((joinF fa.a fa.h fa.d fb.a fb.h fb.d).2.1), (.slice av29 lv29 cv29)]⟩], rs42, rs43, [⟨b44, 24, [.bool false, .int .i64 0, .slice none 0 0]⟩]]) => ?_)
          have hh45 := held_upd (wr := wd) (bs := [b4, b2]) hup45 (fun b hb => by
            simp only [List.mem_cons, List.not_mem_nil, or_false] at hb
            rcases hb with h | h
            · rw [h]; exact ⟨(hM43.at (i := 1) (j := 0) rfl rfl).lt, by simp⟩
            · rw [h]; exact ⟨(hM43.at (i := 0) (j := 0) rfl rfl).lt, by simp⟩) hh43
          refine ⟨hh45, ?_⟩
          refine dl (m_alU hM45 fun b46 w47 hup47 (hM47 : Mem w [] w47 [[⟨b2, 24, [.bool fa.a, .int .i64 fa.h, fa.v]⟩], [⟨b4, 24, [.bool fb.a, .int .i64 fb.h, fb.v]⟩], rs7, [⟨b8, 24, [.bool fa.a, .int .i64 fa.h, (.slice (some ⟨bg7, 0, none⟩) fa.d.length cp7)]⟩], rs12, [⟨b13, 24, [.bool fb.a, .int .i64 fb.h, (.slice (some ⟨bg12, 0, none⟩) fb.d.length cp12)]⟩], [], [⟨b18, 24, [.bool ((joinF fa.a fa.h fa.d fb.a fb.h fb.d).1), .int .i64 ((joinF fa.a fa.h fa.d fb.a fb.h fb.d).2.1), (.slice av17 lv17 cv17)]⟩], rs22, [⟨b23, 24, [.bool ((joinF fa.a fa.h fa.d fb.a fb.h fb.d).1), .int .i64 ((joinF fa.a fa.h fa.d fb.a fb.h fb.d).2.1), (.slice av22 lv22 cv22)]⟩], rs29, [⟨b30, 24, [.bool ((joinF fa.a fa.h fa.d fb.a fb.h fb.d).1), .int .i64 ((joinF fa.a fa.h fa.d fb.a fb.h fb.d).2.1), (.slice av29 lv29 cv29)]⟩], rs42, rs43, [⟨b44, 24, [.bool false, .int .i64 0, .slice none 0 0]⟩], [⟨b46, 24, [.bool false, .int .i64 0, .slice none 0 0]⟩]]) => ?_)
          have hh47 := held_upd (wr := wd) (bs := [b4, b2]) hup47 (fun b hb => by
            simp only [List.mem_cons, List.not_mem_nil, or_false] at hb
            rcases hb with h | h
            · rw [h]; exact ⟨(hM45.at (i := 1) (j := 0) rfl rfl).lt, by simp⟩
            · rw [h]; exact ⟨(hM45.at (i := 0) (j := 0) rfl rfl).lt, by simp⟩) hh45
          refine ⟨hh47, ?_⟩
          refine dl (m_stAU (l := [.bool fa.a, .int .i64 fa.h, (.slice (some ⟨bg42, 0, none⟩) fa.d.length cp42)]) hM47 (i := 14) rfl rfl rfl rfl (by simp [oneCells, Value.oneCell', byteV]) (by simp) fun w48 hup48 (hM48 : Mem w [] w48 [[⟨b2, 24, [.bool fa.a, .int .i64 fa.h, fa.v]⟩], [⟨b4, 24, [.bool fb.a, .int .i64 fb.h, fb.v]⟩], rs7, [⟨b8, 24, [.bool fa.a, .int .i64 fa.h, (.slice (some ⟨bg7, 0, none⟩) fa.d.length cp7)]⟩], rs12, [⟨b13, 24, [.bool fb.a, .int .i64 fb.h, (.slice (some ⟨bg12, 0, none⟩) fb.d.length cp12)]⟩], [], [⟨b18, 24, [.bool ((joinF fa.a fa.h fa.d fb.a fb.h fb.d).1), .int .i64 ((joinF fa.a fa.h fa.d fb.a fb.h fb.d).2.1), (.slice av17 lv17 cv17)]⟩], rs22, [⟨b23, 24, [.bool ((joinF fa.a fa.h fa.d fb.a fb.h fb.d).1), .int .i64 ((joinF fa.a fa.h fa.d fb.a fb.h fb.d).2.1), (.slice av22 lv22 cv22)]⟩], rs29, [⟨b30, 24, [.bool ((joinF fa.a fa.h fa.d fb.a fb.h fb.d).1), .int .i64 ((joinF fa.a fa.h fa.d fb.a fb.h fb.d).2.1), (.slice av29 lv29 cv29)]⟩], rs42, rs43, [⟨b44, 24, [.bool fa.a, .int .i64 fa.h, (.slice (some ⟨bg42, 0, none⟩) fa.d.length cp42)]⟩], [⟨b46, 24, [.bool false, .int .i64 0, .slice none 0 0]⟩]]) => ?_)
          have hh48 := held_upd (wr := wd) (bs := [b4, b2]) hup48 (fun b hb => by
            simp only [List.mem_cons, List.not_mem_nil, or_false] at hb
            rcases hb with h | h
            · rw [h]; exact ⟨(hM47.at (i := 1) (j := 0) rfl rfl).lt, hM47.apart (i := 1) (j := 0) (k := 14) rfl rfl rfl (by decide)⟩
            · rw [h]; exact ⟨(hM47.at (i := 0) (j := 0) rfl rfl).lt, hM47.apart (i := 0) (j := 0) (k := 14) rfl rfl rfl (by decide)⟩) hh47
          refine ⟨hh48, ?_⟩
          refine dl (m_stAU (l := [.bool fb.a, .int .i64 fb.h, (.slice (some ⟨bg43, 0, none⟩) fb.d.length cp43)]) hM48 (i := 15) rfl rfl rfl rfl (by simp [oneCells, Value.oneCell', byteV]) (by simp) fun w49 hup49 (hM49 : Mem w [] w49 [[⟨b2, 24, [.bool fa.a, .int .i64 fa.h, fa.v]⟩], [⟨b4, 24, [.bool fb.a, .int .i64 fb.h, fb.v]⟩], rs7, [⟨b8, 24, [.bool fa.a, .int .i64 fa.h, (.slice (some ⟨bg7, 0, none⟩) fa.d.length cp7)]⟩], rs12, [⟨b13, 24, [.bool fb.a, .int .i64 fb.h, (.slice (some ⟨bg12, 0, none⟩) fb.d.length cp12)]⟩], [], [⟨b18, 24, [.bool ((joinF fa.a fa.h fa.d fb.a fb.h fb.d).1), .int .i64 ((joinF fa.a fa.h fa.d fb.a fb.h fb.d).2.1), (.slice av17 lv17 cv17)]⟩], rs22, [⟨b23, 24, [.bool ((joinF fa.a fa.h fa.d fb.a fb.h fb.d).1), .int .i64 ((joinF fa.a fa.h fa.d fb.a fb.h fb.d).2.1), (.slice av22 lv22 cv22)]⟩], rs29, [⟨b30, 24, [.bool ((joinF fa.a fa.h fa.d fb.a fb.h fb.d).1), .int .i64 ((joinF fa.a fa.h fa.d fb.a fb.h fb.d).2.1), (.slice av29 lv29 cv29)]⟩], rs42, rs43, [⟨b44, 24, [.bool fa.a, .int .i64 fa.h, (.slice (some ⟨bg42, 0, none⟩) fa.d.length cp42)]⟩], [⟨b46, 24, [.bool fb.a, .int .i64 fb.h, (.slice (some ⟨bg43, 0, none⟩) fb.d.length cp43)]⟩]]) => ?_)
          have hh49 := held_upd (wr := wd) (bs := [b4, b2]) hup49 (fun b hb => by
            simp only [List.mem_cons, List.not_mem_nil, or_false] at hb
            rcases hb with h | h
            · rw [h]; exact ⟨(hM48.at (i := 1) (j := 0) rfl rfl).lt, hM48.apart (i := 1) (j := 0) (k := 15) rfl rfl rfl (by decide)⟩
            · rw [h]; exact ⟨(hM48.at (i := 0) (j := 0) rfl rfl).lt, hM48.apart (i := 0) (j := 0) (k := 15) rfl rfl rfl (by decide)⟩) hh48
          refine ⟨hh49, ?_⟩
          refine h39 _ _ ⟨b44, b46, bg42, cp42, bg43, cp43, rs42, rs43, rfl, rfl, rfl, rfl, rfl, rfl, hM49, hcp42, hs42, hcp43, hs43⟩
        ·
          show vd _ _ _ _ _ _ _
          refine dl (m_alU hM43 fun b50 w51 hup51 (hM51 : Mem w [] w51 [[⟨b2, 24, [.bool fa.a, .int .i64 fa.h, fa.v]⟩], [⟨b4, 24, [.bool fb.a, .int .i64 fb.h, fb.v]⟩], rs7, [⟨b8, 24, [.bool fa.a, .int .i64 fa.h, (.slice (some ⟨bg7, 0, none⟩) fa.d.length cp7)]⟩], rs12, [⟨b13, 24, [.bool fb.a, .int .i64 fb.h, (.slice (some ⟨bg12, 0, none⟩) fb.d.length cp12)]⟩], [], [⟨b18, 24, [.bool ((joinF fa.a fa.h fa.d fb.a fb.h fb.d).1), .int .i64 ((joinF fa.a fa.h fa.d fb.a fb.h fb.d).2.1), (.slice av17 lv17 cv17)]⟩], rs22, [⟨b23, 24, [.bool ((joinF fa.a fa.h fa.d fb.a fb.h fb.d).1), .int .i64 ((joinF fa.a fa.h fa.d fb.a fb.h fb.d).2.1), (.slice av22 lv22 cv22)]⟩], rs29, [⟨b30, 24, [.bool ((joinF fa.a fa.h fa.d fb.a fb.h fb.d).1), .int .i64 ((joinF fa.a fa.h fa.d fb.a fb.h fb.d).2.1), (.slice av29 lv29 cv29)]⟩], rs42, rs43, [⟨b50, 24, [.bool false, .int .i64 0, .slice none 0 0]⟩]]) => ?_)
          have hh51 := held_upd (wr := wd) (bs := [b4, b2]) hup51 (fun b hb => by
            simp only [List.mem_cons, List.not_mem_nil, or_false] at hb
            rcases hb with h | h
            · rw [h]; exact ⟨(hM43.at (i := 1) (j := 0) rfl rfl).lt, by simp⟩
            · rw [h]; exact ⟨(hM43.at (i := 0) (j := 0) rfl rfl).lt, by simp⟩) hh43
          refine ⟨hh51, ?_⟩
          refine dl (m_alU hM51 fun b52 w53 hup53 (hM53 : Mem w [] w53 [[⟨b2, 24, [.bool fa.a, .int .i64 fa.h, fa.v]⟩], [⟨b4, 24, [.bool fb.a, .int .i64 fb.h, fb.v]⟩], rs7, [⟨b8, 24, [.bool fa.a, .int .i64 fa.h, (.slice (some ⟨bg7, 0, none⟩) fa.d.length cp7)]⟩], rs12, [⟨b13, 24, [.bool fb.a, .int .i64 fb.h, (.slice (some ⟨bg12, 0, none⟩) fb.d.length cp12)]⟩], [], [⟨b18, 24, [.bool ((joinF fa.a fa.h fa.d fb.a fb.h fb.d).1), .int .i64 ((joinF fa.a fa.h fa.d fb.a fb.h fb.d).2.1), (.slice av17 lv17 cv17)]⟩], rs22, [⟨b23, 24, [.bool ((joinF fa.a fa.h fa.d fb.a fb.h fb.d).1), .int .i64 ((joinF fa.a fa.h fa.d fb.a fb.h fb.d).2.1), (.slice av22 lv22 cv22)]⟩], rs29, [⟨b30, 24, [.bool ((joinF fa.a fa.h fa.d fb.a fb.h fb.d).1), .int .i64 ((joinF fa.a fa.h fa.d fb.a fb.h fb.d).2.1), (.slice av29 lv29 cv29)]⟩], rs42, rs43, [⟨b50, 24, [.bool false, .int .i64 0, .slice none 0 0]⟩], [⟨b52, 24, [.bool false, .int .i64 0, .slice none 0 0]⟩]]) => ?_)
          have hh53 := held_upd (wr := wd) (bs := [b4, b2]) hup53 (fun b hb => by
            simp only [List.mem_cons, List.not_mem_nil, or_false] at hb
            rcases hb with h | h
            · rw [h]; exact ⟨(hM51.at (i := 1) (j := 0) rfl rfl).lt, by simp⟩
            · rw [h]; exact ⟨(hM51.at (i := 0) (j := 0) rfl rfl).lt, by simp⟩) hh51
          refine ⟨hh53, ?_⟩
          refine dl (m_stAU (l := [.bool fa.a, .int .i64 fa.h, (.slice (some ⟨bg42, 0, none⟩) fa.d.length cp42)]) hM53 (i := 15) rfl rfl rfl rfl (by simp [oneCells, Value.oneCell', byteV]) (by simp) fun w54 hup54 (hM54 : Mem w [] w54 [[⟨b2, 24, [.bool fa.a, .int .i64 fa.h, fa.v]⟩], [⟨b4, 24, [.bool fb.a, .int .i64 fb.h, fb.v]⟩], rs7, [⟨b8, 24, [.bool fa.a, .int .i64 fa.h, (.slice (some ⟨bg7, 0, none⟩) fa.d.length cp7)]⟩], rs12, [⟨b13, 24, [.bool fb.a, .int .i64 fb.h, (.slice (some ⟨bg12, 0, none⟩) fb.d.length cp12)]⟩], [], [⟨b18, 24, [.bool ((joinF fa.a fa.h fa.d fb.a fb.h fb.d).1), .int .i64 ((joinF fa.a fa.h fa.d fb.a fb.h fb.d).2.1), (.slice av17 lv17 cv17)]⟩], rs22, [⟨b23, 24, [.bool ((joinF fa.a fa.h fa.d fb.a fb.h fb.d).1), .int .i64 ((joinF fa.a fa.h fa.d fb.a fb.h fb.d).2.1), (.slice av22 lv22 cv22)]⟩], rs29, [⟨b30, 24, [.bool ((joinF fa.a fa.h fa.d fb.a fb.h fb.d).1), .int .i64 ((joinF fa.a fa.h fa.d fb.a fb.h fb.d).2.1), (.slice av29 lv29 cv29)]⟩], rs42, rs43, [⟨b50, 24, [.bool false, .int .i64 0, .slice none 0 0]⟩], [⟨b52, 24, [.bool fa.a, .int .i64 fa.h, (.slice (some ⟨bg42, 0, none⟩) fa.d.length cp42)]⟩]]) => ?_)
          have hh54 := held_upd (wr := wd) (bs := [b4, b2]) hup54 (fun b hb => by
            simp only [List.mem_cons, List.not_mem_nil, or_false] at hb
            rcases hb with h | h
            · rw [h]; exact ⟨(hM53.at (i := 1) (j := 0) rfl rfl).lt, hM53.apart (i := 1) (j := 0) (k := 15) rfl rfl rfl (by decide)⟩
            · rw [h]; exact ⟨(hM53.at (i := 0) (j := 0) rfl rfl).lt, hM53.apart (i := 0) (j := 0) (k := 15) rfl rfl rfl (by decide)⟩) hh53
          refine ⟨hh54, ?_⟩
          refine dl (m_stAU (l := [.bool fb.a, .int .i64 fb.h, (.slice (some ⟨bg43, 0, none⟩) fb.d.length cp43)]) hM54 (i := 14) rfl rfl rfl rfl (by simp [oneCells, Value.oneCell', byteV]) (by simp) fun w55 hup55 (hM55 : Mem w [] w55 [[⟨b2, 24, [.bool fa.a, .int .i64 fa.h, fa.v]⟩], [⟨b4, 24, [.bool fb.a, .int .i64 fb.h, fb.v]⟩], rs7, [⟨b8, 24, [.bool fa.a, .int .i64 fa.h, (.slice (some ⟨bg7, 0, none⟩) fa.d.length cp7)]⟩], rs12, [⟨b13, 24, [.bool fb.a, .int .i64 fb.h, (.slice (some ⟨bg12, 0, none⟩) fb.d.length cp12)]⟩], [], [⟨b18, 24, [.bool ((joinF fa.a fa.h fa.d fb.a fb.h fb.d).1), .int .i64 ((joinF fa.a fa.h fa.d fb.a fb.h fb.d).2.1), (.slice av17 lv17 cv17)]⟩], rs22, [⟨b23, 24, [.bool ((joinF fa.a fa.h fa.d fb.a fb.h fb.d).1), .int .i64 ((joinF fa.a fa.h fa.d fb.a fb.h fb.d).2.1), (.slice av22 lv22 cv22)]⟩], rs29, [⟨b30, 24, [.bool ((joinF fa.a fa.h fa.d fb.a fb.h fb.d).1), .int .i64 ((joinF fa.a fa.h fa.d fb.a fb.h fb.d).2.1), (.slice av29 lv29 cv29)]⟩], rs42, rs43, [⟨b50, 24, [.bool fb.a, .int .i64 fb.h, (.slice (some ⟨bg43, 0, none⟩) fb.d.length cp43)]⟩], [⟨b52, 24, [.bool fa.a, .int .i64 fa.h, (.slice (some ⟨bg42, 0, none⟩) fa.d.length cp42)]⟩]]) => ?_)
          have hh55 := held_upd (wr := wd) (bs := [b4, b2]) hup55 (fun b hb => by
            simp only [List.mem_cons, List.not_mem_nil, or_false] at hb
            rcases hb with h | h
            · rw [h]; exact ⟨(hM54.at (i := 1) (j := 0) rfl rfl).lt, hM54.apart (i := 1) (j := 0) (k := 14) rfl rfl rfl (by decide)⟩
            · rw [h]; exact ⟨(hM54.at (i := 0) (j := 0) rfl rfl).lt, hM54.apart (i := 0) (j := 0) (k := 14) rfl rfl rfl (by decide)⟩) hh54
          refine ⟨hh55, ?_⟩
          refine h39 _ _ ⟨b52, b50, bg42, cp42, bg43, cp43, rs42, rs43, rfl, rfl, rfl, rfl, rfl, rfl, (hM55.sw 14), hcp42, hs42, hcp43, hs43⟩
      ·
        show vd _ _ _ _ _ _ _
        show _ ∧ _
        refine ⟨?_, ?_⟩
        ·
          show vd _ _ _ _ _ _ _
          refine dl (m_alU hM42 fun b56 w57 hup57 (hM57 : Mem w [] w57 [[⟨b2, 24, [.bool fa.a, .int .i64 fa.h, fa.v]⟩], [⟨b4, 24, [.bool fb.a, .int .i64 fb.h, fb.v]⟩], rs7, [⟨b8, 24, [.bool fa.a, .int .i64 fa.h, (.slice (some ⟨bg7, 0, none⟩) fa.d.length cp7)]⟩], rs12, [⟨b13, 24, [.bool fb.a, .int .i64 fb.h, (.slice (some ⟨bg12, 0, none⟩) fb.d.length cp12)]⟩], [], [⟨b18, 24, [.bool ((joinF fa.a fa.h fa.d fb.a fb.h fb.d).1), .int .i64 ((joinF fa.a fa.h fa.d fb.a fb.h fb.d).2.1), (.slice av17 lv17 cv17)]⟩], rs22, [⟨b23, 24, [.bool ((joinF fa.a fa.h fa.d fb.a fb.h fb.d).1), .int .i64 ((joinF fa.a fa.h fa.d fb.a fb.h fb.d).2.1), (.slice av22 lv22 cv22)]⟩], rs29, [⟨b30, 24, [.bool ((joinF fa.a fa.h fa.d fb.a fb.h fb.d).1), .int .i64 ((joinF fa.a fa.h fa.d fb.a fb.h fb.d).2.1), (.slice av29 lv29 cv29)]⟩], rs42, [⟨b56, 24, [.bool false, .int .i64 0, .slice none 0 0]⟩]]) => ?_)
          have hh57 := held_upd (wr := wd) (bs := [b4, b2]) hup57 (fun b hb => by
            simp only [List.mem_cons, List.not_mem_nil, or_false] at hb
            rcases hb with h | h
            · rw [h]; exact ⟨(hM42.at (i := 1) (j := 0) rfl rfl).lt, by simp⟩
            · rw [h]; exact ⟨(hM42.at (i := 0) (j := 0) rfl rfl).lt, by simp⟩) hh42
          refine ⟨hh57, ?_⟩
          show _ ∧ _
          refine ⟨?_, ?_⟩
          ·
            show vd _ _ _ _ _ _ _
            refine dl (m_call (given_ok fb.a fb.h _ fb.d w57 (hdb.upd hM57.upd) (by first | omega | (simp; done) | (simp; omega))) rfl fun v58 w58 ⟨bg58, cp58, rs58, hr58, hcp58, hs58, hm58⟩ => ?_)
            have hM58 : Mem w [] w58 [[⟨b2, 24, [.bool fa.a, .int .i64 fa.h, fa.v]⟩], [⟨b4, 24, [.bool fb.a, .int .i64 fb.h, fb.v]⟩], rs7, [⟨b8, 24, [.bool fa.a, .int .i64 fa.h, (.slice (some ⟨bg7, 0, none⟩) fa.d.length cp7)]⟩], rs12, [⟨b13, 24, [.bool fb.a, .int .i64 fb.h, (.slice (some ⟨bg12, 0, none⟩) fb.d.length cp12)]⟩], [], [⟨b18, 24, [.bool ((joinF fa.a fa.h fa.d fb.a fb.h fb.d).1), .int .i64 ((joinF fa.a fa.h fa.d fb.a fb.h fb.d).2.1), (.slice av17 lv17 cv17)]⟩], rs22, [⟨b23, 24, [.bool ((joinF fa.a fa.h fa.d fb.a fb.h fb.d).1), .int .i64 ((joinF fa.a fa.h fa.d fb.a fb.h fb.d).2.1), (.slice av22 lv22 cv22)]⟩], rs29, [⟨b30, 24, [.bool ((joinF fa.a fa.h fa.d fb.a fb.h fb.d).1), .int .i64 ((joinF fa.a fa.h fa.d fb.a fb.h fb.d).2.1), (.slice av29 lv29 cv29)]⟩], rs42, [⟨b56, 24, [.bool false, .int .i64 0, .slice none 0 0]⟩], rs58] := hM57.add hm58
            subst hr58
            have hh58 := held_upd (wr := wd) (bs := [b4, b2]) hm58.upd (fun b hb => by
              simp only [List.mem_cons, List.not_mem_nil, or_false] at hb
              rcases hb with h | h
              · rw [h]; exact ⟨(hM57.at (i := 1) (j := 0) rfl rfl).lt, by simp⟩
              · rw [h]; exact ⟨(hM57.at (i := 0) (j := 0) rfl rfl).lt, by simp⟩) hh57
            refine ⟨hh58, ?_⟩
            refine dl (m_alU hM58 fun b59 w60 hup60 (hM60 : Mem w [] w60 [[⟨b2, 24, [.bool fa.a, .int .i64 fa.h, fa.v]⟩], [⟨b4, 24, [.bool fb.a, .int .i64 fb.h, fb.v]⟩], rs7, [⟨b8, 24, [.bool fa.a, .int .i64 fa.h, (.slice (some ⟨bg7, 0, none⟩) fa.d.length cp7)]⟩], rs12, [⟨b13, 24, [.bool fb.a, .int .i64 fb.h, (.slice (some ⟨bg12, 0, none⟩) fb.d.length cp12)]⟩], [], [⟨b18, 24, [.bool ((joinF fa.a fa.h fa.d fb.a fb.h fb.d).1), .int .i64 ((joinF fa.a fa.h fa.d fb.a fb.h fb.d).2.1), (.slice av17 lv17 cv17)]⟩], rs22, [⟨b23, 24, [.bool ((joinF fa.a fa.h fa.d fb.a fb.h fb.d).1), .int .i64 ((joinF fa.a fa.h fa.d fb.a fb.h fb.d).2.1), (.slice av22 lv22 cv22)]⟩], rs29, [⟨b30, 24, [.bool ((joinF fa.a fa.h fa.d fb.a fb.h fb.d).1), .int .i64 ((joinF fa.a fa.h fa.d fb.a fb.h fb.d).2.1), (.slice av29 lv29 cv29)]⟩], rs42, [⟨b56, 24, [.bool false, .int .i64 0, .slice none 0 0]⟩], rs58, [⟨b59, 24, [.bool false, .int .i64 0, .slice none 0 0]⟩]]) => ?_)
            have hh60 := held_upd (wr := wd) (bs := [b4, b2]) hup60 (fun b hb => by
              simp only [List.mem_cons, List.not_mem_nil, or_false] at hb
              rcases hb with h | h
              · rw [h]; exact ⟨(hM58.at (i := 1) (j := 0) rfl rfl).lt, by simp⟩
              · rw [h]; exact ⟨(hM58.at (i := 0) (j := 0) rfl rfl).lt, by simp⟩) hh58
            refine ⟨hh60, ?_⟩
            refine dl (m_stAU (l := [.bool fa.a, .int .i64 fa.h, (.slice (some ⟨bg42, 0, none⟩) fa.d.length cp42)]) hM60 (i := 13) rfl rfl rfl rfl (by simp [oneCells, Value.oneCell', byteV]) (by simp) fun w61 hup61 (hM61 : Mem w [] w61 [[⟨b2, 24, [.bool fa.a, .int .i64 fa.h, fa.v]⟩], [⟨b4, 24, [.bool fb.a, .int .i64 fb.h, fb.v]⟩], rs7, [⟨b8, 24, [.bool fa.a, .int .i64 fa.h, (.slice (some ⟨bg7, 0, none⟩) fa.d.length cp7)]⟩], rs12, [⟨b13, 24, [.bool fb.a, .int .i64 fb.h, (.slice (some ⟨bg12, 0, none⟩) fb.d.length cp12)]⟩], [], [⟨b18, 24, [.bool ((joinF fa.a fa.h fa.d fb.a fb.h fb.d).1), .int .i64 ((joinF fa.a fa.h fa.d fb.a fb.h fb.d).2.1), (.slice av17 lv17 cv17)]⟩], rs22, [⟨b23, 24, [.bool ((joinF fa.a fa.h fa.d fb.a fb.h fb.d).1), .int .i64 ((joinF fa.a fa.h fa.d fb.a fb.h fb.d).2.1), (.slice av22 lv22 cv22)]⟩], rs29, [⟨b30, 24, [.bool ((joinF fa.a fa.h fa.d fb.a fb.h fb.d).1), .int .i64 ((joinF fa.a fa.h fa.d fb.a fb.h fb.d).2.1), (.slice av29 lv29 cv29)]⟩], rs42, [⟨b56, 24, [.bool fa.a, .int .i64 fa.h, (.slice (some ⟨bg42, 0, none⟩) fa.d.length cp42)]⟩], rs58, [⟨b59, 24, [.bool false, .int .i64 0, .slice none 0 0]⟩]]) => ?_)
            have hh61 := held_upd (wr := wd) (bs := [b4, b2]) hup61 (fun b hb => by
              simp only [List.mem_cons, List.not_mem_nil, or_false] at hb
              rcases hb with h | h
              · rw [h]; exact ⟨(hM60.at (i := 1) (j := 0) rfl rfl).lt, hM60.apart (i := 1) (j := 0) (k := 13) rfl rfl rfl (by decide)⟩
              · rw [h]; exact ⟨(hM60.at (i := 0) (j := 0) rfl rfl).lt, hM60.apart (i := 0) (j := 0) (k := 13) rfl rfl rfl (by decide)⟩) hh60
            refine ⟨hh61, ?_⟩
            refine dl (m_stAU (l := [.bool fb.a, .int .i64 fb.h, (.slice (some ⟨bg58, 0, none⟩) fb.d.length cp58)]) hM61 (i := 15) rfl rfl rfl rfl (by simp [oneCells, Value.oneCell', byteV]) (by simp) fun w62 hup62 (hM62 : Mem w [] w62 [[⟨b2, 24, [.bool fa.a, .int .i64 fa.h, fa.v]⟩], [⟨b4, 24, [.bool fb.a, .int .i64 fb.h, fb.v]⟩], rs7, [⟨b8, 24, [.bool fa.a, .int .i64 fa.h, (.slice (some ⟨bg7, 0, none⟩) fa.d.length cp7)]⟩], rs12, [⟨b13, 24, [.bool fb.a, .int .i64 fb.h, (.slice (some ⟨bg12, 0, none⟩) fb.d.length cp12)]⟩], [], [⟨b18, 24, [.bool ((joinF fa.a fa.h fa.d fb.a fb.h fb.d).1), .int .i64 ((joinF fa.a fa.h fa.d fb.a fb.h fb.d).2.1), (.slice av17 lv17 cv17)]⟩], rs22, [⟨b23, 24, [.bool ((joinF fa.a fa.h fa.d fb.a fb.h fb.d).1), .int .i64 ((joinF fa.a fa.h fa.d fb.a fb.h fb.d).2.1), (.slice av22 lv22 cv22)]⟩], rs29, [⟨b30, 24, [.bool ((joinF fa.a fa.h fa.d fb.a fb.h fb.d).1), .int .i64 ((joinF fa.a fa.h fa.d fb.a fb.h fb.d).2.1), (.slice av29 lv29 cv29)]⟩], rs42, [⟨b56, 24, [.bool fa.a, .int .i64 fa.h, (.slice (some ⟨bg42, 0, none⟩) fa.d.length cp42)]⟩], rs58, [⟨b59, 24, [.bool fb.a, .int .i64 fb.h, (.slice (some ⟨bg58, 0, none⟩) fb.d.length cp58)]⟩]]) => ?_)
            have hh62 := held_upd (wr := wd) (bs := [b4, b2]) hup62 (fun b hb => by
              simp only [List.mem_cons, List.not_mem_nil, or_false] at hb
              rcases hb with h | h
              · rw [h]; exact ⟨(hM61.at (i := 1) (j := 0) rfl rfl).lt, hM61.apart (i := 1) (j := 0) (k := 15) rfl rfl rfl (by decide)⟩
              · rw [h]; exact ⟨(hM61.at (i := 0) (j := 0) rfl rfl).lt, hM61.apart (i := 0) (j := 0) (k := 15) rfl rfl rfl (by decide)⟩) hh61
            refine ⟨hh62, ?_⟩
            refine h39 _ _ ⟨b56, b59, bg42, cp42, bg58, cp58, rs42, rs58, rfl, rfl, rfl, rfl, rfl, rfl, (hM62.sw 13), hcp42, hs42, hcp58, hs58⟩
          ·
            show vd _ _ _ _ _ _ _
            refine dl (m_alU hM57 fun b63 w64 hup64 (hM64 : Mem w [] w64 [[⟨b2, 24, [.bool fa.a, .int .i64 fa.h, fa.v]⟩], [⟨b4, 24, [.bool fb.a, .int .i64 fb.h, fb.v]⟩], rs7, [⟨b8, 24, [.bool fa.a, .int .i64 fa.h, (.slice (some ⟨bg7, 0, none⟩) fa.d.length cp7)]⟩], rs12, [⟨b13, 24, [.bool fb.a, .int .i64 fb.h, (.slice (some ⟨bg12, 0, none⟩) fb.d.length cp12)]⟩], [], [⟨b18, 24, [.bool ((joinF fa.a fa.h fa.d fb.a fb.h fb.d).1), .int .i64 ((joinF fa.a fa.h fa.d fb.a fb.h fb.d).2.1), (.slice av17 lv17 cv17)]⟩], rs22, [⟨b23, 24, [.bool ((joinF fa.a fa.h fa.d fb.a fb.h fb.d).1), .int .i64 ((joinF fa.a fa.h fa.d fb.a fb.h fb.d).2.1), (.slice av22 lv22 cv22)]⟩], rs29, [⟨b30, 24, [.bool ((joinF fa.a fa.h fa.d fb.a fb.h fb.d).1), .int .i64 ((joinF fa.a fa.h fa.d fb.a fb.h fb.d).2.1), (.slice av29 lv29 cv29)]⟩], rs42, [⟨b56, 24, [.bool false, .int .i64 0, .slice none 0 0]⟩], [⟨b63, 24, [.bool false, .int .i64 0, .slice none 0 0]⟩]]) => ?_)
            have hh64 := held_upd (wr := wd) (bs := [b4, b2]) hup64 (fun b hb => by
              simp only [List.mem_cons, List.not_mem_nil, or_false] at hb
              rcases hb with h | h
              · rw [h]; exact ⟨(hM57.at (i := 1) (j := 0) rfl rfl).lt, by simp⟩
              · rw [h]; exact ⟨(hM57.at (i := 0) (j := 0) rfl rfl).lt, by simp⟩) hh57
            refine ⟨hh64, ?_⟩
            refine dl (m_call (given_ok fb.a fb.h _ fb.d w64 (hdb.upd hM64.upd) (by first | omega | (simp; done) | (simp; omega))) rfl fun v65 w65 ⟨bg65, cp65, rs65, hr65, hcp65, hs65, hm65⟩ => ?_)
            have hM65 : Mem w [] w65 [[⟨b2, 24, [.bool fa.a, .int .i64 fa.h, fa.v]⟩], [⟨b4, 24, [.bool fb.a, .int .i64 fb.h, fb.v]⟩], rs7, [⟨b8, 24, [.bool fa.a, .int .i64 fa.h, (.slice (some ⟨bg7, 0, none⟩) fa.d.length cp7)]⟩], rs12, [⟨b13, 24, [.bool fb.a, .int .i64 fb.h, (.slice (some ⟨bg12, 0, none⟩) fb.d.length cp12)]⟩], [], [⟨b18, 24, [.bool ((joinF fa.a fa.h fa.d fb.a fb.h fb.d).1), .int .i64 ((joinF fa.a fa.h fa.d fb.a fb.h fb.d).2.1), (.slice av17 lv17 cv17)]⟩], rs22, [⟨b23, 24, [.bool ((joinF fa.a fa.h fa.d fb.a fb.h fb.d).1), .int .i64 ((joinF fa.a fa.h fa.d fb.a fb.h fb.d).2.1), (.slice av22 lv22 cv22)]⟩], rs29, [⟨b30, 24, [.bool ((joinF fa.a fa.h fa.d fb.a fb.h fb.d).1), .int .i64 ((joinF fa.a fa.h fa.d fb.a fb.h fb.d).2.1), (.slice av29 lv29 cv29)]⟩], rs42, [⟨b56, 24, [.bool false, .int .i64 0, .slice none 0 0]⟩], [⟨b63, 24, [.bool false, .int .i64 0, .slice none 0 0]⟩], rs65] := hM64.add hm65
            subst hr65
            have hh65 := held_upd (wr := wd) (bs := [b4, b2]) hm65.upd (fun b hb => by
              simp only [List.mem_cons, List.not_mem_nil, or_false] at hb
              rcases hb with h | h
              · rw [h]; exact ⟨(hM64.at (i := 1) (j := 0) rfl rfl).lt, by simp⟩
              · rw [h]; exact ⟨(hM64.at (i := 0) (j := 0) rfl rfl).lt, by simp⟩) hh64
            refine ⟨hh65, ?_⟩
            refine dl (m_stAU (l := [.bool fa.a, .int .i64 fa.h, (.slice (some ⟨bg42, 0, none⟩) fa.d.length cp42)]) hM65 (i := 13) rfl rfl rfl rfl (by simp [oneCells, Value.oneCell', byteV]) (by simp) fun w66 hup66 (hM66 : Mem w [] w66 [[⟨b2, 24, [.bool fa.a, .int .i64 fa.h, fa.v]⟩], [⟨b4, 24, [.bool fb.a, .int .i64 fb.h, fb.v]⟩], rs7, [⟨b8, 24, [.bool fa.a, .int .i64 fa.h, (.slice (some ⟨bg7, 0, none⟩) fa.d.length cp7)]⟩], rs12, [⟨b13, 24, [.bool fb.a, .int .i64 fb.h, (.slice (some ⟨bg12, 0, none⟩) fb.d.length cp12)]⟩], [], [⟨b18, 24, [.bool ((joinF fa.a fa.h fa.d fb.a fb.h fb.d).1), .int .i64 ((joinF fa.a fa.h fa.d fb.a fb.h fb.d).2.1), (.slice av17 lv17 cv17)]⟩], rs22, [⟨b23, 24, [.bool ((joinF fa.a fa.h fa.d fb.a fb.h fb.d).1), .int .i64 ((joinF fa.a fa.h fa.d fb.a fb.h fb.d).2.1), (.slice av22 lv22 cv22)]⟩], rs29, [⟨b30, 24, [.bool ((joinF fa.a fa.h fa.d fb.a fb.h fb.d).1), .int .i64 ((joinF fa.a fa.h fa.d fb.a fb.h fb.d).2.1), (.slice av29 lv29 cv29)]⟩], rs42, [⟨b56, 24, [.bool fa.a, .int .i64 fa.h, (.slice (some ⟨bg42, 0, none⟩) fa.d.length cp42)]⟩], [⟨b63, 24, [.bool false, .int .i64 0, .slice none 0 0]⟩], rs65]) => ?_)
            have hh66 := held_upd (wr := wd) (bs := [b4, b2]) hup66 (fun b hb => by
              simp only [List.mem_cons, List.not_mem_nil, or_false] at hb
              rcases hb with h | h
              · rw [h]; exact ⟨(hM65.at (i := 1) (j := 0) rfl rfl).lt, hM65.apart (i := 1) (j := 0) (k := 13) rfl rfl rfl (by decide)⟩
              · rw [h]; exact ⟨(hM65.at (i := 0) (j := 0) rfl rfl).lt, hM65.apart (i := 0) (j := 0) (k := 13) rfl rfl rfl (by decide)⟩) hh65
            refine ⟨hh66, ?_⟩
            refine dl (m_stAU (l := [.bool fb.a, .int .i64 fb.h, (.slice (some ⟨bg65, 0, none⟩) fb.d.length cp65)]) hM66 (i := 14) rfl rfl rfl rfl (by simp [oneCells, Value.oneCell', byteV]) (by simp) fun w67 hup67 (hM67 : Mem w [] w67 [[⟨b2, 24, [.bool fa.a, .int .i64 fa.h, fa.v]⟩], [⟨b4, 24, [.bool fb.a, .int .i64 fb.h, fb.v]⟩], rs7, [⟨b8, 24, [.bool fa.a, .int .i64 fa.h, (.slice (some ⟨bg7, 0, none⟩) fa.d.length cp7)]⟩], rs12, [⟨b13, 24, [.bool fb.a, .int .i64 fb.h, (.slice (some ⟨bg12, 0, none⟩) fb.d.length cp12)]⟩], [], [⟨b18, 24, [.bool ((joinF fa.a fa.h fa.d fb.a fb.h fb.d).1), .int .i64 ((joinF fa.a fa.h fa.d fb.a fb.h fb.d).2.1), (.slice av17 lv17 cv17)]⟩], rs22, [⟨b23, 24, [.bool ((joinF fa.a fa.h fa.d fb.a fb.h fb.d).1), .int .i64 ((joinF fa.a fa.h fa.d fb.a fb.h fb.d).2.1), (.slice av22 lv22 cv22)]⟩], rs29, [⟨b30, 24, [.bool ((joinF fa.a fa.h fa.d fb.a fb.h fb.d).1), .int .i64 ((joinF fa.a fa.h fa.d fb.a fb.h fb.d).2.1), (.slice av29 lv29 cv29)]⟩], rs42, [⟨b56, 24, [.bool fa.a, .int .i64 fa.h, (.slice (some ⟨bg42, 0, none⟩) fa.d.length cp42)]⟩], [⟨b63, 24, [.bool fb.a, .int .i64 fb.h, (.slice (some ⟨bg65, 0, none⟩) fb.d.length cp65)]⟩], rs65]) => ?_)
            have hh67 := held_upd (wr := wd) (bs := [b4, b2]) hup67 (fun b hb => by
              simp only [List.mem_cons, List.not_mem_nil, or_false] at hb
              rcases hb with h | h
              · rw [h]; exact ⟨(hM66.at (i := 1) (j := 0) rfl rfl).lt, hM66.apart (i := 1) (j := 0) (k := 14) rfl rfl rfl (by decide)⟩
              · rw [h]; exact ⟨(hM66.at (i := 0) (j := 0) rfl rfl).lt, hM66.apart (i := 0) (j := 0) (k := 14) rfl rfl rfl (by decide)⟩) hh66
            refine ⟨hh67, ?_⟩
            refine h39 _ _ ⟨b56, b63, bg42, cp42, bg65, cp65, rs42, rs65, rfl, rfl, rfl, rfl, rfl, rfl, ((hM67.sw 14).sw 13), hcp42, hs42, hcp65, hs65⟩
        ·
          show vd _ _ _ _ _ _ _
          refine dl (m_alU hM42 fun b68 w69 hup69 (hM69 : Mem w [] w69 [[⟨b2, 24, [.bool fa.a, .int .i64 fa.h, fa.v]⟩], [⟨b4, 24, [.bool fb.a, .int .i64 fb.h, fb.v]⟩], rs7, [⟨b8, 24, [.bool fa.a, .int .i64 fa.h, (.slice (some ⟨bg7, 0, none⟩) fa.d.length cp7)]⟩], rs12, [⟨b13, 24, [.bool fb.a, .int .i64 fb.h, (.slice (some ⟨bg12, 0, none⟩) fb.d.length cp12)]⟩], [], [⟨b18, 24, [.bool ((joinF fa.a fa.h fa.d fb.a fb.h fb.d).1), .int .i64 ((joinF fa.a fa.h fa.d fb.a fb.h fb.d).2.1), (.slice av17 lv17 cv17)]⟩], rs22, [⟨b23, 24, [.bool ((joinF fa.a fa.h fa.d fb.a fb.h fb.d).1), .int .i64 ((joinF fa.a fa.h fa.d fb.a fb.h fb.d).2.1), (.slice av22 lv22 cv22)]⟩], rs29, [⟨b30, 24, [.bool ((joinF fa.a fa.h fa.d fb.a fb.h fb.d).1), .int .i64 ((joinF fa.a fa.h fa.d fb.a fb.h fb.d).2.1), (.slice av29 lv29 cv29)]⟩], rs42, [⟨b68, 24, [.bool false, .int .i64 0, .slice none 0 0]⟩]]) => ?_)
          have hh69 := held_upd (wr := wd) (bs := [b4, b2]) hup69 (fun b hb => by
            simp only [List.mem_cons, List.not_mem_nil, or_false] at hb
            rcases hb with h | h
            · rw [h]; exact ⟨(hM42.at (i := 1) (j := 0) rfl rfl).lt, by simp⟩
            · rw [h]; exact ⟨(hM42.at (i := 0) (j := 0) rfl rfl).lt, by simp⟩) hh42
          refine ⟨hh69, ?_⟩
          show _ ∧ _
          refine ⟨?_, ?_⟩
          ·
            show vd _ _ _ _ _ _ _
            refine dl (m_call (given_ok fb.a fb.h _ fb.d w69 (hdb.upd hM69.upd) (by first | omega | (simp; done) | (simp; omega))) rfl fun v70 w70 ⟨bg70, cp70, rs70, hr70, hcp70, hs70, hm70⟩ => ?_)
            have hM70 : Mem w [] w70 [[⟨b2, 24, [.bool fa.a, .int .i64 fa.h, fa.v]⟩], [⟨b4, 24, [.bool fb.a, .int .i64 fb.h, fb.v]⟩], rs7, [⟨b8, 24, [.bool fa.a, .int .i64 fa.h, (.slice (some ⟨bg7, 0, none⟩) fa.d.length cp7)]⟩], rs12, [⟨b13, 24, [.bool fb.a, .int .i64 fb.h, (.slice (some ⟨bg12, 0, none⟩) fb.d.length cp12)]⟩], [], [⟨b18, 24, [.bool ((joinF fa.a fa.h fa.d fb.a fb.h fb.d).1), .int .i64 ((joinF fa.a fa.h fa.d fb.a fb.h fb.d).2.1), (.slice av17 lv17 cv17)]⟩], rs22, [⟨b23, 24, [.bool ((joinF fa.a fa.h fa.d fb.a fb.h fb.d).1), .int .i64 ((joinF fa.a fa.h fa.d fb.a fb.h fb.d).2.1), (.slice av22 lv22 cv22)]⟩], rs29, [⟨b30, 24, [.bool ((joinF fa.a fa.h fa.d fb.a fb.h fb.d).1), .int .i64 ((joinF fa.a fa.h fa.d fb.a fb.h fb.d).2.1), (.slice av29 lv29 cv29)]⟩], rs42, [⟨b68, 24, [.bool false, .int .i64 0, .slice none 0 0]⟩], rs70] := hM69.add hm70
            subst hr70
            have hh70 := held_upd (wr := wd) (bs := [b4, b2]) hm70.upd (fun b hb => by
              simp only [List.mem_cons, List.not_mem_nil, or_false] at hb
              rcases hb with h | h
              · rw [h]; exact ⟨(hM69.at (i := 1) (j := 0) rfl rfl).lt, by simp⟩
              · rw [h]; exact ⟨(hM69.at (i := 0) (j := 0) rfl rfl).lt, by simp⟩) hh69
            refine ⟨hh70, ?_⟩
            refine dl (m_alU hM70 fun b71 w72 hup72 (hM72 : Mem w [] w72 [[⟨b2, 24, [.bool fa.a, .int .i64 fa.h, fa.v]⟩], [⟨b4, 24, [.bool fb.a, .int .i64 fb.h, fb.v]⟩], rs7, [⟨b8, 24, [.bool fa.a, .int .i64 fa.h, (.slice (some ⟨bg7, 0, none⟩) fa.d.length cp7)]⟩], rs12, [⟨b13, 24, [.bool fb.a, .int .i64 fb.h, (.slice (some ⟨bg12, 0, none⟩) fb.d.length cp12)]⟩], [], [⟨b18, 24, [.bool ((joinF fa.a fa.h fa.d fb.a fb.h fb.d).1), .int .i64 ((joinF fa.a fa.h fa.d fb.a fb.h fb.d).2.1), (.slice av17 lv17 cv17)]⟩], rs22, [⟨b23, 24, [.bool ((joinF fa.a fa.h fa.d fb.a fb.h fb.d).1), .int .i64 ((joinF fa.a fa.h fa.d fb.a fb.h fb.d).2.1), (.slice av22 lv22 cv22)]⟩], rs29, [⟨b30, 24, [.bool ((joinF fa.a fa.h fa.d fb.a fb.h fb.d).1), .int .i64 ((joinF fa.a fa.h fa.d fb.a fb.h fb.d).2.1), (.slice av29 lv29 cv29)]⟩], rs42, [⟨b68, 24, [.bool false, .int .i64 0, .slice none 0 0]⟩], rs70, [⟨b71, 24, [.bool false, .int .i64 0, .slice none 0 0]⟩]]) => ?_)
            have hh72 := held_upd (wr := wd) (bs := [b4, b2]) hup72 (fun b hb => by
              simp only [List.mem_cons, List.not_mem_nil, or_false] at hb
              rcases hb with h | h
              · rw [h]; exact ⟨(hM70.at (i := 1) (j := 0) rfl rfl).lt, by simp⟩
              · rw [h]; exact ⟨(hM70.at (i := 0) (j := 0) rfl rfl).lt, by simp⟩) hh70
            refine ⟨hh72, ?_⟩
            refine dl (m_stAU (l := [.bool fa.a, .int .i64 fa.h, (.slice (some ⟨bg42, 0, none⟩) fa.d.length cp42)]) hM72 (i := 15) rfl rfl rfl rfl (by simp [oneCells, Value.oneCell', byteV]) (by simp) fun w73 hup73 (hM73 : Mem w [] w73 [[⟨b2, 24, [.bool fa.a, .int .i64 fa.h, fa.v]⟩], [⟨b4, 24, [.bool fb.a, .int .i64 fb.h, fb.v]⟩], rs7, [⟨b8, 24, [.bool fa.a, .int .i64 fa.h, (.slice (some ⟨bg7, 0, none⟩) fa.d.length cp7)]⟩], rs12, [⟨b13, 24, [.bool fb.a, .int .i64 fb.h, (.slice (some ⟨bg12, 0, none⟩) fb.d.length cp12)]⟩], [], [⟨b18, 24, [.bool ((joinF fa.a fa.h fa.d fb.a fb.h fb.d).1), .int .i64 ((joinF fa.a fa.h fa.d fb.a fb.h fb.d).2.1), (.slice av17 lv17 cv17)]⟩], rs22, [⟨b23, 24, [.bool ((joinF fa.a fa.h fa.d fb.a fb.h fb.d).1), .int .i64 ((joinF fa.a fa.h fa.d fb.a fb.h fb.d).2.1), (.slice av22 lv22 cv22)]⟩], rs29, [⟨b30, 24, [.bool ((joinF fa.a fa.h fa.d fb.a fb.h fb.d).1), .int .i64 ((joinF fa.a fa.h fa.d fb.a fb.h fb.d).2.1), (.slice av29 lv29 cv29)]⟩], rs42, [⟨b68, 24, [.bool false, .int .i64 0, .slice none 0 0]⟩], rs70, [⟨b71, 24, [.bool fa.a, .int .i64 fa.h, (.slice (some ⟨bg42, 0, none⟩) fa.d.length cp42)]⟩]]) => ?_)
            have hh73 := held_upd (wr := wd) (bs := [b4, b2]) hup73 (fun b hb => by
              simp only [List.mem_cons, List.not_mem_nil, or_false] at hb
              rcases hb with h | h
              · rw [h]; exact ⟨(hM72.at (i := 1) (j := 0) rfl rfl).lt, hM72.apart (i := 1) (j := 0) (k := 15) rfl rfl rfl (by decide)⟩
              · rw [h]; exact ⟨(hM72.at (i := 0) (j := 0) rfl rfl).lt, hM72.apart (i := 0) (j := 0) (k := 15) rfl rfl rfl (by decide)⟩) hh72
            refine ⟨hh73, ?_⟩
            refine dl (m_stAU (l := [.bool fb.a, .int .i64 fb.h, (.slice (some ⟨bg70, 0, none⟩) fb.d.length cp70)]) hM73 (i := 13) rfl rfl rfl rfl (by simp [oneCells, Value.oneCell', byteV]) (by simp) fun w74 hup74 (hM74 : Mem w [] w74 [[⟨b2, 24, [.bool fa.a, .int .i64 fa.h, fa.v]⟩], [⟨b4, 24, [.bool fb.a, .int .i64 fb.h, fb.v]⟩], rs7, [⟨b8, 24, [.bool fa.a, .int .i64 fa.h, (.slice (some ⟨bg7, 0, none⟩) fa.d.length cp7)]⟩], rs12, [⟨b13, 24, [.bool fb.a, .int .i64 fb.h, (.slice (some ⟨bg12, 0, none⟩) fb.d.length cp12)]⟩], [], [⟨b18, 24, [.bool ((joinF fa.a fa.h fa.d fb.a fb.h fb.d).1), .int .i64 ((joinF fa.a fa.h fa.d fb.a fb.h fb.d).2.1), (.slice av17 lv17 cv17)]⟩], rs22, [⟨b23, 24, [.bool ((joinF fa.a fa.h fa.d fb.a fb.h fb.d).1), .int .i64 ((joinF fa.a fa.h fa.d fb.a fb.h fb.d).2.1), (.slice av22 lv22 cv22)]⟩], rs29, [⟨b30, 24, [.bool ((joinF fa.a fa.h fa.d fb.a fb.h fb.d).1), .int .i64 ((joinF fa.a fa.h fa.d fb.a fb.h fb.d).2.1), (.slice av29 lv29 cv29)]⟩], rs42, [⟨b68, 24, [.bool fb.a, .int .i64 fb.h, (.slice (some ⟨bg70, 0, none⟩) fb.d.length cp70)]⟩], rs70, [⟨b71, 24, [.bool fa.a, .int .i64 fa.h, (.slice (some ⟨bg42, 0, none⟩) fa.d.length cp42)]⟩]]) => ?_)
            have hh74 := held_upd (wr := wd) (bs := [b4, b2]) hup74 (fun b hb => by
              simp only [List.mem_cons, List.not_mem_nil, or_false] at hb
              rcases hb with h | h
              · rw [h]; exact ⟨(hM73.at (i := 1) (j := 0) rfl rfl).lt, hM73.apart (i := 1) (j := 0) (k := 13) rfl rfl rfl (by decide)⟩
              · rw [h]; exact ⟨(hM73.at (i := 0) (j := 0) rfl rfl).lt, hM73.apart (i := 0) (j := 0) (k := 13) rfl rfl rfl (by decide)⟩) hh73
            refine ⟨hh74, ?_⟩
            refine h39 _ _ ⟨b71, b68, bg42, cp42, bg70, cp70, rs42, rs70, rfl, rfl, rfl, rfl, rfl, rfl, ((hM74.sw 13).sw 14), hcp42, hs42, hcp70, hs70⟩
          ·
            show vd _ _ _ _ _ _ _
            refine dl (m_alU hM69 fun b75 w76 hup76 (hM76 : Mem w [] w76 [[⟨b2, 24, [.bool fa.a, .int .i64 fa.h, fa.v]⟩], [⟨b4, 24, [.bool fb.a, .int .i64 fb.h, fb.v]⟩], rs7, [⟨b8, 24, [.bool fa.a, .int .i64 fa.h, (.slice (some ⟨bg7, 0, none⟩) fa.d.length cp7)]⟩], rs12, [⟨b13, 24, [.bool fb.a, .int .i64 fb.h, (.slice (some ⟨bg12, 0, none⟩) fb.d.length cp12)]⟩], [], [⟨b18, 24, [.bool ((joinF fa.a fa.h fa.d fb.a fb.h fb.d).1), .int .i64 ((joinF fa.a fa.h fa.d fb.a fb.h fb.d).2.1), (.slice av17 lv17 cv17)]⟩], rs22, [⟨b23, 24, [.bool ((joinF fa.a fa.h fa.d fb.a fb.h fb.d).1), .int .i64 ((joinF fa.a fa.h fa.d fb.a fb.h fb.d).2.1), (.slice av22 lv22 cv22)]⟩], rs29, [⟨b30, 24, [.bool ((joinF fa.a fa.h fa.d fb.a fb.h fb.d).1), .int .i64 ((joinF fa.a fa.h fa.d fb.a fb.h fb.d).2.1), (.slice av29 lv29 cv29)]⟩], rs42, [⟨b68, 24, [.bool false, .int .i64 0, .slice none 0 0]⟩], [⟨b75, 24, [.bool false, .int .i64 0, .slice none 0 0]⟩]]) => ?_)
            have hh76 := held_upd (wr := wd) (bs := [b4, b2]) hup76 (fun b hb => by
              simp only [List.mem_cons, List.not_mem_nil, or_false] at hb
              rcases hb with h | h
              · rw [h]; exact ⟨(hM69.at (i := 1) (j := 0) rfl rfl).lt, by simp⟩
              · rw [h]; exact ⟨(hM69.at (i := 0) (j := 0) rfl rfl).lt, by simp⟩) hh69
            refine ⟨hh76, ?_⟩
            refine dl (m_call (given_ok fb.a fb.h _ fb.d w76 (hdb.upd hM76.upd) (by first | omega | (simp; done) | (simp; omega))) rfl fun v77 w77 ⟨bg77, cp77, rs77, hr77, hcp77, hs77, hm77⟩ => ?_)
            have hM77 : Mem w [] w77 [[⟨b2, 24, [.bool fa.a, .int .i64 fa.h, fa.v]⟩], [⟨b4, 24, [.bool fb.a, .int .i64 fb.h, fb.v]⟩], rs7, [⟨b8, 24, [.bool fa.a, .int .i64 fa.h, (.slice (some ⟨bg7, 0, none⟩) fa.d.length cp7)]⟩], rs12, [⟨b13, 24, [.bool fb.a, .int .i64 fb.h, (.slice (some ⟨bg12, 0, none⟩) fb.d.length cp12)]⟩], [], [⟨b18, 24, [.bool ((joinF fa.a fa.h fa.d fb.a fb.h fb.d).1), .int .i64 ((joinF fa.a fa.h fa.d fb.a fb.h fb.d).2.1), (.slice av17 lv17 cv17)]⟩], rs22, [⟨b23, 24, [.bool ((joinF fa.a fa.h fa.d fb.a fb.h fb.d).1), .int .i64 ((joinF fa.a fa.h fa.d fb.a fb.h fb.d).2.1), (.slice av22 lv22 cv22)]⟩], rs29, [⟨b30, 24, [.bool ((joinF fa.a fa.h fa.d fb.a fb.h fb.d).1), .int .i64 ((joinF fa.a fa.h fa.d fb.a fb.h fb.d).2.1), (.slice av29 lv29 cv29)]⟩], rs42, [⟨b68, 24, [.bool false, .int .i64 0, .slice none 0 0]⟩], [⟨b75, 24, [.bool false, .int .i64 0, .slice none 0 0]⟩], rs77] := hM76.add hm77
            subst hr77
            have hh77 := held_upd (wr := wd) (bs := [b4, b2]) hm77.upd (fun b hb => by
              simp only [List.mem_cons, List.not_mem_nil, or_false] at hb
              rcases hb with h | h
              · rw [h]; exact ⟨(hM76.at (i := 1) (j := 0) rfl rfl).lt, by simp⟩
              · rw [h]; exact ⟨(hM76.at (i := 0) (j := 0) rfl rfl).lt, by simp⟩) hh76
            refine ⟨hh77, ?_⟩
            refine dl (m_stAU (l := [.bool fa.a, .int .i64 fa.h, (.slice (some ⟨bg42, 0, none⟩) fa.d.length cp42)]) hM77 (i := 14) rfl rfl rfl rfl (by simp [oneCells, Value.oneCell', byteV]) (by simp) fun w78 hup78 (hM78 : Mem w [] w78 [[⟨b2, 24, [.bool fa.a, .int .i64 fa.h, fa.v]⟩], [⟨b4, 24, [.bool fb.a, .int .i64 fb.h, fb.v]⟩], rs7, [⟨b8, 24, [.bool fa.a, .int .i64 fa.h, (.slice (some ⟨bg7, 0, none⟩) fa.d.length cp7)]⟩], rs12, [⟨b13, 24, [.bool fb.a, .int .i64 fb.h, (.slice (some ⟨bg12, 0, none⟩) fb.d.length cp12)]⟩], [], [⟨b18, 24, [.bool ((joinF fa.a fa.h fa.d fb.a fb.h fb.d).1), .int .i64 ((joinF fa.a fa.h fa.d fb.a fb.h fb.d).2.1), (.slice av17 lv17 cv17)]⟩], rs22, [⟨b23, 24, [.bool ((joinF fa.a fa.h fa.d fb.a fb.h fb.d).1), .int .i64 ((joinF fa.a fa.h fa.d fb.a fb.h fb.d).2.1), (.slice av22 lv22 cv22)]⟩], rs29, [⟨b30, 24, [.bool ((joinF fa.a fa.h fa.d fb.a fb.h fb.d).1), .int .i64 ((joinF fa.a fa.h fa.d fb.a fb.h fb.d).2.1), (.slice av29 lv29 cv29)]⟩], rs42, [⟨b68, 24, [.bool false, .int .i64 0, .slice none 0 0]⟩], [⟨b75, 24, [.bool fa.a, .int .i64 fa.h, (.slice (some ⟨bg42, 0, none⟩) fa.d.length cp42)]⟩], rs77]) => ?_)
            have hh78 := held_upd (wr := wd) (bs := [b4, b2]) hup78 (fun b hb => by
              simp only [List.mem_cons, List.not_mem_nil, or_false] at hb
              rcases hb with h | h
              · rw [h]; exact ⟨(hM77.at (i := 1) (j := 0) rfl rfl).lt, hM77.apart (i := 1) (j := 0) (k := 14) rfl rfl rfl (by decide)⟩
              · rw [h]; exact ⟨(hM77.at (i := 0) (j := 0) rfl rfl).lt, hM77.apart (i := 0) (j := 0) (k := 14) rfl rfl rfl (by decide)⟩) hh77
            refine ⟨hh78, ?_⟩
            refine dl (m_stAU (l := [.bool fb.a, .int .i64 fb.h, (.slice (some ⟨bg77, 0, none⟩) fb.d.length cp77)]) hM78 (i := 13) rfl rfl rfl rfl (by simp [oneCells, Value.oneCell', byteV]) (by simp) fun w79 hup79 (hM79 : Mem w [] w79 [[⟨b2, 24, [.bool fa.a, .int .i64 fa.h, fa.v]⟩], [⟨b4, 24, [.bool fb.a, .int .i64 fb.h, fb.v]⟩], rs7, [⟨b8, 24, [.bool fa.a, .int .i64 fa.h, (.slice (some ⟨bg7, 0, none⟩) fa.d.length cp7)]⟩], rs12, [⟨b13, 24, [.bool fb.a, .int .i64 fb.h, (.slice (some ⟨bg12, 0, none⟩) fb.d.length cp12)]⟩], [], [⟨b18, 24, [.bool ((joinF fa.a fa.h fa.d fb.a fb.h fb.d).1), .int .i64 ((joinF fa.a fa.h fa.d fb.a fb.h fb.d).2.1), (.slice av17 lv17 cv17)]⟩], rs22, [⟨b23, 24, [.bool ((joinF fa.a fa.h fa.d fb.a fb.h fb.d).1), .int .i64 ((joinF fa.a fa.h fa.d fb.a fb.h fb.d).2.1), (.slice av22 lv22 cv22)]⟩], rs29, [⟨b30, 24, [.bool ((joinF fa.a fa.h fa.d fb.a fb.h fb.d).1), .int .i64 ((joinF fa.a fa.h fa.d fb.a fb.h fb.d).2.1), (.slice av29 lv29 cv29)]⟩], rs42, [⟨b68, 24, [.bool fb.a, .int .i64 fb.h, (.slice (some ⟨bg77, 0, none⟩) fb.d.length cp77)]⟩], [⟨b75, 24, [.bool fa.a, .int .i64 fa.h, (.slice (some ⟨bg42, 0, none⟩) fa.d.length cp42)]⟩], rs77]) => ?_)
            have hh79 := held_upd (wr := wd) (bs := [b4, b2]) hup79 (fun b hb => by
              simp only [List.mem_cons, List.not_mem_nil, or_false] at hb
              rcases hb with h | h
              · rw [h]; exact ⟨(hM78.at (i := 1) (j := 0) rfl rfl).lt, hM78.apart (i := 1) (j := 0) (k := 13) rfl rfl rfl (by decide)⟩
              · rw [h]; exact ⟨(hM78.at (i := 0) (j := 0) rfl rfl).lt, hM78.apart (i := 0) (j := 0) (k := 13) rfl rfl rfl (by decide)⟩) hh78
            refine ⟨hh79, ?_⟩
            refine h39 _ _ ⟨b75, b68, bg42, cp42, bg77, cp77, rs42, rs77, rfl, rfl, rfl, rfl, rfl, rfl, (((hM79.sw 14).sw 13).sw 14), hcp42, hs42, hcp77, hs77⟩
    ·
      show vd _ _ _ _ _ _ _
      show _ ∧ _
      refine ⟨?_, ?_⟩
      ·
        show vd _ _ _ _ _ _ _
        refine dl (m_alU hM41 fun b80 w81 hup81 (hM81 : Mem w [] w81 [[⟨b2, 24, [.bool fa.a, .int .i64 fa.h, fa.v]⟩], [⟨b4, 24, [.bool fb.a, .int .i64 fb.h, fb.v]⟩], rs7, [⟨b8, 24, [.bool fa.a, .int .i64 fa.h, (.slice (some ⟨bg7, 0, none⟩) fa.d.length cp7)]⟩], rs12, [⟨b13, 24, [.bool fb.a, .int .i64 fb.h, (.slice (some ⟨bg12, 0, none⟩) fb.d.length cp12)]⟩], [], [⟨b18, 24, [.bool ((joinF fa.a fa.h fa.d fb.a fb.h fb.d).1), .int .i64 ((joinF fa.a fa.h fa.d fb.a fb.h fb.d).2.1), (.slice av17 lv17 cv17)]⟩], rs22, [⟨b23, 24, [.bool ((joinF fa.a fa.h fa.d fb.a fb.h fb.d).1), .int .i64 ((joinF fa.a fa.h fa.d fb.a fb.h fb.d).2.1), (.slice av22 lv22 cv22)]⟩], rs29, [⟨b30, 24, [.bool ((joinF fa.a fa.h fa.d fb.a fb.h fb.d).1), .int .i64 ((joinF fa.a fa.h fa.d fb.a fb.h fb.d).2.1), (.slice av29 lv29 cv29)]⟩], [⟨b80, 24, [.bool false, .int .i64 0, .slice none 0 0]⟩]]) => ?_)
        have hh81 := held_upd (wr := wd) (bs := [b4, b2]) hup81 (fun b hb => by
          simp only [List.mem_cons, List.not_mem_nil, or_false] at hb
          rcases hb with h | h
          · rw [h]; exact ⟨(hM41.at (i := 1) (j := 0) rfl rfl).lt, by simp⟩
          · rw [h]; exact ⟨(hM41.at (i := 0) (j := 0) rfl rfl).lt, by simp⟩) (fun b hb => rfl)
        refine ⟨hh81, ?_⟩
        show _ ∧ _
        refine ⟨?_, ?_⟩
        ·
          show vd _ _ _ _ _ _ _
          refine dl (m_call (given_ok fa.a fa.h _ fa.d w81 (hda.upd hM81.upd) (by first | omega | (simp; done) | (simp; omega))) rfl fun v82 w82 ⟨bg82, cp82, rs82, hr82, hcp82, hs82, hm82⟩ => ?_)
          have hM82 : Mem w [] w82 [[⟨b2, 24, [.bool fa.a, .int .i64 fa.h, fa.v]⟩], [⟨b4, 24, [.bool fb.a, .int .i64 fb.h, fb.v]⟩], rs7, [⟨b8, 24, [.bool fa.a, .int .i64 fa.h, (.slice (some ⟨bg7, 0, none⟩) fa.d.length cp7)]⟩], rs12, [⟨b13, 24, [.bool fb.a, .int .i64 fb.h, (.slice (some ⟨bg12, 0, none⟩) fb.d.length cp12)]⟩], [], [⟨b18, 24, [.bool ((joinF fa.a fa.h fa.d fb.a fb.h fb.d).1), .int .i64 ((joinF fa.a fa.h fa.d fb.a fb.h fb.d).2.1), (.slice av17 lv17 cv17)]⟩], rs22, [⟨b23, 24, [.bool ((joinF fa.a fa.h fa.d fb.a fb.h fb.d).1), .int .i64 ((joinF fa.a fa.h fa.d fb.a fb.h fb.d).2.1), (.slice av22 lv22 cv22)]⟩], rs29, [⟨b30, 24, [.bool ((joinF fa.a fa.h fa.d fb.a fb.h fb.d).1), .int .i64 ((joinF fa.a fa.h fa.d fb.a fb.h fb.d).2.1), (.slice av29 lv29 cv29)]⟩], [⟨b80, 24, [.bool false, .int .i64 0, .slice none 0 0]⟩], rs82] := hM81.add hm82
          subst hr82
          have hh82 := held_upd (wr := wd) (bs := [b4, b2]) hm82.upd (fun b hb => by
            simp only [List.mem_cons, List.not_mem_nil, or_false] at hb
            rcases hb with h | h
            · rw [h]; exact ⟨(hM81.at (i := 1) (j := 0) rfl rfl).lt, by simp⟩
            · rw [h]; exact ⟨(hM81.at (i := 0) (j := 0) rfl rfl).lt, by simp⟩) hh81
          refine ⟨hh82, ?_⟩
          show _ ∧ _
          refine ⟨?_, ?_⟩
          ·
            show vd _ _ _ _ _ _ _
            refine dl (m_call (given_ok fb.a fb.h _ fb.d w82 (hdb.upd hM82.upd) (by first | omega | (simp; done) | (simp; omega))) rfl fun v83 w83 ⟨bg83, cp83, rs83, hr83, hcp83, hs83, hm83⟩ => ?_)
            have hM83 : Mem w [] w83 [[⟨b2, 24, [.bool fa.a, .int .i64 fa.h, fa.v]⟩], [⟨b4, 24, [.bool fb.a, .int .i64 fb.h, fb.v]⟩], rs7, [⟨b8, 24, [.bool fa.a, .int .i64 fa.h, (.slice (some ⟨bg7, 0, none⟩) fa.d.length cp7)]⟩], rs12, [⟨b13, 24, [.bool fb.a, .int .i64 fb.h, (.slice (some ⟨bg12, 0, none⟩) fb.d.length cp12)]⟩], [], [⟨b18, 24, [.bool ((joinF fa.a fa.h fa.d fb.a fb.h fb.d).1), .int .i64 ((joinF fa.a fa.h fa.d fb.a fb.h fb.d).2.1), (.slice av17 lv17 cv17)]⟩], rs22, [⟨b23, 24, [.bool ((joinF fa.a fa.h fa.d fb.a fb.h fb.d).1), .int .i64 ((joinF fa.a fa.h fa.d fb.a fb.h fb.d).2.1), (.slice av22 lv22 cv22)]⟩], rs29, [⟨b30, 24, [.bool ((joinF fa.a fa.h fa.d fb.a fb.h fb.d).1), .int .i64 ((joinF fa.a fa.h fa.d fb.a fb.h fb.d).2.1), (.slice av29 lv29 cv29)]⟩], [⟨b80, 24, [.bool false, .int .i64 0, .slice none 0 0]⟩], rs82, rs83] := hM82.add hm83
            subst hr83
            have hh83 := held_upd (wr := wd) (bs := [b4, b2]) hm83.upd (fun b hb => by
              simp only [List.mem_cons, List.not_mem_nil, or_false] at hb
              rcases hb with h | h
              · rw [h]; exact ⟨(hM82.at (i := 1) (j := 0) rfl rfl).lt, by simp⟩
              · rw [h]; exact ⟨(hM82.at (i := 0) (j := 0) rfl rfl).lt, by simp⟩) hh82
            refine ⟨hh83, ?_⟩
            refine dl (m_alU hM83 fun b84 w85 hup85 (hM85 : Mem w [] w85 [[⟨b2, 24, [.bool fa.a, .int .i64 fa.h, fa.v]⟩], [⟨b4, 24, [.bool fb.a, .int .i64 fb.h, fb.v]⟩], rs7, [⟨b8, 24, [.bool fa.a, .int .i64 fa.h, (.slice (some ⟨bg7, 0, none⟩) fa.d.length cp7)]⟩], rs12, [⟨b13, 24, [.bool fb.a, .int .i64 fb.h, (.slice (some ⟨bg12, 0, none⟩) fb.d.length cp12)]⟩], [], [⟨b18, 24, [.bool ((joinF fa.a fa.h fa.d fb.a fb.h fb.d).1), .int .i64 ((joinF fa.a fa.h fa.d fb.a fb.h fb.d).2.1), (.slice av17 lv17 cv17)]⟩], rs22, [⟨b23, 24, [.bool ((joinF fa.a fa.h fa.d fb.a fb.h fb.d).1), .int .i64 ((joinF fa.a fa.h fa.d fb.a fb.h fb.d).2.1), (.slice av22 lv22 cv22)]⟩], rs29, [⟨b30, 24, [.bool ((joinF fa.a fa.h fa.d fb.a fb.h fb.d).1), .int .i64 ((joinF fa.a fa.h fa.d fb.a fb.h fb.d).2.1), (.slice av29 lv29 cv29)]⟩], [⟨b80, 24, [.bool false, .int .i64 0, .slice none 0 0]⟩], rs82, rs83, [⟨b84, 24, [.bool false, .int .i64 0, .slice none 0 0]⟩]]) => ?_)
            have hh85 := held_upd (wr := wd) (bs := [b4, b2]) hup85 (fun b hb => by
              simp only [List.mem_cons, List.not_mem_nil, or_false] at hb
              rcases hb with h | h
              · rw [h]; exact ⟨(hM83.at (i := 1) (j := 0) rfl rfl).lt, by simp⟩
              · rw [h]; exact ⟨(hM83.at (i := 0) (j := 0) rfl rfl).lt, by simp⟩) hh83
            refine ⟨hh85, ?_⟩
            refine dl (m_stAU (l := [.bool fa.a, .int .i64 fa.h, (.slice (some ⟨bg82, 0, none⟩) fa.d.length cp82)]) hM85 (i := 12) rfl rfl rfl rfl (by simp [oneCells, Value.oneCell', byteV]) (by simp) fun w86 hup86 (hM86 : Mem w [] w86 [[⟨b2, 24, [.bool fa.a, .int .i64 fa.h, fa.v]⟩], [⟨b4, 24, [.bool fb.a, .int .i64 fb.h, fb.v]⟩], rs7, [⟨b8, 24, [.bool fa.a, .int .i64 fa.h, (.slice (some ⟨bg7, 0, none⟩) fa.d.length cp7)]⟩], rs12, [⟨b13, 24, [.bool fb.a, .int .i64 fb.h, (.slice (some ⟨bg12, 0, none⟩) fb.d.length cp12)]⟩], [], [⟨b18, 24, [.bool ((joinF fa.a fa.h fa.d fb.a fb.h fb.d).1), .int .i64 ((joinF fa.a fa.h fa.d fb.a fb.h fb.d).2.1), (.slice av17 lv17 cv17)]⟩], rs22, [⟨b23, 24, [.bool ((joinF fa.a fa.h fa.d fb.a fb.h fb.d).1), .int .i64 ((joinF fa.a fa.h fa.d fb.a fb.h fb.d).2.1), (.slice av22 lv22 cv22)]⟩], rs29, [⟨b30, 24, [.bool ((joinF fa.a fa.h fa.d fb.a fb.h fb.d).1), .int .i64 ((joinF fa.a fa.h fa.d fb.a fb.h fb.d).2.1), (.slice av29 lv29 cv29)]⟩], [⟨b80, 24, [.bool fa.a, .int .i64 fa.h, (.slice (some ⟨bg82, 0, none⟩) fa.d.length cp82)]⟩], rs82, rs83, [⟨b84, 24, [.bool false, .int .i64 0, .slice none 0 0]⟩]]) => ?_)
            have hh86 := held_upd (wr := wd) (bs := [b4, b2]) hup86 (fun b hb => by
              simp only [List.mem_cons, List.not_mem_nil, or_false] at hb
              rcases hb with h | h
              · rw [h]; exact ⟨(hM85.at (i := 1) (j := 0) rfl rfl).lt, hM85.apart (i := 1) (j := 0) (k := 12) rfl rfl rfl (by decide)⟩
              · rw [h]; exact ⟨(hM85.at (i := 0) (j := 0) rfl rfl).lt, hM85.apart (i := 0) (j := 0) (k := 12) rfl rfl rfl (by decide)⟩) hh85
            refine ⟨hh86, ?_⟩
            refine dl (m_stAU (l := [.bool fb.a, .int .i64 fb.h, (.slice (some ⟨bg83, 0, none⟩) fb.d.length cp83)]) hM86 (i := 15) rfl rfl rfl rfl (by simp [oneCells, Value.oneCell', byteV]) (by simp) fun w87 hup87 (hM87 : Mem w [] w87 [[⟨b2, 24, [.bool fa.a, .int .i64 fa.h, fa.v]⟩], [⟨b4, 24, [.bool fb.a, .int .i64 fb.h, fb.v]⟩], rs7, [⟨b8, 24, [.bool fa.a, .int .i64 fa.h, (.slice (some ⟨bg7, 0, none⟩) fa.d.length cp7)]⟩], rs12, [⟨b13, 24, [.bool fb.a, .int .i64 fb.h, (.slice (some ⟨bg12, 0, none⟩) fb.d.length cp12)]⟩], [], [⟨b18, 24, [.bool ((joinF fa.a fa.h fa.d fb.a fb.h fb.d).1), .int .i64 ((joinF fa.a fa.h fa.d fb.a fb.h fb.d).2.1), (.slice av17 lv17 cv17)]⟩], rs22, [⟨b23, 24, [.bool ((joinF fa.a fa.h fa.d fb.a fb.h fb.d).1), .int .i64 ((joinF fa.a fa.h fa.d fb.a fb.h fb.d).2.1), (.slice av22 lv22 cv22)]⟩], rs29, [⟨b30, 24, [.bool ((joinF fa.a fa.h fa.d fb.a fb.h fb.d).1), .int .i64 ((joinF fa.a fa.h fa.d fb.a fb.h fb.d).2.1), (.slice av29 lv29 cv29)]⟩], [⟨b80, 24, [.bool fa.a, .int .i64 fa.h, (.slice (some ⟨bg82, 0, none⟩) fa.d.length cp82)]⟩], rs82, rs83, [⟨b84, 24, [.bool fb.a, .int .i64 fb.h, (.slice (some ⟨bg83, 0, none⟩) fb.d.length cp83)]⟩]]) => ?_)
            have hh87 := held_upd (wr := wd) (bs := [b4, b2]) hup87 (fun b hb => by
              simp only [List.mem_cons, List.not_mem_nil, or_false] at hb
              rcases hb with h | h
              · rw [h]; exact ⟨(hM86.at (i := 1) (j := 0) rfl rfl).lt, hM86.apart (i := 1) (j := 0) (k := 15) rfl rfl rfl (by decide)⟩
              · rw [h]; exact ⟨(hM86.at (i := 0) (j := 0) rfl rfl).lt, hM86.apart (i := 0) (j := 0) (k := 15) rfl rfl rfl (by decide)⟩) hh86
            refine ⟨hh87, ?_⟩
            refine h39 _ _ ⟨b80, b84, bg82, cp82, bg83, cp83, rs82, rs83, rfl, rfl, rfl, rfl, rfl, rfl, ((hM87.sw 12).sw 13), hcp82, hs82, hcp83, hs83⟩
          ·
            show vd _ _ _ _ _ _ _
            refine dl (m_alU hM82 fun b88 w89 hup89 (hM89 : Mem w [] w89 [[⟨b2, 24, [.bool fa.a, .int .i64 fa.h, fa.v]⟩], [⟨b4, 24, [.bool fb.a, .int .i64 fb.h, fb.v]⟩], rs7, [⟨b8, 24, [.bool fa.a, .int .i64 fa.h, (.slice (some ⟨bg7, 0, none⟩) fa.d.length cp7)]⟩], rs12, [⟨b13, 24, [.bool fb.a, .int .i64 fb.h, (.slice (some ⟨bg12, 0, none⟩) fb.d.length cp12)]⟩], [], [⟨b18, 24, [.bool ((joinF fa.a fa.h fa.d fb.a fb.h fb.d).1), .int .i64 ((joinF fa.a fa.h fa.d fb.a fb.h fb.d).2.1), (.slice av17 lv17 cv17)]⟩], rs22, [⟨b23, 24, [.bool ((joinF fa.a fa.h fa.d fb.a fb.h fb.d).1), .int .i64 ((joinF fa.a fa.h fa.d fb.a fb.h fb.d).2.1), (.slice av22 lv22 cv22)]⟩], rs29, [⟨b30, 24, [.bool ((joinF fa.a fa.h fa.d fb.a fb.h fb.d).1), .int .i64 ((joinF fa.a fa.h fa.d fb.a fb.h fb.d).2.1), (.slice av29 lv29 cv29)]⟩], [⟨b80, 24, [.bool false, .int .i64 0, .slice none 0 0]⟩], rs82, [⟨b88, 24, [.bool false, .int .i64 0, .slice none 0 0]⟩]]) => ?_)
            have hh89 := held_upd (wr := wd) (bs := [b4, b2]) hup89 (fun b hb => by
              simp only [List.mem_cons, List.not_mem_nil, or_false] at hb
              rcases hb with h | h
              · rw [h]; exact ⟨(hM82.at (i := 1) (j := 0) rfl rfl).lt, by simp⟩
              · rw [h]; exact ⟨(hM82.at (i := 0) (j := 0) rfl rfl).lt, by simp⟩) hh82
            refine ⟨hh89, ?_⟩
            refine dl (m_call (given_ok fb.a fb.h _ fb.d w89 (hdb.upd hM89.upd) (by first | omega | (simp; done) | (simp; omega))) rfl fun v90 w90 ⟨bg90, cp90, rs90, hr90, hcp90, hs90, hm90⟩ => ?_)
            have hM90 : Mem w [] w90 [[⟨b2, 24, [.bool fa.a, .int .i64 fa.h, fa.v]⟩], [⟨b4, 24, [.bool fb.a, .int .i64 fb.h, fb.v]⟩], rs7, [⟨b8, 24, [.bool fa.a, .int .i64 fa.h, (.slice (some ⟨bg7, 0, none⟩) fa.d.length cp7)]⟩], rs12, [⟨b13, 24, [.bool fb.a, .int .i64 fb.h, (.slice (some ⟨bg12, 0, none⟩) fb.d.length cp12)]⟩], [], [⟨b18, 24, [.bool ((joinF fa.a fa.h fa.d fb.a fb.h fb.d).1), .int .i64 ((joinF fa.a fa.h fa.d fb.a fb.h fb.d).2.1), (.slice av17 lv17 cv17)]⟩], rs22, [⟨b23, 24, [.bool ((joinF fa.a fa.h fa.d fb.a fb.h fb.d).1), .int .i64 ((joinF fa.a fa.h fa.d fb.a fb.h fb.d).2.1), (.slice av22 lv22 cv22)]⟩], rs29, [⟨b30, 24, [.bool ((joinF fa.a fa.h fa.d fb.a fb.h fb.d).1), .int .i64 ((joinF fa.a fa.h fa.d fb.a fb.h fb.d).2.1), (.slice av29 lv29 cv29)]⟩], [⟨b80, 24, [.bool false, .int .i64 0, .slice none 0 0]⟩], rs82, [⟨b88, 24, [.bool false, .int .i64 0, .slice none 0 0]⟩], rs90] := hM89.add hm90
            subst hr90
            have hh90 := held_upd (wr := wd) (bs := [b4, b2]) hm90.upd (fun b hb => by
              simp only [List.mem_cons, List.not_mem_nil, or_false] at hb
              rcases hb with h | h
              · rw [h]; exact ⟨(hM89.at (i := 1) (j := 0) rfl rfl).lt, by simp⟩
              · rw [h]; exact ⟨(hM89.at (i := 0) (j := 0) rfl rfl).lt, by simp⟩) hh89
            refine ⟨hh90, ?_⟩
            refine dl (m_stAU (l := [.bool fa.a, .int .i64 fa.h, (.slice (some ⟨bg82, 0, none⟩) fa.d.length cp82)]) hM90 (i := 12) rfl rfl rfl rfl (by simp [oneCells, Value.oneCell', byteV]) (by simp) fun w91 hup91 (hM91 : Mem w [] w91 [[⟨b2, 24, [.bool fa.a, .int .i64 fa.h, fa.v]⟩], [⟨b4, 24, [.bool fb.a, .int .i64 fb.h, fb.v]⟩], rs7, [⟨b8, 24, [.bool fa.a, .int .i64 fa.h, (.slice (some ⟨bg7, 0, none⟩) fa.d.length cp7)]⟩], rs12, [⟨b13, 24, [.bool fb.a, .int .i64 fb.h, (.slice (some ⟨bg12, 0, none⟩) fb.d.length cp12)]⟩], [], [⟨b18, 24, [.bool ((joinF fa.a fa.h fa.d fb.a fb.h fb.d).1), .int .i64 ((joinF fa.a fa.h fa.d fb.a fb.h fb.d).2.1), (.slice av17 lv17 cv17)]⟩], rs22, [⟨b23, 24, [.bool ((joinF fa.a fa.h fa.d fb.a fb.h fb.d).1), .int .i64 ((joinF fa.a fa.h fa.d fb.a fb.h fb.d).2.1), (.slice av22 lv22 cv22)]⟩], rs29, [⟨b30, 24, [.bool ((joinF fa.a fa.h fa.d fb.a fb.h fb.d).1), .int .i64 ((joinF fa.a fa.h fa.d fb.a fb.h fb.d).2.1), (.slice av29 lv29 cv29)]⟩], [⟨b80, 24, [.bool fa.a, .int .i64 fa.h, (.slice (some ⟨bg82, 0, none⟩) fa.d.length cp82)]⟩], rs82, [⟨b88, 24, [.bool false, .int .i64 0, .slice none 0 0]⟩], rs90]) => ?_)
            have hh91 := held_upd (wr := wd) (bs := [b4, b2]) hup91 (fun b hb => by
              simp only [List.mem_cons, List.not_mem_nil, or_false] at hb
              rcases hb with h | h
              · rw [h]; exact ⟨(hM90.at (i := 1) (j := 0) rfl rfl).lt, hM90.apart (i := 1) (j := 0) (k := 12) rfl rfl rfl (by decide)⟩
              · rw [h]; exact ⟨(hM90.at (i := 0) (j := 0) rfl rfl).lt, hM90.apart (i := 0) (j := 0) (k := 12) rfl rfl rfl (by decide)⟩) hh90
            refine ⟨hh91, ?_⟩
            refine dl (m_stAU (l := [.bool fb.a, .int .i64 fb.h, (.slice (some ⟨bg90, 0, none⟩) fb.d.length cp90)]) hM91 (i := 14) rfl rfl rfl rfl (by simp [oneCells, Value.oneCell', byteV]) (by simp) fun w92 hup92 (hM92 : Mem w [] w92 [[⟨b2, 24, [.bool fa.a, .int .i64 fa.h, fa.v]⟩], [⟨b4, 24, [.bool fb.a, .int .i64 fb.h, fb.v]⟩], rs7, [⟨b8, 24, [.bool fa.a, .int .i64 fa.h, (.slice (some ⟨bg7, 0, none⟩) fa.d.length cp7)]⟩], rs12, [⟨b13, 24, [.bool fb.a, .int .i64 fb.h, (.slice (some ⟨bg12, 0, none⟩) fb.d.length cp12)]⟩], [], [⟨b18, 24, [.bool ((joinF fa.a fa.h fa.d fb.a fb.h fb.d).1), .int .i64 ((joinF fa.a fa.h fa.d fb.a fb.h fb.d).2.1), (.slice av17 lv17 cv17)]⟩], rs22, [⟨b23, 24, [.bool ((joinF fa.a fa.h fa.d fb.a fb.h fb.d).1), .int .i64 ((joinF fa.a fa.h fa.d fb.a fb.h fb.d).2.1), (.slice av22 lv22 cv22)]⟩], rs29, [⟨b30, 24, [.bool ((joinF fa.a fa.h fa.d fb.a fb.h fb.d).1), .int .i64 ((joinF fa.a fa.h fa.d fb.a fb.h fb.d).2.1), (.slice av29 lv29 cv29)]⟩], [⟨b80, 24, [.bool fa.a, .int .i64 fa.h, (.slice (some ⟨bg82, 0, none⟩) fa.d.length cp82)]⟩], rs82, [⟨b88, 24, [.bool fb.a, .int .i64 fb.h, (.slice (some ⟨bg90, 0, none⟩) fb.d.length cp90)]⟩], rs90]) => ?_)
            have hh92 := held_upd (wr := wd) (bs := [b4, b2]) hup92 (fun b hb => by
              simp only [List.mem_cons, List.not_mem_nil, or_false] at hb
              rcases hb with h | h
              · rw [h]; exact ⟨(hM91.at (i := 1) (j := 0) rfl rfl).lt, hM91.apart (i := 1) (j := 0) (k := 14) rfl rfl rfl (by decide)⟩
              · rw [h]; exact ⟨(hM91.at (i := 0) (j := 0) rfl rfl).lt, hM91.apart (i := 0) (j := 0) (k := 14) rfl rfl rfl (by decide)⟩) hh91
            refine ⟨hh92, ?_⟩
            refine h39 _ _ ⟨b80, b88, bg82, cp82, bg90, cp90, rs82, rs90, rfl, rfl, rfl, rfl, rfl, rfl, (((hM92.sw 12).sw 14).sw 13), hcp82, hs82, hcp90, hs90⟩
        ·
          show vd _ _ _ _ _ _ _
          refine dl (m_alU hM81 fun b93 w94 hup94 (hM94 : Mem w [] w94 [[⟨b2, 24, [.bool fa.a, .int .i64 fa.h, fa.v]⟩], [⟨b4, 24, [.bool fb.a, .int .i64 fb.h, fb.v]⟩], rs7, [⟨b8, 24, [.bool fa.a, .int .i64 fa.h, (.slice (some ⟨bg7, 0, none⟩) fa.d.length cp7)]⟩], rs12, [⟨b13, 24, [.bool fb.a, .int .i64 fb.h, (.slice (some ⟨bg12, 0, none⟩) fb.d.length cp12)]⟩], [], [⟨b18, 24, [.bool ((joinF fa.a fa.h fa.d fb.a fb.h fb.d).1), .int .i64 ((joinF fa.a fa.h fa.d fb.a fb.h fb.d).2.1), (.slice av17 lv17 cv17)]⟩], rs22, [⟨b23, 24, [.bool ((joinF fa.a fa.h fa.d fb.a fb.h fb.d).1), .int .i64 ((joinF fa.a fa.h fa.d fb.a fb.h fb.d).2.1), (.slice av22 lv22 cv22)]⟩], rs29, [⟨b30, 24, [.bool ((joinF fa.a fa.h fa.d fb.a fb.h fb.d).1), .int .i64 ((joinF fa.a fa.h fa.d fb.a fb.h fb.d).2.1), (.slice av29 lv29 cv29)]⟩], [⟨b80, 24, [.bool false, .int .i64 0, .slice none 0 0]⟩], [⟨b93, 24, [.bool false, .int .i64 0, .slice none 0 0]⟩]]) => ?_)
          have hh94 := held_upd (wr := wd) (bs := [b4, b2]) hup94 (fun b hb => by
            simp only [List.mem_cons, List.not_mem_nil, or_false] at hb
            rcases hb with h | h
            · rw [h]; exact ⟨(hM81.at (i := 1) (j := 0) rfl rfl).lt, by simp⟩
            · rw [h]; exact ⟨(hM81.at (i := 0) (j := 0) rfl rfl).lt, by simp⟩) hh81
          refine ⟨hh94, ?_⟩
          refine dl (m_call (given_ok fa.a fa.h _ fa.d w94 (hda.upd hM94.upd) (by first | omega | (simp; done) | (simp; omega))) rfl fun v95 w95 ⟨bg95, cp95, rs95, hr95, hcp95, hs95, hm95⟩ => ?_)
          have hM95 : Mem w [] w95 [[⟨b2, 24, [.bool fa.a, .int .i64 fa.h, fa.v]⟩], [⟨b4, 24, [.bool fb.a, .int .i64 fb.h, fb.v]⟩], rs7, [⟨b8, 24, [.bool fa.a, .int .i64 fa.h, (.slice (some ⟨bg7, 0, none⟩) fa.d.length cp7)]⟩], rs12, [⟨b13, 24, [.bool fb.a, .int .i64 fb.h, (.slice (some ⟨bg12, 0, none⟩) fb.d.length cp12)]⟩], [], [⟨b18, 24, [.bool ((joinF fa.a fa.h fa.d fb.a fb.h fb.d).1), .int .i64 ((joinF fa.a fa.h fa.d fb.a fb.h fb.d).2.1), (.slice av17 lv17 cv17)]⟩], rs22, [⟨b23, 24, [.bool ((joinF fa.a fa.h fa.d fb.a fb.h fb.d).1), .int .i64 ((joinF fa.a fa.h fa.d fb.a fb.h fb.d).2.1), (.slice av22 lv22 cv22)]⟩], rs29, [⟨b30, 24, [.bool ((joinF fa.a fa.h fa.d fb.a fb.h fb.d).1), .int .i64 ((joinF fa.a fa.h fa.d fb.a fb.h fb.d).2.1), (.slice av29 lv29 cv29)]⟩], [⟨b80, 24, [.bool false, .int .i64 0, .slice none 0 0]⟩], [⟨b93, 24, [.bool false, .int .i64 0, .slice none 0 0]⟩], rs95] := hM94.add hm95
          subst hr95
          have hh95 := held_upd (wr := wd) (bs := [b4, b2]) hm95.upd (fun b hb => by
            simp only [List.mem_cons, List.not_mem_nil, or_false] at hb
            rcases hb with h | h
            · rw [h]; exact ⟨(hM94.at (i := 1) (j := 0) rfl rfl).lt, by simp⟩
            · rw [h]; exact ⟨(hM94.at (i := 0) (j := 0) rfl rfl).lt, by simp⟩) hh94
          refine ⟨hh95, ?_⟩
          refine dl (m_call (given_ok fb.a fb.h _ fb.d w95 (hdb.upd hM95.upd) (by first | omega | (simp; done) | (simp; omega))) rfl fun v96 w96 ⟨bg96, cp96, rs96, hr96, hcp96, hs96, hm96⟩ => ?_)
          have hM96 : Mem w [] w96 [[⟨b2, 24, [.bool fa.a, .int .i64 fa.h, fa.v]⟩], [⟨b4, 24, [.bool fb.a, .int .i64 fb.h, fb.v]⟩], rs7, [⟨b8, 24, [.bool fa.a, .int .i64 fa.h, (.slice (some ⟨bg7, 0, none⟩) fa.d.length cp7)]⟩], rs12, [⟨b13, 24, [.bool fb.a, .int .i64 fb.h, (.slice (some ⟨bg12, 0, none⟩) fb.d.length cp12)]⟩], [], [⟨b18, 24, [.bool ((joinF fa.a fa.h fa.d fb.a fb.h fb.d).1), .int .i64 ((joinF fa.a fa.h fa.d fb.a fb.h fb.d).2.1), (.slice av17 lv17 cv17)]⟩], rs22, [⟨b23, 24, [.bool ((joinF fa.a fa.h fa.d fb.a fb.h fb.d).1), .int .i64 ((joinF fa.a fa.h fa.d fb.a fb.h fb.d).2.1), (.slice av22 lv22 cv22)]⟩], rs29, [⟨b30, 24, [.bool ((joinF fa.a fa.h fa.d fb.a fb.h fb.d).1), .int .i64 ((joinF fa.a fa.h fa.d fb.a fb.h fb.d).2.1), (.slice av29 lv29 cv29)]⟩], [⟨b80, 24, [.bool false, .int .i64 0, .slice none 0 0]⟩], [⟨b93, 24, [.bool false, .int .i64 0, .slice none 0 0]⟩], rs95, rs96] := hM95.add hm96
          subst hr96
          have hh96 := held_upd (wr := wd) (bs := [b4, b2]) hm96.upd (fun b hb => by
            simp only [List.mem_cons, List.not_mem_nil, or_false] at hb
            rcases hb with h | h
            · rw [h]; exact ⟨(hM95.at (i := 1) (j := 0) rfl rfl).lt, by simp⟩
            · rw [h]; exact ⟨(hM95.at (i := 0) (j := 0) rfl rfl).lt, by simp⟩) hh95
          refine ⟨hh96, ?_⟩
          refine dl (m_stAU (l := [.bool fa.a, .int .i64 fa.h, (.slice (some ⟨bg95, 0, none⟩) fa.d.length cp95)]) hM96 (i := 12) rfl rfl rfl rfl (by simp [oneCells, Value.oneCell', byteV]) (by simp) fun w97 hup97 (hM97 : Mem w [] w97 [[⟨b2, 24, [.bool fa.a, .int .i64 fa.h, fa.v]⟩], [⟨b4, 24, [.bool fb.a, .int .i64 fb.h, fb.v]⟩], rs7, [⟨b8, 24, [.bool fa.a, .int .i64 fa.h, (.slice (some ⟨bg7, 0, none⟩) fa.d.length cp7)]⟩], rs12, [⟨b13, 24, [.bool fb.a, .int .i64 fb.h, (.slice (some ⟨bg12, 0, none⟩) fb.d.length cp12)]⟩], [], [⟨b18, 24, [.bool ((joinF fa.a fa.h fa.d fb.a fb.h fb.d).1), .int .i64 ((joinF fa.a fa.h fa.d fb.a fb.h fb.d).2.1), (.slice av17 lv17 cv17)]⟩], rs22, [⟨b23, 24, [.bool ((joinF fa.a fa.h fa.d fb.a fb.h fb.d).1), .int .i64 ((joinF fa.a fa.h fa.d fb.a fb.h fb.d).2.1), (.slice av22 lv22 cv22)]⟩], rs29, [⟨b30, 24, [.bool ((joinF fa.a fa.h fa.d fb.a fb.h fb.d).1), .int .i64 ((joinF fa.a fa.h fa.d fb.a fb.h fb.d).2.1), (.slice av29 lv29 cv29)]⟩], [⟨b80, 24, [.bool fa.a, .int .i64 fa.h, (.slice (some ⟨bg95, 0, none⟩) fa.d.length cp95)]⟩], [⟨b93, 24, [.bool false, .int .i64 0, .slice none 0 0]⟩], rs95, rs96]) => ?_)
          have hh97 := held_upd (wr := wd) (bs := [b4, b2]) hup97 (fun b hb => by
            simp only [List.mem_cons, List.not_mem_nil, or_false] at hb
            rcases hb with h | h
            · rw [h]; exact ⟨(hM96.at (i := 1) (j := 0) rfl rfl).lt, hM96.apart (i := 1) (j := 0) (k := 12) rfl rfl rfl (by decide)⟩
            · rw [h]; exact ⟨(hM96.at (i := 0) (j := 0) rfl rfl).lt, hM96.apart (i := 0) (j := 0) (k := 12) rfl rfl rfl (by decide)⟩) hh96
          refine ⟨hh97, ?_⟩
          refine dl (m_stAU (l := [.bool fb.a, .int .i64 fb.h, (.slice (some ⟨bg96, 0, none⟩) fb.d.length cp96)]) hM97 (i := 13) rfl rfl rfl rfl (by simp [oneCells, Value.oneCell', byteV]) (by simp) fun w98 hup98 (hM98 : Mem w [] w98 [[⟨b2, 24, [.bool fa.a, .int .i64 fa.h, fa.v]⟩], [⟨b4, 24, [.bool fb.a, .int .i64 fb.h, fb.v]⟩], rs7, [⟨b8, 24, [.bool fa.a, .int .i64 fa.h, (.slice (some ⟨bg7, 0, none⟩) fa.d.length cp7)]⟩], rs12, [⟨b13, 24, [.bool fb.a, .int .i64 fb.h, (.slice (some ⟨bg12, 0, none⟩) fb.d.length cp12)]⟩], [], [⟨b18, 24, [.bool ((joinF fa.a fa.h fa.d fb.a fb.h fb.d).1), .int .i64 ((joinF fa.a fa.h fa.d fb.a fb.h fb.d).2.1), (.slice av17 lv17 cv17)]⟩], rs22, [⟨b23, 24, [.bool ((joinF fa.a fa.h fa.d fb.a fb.h fb.d).1), .int .i64 ((joinF fa.a fa.h fa.d fb.a fb.h fb.d).2.1), (.slice av22 lv22 cv22)]⟩], rs29, [⟨b30, 24, [.bool ((joinF fa.a fa.h fa.d fb.a fb.h fb.d).1), .int .i64 ((joinF fa.a fa.h fa.d fb.a fb.h fb.d).2.1), (.slice av29 lv29 cv29)]⟩], [⟨b80, 24, [.bool fa.a, .int .i64 fa.h, (.slice (some ⟨bg95, 0, none⟩) fa.d.length cp95)]⟩], [⟨b93, 24, [.bool fb.a, .int .i64 fb.h, (.slice (some ⟨bg96, 0, none⟩) fb.d.length cp96)]⟩], rs95, rs96]) => ?_)
          have hh98 := held_upd (wr := wd) (bs := [b4, b2]) hup98 (fun b hb => by
            simp only [List.mem_cons, List.not_mem_nil, or_false] at hb
            rcases hb with h | h
            · rw [h]; exact ⟨(hM97.at (i := 1) (j := 0) rfl rfl).lt, hM97.apart (i := 1) (j := 0) (k := 13) rfl rfl rfl (by decide)⟩
            · rw [h]; exact ⟨(hM97.at (i := 0) (j := 0) rfl rfl).lt, hM97.apart (i := 0) (j := 0) (k := 13) rfl rfl rfl (by decide)⟩) hh97
          refine ⟨hh98, ?_⟩
          refine h39 _ _ ⟨b80, b93, bg95, cp95, bg96, cp96, rs95, rs96, rfl, rfl, rfl, rfl, rfl, rfl, ((((hM98.sw 13).sw 12).sw 14).sw 13), hcp95, hs95, hcp96, hs96⟩
      ·
        show vd _ _ _ _ _ _ _
        refine dl (m_alU hM41 fun b99 w100 hup100 (hM100 : Mem w [] w100 [[⟨b2, 24, [.bool fa.a, .int .i64 fa.h, fa.v]⟩], [⟨b4, 24, [.bool fb.a, .int .i64 fb.h, fb.v]⟩], rs7, [⟨b8, 24, [.bool fa.a, .int .i64 fa.h, (.slice (some ⟨bg7, 0, none⟩) fa.d.length cp7)]⟩], rs12, [⟨b13, 24, [.bool fb.a, .int .i64 fb.h, (.slice (some ⟨bg12, 0, none⟩) fb.d.length cp12)]⟩], [], [⟨b18, 24, [.bool ((joinF fa.a fa.h fa.d fb.a fb.h fb.d).1), .int .i64 ((joinF fa.a fa.h fa.d fb.a fb.h fb.d).2.1), (.slice av17 lv17 cv17)]⟩], rs22, [⟨b23, 24, [.bool ((joinF fa.a fa.h fa.d fb.a fb.h fb.d).1), .int .i64 ((joinF fa.a fa.h fa.d fb.a fb.h fb.d).2.1), (.slice av22 lv22 cv22)]⟩], rs29, [⟨b30, 24, [.bool ((joinF fa.a fa.h fa.d fb.a fb.h fb.d).1), .int .i64 ((joinF fa.a fa.h fa.d fb.a fb.h fb.d).2.1), (.slice av29 lv29 cv29)]⟩], [⟨b99, 24, [.bool false, .int .i64 0, .slice none 0 0]⟩]]) => ?_)
        have hh100 := held_upd (wr := wd) (bs := [b4, b2]) hup100 (fun b hb => by
          simp only [List.mem_cons, List.not_mem_nil, or_false] at hb
          rcases hb with h | h
          · rw [h]; exact ⟨(hM41.at (i := 1) (j := 0) rfl rfl).lt, by simp⟩
          · rw [h]; exact ⟨(hM41.at (i := 0) (j := 0) rfl rfl).lt, by simp⟩) (fun b hb => rfl)
        refine ⟨hh100, ?_⟩
        show _ ∧ _
        refine ⟨?_, ?_⟩
        ·
          show vd _ _ _ _ _ _ _
          refine dl (m_call (given_ok fa.a fa.h _ fa.d w100 (hda.upd hM100.upd) (by first | omega | (simp; done) | (simp; omega))) rfl fun v101 w101 ⟨bg101, cp101, rs101, hr101, hcp101, hs101, hm101⟩ => ?_)
          have hM101 : Mem w [] w101 [[⟨b2, 24, [.bool fa.a, .int .i64 fa.h, fa.v]⟩], [⟨b4, 24, [.bool fb.a, .int .i64 fb.h, fb.v]⟩], rs7, [⟨b8, 24, [.bool fa.a, .int .i64 fa.h, (.slice (some ⟨bg7, 0, none⟩) fa.d.length cp7)]⟩], rs12, [⟨b13, 24, [.bool fb.a, .int .i64 fb.h, (.slice (some ⟨bg12, 0, none⟩) fb.d.length cp12)]⟩], [], [⟨b18, 24, [.bool ((joinF fa.a fa.h fa.d fb.a fb.h fb.d).1), .int .i64 ((joinF fa.a fa.h fa.d fb.a fb.h fb.d).2.1), (.slice av17 lv17 cv17)]⟩], rs22, [⟨b23, 24, [.bool ((joinF fa.a fa.h fa.d fb.a fb.h fb.d).1), .int .i64 ((joinF fa.a fa.h fa.d fb.a fb.h fb.d).2.1), (.slice av22 lv22 cv22)]⟩], rs29, [⟨b30, 24, [.bool ((joinF fa.a fa.h fa.d fb.a fb.h fb.d).1), .int .i64 ((joinF fa.a fa.h fa.d fb.a fb.h fb.d).2.1), (.slice av29 lv29 cv29)]⟩], [⟨b99, 24, [.bool false, .int .i64 0, .slice none 0 0]⟩], rs101] := hM100.add hm101
          subst hr101
          have hh101 := held_upd (wr := wd) (bs := [b4, b2]) hm101.upd (fun b hb => by
            simp only [List.mem_cons, List.not_mem_nil, or_false] at hb
            rcases hb with h | h
            · rw [h]; exact ⟨(hM100.at (i := 1) (j := 0) rfl rfl).lt, by simp⟩
            · rw [h]; exact ⟨(hM100.at (i := 0) (j := 0) rfl rfl).lt, by simp⟩) hh100
          refine ⟨hh101, ?_⟩
          show _ ∧ _
          refine ⟨?_, ?_⟩
          ·
            show vd _ _ _ _ _ _ _
            refine dl (m_call (given_ok fb.a fb.h _ fb.d w101 (hdb.upd hM101.upd) (by first | omega | (simp; done) | (simp; omega))) rfl fun v102 w102 ⟨bg102, cp102, rs102, hr102, hcp102, hs102, hm102⟩ => ?_)
            have hM102 : Mem w [] w102 [[⟨b2, 24, [.bool fa.a, .int .i64 fa.h, fa.v]⟩], [⟨b4, 24, [.bool fb.a, .int .i64 fb.h, fb.v]⟩], rs7, [⟨b8, 24, [.bool fa.a, .int .i64 fa.h, (.slice (some ⟨bg7, 0, none⟩) fa.d.length cp7)]⟩], rs12, [⟨b13, 24, [.bool fb.a, .int .i64 fb.h, (.slice (some ⟨bg12, 0, none⟩) fb.d.length cp12)]⟩], [], [⟨b18, 24, [.bool ((joinF fa.a fa.h fa.d fb.a fb.h fb.d).1), .int .i64 ((joinF fa.a fa.h fa.d fb.a fb.h fb.d).2.1), (.slice av17 lv17 cv17)]⟩], rs22, [⟨b23, 24, [.bool ((joinF fa.a fa.h fa.d fb.a fb.h fb.d).1), .int .i64 ((joinF fa.a fa.h fa.d fb.a fb.h fb.d).2.1), (.slice av22 lv22 cv22)]⟩], rs29, [⟨b30, 24, [.bool ((joinF fa.a fa.h fa.d fb.a fb.h fb.d).1), .int .i64 ((joinF fa.a fa.h fa.d fb.a fb.h fb.d).2.1), (.slice av29 lv29 cv29)]⟩], [⟨b99, 24, [.bool false, .int .i64 0, .slice none 0 0]⟩], rs101, rs102] := hM101.add hm102
            subst hr102
            have hh102 := held_upd (wr := wd) (bs := [b4, b2]) hm102.upd (fun b hb => by
              simp only [List.mem_cons, List.not_mem_nil, or_false] at hb
              rcases hb with h | h
              · rw [h]; exact ⟨(hM101.at (i := 1) (j := 0) rfl rfl).lt, by simp⟩
              · rw [h]; exact ⟨(hM101.at (i := 0) (j := 0) rfl rfl).lt, by simp⟩) hh101
            refine ⟨hh102, ?_⟩
            refine dl (m_alU hM102 fun b103 w104 hup104 (hM104 : Mem w [] w104 [[⟨b2, 24, [.bool fa.a, .int .i64 fa.h, fa.v]⟩], [⟨b4, 24, [.bool fb.a, .int .i64 fb.h, fb.v]⟩], rs7, [⟨b8, 24, [.bool fa.a, .int .i64 fa.h, (.slice (some ⟨bg7, 0, none⟩) fa.d.length cp7)]⟩], rs12, [⟨b13, 24, [.bool fb.a, .int .i64 fb.h, (.slice (some ⟨bg12, 0, none⟩) fb.d.length cp12)]⟩], [], [⟨b18, 24, [.bool ((joinF fa.a fa.h fa.d fb.a fb.h fb.d).1), .int .i64 ((joinF fa.a fa.h fa.d fb.a fb.h fb.d).2.1), (.slice av17 lv17 cv17)]⟩], rs22, [⟨b23, 24, [.bool ((joinF fa.a fa.h fa.d fb.a fb.h fb.d).1), .int .i64 ((joinF fa.a fa.h fa.d fb.a fb.h fb.d).2.1), (.slice av22 lv22 cv22)]⟩], rs29, [⟨b30, 24, [.bool ((joinF fa.a fa.h fa.d fb.a fb.h fb.d).1), .int .i64 ((joinF fa.a fa.h fa.d fb.a fb.h fb.d).2.1), (.slice av29 lv29 cv29)]⟩], [⟨b99, 24, [.bool false, .int .i64 0, .slice none 0 0]⟩], rs101, rs102, [⟨b103, 24, [.bool false, .int .i64 0, .slice none 0 0]⟩]]) => ?_)
            have hh104 := held_upd (wr := wd) (bs := [b4, b2]) hup104 (fun b hb => by
              simp only [List.mem_cons, List.not_mem_nil, or_false] at hb
              rcases hb with h | h
              · rw [h]; exact ⟨(hM102.at (i := 1) (j := 0) rfl rfl).lt, by simp⟩
              · rw [h]; exact ⟨(hM102.at (i := 0) (j := 0) rfl rfl).lt, by simp⟩) hh102
            refine ⟨hh104, ?_⟩
            refine dl (m_stAU (l := [.bool fa.a, .int .i64 fa.h, (.slice (some ⟨bg101, 0, none⟩) fa.d.length cp101)]) hM104 (i := 15) rfl rfl rfl rfl (by simp [oneCells, Value.oneCell', byteV]) (by simp) fun w105 hup105 (hM105 : Mem w [] w105 [[⟨b2, 24, [.bool fa.a, .int .i64 fa.h, fa.v]⟩], [⟨b4, 24, [.bool fb.a, .int .i64 fb.h, fb.v]⟩], rs7, [⟨b8, 24, [.bool fa.a, .int .i64 fa.h, (.slice (some ⟨bg7, 0, none⟩) fa.d.length cp7)]⟩], rs12, [⟨b13, 24, [.bool fb.a, .int .i64 fb.h, (.slice (some ⟨bg12, 0, none⟩) fb.d.length cp12)]⟩], [], [⟨b18, 24, [.bool ((joinF fa.a fa.h fa.d fb.a fb.h fb.d).1), .int .i64 ((joinF fa.a fa.h fa.d fb.a fb.h fb.d).2.1), (.slice av17 lv17 cv17)]⟩], rs22, [⟨b23, 24, [.bool ((joinF fa.a fa.h fa.d fb.a fb.h fb.d).1), .int .i64 ((joinF fa.a fa.h fa.d fb.a fb.h fb.d).2.1), (.slice av22 lv22 cv22)]⟩], rs29, [⟨b30, 24, [.bool ((joinF fa.a fa.h fa.d fb.a fb.h fb.d).1), .int .i64 ((joinF fa.a fa.h fa.d fb.a fb.h fb.d).2.1), (.slice av29 lv29 cv29)]⟩], [⟨b99, 24, [.bool false, .int .i64 0, .slice none 0 0]⟩], rs101, rs102, [⟨b103, 24, [.bool fa.a, .int .i64 fa.h, (.slice (some ⟨bg101, 0, none⟩) fa.d.length cp101)]⟩]]) => ?_)
            have hh105 := held_upd (wr := wd) (bs := [b4, b2]) hup105 (fun b hb => by
              simp only [List.mem_cons, List.not_mem_nil, or_false] at hb
              rcases hb with h | h
              · rw [h]; exact ⟨(hM104.at (i := 1) (j := 0) rfl rfl).lt, hM104.apart (i := 1) (j := 0) (k := 15) rfl rfl rfl (by decide)⟩
              · rw [h]; exact ⟨(hM104.at (i := 0) (j := 0) rfl rfl).lt, hM104.apart (i := 0) (j := 0) (k := 15) rfl rfl rfl (by decide)⟩) hh104
            refine ⟨hh105, ?_⟩
            refine dl (m_stAU (l := [.bool fb.a, .int .i64 fb.h, (.slice (some ⟨bg102, 0, none⟩) fb.d.length cp102)]) hM105 (i := 12) rfl rfl rfl rfl (by simp [oneCells, Value.oneCell', byteV]) (by simp) fun w106 hup106 (hM106 : Mem w [] w106 [[⟨b2, 24, [.bool fa.a, .int .i64 fa.h, fa.v]⟩], [⟨b4, 24, [.bool fb.a, .int .i64 fb.h, fb.v]⟩], rs7, [⟨b8, 24, [.bool fa.a, .int .i64 fa.h, (.slice (some ⟨bg7, 0, none⟩) fa.d.length cp7)]⟩], rs12, [⟨b13, 24, [.bool fb.a, .int .i64 fb.h, (.slice (some ⟨bg12, 0, none⟩) fb.d.length cp12)]⟩], [], [⟨b18, 24, [.bool ((joinF fa.a fa.h fa.d fb.a fb.h fb.d).1), .int .i64 ((joinF fa.a fa.h fa.d fb.a fb.h fb.d).2.1), (.slice av17 lv17 cv17)]⟩], rs22, [⟨b23, 24, [.bool ((joinF fa.a fa.h fa.d fb.a fb.h fb.d).1), .int .i64 ((joinF fa.a fa.h fa.d fb.a fb.h fb.d).2.1), (.slice av22 lv22 cv22)]⟩], rs29, [⟨b30, 24, [.bool ((joinF fa.a fa.h fa.d fb.a fb.h fb.d).1), .int .i64 ((joinF fa.a fa.h fa.d fb.a fb.h fb.d).2.1), (.slice av29 lv29 cv29)]⟩], [⟨b99, 24, [.bool fb.a, .int .i64 fb.h, (.slice (some ⟨bg102, 0, none⟩) fb.d.length cp102)]⟩], rs101, rs102, [⟨b103, 24, [.bool fa.a, .int .i64 fa.h, (.slice (some ⟨bg101, 0, none⟩) fa.d.length cp101)]⟩]]) => ?_)
            have hh106 := held_upd (wr := wd) (bs := [b4, b2]) hup106 (fun b hb => by
              simp only [List.mem_cons, List.not_mem_nil, or_false] at hb
              rcases hb with h | h
              · rw [h]; exact ⟨(hM105.at (i := 1) (j := 0) rfl rfl).lt, hM105.apart (i := 1) (j := 0) (k := 12) rfl rfl rfl (by decide)⟩
              · rw [h]; exact ⟨(hM105.at (i := 0) (j := 0) rfl rfl).lt, hM105.apart (i := 0) (j := 0) (k := 12) rfl rfl rfl (by decide)⟩) hh105
            refine ⟨hh106, ?_⟩
            refine h39 _ _ ⟨b103, b99, bg101, cp101, bg102, cp102, rs101, rs102, rfl, rfl, rfl, rfl, rfl, rfl, (((hM106.sw 12).sw 13).sw 14), hcp101, hs101, hcp102, hs102⟩
          ·
            show vd _ _ _ _ _ _ _
            refine dl (m_alU hM101 fun b107 w108 hup108 (hM108 : Mem w [] w108 [[⟨b2, 24, [.bool fa.a, .int .i64 fa.h, fa.v]⟩], [⟨b4, 24, [.bool fb.a, .int .i64 fb.h, fb.v]⟩], rs7, [⟨b8, 24, [.bool fa.a, .int .i64 fa.h, (.slice (some ⟨bg7, 0, none⟩) fa.d.length cp7)]⟩], rs12, [⟨b13, 24, [.bool fb.a, .int .i64 fb.h, (.slice (some ⟨bg12, 0, none⟩) fb.d.length cp12)]⟩], [], [⟨b18, 24, [.bool ((joinF fa.a fa.h fa.d fb.a fb.h fb.d).1), .int .i64 ((joinF fa.a fa.h fa.d fb.a fb.h fb.d).2.1), (.slice av17 lv17 cv17)]⟩], rs22, [⟨b23, 24, [.bool ((joinF fa.a fa.h fa.d fb.a fb.h fb.d).1), .int .i64 ((joinF fa.a fa.h fa.d fb.a fb.h fb.d).2.1), (.slice av22 lv22 cv22)]⟩], rs29, [⟨b30, 24, [.bool ((joinF fa.a fa.h fa.d fb.a fb.h fb.d).1), .int .i64 ((joinF fa.a fa.h fa.d fb.a fb.h fb.d).2.1), (.slice av29 lv29 cv29)]⟩], [⟨b99, 24, [.bool false, .int .i64 0, .slice none 0 0]⟩], rs101, [⟨b107, 24, [.bool false, .int .i64 0, .slice none 0 0]⟩]]) => ?_)
            have hh108 := held_upd (wr := wd) (bs := [b4, b2]) hup108 (fun b hb => by
              simp only [List.mem_cons, List.not_mem_nil, or_false] at hb
              rcases hb with h | h
              · rw [h]; exact ⟨(hM101.at (i := 1) (j := 0) rfl rfl).lt, by simp⟩
              · rw [h]; exact ⟨(hM101.at (i := 0) (j := 0) rfl rfl).lt, by simp⟩) hh101
            refine ⟨hh108, ?_⟩
            refine dl (m_call (given_ok fb.a fb.h _ fb.d w108 (hdb.upd hM108.upd) (by first | omega | (simp; done) | (simp; omega))) rfl fun v109 w109 ⟨bg109, cp109, rs109, hr109, hcp109, hs109, hm109⟩ => ?_)
            have hM109 : Mem w [] w109 [[⟨b2, 24, [.bool fa.a, .int .i64 fa.h, fa.v]⟩], [⟨b4, 24, [.bool fb.a, .int .i64 fb.h, fb.v]⟩], rs7, [⟨b8, 24, [.bool fa.a, .int .i64 fa.h, (.slice (some ⟨bg7, 0, none⟩) fa.d.length cp7)]⟩], rs12, [⟨b13, 24, [.bool fb.a, .int .i64 fb.h, (.slice (some ⟨bg12, 0, none⟩) fb.d.length cp12)]⟩], [], [⟨b18, 24, [.bool ((joinF fa.a fa.h fa.d fb.a fb.h fb.d).1), .int .i64 ((joinF fa.a fa.h fa.d fb.a fb.h fb.d).2.1), (.slice av17 lv17 cv17)]⟩], rs22, [⟨b23, 24, [.bool ((joinF fa.a fa.h fa.d fb.a fb.h fb.d).1), .int .i64 ((joinF fa.a fa.h fa.d fb.a fb.h fb.d).2.1), (.slice av22 lv22 cv22)]⟩], rs29, [⟨b30, 24, [.bool ((joinF fa.a fa.h fa.d fb.a fb.h fb.d).1), .int .i64 ((joinF fa.a fa.h fa.d fb.a fb.h fb.d).2.1), (.slice av29 lv29 cv29)]⟩], [⟨b99, 24, [.bool false, .int .i64 0, .slice none 0 0]⟩], rs101, [⟨b107, 24, [.bool false, .int .i64 0, .slice none 0 0]⟩], rs109] := hM108.add hm109
            subst hr109
            have hh109 := held_upd (wr := wd) (bs := [b4, b2]) hm109.upd (fun b hb => by
              simp only [List.mem_cons, List.not_mem_nil, or_false] at hb
              rcases hb with h | h
              · rw [h]; exact ⟨(hM108.at (i := 1) (j := 0) rfl rfl).lt, by simp⟩
              · rw [h]; exact ⟨(hM108.at (i := 0) (j := 0) rfl rfl).lt, by simp⟩) hh108
            refine ⟨hh109, ?_⟩
            refine dl (m_stAU (l := [.bool fa.a, .int .i64 fa.h, (.slice (some ⟨bg101, 0, none⟩) fa.d.length cp101)]) hM109 (i := 14) rfl rfl rfl rfl (by simp [oneCells, Value.oneCell', byteV]) (by simp) fun w110 hup110 (hM110 : Mem w [] w110 [[⟨b2, 24, [.bool fa.a, .int .i64 fa.h, fa.v]⟩], [⟨b4, 24, [.bool fb.a, .int .i64 fb.h, fb.v]⟩], rs7, [⟨b8, 24, [.bool fa.a, .int .i64 fa.h, (.slice (some ⟨bg7, 0, none⟩) fa.d.length cp7)]⟩], rs12, [⟨b13, 24, [.bool fb.a, .int .i64 fb.h, (.slice (some ⟨bg12, 0, none⟩) fb.d.length cp12)]⟩], [], [⟨b18, 24, [.bool ((joinF fa.a fa.h fa.d fb.a fb.h fb.d).1), .int .i64 ((joinF fa.a fa.h fa.d fb.a fb.h fb.d).2.1), (.slice av17 lv17 cv17)]⟩], rs22, [⟨b23, 24, [.bool ((joinF fa.a fa.h fa.d fb.a fb.h fb.d).1), .int .i64 ((joinF fa.a fa.h fa.d fb.a fb.h fb.d).2.1), (.slice av22 lv22 cv22)]⟩], rs29, [⟨b30, 24, [.bool ((joinF fa.a fa.h fa.d fb.a fb.h fb.d).1), .int .i64 ((joinF fa.a fa.h fa.d fb.a fb.h fb.d).2.1), (.slice av29 lv29 cv29)]⟩], [⟨b99, 24, [.bool false, .int .i64 0, .slice none 0 0]⟩], rs101, [⟨b107, 24, [.bool fa.a, .int .i64 fa.h, (.slice (some ⟨bg101, 0, none⟩) fa.d.length cp101)]⟩], rs109]) => ?_)
            have hh110 := held_upd (wr := wd) (bs := [b4, b2]) hup110 (fun b hb => by
              simp only [List.mem_cons, List.not_mem_nil, or_false] at hb
              rcases hb with h | h
              · rw [h]; exact ⟨(hM109.at (i := 1) (j := 0) rfl rfl).lt, hM109.apart (i := 1) (j := 0) (k := 14) rfl rfl rfl (by decide)⟩
              · rw [h]; exact ⟨(hM109.at (i := 0) (j := 0) rfl rfl).lt, hM109.apart (i := 0) (j := 0) (k := 14) rfl rfl rfl (by decide)⟩) hh109
            refine ⟨hh110, ?_⟩
            refine dl (m_stAU (l := [.bool fb.a, .int .i64 fb.h, (.slice (some ⟨bg109, 0, none⟩) fb.d.length cp109)]) hM110 (i := 12) rfl rfl rfl rfl (by simp [oneCells, Value.oneCell', byteV]) (by simp) fun w111 hup111 (hM111 : Mem w [] w111 [[⟨b2, 24, [.bool fa.a, .int .i64 fa.h, fa.v]⟩], [⟨b4, 24, [.bool fb.a, .int .i64 fb.h, fb.v]⟩], rs7, [⟨b8, 24, [.bool fa.a, .int .i64 fa.h, (.slice (some ⟨bg7, 0, none⟩) fa.d.length cp7)]⟩], rs12, [⟨b13, 24, [.bool fb.a, .int .i64 fb.h, (.slice (some ⟨bg12, 0, none⟩) fb.d.length cp12)]⟩], [], [⟨b18, 24, [.bool ((joinF fa.a fa.h fa.d fb.a fb.h fb.d).1), .int .i64 ((joinF fa.a fa.h fa.d fb.a fb.h fb.d).2.1), (.slice av17 lv17 cv17)]⟩], rs22, [⟨b23, 24, [.bool ((joinF fa.a fa.h fa.d fb.a fb.h fb.d).1), .int .i64 ((joinF fa.a fa.h fa.d fb.a fb.h fb.d).2.1), (.slice av22 lv22 cv22)]⟩], rs29, [⟨b30, 24, [.bool ((joinF fa.a fa.h fa.d fb.a fb.h fb.d).1), .int .i64 ((joinF fa.a fa.h fa.d fb.a fb.h fb.d).2.1), (.slice av29 lv29 cv29)]⟩], [⟨b99, 24, [.bool fb.a, .int .i64 fb.h, (.slice (some ⟨bg109, 0, none⟩) fb.d.length cp109)]⟩], rs101, [⟨b107, 24, [.bool fa.a, .int .i64 fa.h, (.slice (some ⟨bg101, 0, none⟩) fa.d.length cp101)]⟩], rs109]) => ?_)
            have hh111 := held_upd (wr := wd) (bs := [b4, b2]) hup111 (fun b hb => by
              simp only [List.mem_cons, List.not_mem_nil, or_false] at hb
              rcases hb with h | h
              · rw [h]; exact ⟨(hM110.at (i := 1) (j := 0) rfl rfl).lt, hM110.apart (i := 1) (j := 0) (k := 12) rfl rfl rfl (by decide)⟩
              · rw [h]; exact ⟨(hM110.at (i := 0) (j := 0) rfl rfl).lt, hM110.apart (i := 0) (j := 0) (k := 12) rfl rfl rfl (by decide)⟩) hh110
            refine ⟨hh111, ?_⟩
            refine h39 _ _ ⟨b107, b99, bg101, cp101, bg109, cp109, rs101, rs109, rfl, rfl, rfl, rfl, rfl, rfl, ((((hM111.sw 12).sw 14).sw 13).sw 14), hcp101, hs101, hcp109, hs109⟩
        ·
          show vd _ _ _ _ _ _ _
          refine dl (m_alU hM100 fun b112 w113 hup113 (hM113 : Mem w [] w113 [[⟨b2, 24, [.bool fa.a, .int .i64 fa.h, fa.v]⟩], [⟨b4, 24, [.bool fb.a, .int .i64 fb.h, fb.v]⟩], rs7, [⟨b8, 24, [.bool fa.a, .int .i64 fa.h, (.slice (some ⟨bg7, 0, none⟩) fa.d.length cp7)]⟩], rs12, [⟨b13, 24, [.bool fb.a, .int .i64 fb.h, (.slice (some ⟨bg12, 0, none⟩) fb.d.length cp12)]⟩], [], [⟨b18, 24, [.bool ((joinF fa.a fa.h fa.d fb.a fb.h fb.d).1), .int .i64 ((joinF fa.a fa.h fa.d fb.a fb.h fb.d).2.1), (.slice av17 lv17 cv17)]⟩], rs22, [⟨b23, 24, [.bool ((joinF fa.a fa.h fa.d fb.a fb.h fb.d).1), .int .i64 ((joinF fa.a fa.h fa.d fb.a fb.h fb.d).2.1), (.slice av22 lv22 cv22)]⟩], rs29, [⟨b30, 24, [.bool ((joinF fa.a fa.h fa.d fb.a fb.h fb.d).1), .int .i64 ((joinF fa.a fa.h fa.d fb.a fb.h fb.d).2.1), (.slice av29 lv29 cv29)]⟩], [⟨b99, 24, [.bool false, .int .i64 0, .slice none 0 0]⟩], [⟨b112, 24, [.bool false, .int .i64 0, .slice none 0 0]⟩]]) => ?_)
          have hh113 := held_upd (wr := wd) (bs := [b4, b2]) hup113 (fun b hb => by
            simp only [List.mem_cons, List.not_mem_nil, or_false] at hb
            rcases hb with h | h
            · rw [h]; exact ⟨(hM100.at (i := 1) (j := 0) rfl rfl).lt, by simp⟩
            · rw [h]; exact ⟨(hM100.at (i := 0) (j := 0) rfl rfl).lt, by simp⟩) hh100
          refine ⟨hh113, ?_⟩
          refine dl (m_call (given_ok fa.a fa.h _ fa.d w113 (hda.upd hM113.upd) (by first | omega | (simp; done) | (simp; omega))) rfl fun v114 w114 ⟨bg114, cp114, rs114, hr114, hcp114, hs114, hm114⟩ => ?_)
          have hM114 : Mem w [] w114 [[⟨b2, 24, [.bool fa.a, .int .i64 fa.h, fa.v]⟩], [⟨b4, 24, [.bool fb.a, .int .i64 fb.h, fb.v]⟩], rs7, [⟨b8, 24, [.bool fa.a, .int .i64 fa.h, (.slice (some ⟨bg7, 0, none⟩) fa.d.length cp7)]⟩], rs12, [⟨b13, 24, [.bool fb.a, .int .i64 fb.h, (.slice (some ⟨bg12, 0, none⟩) fb.d.length cp12)]⟩], [], [⟨b18, 24, [.bool ((joinF fa.a fa.h fa.d fb.a fb.h fb.d).1), .int .i64 ((joinF fa.a fa.h fa.d fb.a fb.h fb.d).2.1), (.slice av17 lv17 cv17)]⟩], rs22, [⟨b23, 24, [.bool ((joinF fa.a fa.h fa.d fb.a fb.h fb.d).1), .int .i64 ((joinF fa.a fa.h fa.d fb.a fb.h fb.d).2.1), (.slice av22 lv22 cv22)]⟩], rs29, [⟨b30, 24, [.bool ((joinF fa.a fa.h fa.d fb.a fb.h fb.d).1), .int .i64 ((joinF fa.a fa.h fa.d fb.a fb.h fb.d).2.1), (.slice av29 lv29 cv29)]⟩], [⟨b99, 24, [.bool false, .int .i64 0, .slice none 0 0]⟩], [⟨b112, 24, [.bool false, .int .i64 0, .slice none 0 0]⟩], rs114] := hM113.add hm114
          subst hr114
          have hh114 := held_upd (wr := wd) (bs := [b4, b2]) hm114.upd (fun b hb => by
            simp only [List.mem_cons, List.not_mem_nil, or_false] at hb
            rcases hb with h | h
            · rw [h]; exact ⟨(hM113.at (i := 1) (j := 0) rfl rfl).lt, by simp⟩
            · rw [h]; exact ⟨(hM113.at (i := 0) (j := 0) rfl rfl).lt, by simp⟩) hh113
          refine ⟨hh114, ?_⟩
          refine dl (m_call (given_ok fb.a fb.h _ fb.d w114 (hdb.upd hM114.upd) (by first | omega | (simp; done) | (simp; omega))) rfl fun v115 w115 ⟨bg115, cp115, rs115, hr115, hcp115, hs115, hm115⟩ => ?_)
          have hM115 : Mem w [] w115 [[⟨b2, 24, [.bool fa.a, .int .i64 fa.h, fa.v]⟩], [⟨b4, 24, [.bool fb.a, .int .i64 fb.h, fb.v]⟩], rs7, [⟨b8, 24, [.bool fa.a, .int .i64 fa.h, (.slice (some ⟨bg7, 0, none⟩) fa.d.length cp7)]⟩], rs12, [⟨b13, 24, [.bool fb.a, .int .i64 fb.h, (.slice (some ⟨bg12, 0, none⟩) fb.d.length cp12)]⟩], [], [⟨b18, 24, [.bool ((joinF fa.a fa.h fa.d fb.a fb.h fb.d).1), .int .i64 ((joinF fa.a fa.h fa.d fb.a fb.h fb.d).2.1), (.slice av17 lv17 cv17)]⟩], rs22, [⟨b23, 24, [.bool ((joinF fa.a fa.h fa.d fb.a fb.h fb.d).1), .int .i64 ((joinF fa.a fa.h fa.d fb.a fb.h fb.d).2.1), (.slice av22 lv22 cv22)]⟩], rs29, [⟨b30, 24, [.bool ((joinF fa.a fa.h fa.d fb.a fb.h fb.d).1), .int .i64 ((joinF fa.a fa.h fa.d fb.a fb.h fb.d).2.1), (.slice av29 lv29 cv29)]⟩], [⟨b99, 24, [.bool false, .int .i64 0, .slice none 0 0]⟩], [⟨b112, 24, [.bool false, .int .i64 0, .slice none 0 0]⟩], rs114, rs115] := hM114.add hm115
          subst hr115
          have hh115 := held_upd (wr := wd) (bs := [b4, b2]) hm115.upd (fun b hb => by
            simp only [List.mem_cons, List.not_mem_nil, or_false] at hb
            rcases hb with h | h
            · rw [h]; exact ⟨(hM114.at (i := 1) (j := 0) rfl rfl).lt, by simp⟩
            · rw [h]; exact ⟨(hM114.at (i := 0) (j := 0) rfl rfl).lt, by simp⟩) hh114
          refine ⟨hh115, ?_⟩
          refine dl (m_stAU (l := [.bool fa.a, .int .i64 fa.h, (.slice (some ⟨bg114, 0, none⟩) fa.d.length cp114)]) hM115 (i := 13) rfl rfl rfl rfl (by simp [oneCells, Value.oneCell', byteV]) (by simp) fun w116 hup116 (hM116 : Mem w [] w116 [[⟨b2, 24, [.bool fa.a, .int .i64 fa.h, fa.v]⟩], [⟨b4, 24, [.bool fb.a, .int .i64 fb.h, fb.v]⟩], rs7, [⟨b8, 24, [.bool fa.a, .int .i64 fa.h, (.slice (some ⟨bg7, 0, none⟩) fa.d.length cp7)]⟩], rs12, [⟨b13, 24, [.bool fb.a, .int .i64 fb.h, (.slice (some ⟨bg12, 0, none⟩) fb.d.length cp12)]⟩], [], [⟨b18, 24, [.bool ((joinF fa.a fa.h fa.d fb.a fb.h fb.d).1), .int .i64 ((joinF fa.a fa.h fa.d fb.a fb.h fb.d).2.1), (.slice av17 lv17 cv17)]⟩], rs22, [⟨b23, 24, [.bool ((joinF fa.a fa.h fa.d fb.a fb.h fb.d).1), .int .i64 ((joinF fa.a fa.h fa.d fb.a fb.h fb.d).2.1), (.slice av22 lv22 cv22)]⟩], rs29, [⟨b30, 24, [.bool ((joinF fa.a fa.h fa.d fb.a fb.h fb.d).1), .int .i64 ((joinF fa.a fa.h fa.d fb.a fb.h fb.d).2.1), (.slice av29 lv29 cv29)]⟩], [⟨b99, 24, [.bool false, .int .i64 0, .slice none 0 0]⟩], [⟨b112, 24, [.bool fa.a, .int .i64 fa.h, (.slice (some ⟨bg114, 0, none⟩) fa.d.length cp114)]⟩], rs114, rs115]) => ?_)
          have hh116 := held_upd (wr := wd) (bs := [b4, b2]) hup116 (fun b hb => by
            simp only [List.mem_cons, List.not_mem_nil, or_false] at hb
            rcases hb with h | h
            · rw [h]; exact ⟨(hM115.at (i := 1) (j := 0) rfl rfl).lt, hM115.apart (i := 1) (j := 0) (k := 13) rfl rfl rfl (by decide)⟩
            · rw [h]; exact ⟨(hM115.at (i := 0) (j := 0) rfl rfl).lt, hM115.apart (i := 0) (j := 0) (k := 13) rfl rfl rfl (by decide)⟩) hh115
          refine ⟨hh116, ?_⟩
          refine dl (m_stAU (l := [.bool fb.a, .int .i64 fb.h, (.slice (some ⟨bg115, 0, none⟩) fb.d.length cp115)]) hM116 (i := 12) rfl rfl rfl rfl (by simp [oneCells, Value.oneCell', byteV]) (by simp) fun w117 hup117 (hM117 : Mem w [] w117 [[⟨b2, 24, [.bool fa.a, .int .i64 fa.h, fa.v]⟩], [⟨b4, 24, [.bool fb.a, .int .i64 fb.h, fb.v]⟩], rs7, [⟨b8, 24, [.bool fa.a, .int .i64 fa.h, (.slice (some ⟨bg7, 0, none⟩) fa.d.length cp7)]⟩], rs12, [⟨b13, 24, [.bool fb.a, .int .i64 fb.h, (.slice (some ⟨bg12, 0, none⟩) fb.d.length cp12)]⟩], [], [⟨b18, 24, [.bool ((joinF fa.a fa.h fa.d fb.a fb.h fb.d).1), .int .i64 ((joinF fa.a fa.h fa.d fb.a fb.h fb.d).2.1), (.slice av17 lv17 cv17)]⟩], rs22, [⟨b23, 24, [.bool ((joinF fa.a fa.h fa.d fb.a fb.h fb.d).1), .int .i64 ((joinF fa.a fa.h fa.d fb.a fb.h fb.d).2.1), (.slice av22 lv22 cv22)]⟩], rs29, [⟨b30, 24, [.bool ((joinF fa.a fa.h fa.d fb.a fb.h fb.d).1), .int .i64 ((joinF fa.a fa.h fa.d fb.a fb.h fb.d).2.1), (.slice av29 lv29 cv29)]⟩], [⟨b99, 24, [.bool fb.a, .int .i64 fb.h, (.slice (some ⟨bg115, 0, none⟩) fb.d.length cp115)]⟩], [⟨b112, 24, [.bool fa.a, .int .i64 fa.h, (.slice (some ⟨bg114, 0, none⟩) fa.d.length cp114)]⟩], rs114, rs115]) => ?_)
          have hh117 := held_upd (wr := wd) (bs := [b4, b2]) hup117 (fun b hb => by
            simp only [List.mem_cons, List.not_mem_nil, or_false] at hb
            rcases hb with h | h
            · rw [h]; exact ⟨(hM116.at (i := 1) (j := 0) rfl rfl).lt, hM116.apart (i := 1) (j := 0) (k := 12) rfl rfl rfl (by decide)⟩
            · rw [h]; exact ⟨(hM116.at (i := 0) (j := 0) rfl rfl).lt, hM116.apart (i := 0) (j := 0) (k := 12) rfl rfl rfl (by decide)⟩) hh116
          refine ⟨hh117, ?_⟩
          refine h39 _ _ ⟨b112, b99, bg114, cp114, bg115, cp115, rs114, rs115, rfl, rfl, rfl, rfl, rfl, rfl, (((((hM117.sw 13).sw 12).sw 14).sw 13).sw 14), hcp114, hs114, hcp115, hs115⟩
  · rintro f w40 ⟨b14, b15, gp, cp, gq, cq, rp, rq, e40_14, e40_15, e40_5, e40_6, e40_9, e40_12, hM40, hcp, hsp, hcq, hsq⟩
    obtain ⟨frm, rfl⟩ : ∃ frm, f = (upd (upd (upd (upd (upd (upd frm 14 (.pointer (some ⟨b14, 0, none⟩))) 15 (.pointer (some ⟨b15, 0, none⟩))) 5 (.pointer (some ⟨b8, 0, none⟩))) 6 (.pointer (some ⟨b13, 0, none⟩))) 9 (.pointer (some ⟨b23, 0, none⟩))) 12 (.pointer (some ⟨b30, 0, none⟩))) := ⟨f, by rw [upd_self e40_14, upd_self e40_15, upd_self e40_5, upd_self e40_6, upd_self e40_9, upd_self e40_12]⟩
    clear e40_14 e40_15 e40_5 e40_6 e40_9 e40_12
    refine seq fun K118 h118 => ?_
    refine stp (v := .pointer (some ⟨b14, 2, none⟩)) (o_fa rfl rfl) ?_
    refine m_ld (v := (.slice (some ⟨gp, 0, none⟩) fa.d.length cp)) hM40 (i := 14) (j := 0) rfl rfl rfl rfl ?_
    refine m_call (turned_ok _ fa.d rp w40 (hsp.cutTo) (hM40.res (i := 12) rfl) (by first | omega | (simp; done) | (simp; omega))) rfl fun v119 w119 ⟨hr119, hm119⟩ => ?_
    have hM119 : Mem w [] w119 [[⟨b2, 24, [.bool fa.a, .int .i64 fa.h, fa.v]⟩], [⟨b4, 24, [.bool fb.a, .int .i64 fb.h, fb.v]⟩], rs7, [⟨b8, 24, [.bool fa.a, .int .i64 fa.h, (.slice (some ⟨bg7, 0, none⟩) fa.d.length cp7)]⟩], rs12, [⟨b13, 24, [.bool fb.a, .int .i64 fb.h, (.slice (some ⟨bg12, 0, none⟩) fb.d.length cp12)]⟩], [], [⟨b18, 24, [.bool ((joinF fa.a fa.h fa.d fb.a fb.h fb.d).1), .int .i64 ((joinF fa.a fa.h fa.d fb.a fb.h fb.d).2.1), (.slice av17 lv17 cv17)]⟩], rs22, [⟨b23, 24, [.bool ((joinF fa.a fa.h fa.d fb.a fb.h fb.d).1), .int .i64 ((joinF fa.a fa.h fa.d fb.a fb.h fb.d).2.1), (.slice av22 lv22 cv22)]⟩], rs29, [⟨b30, 24, [.bool ((joinF fa.a fa.h fa.d fb.a fb.h fb.d).1), .int .i64 ((joinF fa.a fa.h fa.d fb.a fb.h fb.d).2.1), (.slice av29 lv29 cv29)]⟩], upR byteV (turnL fa.d) rp, rq, [⟨b14, 24, [.bool fa.a, .int .i64 fa.h, (.slice (some ⟨gp, 0, none⟩) fa.d.length cp)]⟩], [⟨b15, 24, [.bool fb.a, .int .i64 fb.h, (.slice (some ⟨gq, 0, none⟩) fb.d.length cq)]⟩]] := hM40.step 12 rfl hm119
    subst hr119
    have htl119 := turnL_length fa.d
    refine h118 _ _ ?_
    clear h118
    refine seq fun K120 h120 => ?_
    refine stp (v := .pointer (some ⟨b8, 2, none⟩)) (o_fa rfl rfl) ?_
    refine m_ld (v := (.slice (some ⟨bg7, 0, none⟩) fa.d.length cp7)) hM119 (i := 3) (j := 0) rfl rfl rfl rfl ?_
    refine m_call (turned_ok _ fa.d rs7 w119 (hs7.cutTo) (hM119.res (i := 2) rfl) (by first | omega | (simp; done) | (simp; omega))) rfl fun v121 w121 ⟨hr121, hm121⟩ => ?_
    have hM121 : Mem w [] w121 [[⟨b2, 24, [.bool fa.a, .int .i64 fa.h, fa.v]⟩], [⟨b4, 24, [.bool fb.a, .int .i64 fb.h, fb.v]⟩], upR byteV (turnL fa.d) rs7, [⟨b8, 24, [.bool fa.a, .int .i64 fa.h, (.slice (some ⟨bg7, 0, none⟩) fa.d.length cp7)]⟩], rs12, [⟨b13, 24, [.bool fb.a, .int .i64 fb.h, (.slice (some ⟨bg12, 0, none⟩) fb.d.length cp12)]⟩], [], [⟨b18, 24, [.bool ((joinF fa.a fa.h fa.d fb.a fb.h fb.d).1), .int .i64 ((joinF fa.a fa.h fa.d fb.a fb.h fb.d).2.1), (.slice av17 lv17 cv17)]⟩], rs22, [⟨b23, 24, [.bool ((joinF fa.a fa.h fa.d fb.a fb.h fb.d).1), .int .i64 ((joinF fa.a fa.h fa.d fb.a fb.h fb.d).2.1), (.slice av22 lv22 cv22)]⟩], rs29, [⟨b30, 24, [.bool ((joinF fa.a fa.h fa.d fb.a fb.h fb.d).1), .int .i64 ((joinF fa.a fa.h fa.d fb.a fb.h fb.d).2.1), (.slice av29 lv29 cv29)]⟩], upR byteV (turnL fa.d) rp, rq, [⟨b14, 24, [.bool fa.a, .int .i64 fa.h, (.slice (some ⟨gp, 0, none⟩) fa.d.length cp)]⟩], [⟨b15, 24, [.bool fb.a, .int .i64 fb.h, (.slice (some ⟨gq, 0, none⟩) fb.d.length cq)]⟩]] := hM119.step 2 rfl hm121
    subst hr121
    have htl121 := turnL_length fa.d
    refine h120 _ _ ?_
    clear h120
    refine seq fun K122 h122 => ?_
    refine m_ldA (l := [.bool fa.a, .int .i64 fa.h, (.slice (some ⟨bg7, 0, none⟩) fa.d.length cp7)]) hM121 (i := 3) (j := 0) rfl rfl rfl rfl rfl ?_
    refine m_ldA (l := [.bool fb.a, .int .i64 fb.h, (.slice (some ⟨bg12, 0, none⟩) fb.d.length cp12)]) hM121 (i := 5) (j := 0) rfl rfl rfl rfl rfl ?_
    refine m_call (Join_ok fa.a fb.a fa.h fb.h _ _ (turnL fa.d) fb.d w121 (hT.upd hM121.upd) ((SlE.up (m := turnL fa.d) (hs7.cutTo) (turnL_length _)).rd hM121 (i := 2) rfl) ((hs12.cutTo).rd hM121 (i := 4) rfl) (by first | omega | (simp; done) | (simp; omega)) (by first | omega | (simp; done) | (simp; omega))) rfl fun v123 w123 ⟨vd123, rs123, hr123, hs123, hm123⟩ => ?_
    have hM123 : Mem w [] w123 [[⟨b2, 24, [.bool fa.a, .int .i64 fa.h, fa.v]⟩], [⟨b4, 24, [.bool fb.a, .int .i64 fb.h, fb.v]⟩], upR byteV (turnL fa.d) rs7, [⟨b8, 24, [.bool fa.a, .int .i64 fa.h, (.slice (some ⟨bg7, 0, none⟩) fa.d.length cp7)]⟩], rs12, [⟨b13, 24, [.bool fb.a, .int .i64 fb.h, (.slice (some ⟨bg12, 0, none⟩) fb.d.length cp12)]⟩], [], [⟨b18, 24, [.bool ((joinF fa.a fa.h fa.d fb.a fb.h fb.d).1), .int .i64 ((joinF fa.a fa.h fa.d fb.a fb.h fb.d).2.1), (.slice av17 lv17 cv17)]⟩], rs22, [⟨b23, 24, [.bool ((joinF fa.a fa.h fa.d fb.a fb.h fb.d).1), .int .i64 ((joinF fa.a fa.h fa.d fb.a fb.h fb.d).2.1), (.slice av22 lv22 cv22)]⟩], rs29, [⟨b30, 24, [.bool ((joinF fa.a fa.h fa.d fb.a fb.h fb.d).1), .int .i64 ((joinF fa.a fa.h fa.d fb.a fb.h fb.d).2.1), (.slice av29 lv29 cv29)]⟩], upR byteV (turnL fa.d) rp, rq, [⟨b14, 24, [.bool fa.a, .int .i64 fa.h, (.slice (some ⟨gp, 0, none⟩) fa.d.length cp)]⟩], [⟨b15, 24, [.bool fb.a, .int .i64 fb.h, (.slice (some ⟨gq, 0, none⟩) fb.d.length cq)]⟩], rs123] := hM121.add hm123
    obtain ⟨av123, lv123, cv123, rfl⟩ := hs123.isSlice
    subst hr123
    have hjl123 := joinF_len fa.a fa.h (turnL fa.d) fb.a fb.h fb.d
    refine stp (v := .tuple [.agg ([.bool ((joinF fa.a fa.h (turnL fa.d) fb.a fb.h fb.d).1), .int .i64 ((joinF fa.a fa.h (turnL fa.d) fb.a fb.h fb.d).2.1), (.slice av123 lv123 cv123)] : List Value).toArray, .int .i64 ((joinF fa.a fa.h (turnL fa.d) fb.a fb.h fb.d).2.2.2)].toArray) (o_mv rfl) ?_
    refine stp (v := .agg ([.bool ((joinF fa.a fa.h (turnL fa.d) fb.a fb.h fb.d).1), .int .i64 ((joinF fa.a fa.h (turnL fa.d) fb.a fb.h fb.d).2.1), (.slice av123 lv123 cv123)] : List Value).toArray) (o_ext rfl rfl) ?_
    refine stp (v := .int .i64 ((joinF fa.a fa.h (turnL fa.d) fb.a fb.h fb.d).2.2.2)) (o_ext rfl rfl) ?_
    refine m_al hM123 fun b124 w125 (hM125 : Mem w [] w125 [[⟨b2, 24, [.bool fa.a, .int .i64 fa.h, fa.v]⟩], [⟨b4, 24, [.bool fb.a, .int .i64 fb.h, fb.v]⟩], upR byteV (turnL fa.d) rs7, [⟨b8, 24, [.bool fa.a, .int .i64 fa.h, (.slice (some ⟨bg7, 0, none⟩) fa.d.length cp7)]⟩], rs12, [⟨b13, 24, [.bool fb.a, .int .i64 fb.h, (.slice (some ⟨bg12, 0, none⟩) fb.d.length cp12)]⟩], [], [⟨b18, 24, [.bool ((joinF fa.a fa.h fa.d fb.a fb.h fb.d).1), .int .i64 ((joinF fa.a fa.h fa.d fb.a fb.h fb.d).2.1), (.slice av17 lv17 cv17)]⟩], rs22, [⟨b23, 24, [.bool ((joinF fa.a fa.h fa.d fb.a fb.h fb.d).1), .int .i64 ((joinF fa.a fa.h fa.d fb.a fb.h fb.d).2.1), (.slice av22 lv22 cv22)]⟩], rs29, [⟨b30, 24, [.bool ((joinF fa.a fa.h fa.d fb.a fb.h fb.d).1), .int .i64 ((joinF fa.a fa.h fa.d fb.a fb.h fb.d).2.1), (.slice av29 lv29 cv29)]⟩], upR byteV (turnL fa.d) rp, rq, [⟨b14, 24, [.bool fa.a, .int .i64 fa.h, (.slice (some ⟨gp, 0, none⟩) fa.d.length cp)]⟩], [⟨b15, 24, [.bool fb.a, .int .i64 fb.h, (.slice (some ⟨gq, 0, none⟩) fb.d.length cq)]⟩], rs123, [⟨b124, 24, [.bool false, .int .i64 0, .slice none 0 0]⟩]]) => ?_
    refine m_stA (l := [.bool ((joinF fa.a fa.h (turnL fa.d) fb.a fb.h fb.d).1), .int .i64 ((joinF fa.a fa.h (turnL fa.d) fb.a fb.h fb.d).2.1), (.slice av123 lv123 cv123)]) hM125 (i := 17) rfl rfl rfl rfl (by simp [oneCells, Value.oneCell', byteV]) (by simp) fun w126 (hM126 : Mem w [] w126 [[⟨b2, 24, [.bool fa.a, .int .i64 fa.h, fa.v]⟩], [⟨b4, 24, [.bool fb.a, .int .i64 fb.h, fb.v]⟩], upR byteV (turnL fa.d) rs7, [⟨b8, 24, [.bool fa.a, .int .i64 fa.h, (.slice (some ⟨bg7, 0, none⟩) fa.d.length cp7)]⟩], rs12, [⟨b13, 24, [.bool fb.a, .int .i64 fb.h, (.slice (some ⟨bg12, 0, none⟩) fb.d.length cp12)]⟩], [], [⟨b18, 24, [.bool ((joinF fa.a fa.h fa.d fb.a fb.h fb.d).1), .int .i64 ((joinF fa.a fa.h fa.d fb.a fb.h fb.d).2.1), (.slice av17 lv17 cv17)]⟩], rs22, [⟨b23, 24, [.bool ((joinF fa.a fa.h fa.d fb.a fb.h fb.d).1), .int .i64 ((joinF fa.a fa.h fa.d fb.a fb.h fb.d).2.1), (.slice av22 lv22 cv22)]⟩], rs29, [⟨b30, 24, [.bool ((joinF fa.a fa.h fa.d fb.a fb.h fb.d).1), .int .i64 ((joinF fa.a fa.h fa.d fb.a fb.h fb.d).2.1), (.slice av29 lv29 cv29)]⟩], upR byteV (turnL fa.d) rp, rq, [⟨b14, 24, [.bool fa.a, .int .i64 fa.h, (.slice (some ⟨gp, 0, none⟩) fa.d.length cp)]⟩], [⟨b15, 24, [.bool fb.a, .int .i64 fb.h, (.slice (some ⟨gq, 0, none⟩) fb.d.length cq)]⟩], rs123, [⟨b124, 24, [.bool ((joinF fa.a fa.h (turnL fa.d) fb.a fb.h fb.d).1), .int .i64 ((joinF fa.a fa.h (turnL fa.d) fb.a fb.h fb.d).2.1), (.slice av123 lv123 cv123)]⟩]]) => ?_
    refine stp (v := .int .i64 ((joinF fa.a fa.h (turnL fa.d) fb.a fb.h fb.d).2.2.2)) (o_mv rfl) ?_
    refine h122 _ _ ?_
    clear h122
    refine seq fun K127 h127 => ?_
    refine m_ldA (l := [.bool fa.a, .int .i64 fa.h, (.slice (some ⟨gp, 0, none⟩) fa.d.length cp)]) hM126 (i := 14) (j := 0) rfl rfl rfl rfl rfl ?_
    refine m_ldA (l := [.bool fb.a, .int .i64 fb.h, (.slice (some ⟨gq, 0, none⟩) fb.d.length cq)]) hM126 (i := 15) (j := 0) rfl rfl rfl rfl rfl ?_
    refine m_call (refJoin_ok fa.a fb.a fa.h fb.h _ _ (turnL fa.d) fb.d w126 ((SlE.up (m := turnL fa.d) (hsp.cutTo) (turnL_length _)).rd hM126 (i := 12) rfl) ((hsq.cutTo).rd hM126 (i := 13) rfl) (by first | omega | (simp; done) | (simp; omega)) (by first | omega | (simp; done) | (simp; omega))) rfl fun v128 w128 ⟨vd128, rs128, hr128, hs128, hm128⟩ => ?_
    have hM128 : Mem w [] w128 [[⟨b2, 24, [.bool fa.a, .int .i64 fa.h, fa.v]⟩], [⟨b4, 24, [.bool fb.a, .int .i64 fb.h, fb.v]⟩], upR byteV (turnL fa.d) rs7, [⟨b8, 24, [.bool fa.a, .int .i64 fa.h, (.slice (some ⟨bg7, 0, none⟩) fa.d.length cp7)]⟩], rs12, [⟨b13, 24, [.bool fb.a, .int .i64 fb.h, (.slice (some ⟨bg12, 0, none⟩) fb.d.length cp12)]⟩], [], [⟨b18, 24, [.bool ((joinF fa.a fa.h fa.d fb.a fb.h fb.d).1), .int .i64 ((joinF fa.a fa.h fa.d fb.a fb.h fb.d).2.1), (.slice av17 lv17 cv17)]⟩], rs22, [⟨b23, 24, [.bool ((joinF fa.a fa.h fa.d fb.a fb.h fb.d).1), .int .i64 ((joinF fa.a fa.h fa.d fb.a fb.h fb.d).2.1), (.slice av22 lv22 cv22)]⟩], rs29, [⟨b30, 24, [.bool ((joinF fa.a fa.h fa.d fb.a fb.h fb.d).1), .int .i64 ((joinF fa.a fa.h fa.d fb.a fb.h fb.d).2.1), (.slice av29 lv29 cv29)]⟩], upR byteV (turnL fa.d) rp, rq, [⟨b14, 24, [.bool fa.a, .int .i64 fa.h, (.slice (some ⟨gp, 0, none⟩) fa.d.length cp)]⟩], [⟨b15, 24, [.bool fb.a, .int .i64 fb.h, (.slice (some ⟨gq, 0, none⟩) fb.d.length cq)]⟩], rs123, [⟨b124, 24, [.bool ((joinF fa.a fa.h (turnL fa.d) fb.a fb.h fb.d).1), .int .i64 ((joinF fa.a fa.h (turnL fa.d) fb.a fb.h fb.d).2.1), (.slice av123 lv123 cv123)]⟩], rs128] := hM126.add hm128
    obtain ⟨av128, lv128, cv128, rfl⟩ := hs128.isSlice
    subst hr128
    have hjl128 := joinF_len fa.a fa.h (turnL fa.d) fb.a fb.h fb.d
    refine stp (v := .tuple [.agg ([.bool ((joinF fa.a fa.h (turnL fa.d) fb.a fb.h fb.d).1), .int .i64 ((joinF fa.a fa.h (turnL fa.d) fb.a fb.h fb.d).2.1), (.slice av128 lv128 cv128)] : List Value).toArray, .int .i64 ((joinF fa.a fa.h (turnL fa.d) fb.a fb.h fb.d).2.2.2)].toArray) (o_mv rfl) ?_
    refine stp (v := .agg ([.bool ((joinF fa.a fa.h (turnL fa.d) fb.a fb.h fb.d).1), .int .i64 ((joinF fa.a fa.h (turnL fa.d) fb.a fb.h fb.d).2.1), (.slice av128 lv128 cv128)] : List Value).toArray) (o_ext rfl rfl) ?_
    refine stp (v := .int .i64 ((joinF fa.a fa.h (turnL fa.d) fb.a fb.h fb.d).2.2.2)) (o_ext rfl rfl) ?_
    refine m_al hM128 fun b129 w130 (hM130 : Mem w [] w130 [[⟨b2, 24, [.bool fa.a, .int .i64 fa.h, fa.v]⟩], [⟨b4, 24, [.bool fb.a, .int .i64 fb.h, fb.v]⟩], upR byteV (turnL fa.d) rs7, [⟨b8, 24, [.bool fa.a, .int .i64 fa.h, (.slice (some ⟨bg7, 0, none⟩) fa.d.length cp7)]⟩], rs12, [⟨b13, 24, [.bool fb.a, .int .i64 fb.h, (.slice (some ⟨bg12, 0, none⟩) fb.d.length cp12)]⟩], [], [⟨b18, 24, [.bool ((joinF fa.a fa.h fa.d fb.a fb.h fb.d).1), .int .i64 ((joinF fa.a fa.h fa.d fb.a fb.h fb.d).2.1), (.slice av17 lv17 cv17)]⟩], rs22, [⟨b23, 24, [.bool ((joinF fa.a fa.h fa.d fb.a fb.h fb.d).1), .int .i64 ((joinF fa.a fa.h fa.d fb.a fb.h fb.d).2.1), (.slice av22 lv22 cv22)]⟩], rs29, [⟨b30, 24, [.bool ((joinF fa.a fa.h fa.d fb.a fb.h fb.d).1), .int .i64 ((joinF fa.a fa.h fa.d fb.a fb.h fb.d).2.1), (.slice av29 lv29 cv29)]⟩], upR byteV (turnL fa.d) rp, rq, [⟨b14, 24, [.bool fa.a, .int .i64 fa.h, (.slice (some ⟨gp, 0, none⟩) fa.d.length cp)]⟩], [⟨b15, 24, [.bool fb.a, .int .i64 fb.h, (.slice (some ⟨gq, 0, none⟩) fb.d.length cq)]⟩], rs123, [⟨b124, 24, [.bool ((joinF fa.a fa.h (turnL fa.d) fb.a fb.h fb.d).1), .int .i64 ((joinF fa.a fa.h (turnL fa.d) fb.a fb.h fb.d).2.1), (.slice av123 lv123 cv123)]⟩], rs128, [⟨b129, 24, [.bool false, .int .i64 0, .slice none 0 0]⟩]]) => ?_
    refine m_stA (l := [.bool ((joinF fa.a fa.h (turnL fa.d) fb.a fb.h fb.d).1), .int .i64 ((joinF fa.a fa.h (turnL fa.d) fb.a fb.h fb.d).2.1), (.slice av128 lv128 cv128)]) hM130 (i := 19) rfl rfl rfl rfl (by simp [oneCells, Value.oneCell', byteV]) (by simp) fun w131 (hM131 : Mem w [] w131 [[⟨b2, 24, [.bool fa.a, .int .i64 fa.h, fa.v]⟩], [⟨b4, 24, [.bool fb.a, .int .i64 fb.h, fb.v]⟩], upR byteV (turnL fa.d) rs7, [⟨b8, 24, [.bool fa.a, .int .i64 fa.h, (.slice (some ⟨bg7, 0, none⟩) fa.d.length cp7)]⟩], rs12, [⟨b13, 24, [.bool fb.a, .int .i64 fb.h, (.slice (some ⟨bg12, 0, none⟩) fb.d.length cp12)]⟩], [], [⟨b18, 24, [.bool ((joinF fa.a fa.h fa.d fb.a fb.h fb.d).1), .int .i64 ((joinF fa.a fa.h fa.d fb.a fb.h fb.d).2.1), (.slice av17 lv17 cv17)]⟩], rs22, [⟨b23, 24, [.bool ((joinF fa.a fa.h fa.d fb.a fb.h fb.d).1), .int .i64 ((joinF fa.a fa.h fa.d fb.a fb.h fb.d).2.1), (.slice av22 lv22 cv22)]⟩], rs29, [⟨b30, 24, [.bool ((joinF fa.a fa.h fa.d fb.a fb.h fb.d).1), .int .i64 ((joinF fa.a fa.h fa.d fb.a fb.h fb.d).2.1), (.slice av29 lv29 cv29)]⟩], upR byteV (turnL fa.d) rp, rq, [⟨b14, 24, [.bool fa.a, .int .i64 fa.h, (.slice (some ⟨gp, 0, none⟩) fa.d.length cp)]⟩], [⟨b15, 24, [.bool fb.a, .int .i64 fb.h, (.slice (some ⟨gq, 0, none⟩) fb.d.length cq)]⟩], rs123, [⟨b124, 24, [.bool ((joinF fa.a fa.h (turnL fa.d) fb.a fb.h fb.d).1), .int .i64 ((joinF fa.a fa.h (turnL fa.d) fb.a fb.h fb.d).2.1), (.slice av123 lv123 cv123)]⟩], rs128, [⟨b129, 24, [.bool ((joinF fa.a fa.h (turnL fa.d) fb.a fb.h fb.d).1), .int .i64 ((joinF fa.a fa.h (turnL fa.d) fb.a fb.h fb.d).2.1), (.slice av128 lv128 cv128)]⟩]]) => ?_
    refine stp (v := .int .i64 ((joinF fa.a fa.h (turnL fa.d) fb.a fb.h fb.d).2.2.2)) (o_mv rfl) ?_
    refine h127 _ _ ?_
    clear h127
    refine seq fun K132 h132 => ?_
    refine stp (v := .pointer (some ⟨b15, 2, none⟩)) (o_fa rfl rfl) ?_
    refine m_ld (v := (.slice (some ⟨gq, 0, none⟩) fb.d.length cq)) hM131 (i := 15) (j := 0) rfl rfl rfl rfl ?_
    refine m_call (turned_ok _ fb.d rq w131 (hsq.cutTo) (hM131.res (i := 13) rfl) (by first | omega | (simp; done) | (simp; omega))) rfl fun v133 w133 ⟨hr133, hm133⟩ => ?_
    have hM133 : Mem w [] w133 [[⟨b2, 24, [.bool fa.a, .int .i64 fa.h, fa.v]⟩], [⟨b4, 24, [.bool fb.a, .int .i64 fb.h, fb.v]⟩], upR byteV (turnL fa.d) rs7, [⟨b8, 24, [.bool fa.a, .int .i64 fa.h, (.slice (some ⟨bg7, 0, none⟩) fa.d.length cp7)]⟩], rs12, [⟨b13, 24, [.bool fb.a, .int .i64 fb.h, (.slice (some ⟨bg12, 0, none⟩) fb.d.length cp12)]⟩], [], [⟨b18, 24, [.bool ((joinF fa.a fa.h fa.d fb.a fb.h fb.d).1), .int .i64 ((joinF fa.a fa.h fa.d fb.a fb.h fb.d).2.1), (.slice av17 lv17 cv17)]⟩], rs22, [⟨b23, 24, [.bool ((joinF fa.a fa.h fa.d fb.a fb.h fb.d).1), .int .i64 ((joinF fa.a fa.h fa.d fb.a fb.h fb.d).2.1), (.slice av22 lv22 cv22)]⟩], rs29, [⟨b30, 24, [.bool ((joinF fa.a fa.h fa.d fb.a fb.h fb.d).1), .int .i64 ((joinF fa.a fa.h fa.d fb.a fb.h fb.d).2.1), (.slice av29 lv29 cv29)]⟩], upR byteV (turnL fa.d) rp, upR byteV (turnL fb.d) rq, [⟨b14, 24, [.bool fa.a, .int .i64 fa.h, (.slice (some ⟨gp, 0, none⟩) fa.d.length cp)]⟩], [⟨b15, 24, [.bool fb.a, .int .i64 fb.h, (.slice (some ⟨gq, 0, none⟩) fb.d.length cq)]⟩], rs123, [⟨b124, 24, [.bool ((joinF fa.a fa.h (turnL fa.d) fb.a fb.h fb.d).1), .int .i64 ((joinF fa.a fa.h (turnL fa.d) fb.a fb.h fb.d).2.1), (.slice av123 lv123 cv123)]⟩], rs128, [⟨b129, 24, [.bool ((joinF fa.a fa.h (turnL fa.d) fb.a fb.h fb.d).1), .int .i64 ((joinF fa.a fa.h (turnL fa.d) fb.a fb.h fb.d).2.1), (.slice av128 lv128 cv128)]⟩]] := hM131.step 13 rfl hm133
    subst hr133
    have htl133 := turnL_length fb.d
    refine h132 _ _ ?_
    clear h132
    refine seq fun K134 h134 => ?_
    refine stp (v := .pointer (some ⟨b13, 2, none⟩)) (o_fa rfl rfl) ?_
    refine m_ld (v := (.slice (some ⟨bg12, 0, none⟩) fb.d.length cp12)) hM133 (i := 5) (j := 0) rfl rfl rfl rfl ?_
    refine m_call (turned_ok _ fb.d rs12 w133 (hs12.cutTo) (hM133.res (i := 4) rfl) (by first | omega | (simp; done) | (simp; omega))) rfl fun v135 w135 ⟨hr135, hm135⟩ => ?_
    have hM135 : Mem w [] w135 [[⟨b2, 24, [.bool fa.a, .int .i64 fa.h, fa.v]⟩], [⟨b4, 24, [.bool fb.a, .int .i64 fb.h, fb.v]⟩], upR byteV (turnL fa.d) rs7, [⟨b8, 24, [.bool fa.a, .int .i64 fa.h, (.slice (some ⟨bg7, 0, none⟩) fa.d.length cp7)]⟩], upR byteV (turnL fb.d) rs12, [⟨b13, 24, [.bool fb.a, .int .i64 fb.h, (.slice (some ⟨bg12, 0, none⟩) fb.d.length cp12)]⟩], [], [⟨b18, 24, [.bool ((joinF fa.a fa.h fa.d fb.a fb.h fb.d).1), .int .i64 ((joinF fa.a fa.h fa.d fb.a fb.h fb.d).2.1), (.slice av17 lv17 cv17)]⟩], rs22, [⟨b23, 24, [.bool ((joinF fa.a fa.h fa.d fb.a fb.h fb.d).1), .int .i64 ((joinF fa.a fa.h fa.d fb.a fb.h fb.d).2.1), (.slice av22 lv22 cv22)]⟩], rs29, [⟨b30, 24, [.bool ((joinF fa.a fa.h fa.d fb.a fb.h fb.d).1), .int .i64 ((joinF fa.a fa.h fa.d fb.a fb.h fb.d).2.1), (.slice av29 lv29 cv29)]⟩], upR byteV (turnL fa.d) rp, upR byteV (turnL fb.d) rq, [⟨b14, 24, [.bool fa.a, .int .i64 fa.h, (.slice (some ⟨gp, 0, none⟩) fa.d.length cp)]⟩], [⟨b15, 24, [.bool fb.a, .int .i64 fb.h, (.slice (some ⟨gq, 0, none⟩) fb.d.length cq)]⟩], rs123, [⟨b124, 24, [.bool ((joinF fa.a fa.h (turnL fa.d) fb.a fb.h fb.d).1), .int .i64 ((joinF fa.a fa.h (turnL fa.d) fb.a fb.h fb.d).2.1), (.slice av123 lv123 cv123)]⟩], rs128, [⟨b129, 24, [.bool ((joinF fa.a fa.h (turnL fa.d) fb.a fb.h fb.d).1), .int .i64 ((joinF fa.a fa.h (turnL fa.d) fb.a fb.h fb.d).2.1), (.slice av128 lv128 cv128)]⟩]] := hM133.step 4 rfl hm135
    subst hr135
    have htl135 := turnL_length fb.d
    refine h134 _ _ ?_
    clear h134
    refine seq fun K136 h136 => ?_
    refine m_ldA (l := [.bool fa.a, .int .i64 fa.h, (.slice (some ⟨bg7, 0, none⟩) fa.d.length cp7)]) hM135 (i := 3) (j := 0) rfl rfl rfl rfl rfl ?_
    refine m_ldA (l := [.bool fb.a, .int .i64 fb.h, (.slice (some ⟨bg12, 0, none⟩) fb.d.length cp12)]) hM135 (i := 5) (j := 0) rfl rfl rfl rfl rfl ?_
    refine m_call (Join_ok fa.a fb.a fa.h fb.h _ _ (turnL fa.d) (turnL fb.d) w135 (hT.upd hM135.upd) ((SlE.up (m := turnL fa.d) (hs7.cutTo) (turnL_length _)).rd hM135 (i := 2) rfl) ((SlE.up (m := turnL fb.d) (hs12.cutTo) (turnL_length _)).rd hM135 (i := 4) rfl) (by first | omega | (simp; done) | (simp; omega)) (by first | omega | (simp; done) | (simp; omega))) rfl fun v137 w137 ⟨vd137, rs137, hr137, hs137, hm137⟩ => ?_
    have hM137 : Mem w [] w137 [[⟨b2, 24, [.bool fa.a, .int .i64 fa.h, fa.v]⟩], [⟨b4, 24, [.bool fb.a, .int .i64 fb.h, fb.v]⟩], upR byteV (turnL fa.d) rs7, [⟨b8, 24, [.bool fa.a, .int .i64 fa.h, (.slice (some ⟨bg7, 0, none⟩) fa.d.length cp7)]⟩], upR byteV (turnL fb.d) rs12, [⟨b13, 24, [.bool fb.a, .int .i64 fb.h, (.slice (some ⟨bg12, 0, none⟩) fb.d.length cp12)]⟩], [], [⟨b18, 24, [.bool ((joinF fa.a fa.h fa.d fb.a fb.h fb.d).1), .int .i64 ((joinF fa.a fa.h fa.d fb.a fb.h fb.d).2.1), (.slice av17 lv17 cv17)]⟩], rs22, [⟨b23, 24, [.bool ((joinF fa.a fa.h fa.d fb.a fb.h fb.d).1), .int .i64 ((joinF fa.a fa.h fa.d fb.a fb.h fb.d).2.1), (.slice av22 lv22 cv22)]⟩], rs29, [⟨b30, 24, [.bool ((joinF fa.a fa.h fa.d fb.a fb.h fb.d).1), .int .i64 ((joinF fa.a fa.h fa.d fb.a fb.h fb.d).2.1), (.slice av29 lv29 cv29)]⟩], upR byteV (turnL fa.d) rp, upR byteV (turnL fb.d) rq, [⟨b14, 24, [.bool fa.a, .int .i64 fa.h, (.slice (some ⟨gp, 0, none⟩) fa.d.length cp)]⟩], [⟨b15, 24, [.bool fb.a, .int .i64 fb.h, (.slice (some ⟨gq, 0, none⟩) fb.d.length cq)]⟩], rs123, [⟨b124, 24, [.bool ((joinF fa.a fa.h (turnL fa.d) fb.a fb.h fb.d).1), .int .i64 ((joinF fa.a fa.h (turnL fa.d) fb.a fb.h fb.d).2.1), (.slice av123 lv123 cv123)]⟩], rs128, [⟨b129, 24, [.bool ((joinF fa.a fa.h (turnL fa.d) fb.a fb.h fb.d).1), .int .i64 ((joinF fa.a fa.h (turnL fa.d) fb.a fb.h fb.d).2.1), (.slice av128 lv128 cv128)]⟩], rs137] := hM135.add hm137
    obtain ⟨av137, lv137, cv137, rfl⟩ := hs137.isSlice
    subst hr137
    have hjl137 := joinF_len fa.a fa.h (turnL fa.d) fb.a fb.h (turnL fb.d)
    refine stp (v := .tuple [.agg ([.bool ((joinF fa.a fa.h (turnL fa.d) fb.a fb.h (turnL fb.d)).1), .int .i64 ((joinF fa.a fa.h (turnL fa.d) fb.a fb.h (turnL fb.d)).2.1), (.slice av137 lv137 cv137)] : List Value).toArray, .int .i64 ((joinF fa.a fa.h (turnL fa.d) fb.a fb.h (turnL fb.d)).2.2.2)].toArray) (o_mv rfl) ?_
    refine stp (v := .agg ([.bool ((joinF fa.a fa.h (turnL fa.d) fb.a fb.h (turnL fb.d)).1), .int .i64 ((joinF fa.a fa.h (turnL fa.d) fb.a fb.h (turnL fb.d)).2.1), (.slice av137 lv137 cv137)] : List Value).toArray) (o_ext rfl rfl) ?_
    refine stp (v := .int .i64 ((joinF fa.a fa.h (turnL fa.d) fb.a fb.h (turnL fb.d)).2.2.2)) (o_ext rfl rfl) ?_
    refine m_al hM137 fun b138 w139 (hM139 : Mem w [] w139 [[⟨b2, 24, [.bool fa.a, .int .i64 fa.h, fa.v]⟩], [⟨b4, 24, [.bool fb.a, .int .i64 fb.h, fb.v]⟩], upR byteV (turnL fa.d) rs7, [⟨b8, 24, [.bool fa.a, .int .i64 fa.h, (.slice (some ⟨bg7, 0, none⟩) fa.d.length cp7)]⟩], upR byteV (turnL fb.d) rs12, [⟨b13, 24, [.bool fb.a, .int .i64 fb.h, (.slice (some ⟨bg12, 0, none⟩) fb.d.length cp12)]⟩], [], [⟨b18, 24, [.bool ((joinF fa.a fa.h fa.d fb.a fb.h fb.d).1), .int .i64 ((joinF fa.a fa.h fa.d fb.a fb.h fb.d).2.1), (.slice av17 lv17 cv17)]⟩], rs22, [⟨b23, 24, [.bool ((joinF fa.a fa.h fa.d fb.a fb.h fb.d).1), .int .i64 ((joinF fa.a fa.h fa.d fb.a fb.h fb.d).2.1), (.slice av22 lv22 cv22)]⟩], rs29, [⟨b30, 24, [.bool ((joinF fa.a fa.h fa.d fb.a fb.h fb.d).1), .int .i64 ((joinF fa.a fa.h fa.d fb.a fb.h fb.d).2.1), (.slice av29 lv29 cv29)]⟩], upR byteV (turnL fa.d) rp, upR byteV (turnL fb.d) rq, [⟨b14, 24, [.bool fa.a, .int .i64 fa.h, (.slice (some ⟨gp, 0, none⟩) fa.d.length cp)]⟩], [⟨b15, 24, [.bool fb.a, .int .i64 fb.h, (.slice (some ⟨gq, 0, none⟩) fb.d.length cq)]⟩], rs123, [⟨b124, 24, [.bool ((joinF fa.a fa.h (turnL fa.d) fb.a fb.h fb.d).1), .int .i64 ((joinF fa.a fa.h (turnL fa.d) fb.a fb.h fb.d).2.1), (.slice av123 lv123 cv123)]⟩], rs128, [⟨b129, 24, [.bool ((joinF fa.a fa.h (turnL fa.d) fb.a fb.h fb.d).1), .int .i64 ((joinF fa.a fa.h (turnL fa.d) fb.a fb.h fb.d).2.1), (.slice av128 lv128 cv128)]⟩], rs137, [⟨b138, 24, [.bool false, .int .i64 0, .slice none 0 0]⟩]]) => ?_
    refine m_stA (l := [.bool ((joinF fa.a fa.h (turnL fa.d) fb.a fb.h (turnL fb.d)).1), .int .i64 ((joinF fa.a fa.h (turnL fa.d) fb.a fb.h (turnL fb.d)).2.1), (.slice av137 lv137 cv137)]) hM139 (i := 21) rfl rfl rfl rfl (by simp [oneCells, Value.oneCell', byteV]) (by simp) fun w140 (hM140 : Mem w [] w140 [[⟨b2, 24, [.bool fa.a, .int .i64 fa.h, fa.v]⟩], [⟨b4, 24, [.bool fb.a, .int .i64 fb.h, fb.v]⟩], upR byteV (turnL fa.d) rs7, [⟨b8, 24, [.bool fa.a, .int .i64 fa.h, (.slice (some ⟨bg7, 0, none⟩) fa.d.length cp7)]⟩], upR byteV (turnL fb.d) rs12, [⟨b13, 24, [.bool fb.a, .int .i64 fb.h, (.slice (some ⟨bg12, 0, none⟩) fb.d.length cp12)]⟩], [], [⟨b18, 24, [.bool ((joinF fa.a fa.h fa.d fb.a fb.h fb.d).1), .int .i64 ((joinF fa.a fa.h fa.d fb.a fb.h fb.d).2.1), (.slice av17 lv17 cv17)]⟩], rs22, [⟨b23, 24, [.bool ((joinF fa.a fa.h fa.d fb.a fb.h fb.d).1), .int .i64 ((joinF fa.a fa.h fa.d fb.a fb.h fb.d).2.1), (.slice av22 lv22 cv22)]⟩], rs29, [⟨b30, 24, [.bool ((joinF fa.a fa.h fa.d fb.a fb.h fb.d).1), .int .i64 ((joinF fa.a fa.h fa.d fb.a fb.h fb.d).2.1), (.slice av29 lv29 cv29)]⟩], upR byteV (turnL fa.d) rp, upR byteV (turnL fb.d) rq, [⟨b14, 24, [.bool fa.a, .int .i64 fa.h, (.slice (some ⟨gp, 0, none⟩) fa.d.length cp)]⟩], [⟨b15, 24, [.bool fb.a, .int .i64 fb.h, (.slice (some ⟨gq, 0, none⟩) fb.d.length cq)]⟩], rs123, [⟨b124, 24, [.bool ((joinF fa.a fa.h (turnL fa.d) fb.a fb.h fb.d).1), .int .i64 ((joinF fa.a fa.h (turnL fa.d) fb.a fb.h fb.d).2.1), (.slice av123 lv123 cv123)]⟩], rs128, [⟨b129, 24, [.bool ((joinF fa.a fa.h (turnL fa.d) fb.a fb.h fb.d).1), .int .i64 ((joinF fa.a fa.h (turnL fa.d) fb.a fb.h fb.d).2.1), (.slice av128 lv128 cv128)]⟩], rs137, [⟨b138, 24, [.bool ((joinF fa.a fa.h (turnL fa.d) fb.a fb.h (turnL fb.d)).1), .int .i64 ((joinF fa.a fa.h (turnL fa.d) fb.a fb.h (turnL fb.d)).2.1), (.slice av137 lv137 cv137)]⟩]]) => ?_
    refine stp (v := .int .i64 ((joinF fa.a fa.h (turnL fa.d) fb.a fb.h (turnL fb.d)).2.2.2)) (o_mv rfl) ?_
    refine h136 _ _ ?_
    clear h136
    refine seq fun K141 h141 => ?_
    refine m_ldA (l := [.bool fa.a, .int .i64 fa.h, (.slice (some ⟨gp, 0, none⟩) fa.d.length cp)]) hM140 (i := 14) (j := 0) rfl rfl rfl rfl rfl ?_
    refine m_ldA (l := [.bool fb.a, .int .i64 fb.h, (.slice (some ⟨gq, 0, none⟩) fb.d.length cq)]) hM140 (i := 15) (j := 0) rfl rfl rfl rfl rfl ?_
    refine m_call (refJoin_ok fa.a fb.a fa.h fb.h _ _ (turnL fa.d) (turnL fb.d) w140 ((SlE.up (m := turnL fa.d) (hsp.cutTo) (turnL_length _)).rd hM140 (i := 12) rfl) ((SlE.up (m := turnL fb.d) (hsq.cutTo) (turnL_length _)).rd hM140 (i := 13) rfl) (by first | omega | (simp; done) | (simp; omega)) (by first | omega | (simp; done) | (simp; omega))) rfl fun v142 w142 ⟨vd142, rs142, hr142, hs142, hm142⟩ => ?_
    have hM142 : Mem w [] w142 [[⟨b2, 24, [.bool fa.a, .int .i64 fa.h, fa.v]⟩], [⟨b4, 24, [.bool fb.a, .int .i64 fb.h, fb.v]⟩], upR byteV (turnL fa.d) rs7, [⟨b8, 24, [.bool fa.a, .int .i64 fa.h, (.slice (some ⟨bg7, 0, none⟩) fa.d.length cp7)]⟩], upR byteV (turnL fb.d) rs12, [⟨b13, 24, [.bool fb.a, .int .i64 fb.h, (.slice (some ⟨bg12, 0, none⟩) fb.d.length cp12)]⟩], [], [⟨b18, 24, [.bool ((joinF fa.a fa.h fa.d fb.a fb.h fb.d).1), .int .i64 ((joinF fa.a fa.h fa.d fb.a fb.h fb.d).2.1), (.slice av17 lv17 cv17)]⟩], rs22, [⟨b23, 24, [.bool ((joinF fa.a fa.h fa.d fb.a fb.h fb.d).1), .int .i64 ((joinF fa.a fa.h fa.d fb.a fb.h fb.d).2.1), (.slice av22 lv22 cv22)]⟩], rs29, [⟨b30, 24, [.bool ((joinF fa.a fa.h fa.d fb.a fb.h fb.d).1), .int .i64 ((joinF fa.a fa.h fa.d fb.a fb.h fb.d).2.1), (.slice av29 lv29 cv29)]⟩], upR byteV (turnL fa.d) rp, upR byteV (turnL fb.d) rq, [⟨b14, 24, [.bool fa.a, .int .i64 fa.h, (.slice (some ⟨gp, 0, none⟩) fa.d.length cp)]⟩], [⟨b15, 24, [.bool fb.a, .int .i64 fb.h, (.slice (some ⟨gq, 0, none⟩) fb.d.length cq)]⟩], rs123, [⟨b124, 24, [.bool ((joinF fa.a fa.h (turnL fa.d) fb.a fb.h fb.d).1), .int .i64 ((joinF fa.a fa.h (turnL fa.d) fb.a fb.h fb.d).2.1), (.slice av123 lv123 cv123)]⟩], rs128, [⟨b129, 24, [.bool ((joinF fa.a fa.h (turnL fa.d) fb.a fb.h fb.d).1), .int .i64 ((joinF fa.a fa.h (turnL fa.d) fb.a fb.h fb.d).2.1), (.slice av128 lv128 cv128)]⟩], rs137, [⟨b138, 24, [.bool ((joinF fa.a fa.h (turnL fa.d) fb.a fb.h (turnL fb.d)).1), .int .i64 ((joinF fa.a fa.h (turnL fa.d) fb.a fb.h (turnL fb.d)).2.1), (.slice av137 lv137 cv137)]⟩], rs142] := hM140.add hm142
    obtain ⟨av142, lv142, cv142, rfl⟩ := hs142.isSlice
    subst hr142
    have hjl142 := joinF_len fa.a fa.h (turnL fa.d) fb.a fb.h (turnL fb.d)
    refine stp (v := .tuple [.agg ([.bool ((joinF fa.a fa.h (turnL fa.d) fb.a fb.h (turnL fb.d)).1), .int .i64 ((joinF fa.a fa.h (turnL fa.d) fb.a fb.h (turnL fb.d)).2.1), (.slice av142 lv142 cv142)] : List Value).toArray, .int .i64 ((joinF fa.a fa.h (turnL fa.d) fb.a fb.h (turnL fb.d)).2.2.2)].toArray) (o_mv rfl) ?_
    refine stp (v := .agg ([.bool ((joinF fa.a fa.h (turnL fa.d) fb.a fb.h (turnL fb.d)).1), .int .i64 ((joinF fa.a fa.h (turnL fa.d) fb.a fb.h (turnL fb.d)).2.1), (.slice av142 lv142 cv142)] : List Value).toArray) (o_ext rfl rfl) ?_
    refine stp (v := .int .i64 ((joinF fa.a fa.h (turnL fa.d) fb.a fb.h (turnL fb.d)).2.2.2)) (o_ext rfl rfl) ?_
    refine m_al hM142 fun b143 w144 (hM144 : Mem w [] w144 [[⟨b2, 24, [.bool fa.a, .int .i64 fa.h, fa.v]⟩], [⟨b4, 24, [.bool fb.a, .int .i64 fb.h, fb.v]⟩], upR byteV (turnL fa.d) rs7, [⟨b8, 24, [.bool fa.a, .int .i64 fa.h, (.slice (some ⟨bg7, 0, none⟩) fa.d.length cp7)]⟩], upR byteV (turnL fb.d) rs12, [⟨b13, 24, [.bool fb.a, .int .i64 fb.h, (.slice (some ⟨bg12, 0, none⟩) fb.d.length cp12)]⟩], [], [⟨b18, 24, [.bool ((joinF fa.a fa.h fa.d fb.a fb.h fb.d).1), .int .i64 ((joinF fa.a fa.h fa.d fb.a fb.h fb.d).2.1), (.slice av17 lv17 cv17)]⟩], rs22, [⟨b23, 24, [.bool ((joinF fa.a fa.h fa.d fb.a fb.h fb.d).1), .int .i64 ((joinF fa.a fa.h fa.d fb.a fb.h fb.d).2.1), (.slice av22 lv22 cv22)]⟩], rs29, [⟨b30, 24, [.bool ((joinF fa.a fa.h fa.d fb.a fb.h fb.d).1), .int .i64 ((joinF fa.a fa.h fa.d fb.a fb.h fb.d).2.1), (.slice av29 lv29 cv29)]⟩], upR byteV (turnL fa.d) rp, upR byteV (turnL fb.d) rq, [⟨b14, 24, [.bool fa.a, .int .i64 fa.h, (.slice (some ⟨gp, 0, none⟩) fa.d.length cp)]⟩], [⟨b15, 24, [.bool fb.a, .int .i64 fb.h, (.slice (some ⟨gq, 0, none⟩) fb.d.length cq)]⟩], rs123, [⟨b124, 24, [.bool ((joinF fa.a fa.h (turnL fa.d) fb.a fb.h fb.d).1), .int .i64 ((joinF fa.a fa.h (turnL fa.d) fb.a fb.h fb.d).2.1), (.slice av123 lv123 cv123)]⟩], rs128, [⟨b129, 24, [.bool ((joinF fa.a fa.h (turnL fa.d) fb.a fb.h fb.d).1), .int .i64 ((joinF fa.a fa.h (turnL fa.d) fb.a fb.h fb.d).2.1), (.slice av128 lv128 cv128)]⟩], rs137, [⟨b138, 24, [.bool ((joinF fa.a fa.h (turnL fa.d) fb.a fb.h (turnL fb.d)).1), .int .i64 ((joinF fa.a fa.h (turnL fa.d) fb.a fb.h (turnL fb.d)).2.1), (.slice av137 lv137 cv137)]⟩], rs142, [⟨b143, 24, [.bool false, .int .i64 0, .slice none 0 0]⟩]]) => ?_
    refine m_stA (l := [.bool ((joinF fa.a fa.h (turnL fa.d) fb.a fb.h (turnL fb.d)).1), .int .i64 ((joinF fa.a fa.h (turnL fa.d) fb.a fb.h (turnL fb.d)).2.1), (.slice av142 lv142 cv142)]) hM144 (i := 23) rfl rfl rfl rfl (by simp [oneCells, Value.oneCell', byteV]) (by simp) fun w145 (hM145 : Mem w [] w145 [[⟨b2, 24, [.bool fa.a, .int .i64 fa.h, fa.v]⟩], [⟨b4, 24, [.bool fb.a, .int .i64 fb.h, fb.v]⟩], upR byteV (turnL fa.d) rs7, [⟨b8, 24, [.bool fa.a, .int .i64 fa.h, (.slice (some ⟨bg7, 0, none⟩) fa.d.length cp7)]⟩], upR byteV (turnL fb.d) rs12, [⟨b13, 24, [.bool fb.a, .int .i64 fb.h, (.slice (some ⟨bg12, 0, none⟩) fb.d.length cp12)]⟩], [], [⟨b18, 24, [.bool ((joinF fa.a fa.h fa.d fb.a fb.h fb.d).1), .int .i64 ((joinF fa.a fa.h fa.d fb.a fb.h fb.d).2.1), (.slice av17 lv17 cv17)]⟩], rs22, [⟨b23, 24, [.bool ((joinF fa.a fa.h fa.d fb.a fb.h fb.d).1), .int .i64 ((joinF fa.a fa.h fa.d fb.a fb.h fb.d).2.1), (.slice av22 lv22 cv22)]⟩], rs29, [⟨b30, 24, [.bool ((joinF fa.a fa.h fa.d fb.a fb.h fb.d).1), .int .i64 ((joinF fa.a fa.h fa.d fb.a fb.h fb.d).2.1), (.slice av29 lv29 cv29)]⟩], upR byteV (turnL fa.d) rp, upR byteV (turnL fb.d) rq, [⟨b14, 24, [.bool fa.a, .int .i64 fa.h, (.slice (some ⟨gp, 0, none⟩) fa.d.length cp)]⟩], [⟨b15, 24, [.bool fb.a, .int .i64 fb.h, (.slice (some ⟨gq, 0, none⟩) fb.d.length cq)]⟩], rs123, [⟨b124, 24, [.bool ((joinF fa.a fa.h (turnL fa.d) fb.a fb.h fb.d).1), .int .i64 ((joinF fa.a fa.h (turnL fa.d) fb.a fb.h fb.d).2.1), (.slice av123 lv123 cv123)]⟩], rs128, [⟨b129, 24, [.bool ((joinF fa.a fa.h (turnL fa.d) fb.a fb.h fb.d).1), .int .i64 ((joinF fa.a fa.h (turnL fa.d) fb.a fb.h fb.d).2.1), (.slice av128 lv128 cv128)]⟩], rs137, [⟨b138, 24, [.bool ((joinF fa.a fa.h (turnL fa.d) fb.a fb.h (turnL fb.d)).1), .int .i64 ((joinF fa.a fa.h (turnL fa.d) fb.a fb.h (turnL fb.d)).2.1), (.slice av137 lv137 cv137)]⟩], rs142, [⟨b143, 24, [.bool ((joinF fa.a fa.h (turnL fa.d) fb.a fb.h (turnL fb.d)).1), .int .i64 ((joinF fa.a fa.h (turnL fa.d) fb.a fb.h (turnL fb.d)).2.1), (.slice av142 lv142 cv142)]⟩]]) => ?_
    refine stp (v := .int .i64 ((joinF fa.a fa.h (turnL fa.d) fb.a fb.h (turnL fb.d)).2.2.2)) (o_mv rfl) ?_
    refine h141 _ _ ?_
    clear h141
    refine seq fun K146 h146 => ?_
    refine m_ldA (l := [.bool ((joinF fa.a fa.h (turnL fa.d) fb.a fb.h fb.d).1), .int .i64 ((joinF fa.a fa.h (turnL fa.d) fb.a fb.h fb.d).2.1), (.slice av123 lv123 cv123)]) hM145 (i := 17) (j := 0) rfl rfl rfl rfl rfl ?_
    refine m_ldA (l := [.bool ((joinF fa.a fa.h (turnL fa.d) fb.a fb.h fb.d).1), .int .i64 ((joinF fa.a fa.h (turnL fa.d) fb.a fb.h fb.d).2.1), (.slice av128 lv128 cv128)]) hM145 (i := 19) (j := 0) rfl rfl rfl rfl rfl ?_
    refine m_call (alike_ok ((joinF fa.a fa.h (turnL fa.d) fb.a fb.h fb.d).1) ((joinF fa.a fa.h (turnL fa.d) fb.a fb.h fb.d).1) ((joinF fa.a fa.h (turnL fa.d) fb.a fb.h fb.d).2.1) ((joinF fa.a fa.h (turnL fa.d) fb.a fb.h fb.d).2.1) _ _ ((joinF fa.a fa.h (turnL fa.d) fb.a fb.h fb.d).2.2.1) ((joinF fa.a fa.h (turnL fa.d) fb.a fb.h fb.d).2.2.1) w145 (hs123.rd hM145 (i := 16) rfl) (hs128.rd hM145 (i := 18) rfl) (by first | omega | (simp; done) | (simp; omega))) rfl fun v147 w147 ⟨hr147, hu147⟩ => ?_
    have hM147 : Mem w [] w147 [[⟨b2, 24, [.bool fa.a, .int .i64 fa.h, fa.v]⟩], [⟨b4, 24, [.bool fb.a, .int .i64 fb.h, fb.v]⟩], upR byteV (turnL fa.d) rs7, [⟨b8, 24, [.bool fa.a, .int .i64 fa.h, (.slice (some ⟨bg7, 0, none⟩) fa.d.length cp7)]⟩], upR byteV (turnL fb.d) rs12, [⟨b13, 24, [.bool fb.a, .int .i64 fb.h, (.slice (some ⟨bg12, 0, none⟩) fb.d.length cp12)]⟩], [], [⟨b18, 24, [.bool ((joinF fa.a fa.h fa.d fb.a fb.h fb.d).1), .int .i64 ((joinF fa.a fa.h fa.d fb.a fb.h fb.d).2.1), (.slice av17 lv17 cv17)]⟩], rs22, [⟨b23, 24, [.bool ((joinF fa.a fa.h fa.d fb.a fb.h fb.d).1), .int .i64 ((joinF fa.a fa.h fa.d fb.a fb.h fb.d).2.1), (.slice av22 lv22 cv22)]⟩], rs29, [⟨b30, 24, [.bool ((joinF fa.a fa.h fa.d fb.a fb.h fb.d).1), .int .i64 ((joinF fa.a fa.h fa.d fb.a fb.h fb.d).2.1), (.slice av29 lv29 cv29)]⟩], upR byteV (turnL fa.d) rp, upR byteV (turnL fb.d) rq, [⟨b14, 24, [.bool fa.a, .int .i64 fa.h, (.slice (some ⟨gp, 0, none⟩) fa.d.length cp)]⟩], [⟨b15, 24, [.bool fb.a, .int .i64 fb.h, (.slice (some ⟨gq, 0, none⟩) fb.d.length cq)]⟩], rs123, [⟨b124, 24, [.bool ((joinF fa.a fa.h (turnL fa.d) fb.a fb.h fb.d).1), .int .i64 ((joinF fa.a fa.h (turnL fa.d) fb.a fb.h fb.d).2.1), (.slice av123 lv123 cv123)]⟩], rs128, [⟨b129, 24, [.bool ((joinF fa.a fa.h (turnL fa.d) fb.a fb.h fb.d).1), .int .i64 ((joinF fa.a fa.h (turnL fa.d) fb.a fb.h fb.d).2.1), (.slice av128 lv128 cv128)]⟩], rs137, [⟨b138, 24, [.bool ((joinF fa.a fa.h (turnL fa.d) fb.a fb.h (turnL fb.d)).1), .int .i64 ((joinF fa.a fa.h (turnL fa.d) fb.a fb.h (turnL fb.d)).2.1), (.slice av137 lv137 cv137)]⟩], rs142, [⟨b143, 24, [.bool ((joinF fa.a fa.h (turnL fa.d) fb.a fb.h (turnL fb.d)).1), .int .i64 ((joinF fa.a fa.h (turnL fa.d) fb.a fb.h (turnL fb.d)).2.1), (.slice av142 lv142 cv142)]⟩]] := hM145.pure hu147
    obtain rfl : v147 = .bool true := hr147.trans (by rw [alikeF_self])
    refine stp (v := .bool true) (o_mv rfl) ?_
    refine splitT rfl ?_
    refine stg rfl (v := .int .i64 ((joinF fa.a fa.h (turnL fa.d) fb.a fb.h fb.d).2.2.2)) (o_mv rfl) ?_
    refine stg rfl (v := .int .i64 ((joinF fa.a fa.h (turnL fa.d) fb.a fb.h fb.d).2.2.2)) (o_mv rfl) ?_
    refine stg rfl (v := .bool true) (o_bin rfl rfl v_eqT) ?_
    refine stp (v := .bool true) (o_pickT rfl rfl) ?_
    refine stp (v := .bool true) (o_mv rfl) ?_
    refine splitT rfl ?_
    refine gyesl rfl ?_
    refine m_ldA (l := [.bool ((joinF fa.a fa.h (turnL fa.d) fb.a fb.h (turnL fb.d)).1), .int .i64 ((joinF fa.a fa.h (turnL fa.d) fb.a fb.h (turnL fb.d)).2.1), (.slice av137 lv137 cv137)]) hM147 (i := 21) (j := 0) rfl rfl rfl rfl rfl ?_
    refine gyesl rfl ?_
    refine m_ldA (l := [.bool ((joinF fa.a fa.h (turnL fa.d) fb.a fb.h (turnL fb.d)).1), .int .i64 ((joinF fa.a fa.h (turnL fa.d) fb.a fb.h (turnL fb.d)).2.1), (.slice av142 lv142 cv142)]) hM147 (i := 23) (j := 0) rfl rfl rfl rfl rfl ?_
    refine gyesl rfl ?_
    refine m_call (alike_ok ((joinF fa.a fa.h (turnL fa.d) fb.a fb.h (turnL fb.d)).1) ((joinF fa.a fa.h (turnL fa.d) fb.a fb.h (turnL fb.d)).1) ((joinF fa.a fa.h (turnL fa.d) fb.a fb.h (turnL fb.d)).2.1) ((joinF fa.a fa.h (turnL fa.d) fb.a fb.h (turnL fb.d)).2.1) _ _ ((joinF fa.a fa.h (turnL fa.d) fb.a fb.h (turnL fb.d)).2.2.1) ((joinF fa.a fa.h (turnL fa.d) fb.a fb.h (turnL fb.d)).2.2.1) w147 (hs137.rd hM147 (i := 20) rfl) (hs142.rd hM147 (i := 22) rfl) (by first | omega | (simp; done) | (simp; omega))) rfl fun v148 w148 ⟨hr148, hu148⟩ => ?_
    have hM148 : Mem w [] w148 [[⟨b2, 24, [.bool fa.a, .int .i64 fa.h, fa.v]⟩], [⟨b4, 24, [.bool fb.a, .int .i64 fb.h, fb.v]⟩], upR byteV (turnL fa.d) rs7, [⟨b8, 24, [.bool fa.a, .int .i64 fa.h, (.slice (some ⟨bg7, 0, none⟩) fa.d.length cp7)]⟩], upR byteV (turnL fb.d) rs12, [⟨b13, 24, [.bool fb.a, .int .i64 fb.h, (.slice (some ⟨bg12, 0, none⟩) fb.d.length cp12)]⟩], [], [⟨b18, 24, [.bool ((joinF fa.a fa.h fa.d fb.a fb.h fb.d).1), .int .i64 ((joinF fa.a fa.h fa.d fb.a fb.h fb.d).2.1), (.slice av17 lv17 cv17)]⟩], rs22, [⟨b23, 24, [.bool ((joinF fa.a fa.h fa.d fb.a fb.h fb.d).1), .int .i64 ((joinF fa.a fa.h fa.d fb.a fb.h fb.d).2.1), (.slice av22 lv22 cv22)]⟩], rs29, [⟨b30, 24, [.bool ((joinF fa.a fa.h fa.d fb.a fb.h fb.d).1), .int .i64 ((joinF fa.a fa.h fa.d fb.a fb.h fb.d).2.1), (.slice av29 lv29 cv29)]⟩], upR byteV (turnL fa.d) rp, upR byteV (turnL fb.d) rq, [⟨b14, 24, [.bool fa.a, .int .i64 fa.h, (.slice (some ⟨gp, 0, none⟩) fa.d.length cp)]⟩], [⟨b15, 24, [.bool fb.a, .int .i64 fb.h, (.slice (some ⟨gq, 0, none⟩) fb.d.length cq)]⟩], rs123, [⟨b124, 24, [.bool ((joinF fa.a fa.h (turnL fa.d) fb.a fb.h fb.d).1), .int .i64 ((joinF fa.a fa.h (turnL fa.d) fb.a fb.h fb.d).2.1), (.slice av123 lv123 cv123)]⟩], rs128, [⟨b129, 24, [.bool ((joinF fa.a fa.h (turnL fa.d) fb.a fb.h fb.d).1), .int .i64 ((joinF fa.a fa.h (turnL fa.d) fb.a fb.h fb.d).2.1), (.slice av128 lv128 cv128)]⟩], rs137, [⟨b138, 24, [.bool ((joinF fa.a fa.h (turnL fa.d) fb.a fb.h (turnL fb.d)).1), .int .i64 ((joinF fa.a fa.h (turnL fa.d) fb.a fb.h (turnL fb.d)).2.1), (.slice av137 lv137 cv137)]⟩], rs142, [⟨b143, 24, [.bool ((joinF fa.a fa.h (turnL fa.d) fb.a fb.h (turnL fb.d)).1), .int .i64 ((joinF fa.a fa.h (turnL fa.d) fb.a fb.h (turnL fb.d)).2.1), (.slice av142 lv142 cv142)]⟩]] := hM147.pure hu148
    obtain rfl : v148 = .bool true := hr148.trans (by rw [alikeF_self])
    refine stp (v := .bool true) (o_pickT rfl rfl) ?_
    refine stp (v := .bool true) (o_mv rfl) ?_
    refine splitT rfl ?_
    refine stg rfl (v := .int .i64 ((joinF fa.a fa.h (turnL fa.d) fb.a fb.h (turnL fb.d)).2.2.2)) (o_mv rfl) ?_
    refine stg rfl (v := .int .i64 ((joinF fa.a fa.h (turnL fa.d) fb.a fb.h (turnL fb.d)).2.2.2)) (o_mv rfl) ?_
    refine stg rfl (v := .bool true) (o_bin rfl rfl v_eqT) ?_
    refine stp (v := .bool true) (o_pickT rfl rfl) ?_
    refine stp (v := .bool true) (o_mv rfl) ?_
    refine splitT rfl ?_
    refine gyesl rfl ?_
    refine m_ldA (l := [.bool ((joinF fa.a fa.h fa.d fb.a fb.h fb.d).1), .int .i64 ((joinF fa.a fa.h fa.d fb.a fb.h fb.d).2.1), (.slice av22 lv22 cv22)]) hM148 (i := 9) (j := 0) rfl rfl rfl rfl rfl ?_
    refine gyesl rfl ?_
    refine m_ldA (l := [.bool ((joinF fa.a fa.h fa.d fb.a fb.h fb.d).1), .int .i64 ((joinF fa.a fa.h fa.d fb.a fb.h fb.d).2.1), (.slice av29 lv29 cv29)]) hM148 (i := 11) (j := 0) rfl rfl rfl rfl rfl ?_
    refine gyesl rfl ?_
    refine m_call (alike_ok ((joinF fa.a fa.h fa.d fb.a fb.h fb.d).1) ((joinF fa.a fa.h fa.d fb.a fb.h fb.d).1) ((joinF fa.a fa.h fa.d fb.a fb.h fb.d).2.1) ((joinF fa.a fa.h fa.d fb.a fb.h fb.d).2.1) _ _ ((joinF fa.a fa.h fa.d fb.a fb.h fb.d).2.2.1) ((joinF fa.a fa.h fa.d fb.a fb.h fb.d).2.2.1) w148 (hs22.rd hM148 (i := 8) rfl) (hs29.rd hM148 (i := 10) rfl) (by first | omega | (simp; done) | (simp; omega))) rfl fun v149 w149 ⟨hr149, hu149⟩ => ?_
    have hM149 : Mem w [] w149 [[⟨b2, 24, [.bool fa.a, .int .i64 fa.h, fa.v]⟩], [⟨b4, 24, [.bool fb.a, .int .i64 fb.h, fb.v]⟩], upR byteV (turnL fa.d) rs7, [⟨b8, 24, [.bool fa.a, .int .i64 fa.h, (.slice (some ⟨bg7, 0, none⟩) fa.d.length cp7)]⟩], upR byteV (turnL fb.d) rs12, [⟨b13, 24, [.bool fb.a, .int .i64 fb.h, (.slice (some ⟨bg12, 0, none⟩) fb.d.length cp12)]⟩], [], [⟨b18, 24, [.bool ((joinF fa.a fa.h fa.d fb.a fb.h fb.d).1), .int .i64 ((joinF fa.a fa.h fa.d fb.a fb.h fb.d).2.1), (.slice av17 lv17 cv17)]⟩], rs22, [⟨b23, 24, [.bool ((joinF fa.a fa.h fa.d fb.a fb.h fb.d).1), .int .i64 ((joinF fa.a fa.h fa.d fb.a fb.h fb.d).2.1), (.slice av22 lv22 cv22)]⟩], rs29, [⟨b30, 24, [.bool ((joinF fa.a fa.h fa.d fb.a fb.h fb.d).1), .int .i64 ((joinF fa.a fa.h fa.d fb.a fb.h fb.d).2.1), (.slice av29 lv29 cv29)]⟩], upR byteV (turnL fa.d) rp, upR byteV (turnL fb.d) rq, [⟨b14, 24, [.bool fa.a, .int .i64 fa.h, (.slice (some ⟨gp, 0, none⟩) fa.d.length cp)]⟩], [⟨b15, 24, [.bool fb.a, .int .i64 fb.h, (.slice (some ⟨gq, 0, none⟩) fb.d.length cq)]⟩], rs123, [⟨b124, 24, [.bool ((joinF fa.a fa.h (turnL fa.d) fb.a fb.h fb.d).1), .int .i64 ((joinF fa.a fa.h (turnL fa.d) fb.a fb.h fb.d).2.1), (.slice av123 lv123 cv123)]⟩], rs128, [⟨b129, 24, [.bool ((joinF fa.a fa.h (turnL fa.d) fb.a fb.h fb.d).1), .int .i64 ((joinF fa.a fa.h (turnL fa.d) fb.a fb.h fb.d).2.1), (.slice av128 lv128 cv128)]⟩], rs137, [⟨b138, 24, [.bool ((joinF fa.a fa.h (turnL fa.d) fb.a fb.h (turnL fb.d)).1), .int .i64 ((joinF fa.a fa.h (turnL fa.d) fb.a fb.h (turnL fb.d)).2.1), (.slice av137 lv137 cv137)]⟩], rs142, [⟨b143, 24, [.bool ((joinF fa.a fa.h (turnL fa.d) fb.a fb.h (turnL fb.d)).1), .int .i64 ((joinF fa.a fa.h (turnL fa.d) fb.a fb.h (turnL fb.d)).2.1), (.slice av142 lv142 cv142)]⟩]] := hM148.pure hu149
    obtain rfl : v149 = .bool true := hr149.trans (by rw [alikeF_self])
    refine stp (v := .bool true) (o_pickT rfl rfl) ?_
    refine stp (v := .bool true) (o_mv rfl) ?_
    refine h146 _ _ ?_
    clear h146
    refine ⟨(.bool true), rfl, ?_⟩
    exact ⟨rfl, hM149.upd⟩
