/- The reference's filter of keys, the helpers of the laws. -/
import Derived.Test.YtjockanmmfmidaaG3
namespace Go.Proofs.Ytjockanmmfmidaa.E
open Go
theorem byN_max {q : Nat} (h : 1 ≤ q) : min (max (((q : Int) + 7) / 8) 1) 4096 = ((min ((q + 7) / 8) 4096 : Nat) : Int) := by
  rw [Int.max_eq_left (by omega)]; exact byN_int q
theorem pm_pos {m : Nat} {p : Int} (h : 1 ≤ p) (hm : 0 < m) : 1 ≤ p.toNat * m := Nat.mul_pos (by omega) hm
/-- the first k places of a key set -/
def pK (hs n : Nat) (d : List UInt8) (key : List UInt8) (k : Nat) : List UInt8 := ((places key hs n).take k).foldl setB d
theorem pK_zero (hs n : Nat) (d key : List UInt8) : pK hs n d key 0 = d := rfl
theorem pK_length (hs n : Nat) (d key : List UInt8) (k : Nat) : (pK hs n d key k).length = d.length := foldB_length _ _
theorem pK_succ {hs n k : Nat} {d key : List UInt8} (h : k < hs) : setB (pK hs n d key k) (bitN key k n) = pK hs n d key (k + 1) := by
  have hl : k < (places key hs n).length := by simp [places]; exact h
  unfold pK
  rw [takeG 0 hl, List.foldl_append]
  simp [places, h]
theorem pK_end {hs n k : Nat} {d key : List UInt8} (h : hs ≤ k) (hn : d.length = n) : pK hs n d key k = addK hs d key := by
  subst hn
  unfold pK addK
  rw [List.take_of_length_le (by simp [places]; exact h)]
theorem fillK_next {hs n k i : Nat} {d : List UInt8} {keys : List (List UInt8)} (h : hs ≤ k) (hn : d.length = n) (hi : i < keys.length) : pK hs n (fillK hs d (keys.take i)) (keys.getD i []) k = fillK hs d (keys.take (i + 1)) := by
  rw [fillK_snoc hi, pK_end h (by rw [fillK_length]; exact hn)]
/-- a list with a letter behind each of its first i texts -/
def zI (i : Nat) (l : List (List UInt8)) : List (List UInt8) := (l.take i).map (· ++ [122]) ++ l.drop i
theorem zI_length (i : Nat) (l : List (List UInt8)) : (zI i l).length = l.length := by simp [zI]; omega
theorem zI_getD {i j : Nat} {l : List (List UInt8)} (h : j < l.length) : (zI i l).getD j [] = if j < i then l.getD j [] ++ [122] else l.getD j [] := by
  unfold zI
  rw [List.getD_eq_getElem?_getD, List.getD_eq_getElem?_getD]
  by_cases c : j < i
  · rw [if_pos c, List.getElem?_append_left (by simp; omega), List.getElem?_map, List.getElem?_take_of_lt c, List.getElem?_eq_getElem h]; rfl
  · rw [if_neg c, List.getElem?_append_right (by simp; omega), List.getElem?_drop]
    congr 2; simp; omega
theorem zI_set {i : Nat} {l : List (List UInt8)} (h : i < l.length) : (zI i l).set i ((zI i l).getD i [] ++ [122]) = zI (i + 1) l := by
  refine ext_getD [] (by simp [zI_length]) fun j hj => ?_
  have hj' : j < l.length := by simpa [zI_length] using hj
  rw [set_getD [] (by rw [zI_length]; exact hj'), zI_getD h, zI_getD hj', zI_getD hj', if_neg (show ¬ i < i by omega)]
  by_cases e : i = j
  · subst e; rw [if_pos rfl, if_pos (by omega)]
  · rw [if_neg e]
    by_cases c : j < i
    · rw [if_pos c, if_pos (by omega)]
    · rw [if_neg c, if_neg (by omega)]
theorem zI_zero (l : List (List UInt8)) : zI 0 l = l := by simp [zI]
theorem zI_end {i : Nat} {l : List (List UInt8)} (h : l.length ≤ i) : zI i l = l.map (· ++ [122]) := by
  unfold zI; rw [List.take_of_length_le h, List.drop_eq_nil_of_le h, List.append_nil]

set_option maxRecDepth 100000 in
/-- winnowref7.Build -/
theorem refBuild_ok (x : Value) (l : List (List UInt8)) (p : Int) (w : World) (hx : RdE strV w x l) (hk : ∀ k ∈ l, k.length ≤ 9223372036854775000) (hl : l.length * 16 ≤ 175921860444160) (hp : inK .i64 p) : Calls Try.prog 12 [x, .int .i64 p].toArray w (Rt fun r w' => ∃ v rs, r = .tuple #[.agg #[.bool (buildF l p).1, .int .i64 (buildF l p).2.1, v], .int .i64 (buildF l p).2.2.2] ∧ SlE byteV 5 v (buildF l p).2.2.1 rs ∧ Mem w [] w' [rs]) := by
  have hM0 : Mem w [] w [] := Mem.nil w []
  simp only [inK] at hp
  refine calls_vc mixed Try.func12 rfl C12 (by simp [Try.ntmps12]) ?_
  refine seq fun K1 h1 => ?_
  refine m_al hM0 fun b2 w3 (hM3 : Mem w [] w3 [[⟨b2, 30, [.bool false, .int .i64 0, .slice none 0 0]⟩]]) => ?_
  refine stp (v := .int .i64 0) (o_mv rfl) ?_
  refine h1 _ _ ?_
  clear h1
  refine seq fun K4 h4 => ?_
  refine seq fun K5 h5 => ?_
  refine stp (v := .int .i64 p) (o_mv rfl) ?_
  refine stp (v := .bool (decide (p < 0))) (o_bin rfl rfl rfl) ?_
  refine stp (v := .bool (decide (p < 0))) (o_mv rfl) ?_
  refine splitP rfl (fun c6 => ?_) (fun c6 => ?_)
  ·
    refine gno rfl (by simp) ?_
    refine gno rfl (by simp) ?_
    refine stp (v := .bool true) (o_pickT rfl rfl) ?_
    refine h5 _ _ ?_
    clear h5
    refine cndT rfl ?_
    refine seq fun K7 h7 => ?_
    refine stp (v := .agg ([.bool false, .int .i64 0, .slice none 0 0] : List Value).toArray) (o_bld rfl rfl) ?_
    refine m_stA (l := [.bool false, .int .i64 0, .slice none 0 0]) hM3 (i := 0) rfl rfl rfl rfl (by simp [oneCells, Value.oneCell', byteV]) (by simp) fun w8 (hM8 : Mem w [] w8 [[⟨b2, 30, [.bool false, .int .i64 0, .slice none 0 0]⟩]]) => ?_
    refine stp (v := .int .i64 3) (o_mv rfl) ?_
    refine h7 _ _ ?_
    clear h7
    show resV _ _ _ _ _
    refine res_cell (s := some 3) (by kernel_rfl) ?_
    refine vl_ldA (cs := [.bool false, .int .i64 0, .slice none 0 0]) rfl rfl ((hM8.at (i := 0) (j := 0) rfl rfl).agg rfl rfl) ?_
    refine res_tmp ?_
    refine ⟨(.tuple [.agg ([.bool false, .int .i64 0, .slice none 0 0] : List Value).toArray, .int .i64 3].toArray), rfl, ?_⟩
    exact ⟨_, _, by rw [build_arg (by omega)], by rw [build_arg (by omega)]; exact Sl.nil 1 5, hM8.addNil.keep (by simp)⟩
  ·
    refine stg rfl (v := .int .i64 p) (o_mv rfl) ?_
    refine stg rfl (v := .bool (decide ((16 : Int) < p))) (o_bin rfl rfl rfl) ?_
    refine stp (v := .bool (decide ((16 : Int) < p))) (o_pickF rfl rfl) ?_
    refine h5 _ _ ?_
    clear h5
    refine cndP rfl (fun c9 => ?_) (fun c9 => ?_)
    ·
      refine seq fun K10 h10 => ?_
      refine stp (v := .agg ([.bool false, .int .i64 0, .slice none 0 0] : List Value).toArray) (o_bld rfl rfl) ?_
      refine m_stA (l := [.bool false, .int .i64 0, .slice none 0 0]) hM3 (i := 0) rfl rfl rfl rfl (by simp [oneCells, Value.oneCell', byteV]) (by simp) fun w11 (hM11 : Mem w [] w11 [[⟨b2, 30, [.bool false, .int .i64 0, .slice none 0 0]⟩]]) => ?_
      refine stp (v := .int .i64 3) (o_mv rfl) ?_
      refine h10 _ _ ?_
      clear h10
      show resV _ _ _ _ _
      refine res_cell (s := some 3) (by kernel_rfl) ?_
      refine vl_ldA (cs := [.bool false, .int .i64 0, .slice none 0 0]) rfl rfl ((hM11.at (i := 0) (j := 0) rfl rfl).agg rfl rfl) ?_
      refine res_tmp ?_
      refine ⟨(.tuple [.agg ([.bool false, .int .i64 0, .slice none 0 0] : List Value).toArray, .int .i64 3].toArray), rfl, ?_⟩
      exact ⟨_, _, by rw [build_arg (by omega)], by rw [build_arg (by omega)]; exact Sl.nil 1 5, hM11.addNil.keep (by simp)⟩
    ·
      refine h4 _ _ ?_
      clear h4
      refine seq fun K12 h12 => ?_
      refine seq fun K13 h13 => ?_
      refine stp (v := x) (o_mv rfl) ?_
      refine stp (v := .int .i64 (l.length : Nat)) (o_lenR (hx.upd hM3.upd) rfl rfl) ?_
      refine stp (v := .bool (decide (((l.length : Nat) : Int) = 0))) (o_bin rfl rfl rfl) ?_
      refine h13 _ _ ?_
      clear h13
      refine cndP rfl (fun c14 => ?_) (fun c14 => ?_)
      ·
        refine seq fun K15 h15 => ?_
        refine stp (v := .agg ([.bool false, .int .i64 0, .slice none 0 0] : List Value).toArray) (o_bld rfl rfl) ?_
        refine m_stA (l := [.bool false, .int .i64 0, .slice none 0 0]) hM3 (i := 0) rfl rfl rfl rfl (by simp [oneCells, Value.oneCell', byteV]) (by simp) fun w16 (hM16 : Mem w [] w16 [[⟨b2, 30, [.bool false, .int .i64 0, .slice none 0 0]⟩]]) => ?_
        refine stp (v := .int .i64 0) (o_mv rfl) ?_
        refine h15 _ _ ?_
        clear h15
        show resV _ _ _ _ _
        refine res_cell (s := some 3) (by kernel_rfl) ?_
        refine vl_ldA (cs := [.bool false, .int .i64 0, .slice none 0 0]) rfl rfl ((hM16.at (i := 0) (j := 0) rfl rfl).agg rfl rfl) ?_
        refine res_tmp ?_
        refine ⟨(.tuple [.agg ([.bool false, .int .i64 0, .slice none 0 0] : List Value).toArray, .int .i64 0].toArray), rfl, ?_⟩
        exact ⟨_, _, by rw [build_nil (by omega) (by omega)], by rw [build_nil (by omega) (by omega)]; exact Sl.nil 1 5, hM16.addNil.keep (by simp)⟩
      ·
        refine h12 _ _ ?_
        clear h12
        refine seq fun K17 h17 => ?_
        refine seq fun K18 h18 => ?_
        refine stp (v := .int .i64 p) (o_mv rfl) ?_
        refine stp (v := .bool (decide (p = 0))) (o_bin rfl rfl rfl) ?_
        refine stp (v := .bool (decide (p = 0))) (o_mv rfl) ?_
        refine splitP rfl (fun c19 => ?_) (fun c19 => ?_)
        ·
          refine gno rfl (by simp) ?_
          refine gno rfl (by simp) ?_
          refine gno rfl (by simp) ?_
          refine stp (v := .bool true) (o_pickT rfl rfl) ?_
          refine h18 _ _ ?_
          clear h18
          refine cndT rfl ?_
          refine seq fun K20 h20 => ?_
          refine stp (v := .agg ([.bool true, .int .i64 0, .slice none 0 0] : List Value).toArray) (o_bld rfl rfl) ?_
          refine m_stA (l := [.bool true, .int .i64 0, .slice none 0 0]) hM3 (i := 0) rfl rfl rfl rfl (by simp [oneCells, Value.oneCell', byteV]) (by simp) fun w21 (hM21 : Mem w [] w21 [[⟨b2, 30, [.bool true, .int .i64 0, .slice none 0 0]⟩]]) => ?_
          refine stp (v := .int .i64 0) (o_mv rfl) ?_
          refine h20 _ _ ?_
          clear h20
          show resV _ _ _ _ _
          refine res_cell (s := some 3) (by kernel_rfl) ?_
          refine vl_ldA (cs := [.bool true, .int .i64 0, .slice none 0 0]) rfl rfl ((hM21.at (i := 0) (j := 0) rfl rfl).agg rfl rfl) ?_
          refine res_tmp ?_
          refine ⟨(.tuple [.agg ([.bool true, .int .i64 0, .slice none 0 0] : List Value).toArray, .int .i64 0].toArray), rfl, ?_⟩
          exact ⟨_, _, by rw [build_all (by omega) (by omega) (by omega)], by rw [build_all (by omega) (by omega) (by omega)]; exact Sl.nil 1 5, hM21.addNil.keep (by simp)⟩
        ·
          refine stg rfl (v := x) (o_mv rfl) ?_
          refine stg rfl (v := .int .i64 (l.length : Nat)) (o_lenR (hx.upd hM3.upd) rfl rfl) ?_
          refine stg rfl (v := .bool (decide ((65536 : Int) < ((l.length : Nat) : Int)))) (o_bin rfl rfl rfl) ?_
          refine stp (v := .bool (decide ((65536 : Int) < ((l.length : Nat) : Int)))) (o_pickF rfl rfl) ?_
          refine h18 _ _ ?_
          clear h18
          refine cndP rfl (fun c22 => ?_) (fun c22 => ?_)
          ·
            refine seq fun K23 h23 => ?_
            refine stp (v := .agg ([.bool true, .int .i64 0, .slice none 0 0] : List Value).toArray) (o_bld rfl rfl) ?_
            refine m_stA (l := [.bool true, .int .i64 0, .slice none 0 0]) hM3 (i := 0) rfl rfl rfl rfl (by simp [oneCells, Value.oneCell', byteV]) (by simp) fun w24 (hM24 : Mem w [] w24 [[⟨b2, 30, [.bool true, .int .i64 0, .slice none 0 0]⟩]]) => ?_
            refine stp (v := .int .i64 0) (o_mv rfl) ?_
            refine h23 _ _ ?_
            clear h23
            show resV _ _ _ _ _
            refine res_cell (s := some 3) (by kernel_rfl) ?_
            refine vl_ldA (cs := [.bool true, .int .i64 0, .slice none 0 0]) rfl rfl ((hM24.at (i := 0) (j := 0) rfl rfl).agg rfl rfl) ?_
            refine res_tmp ?_
            refine ⟨(.tuple [.agg ([.bool true, .int .i64 0, .slice none 0 0] : List Value).toArray, .int .i64 0].toArray), rfl, ?_⟩
            exact ⟨_, _, by rw [build_all (by omega) (by omega) (by omega)], by rw [build_all (by omega) (by omega) (by omega)]; exact Sl.nil 1 5, hM24.addNil.keep (by simp)⟩
          ·
            refine h17 _ _ ?_
            clear h17
            refine seq fun K25 h25 => ?_
            refine stp (v := x) (o_mv rfl) ?_
            refine stp (v := .int .i64 (l.length : Nat)) (o_lenR (hx.upd hM3.upd) rfl rfl) ?_
            refine stp (v := .int .i64 p) (o_mv rfl) ?_
            refine stp (v := .int .i64 (p.toNat * l.length : Nat)) (o_bin rfl rfl ((v_mul64 (by rw [Int.mul_comm, (pm_bd (by omega) (by omega) (by omega)).1]; have := (pm_bd (m := l.length) (p := p) (by omega) (by omega) (by omega)).2; omega)).trans (v_int ((Int.mul_comm _ _).trans (pm_bd (by omega) (by omega) (by omega)).1)))) ?_
            have hpm := (pm_bd (m := l.length) (p := p) (by omega) (by omega) (by omega)).2
            have hpp := pm_pos (m := l.length) (p := p) (by omega) (by omega)
            have hby := byN_bd (m := l.length) (p := p) (by omega) (by omega)
            have hhs := hsN_bd p
            refine stp (v := .int .i64 ((p.toNat * l.length : Nat) + 7)) (o_bin rfl rfl (v_add64 (by constructor <;> omega))) ?_
            refine stp (v := .int .i64 (((p.toNat * l.length : Nat) + 7) / 8)) (o_quo rfl rfl (by omega) (v_quo (by omega) (by omega) (by simp only [inK]; omega))) ?_
            refine stp (v := .int .i64 (max (((p.toNat * l.length : Nat) + 7) / 8 : Int) (1 : Int))) (o_mm rfl rfl rfl) ?_
            refine stp (v := .int .i64 (byN l.length p : Nat)) (o_mm rfl rfl ((o_mmv (byN_max (by omega))))) ?_
            refine stp (v := .int .i64 (byN l.length p : Nat)) (o_mv rfl) ?_
            refine h25 _ _ ?_
            clear h25
            refine seq fun K26 h26 => ?_
            refine stp (v := .int .i64 p) (o_mv rfl) ?_
            refine stp (v := .int .i64 (69 * p)) (o_bin rfl rfl (v_mul64 (by constructor <;> omega))) ?_
            refine stp (v := .int .i64 ((69 * p) + 50)) (o_bin rfl rfl (v_add64 (by constructor <;> omega))) ?_
            refine stp (v := .int .i64 (((69 * p) + 50) / 100)) (o_quo rfl rfl (by omega) (v_quo (by omega) (by omega) (by simp only [inK]; omega))) ?_
            refine stp (v := .int .i64 (max (((69 * p) + 50) / 100 : Int) (1 : Int))) (o_mm rfl rfl rfl) ?_
            refine stp (v := .int .i64 (hsN p : Nat)) (o_mm rfl rfl ((o_mmv (hsN_int (by omega))))) ?_
            refine stp (v := .int .i64 (byN l.length p : Nat)) (o_mv rfl) ?_
            refine m_mksE (E := byteV) (z := 0) (n := byN l.length p) (c := byN l.length p) rfl hM3 rfl rfl (by omega) (by omega) (by omega) fun v27 w27 r27 hs27 (hM27 : Mem w [] w27 [[⟨b2, 30, [.bool false, .int .i64 0, .slice none 0 0]⟩], r27]) => ?_
            obtain ⟨a28_, n28_, c28_, rfl⟩ := Sl.isSlice hs27
            refine stp (v := .agg ([.bool false, .int .i64 (hsN p : Nat), (.slice a28_ n28_ c28_)] : List Value).toArray) (o_bld rfl rfl) ?_
            refine m_al hM27 fun b29 w30 (hM30 : Mem w [] w30 [[⟨b2, 30, [.bool false, .int .i64 0, .slice none 0 0]⟩], r27, [⟨b29, 30, [.bool false, .int .i64 0, .slice none 0 0]⟩]]) => ?_
            refine m_stA (l := [.bool false, .int .i64 (hsN p : Nat), (.slice a28_ n28_ c28_)]) hM30 (i := 2) rfl rfl rfl rfl (by simp [oneCells, Value.oneCell', byteV]) (by simp) fun w31 (hM31 : Mem w [] w31 [[⟨b2, 30, [.bool false, .int .i64 0, .slice none 0 0]⟩], r27, [⟨b29, 30, [.bool false, .int .i64 (hsN p : Nat), (.slice a28_ n28_ c28_)]⟩]]) => ?_
            refine h26 _ _ ?_
            clear h26
            refine seq fun K32 h32 => ?_
            refine seq fun K33 h33 => ?_
            refine stp (v := .int .i64 0) (o_mv rfl) ?_
            refine h33 _ _ ?_
            clear h33
            refine lp (n := fun _ _ => False) (ι := (Nat) × (List Ent)) (fun ⟨i, rd⟩ f w' => f 8 = .int .i64 (i : Nat) ∧ f 0 = x ∧ f 4 = .pointer (some ⟨b2, 0, none⟩) ∧ f 6 = .int .i64 (byN l.length p : Nat) ∧ f 7 = .pointer (some ⟨b29, 0, none⟩) ∧ Mem w [] w' [[⟨b2, 30, [.bool false, .int .i64 0, .slice none 0 0]⟩], rd, [⟨b29, 30, [.bool false, .int .i64 (hsN p : Nat), (.slice a28_ n28_ c28_)]⟩]] ∧ (SlE byteV 5 (.slice a28_ n28_ c28_) (fillK (hsN p) (List.replicate (byN l.length p) 0) (l.take i)) rd) ∧ (i ≤ l.length) ∧ ((fillK (hsN p) (List.replicate (byN l.length p) 0) (l.take i)).length = byN l.length p)) (fun ⟨i, rd⟩ => l.length - i) (0, r27) ?_ ?_
            · exact ⟨by first | rfl | exact v_int (by omega) | exact v_int (by simp) | exact v_int (by simp; omega), rfl, rfl, by first | rfl | exact v_int (by omega) | exact v_int (by simp) | exact v_int (by simp; omega), rfl, hM31, hs27, by omega, by rw [fillK_length, List.length_replicate]⟩
            · rintro ⟨i, rd⟩ f w34 ⟨e34_8, e34_0, e34_4, e34_6, e34_7, hM34, hsd, hi, hld⟩ K35 h35
              obtain ⟨frm, rfl⟩ : ∃ frm, f = (upd (upd (upd (upd (upd frm 8 (.int .i64 (i : Nat))) 0 (x)) 4 (.pointer (some ⟨b2, 0, none⟩))) 6 (.int .i64 (byN l.length p : Nat))) 7 (.pointer (some ⟨b29, 0, none⟩))) := ⟨f, by rw [upd_self e34_8, upd_self e34_0, upd_self e34_4, upd_self e34_6, upd_self e34_7]⟩
              clear e34_8 e34_0 e34_4 e34_6 e34_7
              refine seq fun K36 h36 => ?_
              refine seq fun K37 h37 => ?_
              refine stp (v := .int .i64 (i : Nat)) (o_mv rfl) ?_
              refine stp (v := x) (o_mv rfl) ?_
              refine stp (v := .int .i64 (l.length : Nat)) (o_lenR (hx.upd hM34.upd) rfl rfl) ?_
              refine stp (v := .bool (decide (((i : Nat) : Int) < (l.length : Nat)))) (o_bin rfl rfl rfl) ?_
              refine h37 _ _ ?_
              clear h37
              refine cndP rfl (fun c38 => ?_) (fun c38 => ?_)
              ·
                refine h36 _ _ ?_
                clear h36
                refine seq fun K39 h39 => ?_
                refine seq fun K40 h40 => ?_
                refine stp (v := .int .i64 0) (o_mv rfl) ?_
                refine h40 _ _ ?_
                clear h40
                refine lp (n := fun _ _ => False) (ι := (Nat) × (List Ent)) (fun ⟨k, re⟩ f w' => f 9 = .int .i64 (k : Nat) ∧ f 0 = x ∧ f 4 = .pointer (some ⟨b2, 0, none⟩) ∧ f 6 = .int .i64 (byN l.length p : Nat) ∧ f 7 = .pointer (some ⟨b29, 0, none⟩) ∧ f 8 = .int .i64 (i : Nat) ∧ Mem w [] w' [[⟨b2, 30, [.bool false, .int .i64 0, .slice none 0 0]⟩], re, [⟨b29, 30, [.bool false, .int .i64 (hsN p : Nat), (.slice a28_ n28_ c28_)]⟩]] ∧ (SlE byteV 5 (.slice a28_ n28_ c28_) (pK (hsN p) (byN l.length p) (fillK (hsN p) (List.replicate (byN l.length p) 0) (l.take i)) (l.getD i []) k) re) ∧ (k ≤ hsN p) ∧ ((pK (hsN p) (byN l.length p) (fillK (hsN p) (List.replicate (byN l.length p) 0) (l.take i)) (l.getD i []) k).length = byN l.length p)) (fun ⟨k, re⟩ => hsN p - k) (0, rd) ?_ ?_
                · exact ⟨by first | rfl | exact v_int (by omega) | exact v_int (by simp) | exact v_int (by simp; omega), rfl, rfl, by first | rfl | exact v_int (by omega) | exact v_int (by simp) | exact v_int (by simp; omega), rfl, by first | rfl | exact v_int (by omega) | exact v_int (by simp) | exact v_int (by simp; omega), hM34, by rw [pK_zero]; exact hsd, by omega, by rw [pK_length]; exact hld⟩
                · rintro ⟨k, re⟩ f w41 ⟨e41_9, e41_0, e41_4, e41_6, e41_7, e41_8, hM41, hse, hk2, hlp⟩ K42 h42
                  obtain ⟨frm, rfl⟩ : ∃ frm, f = (upd (upd (upd (upd (upd (upd frm 9 (.int .i64 (k : Nat))) 0 (x)) 4 (.pointer (some ⟨b2, 0, none⟩))) 6 (.int .i64 (byN l.length p : Nat))) 7 (.pointer (some ⟨b29, 0, none⟩))) 8 (.int .i64 (i : Nat))) := ⟨f, by rw [upd_self e41_9, upd_self e41_0, upd_self e41_4, upd_self e41_6, upd_self e41_7, upd_self e41_8]⟩
                  clear e41_9 e41_0 e41_4 e41_6 e41_7 e41_8
                  refine seq fun K43 h43 => ?_
                  refine seq fun K44 h44 => ?_
                  refine stp (v := .int .i64 (k : Nat)) (o_mv rfl) ?_
                  refine stp (v := .pointer (some ⟨b29, 1, none⟩)) (o_fa rfl rfl) ?_
                  refine m_ld (v := .int .i64 (hsN p : Nat)) hM41 (i := 2) (j := 0) rfl rfl rfl rfl ?_
                  refine stp (v := .bool (decide (((k : Nat) : Int) < (hsN p : Nat)))) (o_bin rfl rfl rfl) ?_
                  refine h44 _ _ ?_
                  clear h44
                  refine cndP rfl (fun c45 => ?_) (fun c45 => ?_)
                  ·
                    refine h43 _ _ ?_
                    clear h43
                    refine seq fun K46 h46 => ?_
                    refine seq fun K47 h47 => ?_
                    refine stp (v := x) (o_mv rfl) ?_
                    refine stp (v := .int .i64 (i : Nat)) (o_mv rfl) ?_
                    refine m_idxE [] (j := i) (hx.upd hM41.upd) rfl rfl (by omega) fun b48 o48 hp48 => ?_
                    refine ld (v := .string (str (l.getD i []))) rfl (hp48) ?_
                    refine stp (v := .int .i64 (k : Nat)) (o_mv rfl) ?_
                    refine stp (v := .int .i64 (byN l.length p : Nat)) (o_mv rfl) ?_
                    refine m_call (place_ok (l.getD i []) k (byN l.length p) w41 (by have := hk _ (getD_memG [] (i := i) (l := l) (by omega)); omega) (by omega) (by omega) (by omega)) rfl fun v49 w49 ⟨hr49, hu49⟩ => ?_
                    have hM49 : Mem w [] w49 [[⟨b2, 30, [.bool false, .int .i64 0, .slice none 0 0]⟩], re, [⟨b29, 30, [.bool false, .int .i64 (hsN p : Nat), (.slice a28_ n28_ c28_)]⟩]] := hM41.pure hu49
                    subst hr49
                    refine stp (v := .int .u64 (bitN (l.getD i []) k (byN l.length p) : Nat)) (o_mv rfl) ?_
                    refine h47 _ _ ?_
                    clear h47
                    intro wd e1 e2 e3 e4
                    have hd := Upd.same e1 e2 e3 e4 []
                    have hM50 := hM49.pure hd
                    clear e1 e2 e3 e4
                    refine ⟨(some [b29]), ?_⟩
                    show vd _ _ _ _ _ _ _
                    have hbl := bitN_lt (key := l.getD i []) (k := k) (n := byN l.length p) (by omega)
                    refine dq (v := .pointer (some ⟨b29, 2, none⟩)) (o_fa rfl rfl) ?_
                    refine dq (v := .int .u64 (bitN (l.getD i []) k (byN l.length p) : Nat)) (o_mv rfl) ?_
                    refine dq (v := .int .u64 ((bitN (l.getD i []) k (byN l.length p) : Nat) / 8)) (o_quo rfl rfl (by omega) (v_quo (by omega) (by omega) (by simp only [inK]; omega))) ?_
                    refine dq (v := .pointer (some ⟨b29, 2, none⟩)) (o_fa rfl rfl) ?_
                    refine dq (v := .int .u64 (bitN (l.getD i []) k (byN l.length p) : Nat)) (o_mv rfl) ?_
                    refine dq (v := .int .u64 ((bitN (l.getD i []) k (byN l.length p) : Nat) / 8)) (o_quo rfl rfl (by omega) (v_quo (by omega) (by omega) (by simp only [inK]; omega))) ?_
                    refine dq (v := .int .u64 (bitN (l.getD i []) k (byN l.length p) : Nat)) (o_mv rfl) ?_
                    refine dq (v := .int .u64 ((bitN (l.getD i []) k (byN l.length p) : Nat) % 8)) (o_rem rfl rfl (by omega) (v_rem (by omega))) ?_
                    refine dq (v := .int .u8 (2 ^ (bitN (l.getD i []) k (byN l.length p) % 8) : Nat)) (o_shl rfl rfl (by omega) (shl1_v8 (n := bitN (l.getD i []) k (byN l.length p)) (by omega))) ?_
                    refine dqld rfl (by simp [isHeld]) (v := (.slice a28_ n28_ c28_)) ((hM50.at (i := 2) (j := 0) rfl rfl).cell 2) ?_
                    refine dqp (m_idxE 0 (j := (bitN (l.getD i []) k (byN l.length p) / 8)) (hse.rd hM50 (i := 1) rfl) rfl (v_int (by omega)) (by omega) fun b51 o51 hp51 => ?_)
                    show vd _ _ _ _ _ _ _
                    refine dqld rfl (by simp [isHeld]) (v := (.slice a28_ n28_ c28_)) ((hM50.at (i := 2) (j := 0) rfl rfl).cell 2) ?_
                    refine dl (ld (v := byteV ((pK (hsN p) (byN l.length p) (fillK (hsN p) (List.replicate (byN l.length p) 0) (l.take i)) (l.getD i []) k).getD (bitN (l.getD i []) k (byN l.length p) / 8) 0)) rfl (hp51) ?_)
                    refine ⟨(fun b hb => rfl), ?_⟩
                    refine dq (v := .int .u8 (((pK (hsN p) (byN l.length p) (fillK (hsN p) (List.replicate (byN l.length p) 0) (l.take i)) (l.getD i []) k).getD (bitN (l.getD i []) k (byN l.length p) / 8) 0 ||| (2 ^ (bitN (l.getD i []) k (byN l.length p) % 8) : Nat).toUInt8).toNat : Int)) (o_bin rfl rfl (v_int (or_v8 (x := (pK (hsN p) (byN l.length p) (fillK (hsN p) (List.replicate (byN l.length p) 0) (l.take i)) (l.getD i []) k).getD (bitN (l.getD i []) k (byN l.length p) / 8) 0) (n := bitN (l.getD i []) k (byN l.length p))))) ?_
                    refine dset (m_setU (E := byteV) (q := (pK (hsN p) (byN l.length p) (fillK (hsN p) (List.replicate (byN l.length p) 0) (l.take i)) (l.getD i []) k).getD (bitN (l.getD i []) k (byN l.length p) / 8) 0 ||| (2 ^ (bitN (l.getD i []) k (byN l.length p) % 8) : Nat).toUInt8) (j := (bitN (l.getD i []) k (byN l.length p) / 8)) hM50 (i := 1) rfl hse rfl (v_int (by omega)) (by omega) (by simp) (rfl) fun w52 r52 u52 he52 hs52 (hM52 : Mem w [] w52 [[⟨b2, 30, [.bool false, .int .i64 0, .slice none 0 0]⟩], r52, [⟨b29, 30, [.bool false, .int .i64 (hsN p : Nat), (.slice a28_ n28_ c28_)]⟩]]) hup52 => ?_)
                    have hh52 := held_upd (wr := wd) (bs := [b29]) hup52 (fun b hb => by
                      simp only [List.mem_cons, List.not_mem_nil, or_false] at hb
                      rw [hb]; exact ⟨(hM50.at (i := 2) (j := 0) rfl rfl).lt, hM50.apart (i := 2) (j := 0) (k := 1) rfl rfl rfl (by decide)⟩) (fun b hb => rfl)
                    refine ⟨hh52, ?_⟩
                    show vd _ _ _ _ _ _ _
                    refine h46 _ _ ?_
                    clear h46
                    refine stp (v := .int .i64 (k : Nat)) (o_mv rfl) ?_
                    refine stp (v := .int .i64 ((k : Nat) + 1)) (o_bin rfl rfl (v_add64 (by constructor <;> omega))) ?_
                    refine stp (v := .int .i64 ((k : Nat) + 1)) (o_mv rfl) ?_
                    refine h42 (k + 1, r52) _ _ ⟨by first | rfl | exact v_int (by omega) | exact v_int (by simp) | exact v_int (by simp; omega), rfl, rfl, by first | rfl | exact v_int (by omega) | exact v_int (by simp) | exact v_int (by simp; omega), rfl, by first | rfl | exact v_int (by omega) | exact v_int (by simp) | exact v_int (by simp; omega), hM52, by rw [← pK_succ (by omega)]; exact hs52, by omega, by rw [pK_length]; exact hld⟩ (by (try dsimp only); omega)
                  ·
                    refine h39 _ _ ?_
                    clear h39
                    refine stp (v := .int .i64 (i : Nat)) (o_mv rfl) ?_
                    refine stp (v := .int .i64 ((i : Nat) + 1)) (o_bin rfl rfl (v_add64 (by constructor <;> omega))) ?_
                    refine stp (v := .int .i64 ((i : Nat) + 1)) (o_mv rfl) ?_
                    refine h35 (i + 1, re) _ _ ⟨by first | rfl | exact v_int (by omega) | exact v_int (by simp) | exact v_int (by simp; omega), rfl, rfl, by first | rfl | exact v_int (by omega) | exact v_int (by simp) | exact v_int (by simp; omega), rfl, hM41, by rw [← fillK_next (k := k) (n := byN l.length p) (by omega) (by simp) (by omega)]; exact hse, by omega, by rw [fillK_length, List.length_replicate]⟩ (by (try dsimp only); omega)
              ·
                refine h32 _ _ ?_
                clear h32
                refine seq fun K53 h53 => ?_
                refine m_ldA (l := [.bool false, .int .i64 (hsN p : Nat), (.slice a28_ n28_ c28_)]) hM34 (i := 2) (j := 0) rfl rfl rfl rfl rfl ?_
                refine m_stA (l := [.bool false, .int .i64 (hsN p : Nat), (.slice a28_ n28_ c28_)]) hM34 (i := 0) rfl rfl rfl rfl (by simp [oneCells, Value.oneCell', byteV]) (by simp) fun w54 (hM54 : Mem w [] w54 [[⟨b2, 30, [.bool false, .int .i64 (hsN p : Nat), (.slice a28_ n28_ c28_)]⟩], rd, [⟨b29, 30, [.bool false, .int .i64 (hsN p : Nat), (.slice a28_ n28_ c28_)]⟩]]) => ?_
                refine stp (v := .int .i64 0) (o_mv rfl) ?_
                refine h53 _ _ ?_
                clear h53
                show resV _ _ _ _ _
                refine res_cell (s := some 3) (by kernel_rfl) ?_
                refine vl_ldA (cs := [.bool false, .int .i64 (hsN p : Nat), (.slice a28_ n28_ c28_)]) rfl rfl ((hM54.at (i := 0) (j := 0) rfl rfl).agg rfl rfl) ?_
                refine res_tmp ?_
                refine ⟨(.tuple [.agg ([.bool false, .int .i64 (hsN p : Nat), (.slice a28_ n28_ c28_)] : List Value).toArray, .int .i64 0].toArray), rfl, ?_⟩
                rw [List.take_of_length_le (by omega)] at hsd
                exact ⟨_, _, by rw [build_bits (by omega) (by omega) (by omega)], by rw [build_bits (by omega) (by omega) (by omega)]; exact hsd, hM54.keep (by simp)⟩

/-- winnowlaw7.texts -/
theorem texts_ok (x : Value) (b : List (List UInt8)) (w : World) (hx : RdE strV w x b) (hl : b.length ≤ 8796093021952) : Calls Try.prog 9 [x].toArray w (Rt fun r w' => ∃ rs, SlE strV 9 r (b ++ List.replicate 64 ([109, 97, 114, 107] : (List UInt8))) rs ∧ Mem w [] w' [rs]) := by
  have hM0 : Mem w [] w [] := Mem.nil w []
  refine calls_vc mixed Try.func9 rfl C9 (by simp [Try.ntmps9]) ?_
  refine seq fun K1 h1 => ?_
  refine stp (v := .slice none 0 0) (o_mv rfl) ?_
  refine h1 _ _ ?_
  clear h1
  refine seq fun K2 h2 => ?_
  refine stp (v := x) (o_mv rfl) ?_
  refine stp (v := .int .i64 (b.length : Nat)) (o_lenR (hx.upd hM0.upd) rfl rfl) ?_
  refine stp (v := .int .i64 ((b.length : Nat) + 64)) (o_bin rfl rfl (v_add64 (by constructor <;> omega))) ?_
  refine m_mksE (E := strV) (z := []) (n := (b.length + 64)) (c := (b.length + 64)) rfl hM0 (v_int (by omega)) (v_int (by omega)) (by omega) (by omega) (by omega) fun v3 w3 r3 hs3 (hM3 : Mem w [] w3 [r3]) => ?_
  refine stp (v := v3) (o_mv rfl) ?_
  refine h2 _ _ ?_
  clear h2
  refine seq fun K4 h4 => ?_
  refine seq fun K5 h5 => ?_
  refine stp (v := .int .i64 0) (o_mv rfl) ?_
  refine h5 _ _ ?_
  clear h5
  refine lp (n := fun _ _ => False) (ι := (Nat) × (Value) × (List Ent)) (fun ⟨i, g, r⟩ f w' => f 0 = x ∧ f 3 = g ∧ f 4 = .int .i64 (i : Nat) ∧ Mem w [] w' [r] ∧ (SlE strV 9 g ((b ++ List.replicate 64 ([109, 97, 114, 107] : (List UInt8))).take i ++ List.replicate ((b.length + 64) - i) ([] : (List UInt8))) r) ∧ (i ≤ (b.length + 64)) ∧ (((b ++ List.replicate 64 ([109, 97, 114, 107] : (List UInt8))).take i ++ List.replicate ((b.length + 64) - i) ([] : (List UInt8))).length = (b.length + 64))) (fun ⟨i, g, r⟩ => (b.length + 64) - i) (0, v3, r3) ?_ ?_
  · exact ⟨rfl, rfl, by first | rfl | exact v_int (by omega) | exact v_int (by simp) | exact v_int (by simp; omega), hM3, by simpa using hs3, by omega, by simp⟩
  · rintro ⟨i, g, r⟩ f w6 ⟨e6_0, e6_3, e6_4, hM6, hs, hi, hq⟩ K7 h7
    obtain ⟨frm, rfl⟩ : ∃ frm, f = (upd (upd (upd frm 0 (x)) 3 (g)) 4 (.int .i64 (i : Nat))) := ⟨f, by rw [upd_self e6_0, upd_self e6_3, upd_self e6_4]⟩
    clear e6_0 e6_3 e6_4
    refine seq fun K8 h8 => ?_
    refine seq fun K9 h9 => ?_
    refine stp (v := .int .i64 (i : Nat)) (o_mv rfl) ?_
    refine stp (v := g) (o_mv rfl) ?_
    refine stp (v := .int .i64 (((b ++ List.replicate 64 ([109, 97, 114, 107] : (List UInt8))).take i ++ List.replicate ((b.length + 64) - i) ([] : (List UInt8))).length : Nat)) (o_lenR (hs.rd hM6 (i := 0) rfl) rfl rfl) ?_
    refine stp (v := .bool (decide (((i : Nat) : Int) < (((b ++ List.replicate 64 ([109, 97, 114, 107] : (List UInt8))).take i ++ List.replicate ((b.length + 64) - i) ([] : (List UInt8))).length : Nat)))) (o_bin rfl rfl rfl) ?_
    refine h9 _ _ ?_
    clear h9
    refine cndP rfl (fun c10 => ?_) (fun c10 => ?_)
    ·
      refine h8 _ _ ?_
      clear h8
      refine seq fun K11 h11 => ?_
      refine seq fun K12 h12 => ?_
      refine stp (v := g) (o_mv rfl) ?_
      refine stp (v := .int .i64 (i : Nat)) (o_mv rfl) ?_
      refine m_set (E := strV) (q := [109, 97, 114, 107]) (j := i) hM6 (i := 0) rfl hs rfl rfl (by omega) (by simp) (rfl) fun w13 r13 u13 he13 hs13 (hM13 : Mem w [] w13 [r13]) => ?_
      refine h12 _ _ ?_
      clear h12
      refine seq fun K14 h14 => ?_
      refine stp (v := .int .i64 (i : Nat)) (o_mv rfl) ?_
      refine stp (v := x) (o_mv rfl) ?_
      refine stp (v := .int .i64 (b.length : Nat)) (o_lenR (hx.upd hM13.upd) rfl rfl) ?_
      refine stp (v := .bool (decide (((i : Nat) : Int) < (b.length : Nat)))) (o_bin rfl rfl rfl) ?_
      refine h14 _ _ ?_
      clear h14
      refine cndP rfl (fun c15 => ?_) (fun c15 => ?_)
      ·
        refine stp (v := g) (o_mv rfl) ?_
        refine stp (v := .int .i64 (i : Nat)) (o_mv rfl) ?_
        refine stp (v := x) (o_mv rfl) ?_
        refine stp (v := .int .i64 (i : Nat)) (o_mv rfl) ?_
        refine m_idxE [] (j := i) (hx.upd hM13.upd) rfl rfl (by omega) fun b16 o16 hp16 => ?_
        refine ld (v := .string (str (b.getD i []))) rfl (hp16) ?_
        refine m_set (E := strV) (q := b.getD i []) (j := i) hM13 (i := 0) rfl hs13 rfl rfl (by simp; omega) (by simp) (rfl) fun w17 r17 u17 he17 hs17 (hM17 : Mem w [] w17 [r17]) => ?_
        refine h11 _ _ ?_
        clear h11
        refine stp (v := .int .i64 (i : Nat)) (o_mv rfl) ?_
        refine stp (v := .int .i64 ((i : Nat) + 1)) (o_bin rfl rfl (v_add64 (by constructor <;> omega))) ?_
        refine stp (v := .int .i64 ((i : Nat) + 1)) (o_mv rfl) ?_
        refine h7 (i + 1, g, r17) _ _ ⟨rfl, rfl, by first | rfl | exact v_int (by omega) | exact v_int (by simp) | exact v_int (by simp; omega), hM17, by rw [← setG [] rfl (c := b.getD i []) (by omega) rfl]; simpa [List.set_set] using hs17, by omega, by simp; omega⟩ (by (try dsimp only); omega)
      ·
        refine h11 _ _ ?_
        clear h11
        refine stp (v := .int .i64 (i : Nat)) (o_mv rfl) ?_
        refine stp (v := .int .i64 ((i : Nat) + 1)) (o_bin rfl rfl (v_add64 (by constructor <;> omega))) ?_
        refine stp (v := .int .i64 ((i : Nat) + 1)) (o_mv rfl) ?_
        refine h7 (i + 1, g, r13) _ _ ⟨rfl, rfl, by first | rfl | exact v_int (by omega) | exact v_int (by simp) | exact v_int (by simp; omega), hM13, by rw [← setG2 [] rfl (by omega) (by omega)]; exact hs13, by omega, by simp; omega⟩ (by (try dsimp only); omega)
    ·
      refine h4 _ _ ?_
      clear h4
      refine seq fun K18 h18 => ?_
      refine stp (v := g) (o_mv rfl) ?_
      refine stp (v := g) (o_mv rfl) ?_
      refine h18 _ _ ?_
      clear h18
      refine ⟨g, rfl, ?_⟩
      have e : i = (b.length + 64) := by omega
      subst e
      rw [Nat.sub_self, List.replicate_zero, List.append_nil, List.take_of_length_le (by simp)] at hs
      exact ⟨_, hs, hM6⟩

/-- winnowlaw7.same -/
theorem same_ok (x y : Value) (a b : List UInt8) (w : World) (hx : RdE byteV w x a) (hy : RdE byteV w y b) (hla : a.length ≤ 9223372036854775807) : Calls Try.prog 26 [x, y].toArray w (Rt fun r w' => r = .bool (decide (a = b)) ∧ Upd [] w w') := by
  have hM0 : Mem w [] w [] := Mem.nil w []
  refine calls_vc mixed Try.func26 rfl C26 (by simp [Try.ntmps26]) ?_
  refine seq fun K1 h1 => ?_
  refine stp (v := .bool false) (o_mv rfl) ?_
  refine h1 _ _ ?_
  clear h1
  refine seq fun K2 h2 => ?_
  refine seq fun K3 h3 => ?_
  refine stp (v := x) (o_mv rfl) ?_
  refine stp (v := .int .i64 (a.length : Nat)) (o_lenR (hx.upd hM0.upd) rfl rfl) ?_
  refine stp (v := y) (o_mv rfl) ?_
  refine stp (v := .int .i64 (b.length : Nat)) (o_lenR (hy.upd hM0.upd) rfl rfl) ?_
  refine stp (v := .bool (decide (¬ ((a.length : Nat) : Int) = (b.length : Nat)))) (o_bin rfl rfl v_neq) ?_
  refine h3 _ _ ?_
  clear h3
  refine cndP rfl (fun c4 => ?_) (fun c4 => ?_)
  ·
    refine seq fun K5 h5 => ?_
    refine stp (v := .bool false) (o_mv rfl) ?_
    refine h5 _ _ ?_
    clear h5
    refine ⟨(.bool false), rfl, ?_⟩
    exact ⟨by rw [decide_eq_false (fun e => c4 (by rw [e]))], hM0.upd⟩
  ·
    refine h2 _ _ ?_
    clear h2
    refine seq fun K6 h6 => ?_
    refine seq fun K7 h7 => ?_
    refine stp (v := .int .i64 0) (o_mv rfl) ?_
    refine h7 _ _ ?_
    clear h7
    refine lp (n := fun _ _ => False) (ι := (Nat)) (fun i f w' => f 0 = x ∧ f 1 = y ∧ f 5 = .int .i64 (i : Nat) ∧ Mem w [] w' [] ∧ (i ≤ a.length) ∧ (a.take i = b.take i)) (fun i => a.length - i) (0) ?_ ?_
    · exact ⟨rfl, rfl, by first | rfl | exact v_int (by omega) | exact v_int (by simp) | exact v_int (by simp; omega), hM0, by omega, by simp⟩
    · rintro i f w8 ⟨e8_0, e8_1, e8_5, hM8, hi, hp⟩ K9 h9
      obtain ⟨frm, rfl⟩ : ∃ frm, f = (upd (upd (upd frm 0 (x)) 1 (y)) 5 (.int .i64 (i : Nat))) := ⟨f, by rw [upd_self e8_0, upd_self e8_1, upd_self e8_5]⟩
      clear e8_0 e8_1 e8_5
      refine seq fun K10 h10 => ?_
      refine seq fun K11 h11 => ?_
      refine stp (v := .int .i64 (i : Nat)) (o_mv rfl) ?_
      refine stp (v := x) (o_mv rfl) ?_
      refine stp (v := .int .i64 (a.length : Nat)) (o_lenR (hx.upd hM8.upd) rfl rfl) ?_
      refine stp (v := .bool (decide (((i : Nat) : Int) < (a.length : Nat)))) (o_bin rfl rfl rfl) ?_
      refine h11 _ _ ?_
      clear h11
      refine cndP rfl (fun c12 => ?_) (fun c12 => ?_)
      ·
        refine h10 _ _ ?_
        clear h10
        refine seq fun K13 h13 => ?_
        refine seq fun K14 h14 => ?_
        intro wd e1 e2 e3 e4
        have hd := Upd.same e1 e2 e3 e4 []
        have hM15 := hM8.pure hd
        clear e1 e2 e3 e4
        refine ⟨none, ?_⟩
        show vd _ _ _ _ _ _ _
        refine dq (v := x) (o_mv rfl) ?_
        refine dq (v := .int .i64 (i : Nat)) (o_mv rfl) ?_
        refine dqp (m_idxE 0 (j := i) (hx.upd hM15.upd) rfl rfl (by omega) fun b16 o16 hp16 => ?_)
        show vd _ _ _ _ _ _ _
        refine dq (v := y) (o_mv rfl) ?_
        refine dq (v := .int .i64 (i : Nat)) (o_mv rfl) ?_
        refine dqp (m_idxE 0 (j := i) (hy.upd hM15.upd) rfl rfl (by omega) fun b17 o17 hp17 => ?_)
        show vd _ _ _ _ _ _ _
        refine dqld rfl (trivial) (v := byteV (b.getD i 0)) (hp17) ?_
        refine dl (ld (v := byteV (a.getD i 0)) rfl (hp16) ?_)
        refine ⟨rfl, ?_⟩
        refine dq (v := .bool (decide (¬ ((a.getD i 0).toNat : Int) = ((b.getD i 0).toNat : Int)))) (o_bin rfl rfl v_neq) ?_
        refine h14 _ _ ?_
        clear h14
        refine cndP rfl (fun c18 => ?_) (fun c18 => ?_)
        ·
          refine seq fun K19 h19 => ?_
          refine stp (v := .bool false) (o_mv rfl) ?_
          refine h19 _ _ ?_
          clear h19
          refine ⟨(.bool false), rfl, ?_⟩
          exact ⟨by rw [decide_eq_false (ne_atG 0 i (nat_neG (by assumption)))], hM15.upd⟩
        ·
          refine h13 _ _ ?_
          clear h13
          refine stp (v := .int .i64 (i : Nat)) (o_mv rfl) ?_
          refine stp (v := .int .i64 ((i : Nat) + 1)) (o_bin rfl rfl (v_add64 (by constructor <;> omega))) ?_
          refine stp (v := .int .i64 ((i : Nat) + 1)) (o_mv rfl) ?_
          refine h9 (i + 1) _ _ ⟨rfl, rfl, by first | rfl | exact v_int (by omega) | exact v_int (by simp) | exact v_int (by simp; omega), hM15, by omega, take_eqG 0 hp (by omega) (by omega) (u8_eq (by omega))⟩ (by (try dsimp only); omega)
      ·
        refine h6 _ _ ?_
        clear h6
        refine seq fun K20 h20 => ?_
        refine stp (v := .bool true) (o_mv rfl) ?_
        refine h20 _ _ ?_
        clear h20
        refine ⟨(.bool true), rfl, ?_⟩
        exact ⟨by rw [decide_eq_true]; rw [← List.take_of_length_le (l := a) (i := i) (by omega), ← List.take_of_length_le (l := b) (i := i) (by omega), hp], hM8.upd⟩

/-- winnowlaw7.fill -/
theorem fill_ok (x : Value) (l : List UInt8) (m : UInt8) (r0 : List Ent) (w : World) (hs0 : SlE byteV 5 x l r0) (hr : Res w r0) (hl : l.length ≤ 140737489403904) : Calls Try.prog 11 [x, byteV m].toArray w (Rt fun r w' => r = .int .i64 ((l.length + 64 : Nat) : Int) ∧ Mem w (ids r0) w' []) := by
  have hM0 : Mem w (ids r0) w [r0] := Mem.start hr
  refine calls_vc mixed Try.func11 rfl C11 (by simp [Try.ntmps11]) ?_
  refine seq fun K1 h1 => ?_
  refine stp (v := .int .i64 0) (o_mv rfl) ?_
  refine h1 _ _ ?_
  clear h1
  refine seq fun K2 h2 => ?_
  refine seq fun K3 h3 => ?_
  refine stp (v := .int .i64 0) (o_mv rfl) ?_
  refine h3 _ _ ?_
  clear h3
  refine lp (n := fun _ _ => False) (ι := (Nat) × (List UInt8) × (Value) × (List Ent)) (fun ⟨i, la, y0_, r0_⟩ f w' => f 0 = y0_ ∧ f 5 = .int .i64 (i : Nat) ∧ f 1 = byteV m ∧ Mem w (ids r0) w' [r0_] ∧ (la.length = l.length) ∧ (i ≤ la.length) ∧ (SlE byteV 5 y0_ (la) r0_)) (fun ⟨i, la, y0_, r0_⟩ => l.length - i) (0, l, x, r0) ?_ ?_
  · exact ⟨rfl, by first | rfl | exact v_int (by omega) | exact v_int (by simp) | exact v_int (by simp; omega), by first | rfl | exact v_int (by omega) | exact v_int (by simp) | exact v_int (by simp; omega), hM0, rfl, by omega, by first | exact hs0 | simpa using hs0⟩
  · rintro ⟨i, la, y0_, r0_⟩ f w4 ⟨e4_0, e4_5, e4_1, hM4, hla, hi, hy0_⟩ K5 h5
    obtain ⟨frm, rfl⟩ : ∃ frm, f = (upd (upd (upd frm 0 (y0_)) 5 (.int .i64 (i : Nat))) 1 (byteV m)) := ⟨f, by rw [upd_self e4_0, upd_self e4_5, upd_self e4_1]⟩
    clear e4_0 e4_5 e4_1
    refine seq fun K6 h6 => ?_
    refine seq fun K7 h7 => ?_
    refine stp (v := .int .i64 (i : Nat)) (o_mv rfl) ?_
    refine stp (v := y0_) (o_mv rfl) ?_
    refine stp (v := .int .i64 (la.length : Nat)) (o_lenR (hy0_.rd hM4 (i := 0) rfl) rfl rfl) ?_
    refine stp (v := .bool (decide (((i : Nat) : Int) < (la.length : Nat)))) (o_bin rfl rfl rfl) ?_
    refine h7 _ _ ?_
    clear h7
    refine cndP rfl (fun c8 => ?_) (fun c8 => ?_)
    ·
      refine h6 _ _ ?_
      clear h6
      refine seq fun K9 h9 => ?_
      refine stp (v := y0_) (o_mv rfl) ?_
      refine stp (v := .int .i64 (i : Nat)) (o_mv rfl) ?_
      refine stp (v := byteV m) (o_mv rfl) ?_
      refine m_set (E := byteV) (q := m) (j := i) hM4 (i := 0) rfl hy0_ rfl rfl (by omega) (by simp) (rfl) fun w10 r10 u10 he10 hs10 (hM10 : Mem w (ids r0) w10 [r10]) => ?_
      refine h9 _ _ ?_
      clear h9
      refine stp (v := .int .i64 (i : Nat)) (o_mv rfl) ?_
      refine stp (v := .int .i64 ((i : Nat) + 1)) (o_bin rfl rfl (v_add64 (by constructor <;> omega))) ?_
      refine stp (v := .int .i64 ((i : Nat) + 1)) (o_mv rfl) ?_
      refine h5 (i + 1, la.set i m, y0_, r10) _ _ ⟨rfl, by first | rfl | exact v_int (by omega) | exact v_int (by simp) | exact v_int (by simp; omega), by first | rfl | exact v_int (by omega) | exact v_int (by simp) | exact v_int (by simp; omega), hM10, by simp; omega, by simp; omega, by first | exact hs10 | simpa using hs10⟩ (by (try dsimp only); omega)
    ·
      refine h2 _ _ ?_
      clear h2
      refine seq fun K11 h11 => ?_
      refine seq fun K12 h12 => ?_
      refine stp (v := .int .i64 0) (o_mv rfl) ?_
      refine h12 _ _ ?_
      clear h12
      refine lp (n := fun _ _ => False) (ι := (Nat) × (List UInt8) × (Value) × (List Ent)) (fun ⟨i, lb, y0_, r0_⟩ f w' => f 0 = y0_ ∧ f 6 = .int .i64 (i : Nat) ∧ f 1 = byteV m ∧ Mem w (ids r0) w' [r0_] ∧ (lb.length = l.length + i) ∧ (i ≤ 64) ∧ (SlE byteV 5 y0_ (lb) r0_)) (fun ⟨i, lb, y0_, r0_⟩ => 64 - i) (0, la, y0_, r0_) ?_ ?_
      · exact ⟨rfl, by first | rfl | exact v_int (by omega) | exact v_int (by simp) | exact v_int (by simp; omega), by first | rfl | exact v_int (by omega) | exact v_int (by simp) | exact v_int (by simp; omega), hM4, by omega, by omega, by first | exact hy0_ | simpa using hy0_⟩
      · rintro ⟨i, lb, y0_, r0_⟩ f w13 ⟨e13_0, e13_6, e13_1, hM13, hlb, hi, hy0_⟩ K14 h14
        obtain ⟨frm, rfl⟩ : ∃ frm, f = (upd (upd (upd frm 0 (y0_)) 6 (.int .i64 (i : Nat))) 1 (byteV m)) := ⟨f, by rw [upd_self e13_0, upd_self e13_6, upd_self e13_1]⟩
        clear e13_0 e13_6 e13_1
        refine seq fun K15 h15 => ?_
        refine seq fun K16 h16 => ?_
        refine stp (v := .int .i64 (i : Nat)) (o_mv rfl) ?_
        refine stp (v := .bool (decide (((i : Nat) : Int) < 64))) (o_bin rfl rfl rfl) ?_
        refine h16 _ _ ?_
        clear h16
        refine cndP rfl (fun c17 => ?_) (fun c17 => ?_)
        ·
          refine h15 _ _ ?_
          clear h15
          refine seq fun K18 h18 => ?_
          refine stp (v := y0_) (o_mv rfl) ?_
          refine stp (v := byteV m) (o_mv rfl) ?_
          refine stp (v := .int .u8 (((m.toNat : Int) + 1) % 256)) (o_bin rfl rfl (v_u8 _)) ?_
          refine m_app1 (E := byteV) (q := (((m.toNat : Int) + 1) % 256).toNat.toUInt8) hM13 (i := 0) rfl hy0_ rfl (by simp) (byteV_of (by omega) (by omega)) (by omega) (by omega) fun v19 w19 r19 u19 (hs19 : SlE byteV 5 v19 (lb ++ [(((m.toNat : Int) + 1) % 256).toNat.toUInt8]) r19) (hM19 : Mem w (ids r0) w19 [r19]) => ?_
          refine stp (v := v19) (o_mv rfl) ?_
          refine h18 _ _ ?_
          clear h18
          refine stp (v := .int .i64 (i : Nat)) (o_mv rfl) ?_
          refine stp (v := .int .i64 ((i : Nat) + 1)) (o_bin rfl rfl (v_add64 (by constructor <;> omega))) ?_
          refine stp (v := .int .i64 ((i : Nat) + 1)) (o_mv rfl) ?_
          refine h14 (i + 1, lb ++ [((m.toNat : Int) + 1) % 256 |>.toNat.toUInt8], v19, r19) _ _ ⟨rfl, by first | rfl | exact v_int (by omega) | exact v_int (by simp) | exact v_int (by simp; omega), by first | rfl | exact v_int (by omega) | exact v_int (by simp) | exact v_int (by simp; omega), hM19, by simp; omega, by omega, by first | exact hs19 | simpa using hs19⟩ (by (try dsimp only); omega)
        ·
          refine h11 _ _ ?_
          clear h11
          refine seq fun K20 h20 => ?_
          refine stp (v := y0_) (o_mv rfl) ?_
          refine stp (v := .int .i64 (lb.length : Nat)) (o_lenR (hy0_.rd hM13 (i := 0) rfl) rfl rfl) ?_
          refine stp (v := .int .i64 (lb.length : Nat)) (o_mv rfl) ?_
          refine h20 _ _ ?_
          clear h20
          refine ⟨(.int .i64 (lb.length : Nat)), rfl, ?_⟩
          exact ⟨v_int (by omega), hM13.keep (by simp)⟩

/-- winnowlaw7.lettered -/
theorem lettered_ok (x : Value) (l : List (List UInt8)) (r0 : List Ent) (w : World) (hs0 : SlE strV 9 x l r0) (hr : Res w r0) (hl : l.length ≤ 8796093021952) (hk : ∀ k ∈ l, k.length ≤ 9223372036854775000) : Calls Try.prog 17 [x].toArray w (Rt fun r w' => r = x ∧ Mem w (ids r0) w' [upR strV (l.map (· ++ [122])) r0]) := by
  have hM0 : Mem w (ids r0) w [r0] := Mem.start hr
  refine calls_vc mixed Try.func17 rfl C17 (by simp [Try.ntmps17]) ?_
  refine seq fun K1 h1 => ?_
  refine stp (v := .slice none 0 0) (o_mv rfl) ?_
  refine h1 _ _ ?_
  clear h1
  refine seq fun K2 h2 => ?_
  refine seq fun K3 h3 => ?_
  refine stp (v := .int .i64 0) (o_mv rfl) ?_
  refine h3 _ _ ?_
  clear h3
  refine lp (n := fun _ _ => False) (ι := (Nat) × (List Ent)) (fun ⟨i, r⟩ f w' => f 0 = x ∧ f 3 = .int .i64 (i : Nat) ∧ Mem w (ids r0) w' [r] ∧ (SlE strV 9 x (zI i l) r) ∧ (r = upR strV (zI i l) r0) ∧ ((zI i l).length = l.length)) (fun ⟨i, r⟩ => l.length - i) (0, r0) ?_ ?_
  · exact ⟨rfl, by first | rfl | exact v_int (by omega) | exact v_int (by simp) | exact v_int (by simp; omega), hM0, by rw [zI_zero]; exact hs0, by rw [zI_zero, up_self hs0], zI_length _ _⟩
  · rintro ⟨i, r⟩ f w4 ⟨e4_0, e4_3, hM4, hs, he, hq⟩ K5 h5
    obtain ⟨frm, rfl⟩ : ∃ frm, f = (upd (upd frm 0 (x)) 3 (.int .i64 (i : Nat))) := ⟨f, by rw [upd_self e4_0, upd_self e4_3]⟩
    clear e4_0 e4_3
    refine seq fun K6 h6 => ?_
    refine seq fun K7 h7 => ?_
    refine stp (v := .int .i64 (i : Nat)) (o_mv rfl) ?_
    refine stp (v := x) (o_mv rfl) ?_
    refine stp (v := .int .i64 ((zI i l).length : Nat)) (o_lenR (hs.rd hM4 (i := 0) rfl) rfl rfl) ?_
    refine stp (v := .bool (decide (((i : Nat) : Int) < ((zI i l).length : Nat)))) (o_bin rfl rfl rfl) ?_
    refine h7 _ _ ?_
    clear h7
    refine cndP rfl (fun c8 => ?_) (fun c8 => ?_)
    ·
      refine h6 _ _ ?_
      clear h6
      refine seq fun K9 h9 => ?_
      refine stp (v := x) (o_mv rfl) ?_
      refine stp (v := .int .i64 (i : Nat)) (o_mv rfl) ?_
      refine stp (v := x) (o_mv rfl) ?_
      refine stp (v := .int .i64 (i : Nat)) (o_mv rfl) ?_
      refine m_idxE [] (j := i) (hs.rd hM4 (i := 0) rfl) rfl rfl (by omega) fun b10 o10 hp10 => ?_
      refine ld (v := .string (str ((zI i l).getD i []))) rfl (hp10) ?_
      have hbk : ((zI i l).getD i []).length + [(122 : UInt8)].length ≤ 9223372036854775807 := by rw [zI_getD (by omega), if_neg (by omega)]; have := hk _ (getD_memG [] (i := i) (l := l) (by omega)); simp only [List.length_singleton]; omega
      refine stp (v := .string (str (((zI i l).getD i []) ++ ([122])))) (o_sadd rfl rfl (by first | omega | (simp; omega)) rfl) ?_
      refine m_set (E := strV) (q := ((zI i l).getD i []) ++ ([122])) (j := i) hM4 (i := 0) rfl hs rfl rfl (by omega) (by simp) (rfl) fun w11 r11 u11 he11 hs11 (hM11 : Mem w (ids r0) w11 [r11]) => ?_
      refine h9 _ _ ?_
      clear h9
      refine stp (v := .int .i64 (i : Nat)) (o_mv rfl) ?_
      refine stp (v := .int .i64 ((i : Nat) + 1)) (o_bin rfl rfl (v_add64 (by constructor <;> omega))) ?_
      refine stp (v := .int .i64 ((i : Nat) + 1)) (o_mv rfl) ?_
      refine h5 (i + 1, r11) _ _ ⟨rfl, by first | rfl | exact v_int (by omega) | exact v_int (by simp) | exact v_int (by simp; omega), hM11, by rw [← zI_set (by omega)]; exact hs11, by rw [← zI_set (by omega), he11, he, upR_upR (by simp)], zI_length _ _⟩ (by (try dsimp only); omega)
    ·
      refine h2 _ _ ?_
      clear h2
      refine seq fun K12 h12 => ?_
      refine stp (v := x) (o_mv rfl) ?_
      refine stp (v := x) (o_mv rfl) ?_
      refine h12 _ _ ?_
      clear h12
      refine ⟨x, rfl, ?_⟩
      rw [zI_end (by omega)] at he
      subst he
      exact ⟨rfl, hM4⟩
