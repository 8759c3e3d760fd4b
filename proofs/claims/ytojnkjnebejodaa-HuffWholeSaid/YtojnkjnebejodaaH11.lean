/- Decoding: the program's words. -/
import Derived.Test.YtojnkjnebejodaaH10
namespace Go.Proofs.Ytojnkjnebejodaa.E
open Go
theorem ord_pre {l : List Int} {k i : Nat} (h : i < (ordB l k).length) : ∀ d, (ordB l (k + d)).getD i 0 = (ordB l k).getD i 0
  | 0 => rfl
  | d + 1 => by
    have := ord_mono l k d
    show (ordB l (k + d) ++ symN l (k + d + 1) l.length).getD i 0 = _
    rw [appG1 0 (by omega)]; exact ord_pre h d
theorem ord_len {l : List Int} {k : Nat} (h : 1 ≤ k) : (ordB l k).length = (ordB l (k - 1)).length + cntW l k := by
  obtain ⟨j, rfl⟩ : ∃ j, k = j + 1 := ⟨k - 1, by omega⟩
  rw [cntW_pos h]; simp [ordB]
theorem ord_elem {l : List Int} {k r : Nat} (h : 1 ≤ k) (h2 : k ≤ 15) (hr : r < cntW l k) : (ordB l 15).getD ((ordB l (k - 1)).length + r) 0 = (symN l k l.length).getD r 0 := by
  have hl := ord_len (l := l) h
  rw [show (15 : Nat) = k + (15 - k) by omega, ord_pre (by omega)]
  obtain ⟨j, rfl⟩ : ∃ j, k = j + 1 := ⟨k - 1, by omega⟩
  simp only [Nat.add_sub_cancel] at hl ⊢
  rw [ordB, appG2 0 (by omega)]; congr 1; omega
theorem ord_all {l : List Int} {k : Nat} (h : k ≤ 15) : (ordB l k).length ≤ (ordB l 15).length := by
  have := ord_mono l k (15 - k); rwa [show k + (15 - k) = 15 by omega] at this
theorem many_16 {l : List Int} {k : Nat} (h : 1 ≤ k) (h2 : k ≤ 15) : ((manyL l 16 0).map i64V)[k]? = some (.int .i64 ((cntW l k : Nat) : Int)) := by
  rw [List.getElem?_map, manyL, List.getElem?_map, List.getElem?_range (by omega), cntW_pos h]
  simp only [Option.map_some]
  rw [if_pos (by omega)]; rfl
theorem shl1 {a b : Nat} (ha : a ≤ 1000000) (h : b = 2 * a) : Value.int .i64 (IntKind.i64.wrap ((a : Int) * 2 ^ min ((1 : Int)).toNat IntKind.i64.bits)) = .int .i64 ((b : Nat) : Int) := by
  have e : min ((1 : Int)).toNat IntKind.i64.bits = 1 := by decide
  rw [e, v_same (by simp only [inK]; omega)]
  exact v_int (by omega)
theorem and_bit {x : UInt8} {i : Nat} : binI .and .u8 ((x.toNat / 2 ^ (i % 8) : Nat) : Int) 1 = .int .u8 ((x.toNat / 2 ^ (i % 8) % 2 : Nat) : Int) := by
  have hb := bit8 x (i % 8)
  have h := andI_nat (k := .u8) (a := x.toNat / 2 ^ (i % 8)) (b := 1) (by simp only [IntKind.bits]; omega) (by decide) (by
    have := Nat.and_le_left (n := x.toNat / 2 ^ (i % 8)) (m := 1)
    simp only [inK]; omega)
  rw [show (1 : Nat) = 2 ^ 1 - 1 from rfl, and_low] at h
  exact v_int h
theorem or_bit {a b : Nat} (ha : a ≤ 1000000) (hb : b ≤ 1) : binI .or .i64 ((2 * a : Nat) : Int) ((b : Nat) : Int) = .int .i64 ((2 * a + b : Nat) : Int) := by
  have e := or_add (v := b) (d := a) (n := 1) (by omega)
  rw [Nat.or_comm, Nat.pow_one, Nat.mul_comm a 2] at e
  have h := orI_nat (k := .i64) (a := 2 * a) (b := b) (by simp only [IntKind.bits]; omega) (by simp only [IntKind.bits]; omega) (by rw [e]; simp only [inK]; omega)
  rw [e, Nat.add_comm] at h
  exact v_int h
theorem sym_lt {l : List Int} {k r : Nat} (hl : l.length ≤ 256) (hr : r < (symN l k l.length).length) : (symN l k l.length).getD r 0 ≤ 255 := by
  have := (mem_symN.1 (getD_mem hr)).1; omega
theorem sym_byte {l : List Int} {k r : Nat} (hl : l.length ≤ 256) (h : 1 ≤ k) (h2 : k ≤ 15) (hr : r < cntW l k) : Value.int .u8 ((((ordB l 15).getD ((ordB l (k - 1)).length + r) 0 : Nat) : Int) % 256) = byteV ((symN l k l.length).getD r 0).toUInt8 := by
  rw [ord_elem h h2 hr]
  rw [cntW_pos h] at hr
  have := sym_lt hl hr
  rw [byteV_of (by omega) (by omega)]
  congr 2; omega

/-- huff.words -/
theorem words_ok (x y : Value) (l : List Int) (bs : List UInt8) (n : Nat) (w : World) (hx : RdE i64V w x l) (hy : RdE byteV w y bs) (hl : l.length ≤ 256) (hb : bs.length ≤ 140737488355328) (hn : n ≤ 65536) : Calls Try.prog 46 [x, y, .int .i64 ((n : Nat) : Int)].toArray w (Rt fun r w' => ∃ v ok T rs, r = .tuple [v, .bool ok].toArray ∧ SlE byteV 5 v T rs ∧ (if ok then some T else none) = wordsF l bs n ∧ Mem w [] w' [rs]) := by
  have hM0 : Mem w [] w [] := Mem.nil w []
  refine calls_vc mixed Try.func46 rfl C46 (by simp [Try.ntmps46]) ?_
  refine seq fun K1 h1 => ?_
  refine stp (v := .slice none 0 0) (o_mv rfl) ?_
  refine stp (v := .bool false) (o_mv rfl) ?_
  refine h1 _ _ ?_
  clear h1
  refine seq fun K2 h2 => ?_
  refine stp (v := x) (o_mv rfl) ?_
  refine m_call (order_ok _ l w (hx.upd hM0.upd) (by omega)) rfl fun v3 w3 ⟨y3, rs3, hr3, hs3, hm3⟩ => ?_
  have hM3 : Mem w [] w3 [rs3] := hM0.add hm3
  subst hr3
  refine stp (v := .tuple [y3, .agg (((manyL l 16 0).map i64V).toArray), .bool (decide (0 ≤ 32768 - ((usedB l 15 : Nat) : Int)))].toArray) (o_mv rfl) ?_
  refine stp (v := y3) (o_ext rfl rfl) ?_
  refine stp (v := .agg (((manyL l 16 0).map i64V).toArray)) (o_ext rfl rfl) ?_
  refine stp (v := .bool (decide (0 ≤ 32768 - ((usedB l 15 : Nat) : Int)))) (o_ext rfl rfl) ?_
  refine m_al hM3 fun b4 w5 (hM5 : Mem w [] w5 [rs3, [⟨b4, 61, (List.replicate 16 (.int .i64 0))⟩]]) => ?_
  refine stp (v := y3) (o_mv rfl) ?_
  refine m_stA (l := ((manyL l 16 0).map i64V)) hM5 (i := 1) rfl rfl rfl (by simp [manyL_length]) (one_elems _) (by simp) fun w6 hm6 => ?_
  have hM6 : Mem w [] w6 [rs3, [⟨b4, 61, ((manyL l 16 0).map i64V)⟩]] := by
    have e : splice (List.replicate 16 (.int .i64 0)) 0 ((manyL l 16 0).map i64V) = ((manyL l 16 0).map i64V) := splice_full (by simp; first | done | (simp [manyL_length]) | omega)
    first | (rw [e] at hm6; exact hm6) | (rw [← e]; exact hm6)
  refine stp (v := .bool (decide (0 ≤ 32768 - ((usedB l 15 : Nat) : Int)))) (o_mv rfl) ?_
  refine h2 _ _ ?_
  clear h2
  refine seq fun K7 h7 => ?_
  refine seq fun K8 h8 => ?_
  refine stp (v := .bool (decide (0 ≤ 32768 - ((usedB l 15 : Nat) : Int)))) (o_mv rfl) ?_
  refine stp (v := .bool (decide (¬ (0 ≤ 32768 - ((usedB l 15 : Nat) : Int))))) (o_not rfl v_not) ?_
  refine stp (v := .bool (decide (¬ (0 ≤ 32768 - ((usedB l 15 : Nat) : Int))))) (o_mv rfl) ?_
  refine splitP rfl (fun c9 => ?_) (fun c9 => ?_)
  ·
    refine gno rfl (by simp) ?_
    refine gno rfl (by simp) ?_
    refine gno rfl (by simp) ?_
    refine gno rfl (by simp) ?_
    refine gno rfl (by simp) ?_
    refine stp (v := .bool true) (o_pickT rfl rfl) ?_
    refine h8 _ _ ?_
    clear h8
    refine cndT rfl ?_
    refine seq fun K10 h10 => ?_
    refine stp (v := .slice none 0 0) (o_mv rfl) ?_
    refine stp (v := .bool false) (o_mv rfl) ?_
    refine h10 _ _ ?_
    clear h10
    refine ⟨(.tuple [.slice none 0 0, .bool false].toArray), rfl, ?_⟩
    exact ⟨_, _, [], [], rfl, (Sl.nil 1 5 : SlE byteV 5 _ [] []), by rw [wordsF_none (.inl (by omega))]; rfl, hM6.keep (by simp)⟩
  ·
    refine stg rfl (v := .int .i64 (n : Nat)) (o_mv rfl) ?_
    refine stg rfl (v := y) (o_mv rfl) ?_
    refine stg rfl (v := .int .i64 (bs.length : Nat)) (o_lenR (hy.upd hM6.upd) rfl rfl) ?_
    refine stg rfl (v := .int .i64 (8 * (bs.length : Nat))) (o_bin rfl rfl (v_mul64 (by constructor <;> omega))) ?_
    refine stg rfl (v := .bool (decide (((8 * (bs.length : Nat) : Int) : Int) < ((n : Nat) : Int)))) (o_bin rfl rfl rfl) ?_
    refine stp (v := .bool (decide (((8 * (bs.length : Nat) : Int) : Int) < ((n : Nat) : Int)))) (o_pickF rfl rfl) ?_
    refine h8 _ _ ?_
    clear h8
    refine cndP rfl (fun c11 => ?_) (fun c11 => ?_)
    ·
      refine seq fun K12 h12 => ?_
      refine stp (v := .slice none 0 0) (o_mv rfl) ?_
      refine stp (v := .bool false) (o_mv rfl) ?_
      refine h12 _ _ ?_
      clear h12
      refine ⟨(.tuple [.slice none 0 0, .bool false].toArray), rfl, ?_⟩
      exact ⟨_, _, [], [], rfl, (Sl.nil 1 5 : SlE byteV 5 _ [] []), by rw [wordsF_none (.inr (decA_long (by omega)))]; rfl, hM6.keep (by simp)⟩
    ·
      refine h7 _ _ ?_
      clear h7
      refine seq fun K13 h13 => ?_
      refine stp (v := .int .i64 (n : Nat)) (o_mv rfl) ?_
      refine m_mksE (E := byteV) (z := 0) (n := 0) (c := n) rfl hM6 (v_int (by omega)) (v_int (by omega)) (by omega) (by omega) (by omega) fun v14 w14 r14 hs14 (hM14 : Mem w [] w14 [rs3, [⟨b4, 61, ((manyL l 16 0).map i64V)⟩], r14]) => ?_
      refine stp (v := v14) (o_mv rfl) ?_
      refine h13 _ _ ?_
      clear h13
      refine seq fun K15 h15 => ?_
      refine stp (v := .int .i64 0) (o_mv rfl) ?_
      refine h15 _ _ ?_
      clear h15
      refine seq fun K16 h16 => ?_
      refine seq fun K17 h17 => ?_
      refine stp (v := .int .i64 (n : Nat)) (o_mv rfl) ?_
      refine stp (v := .int .i64 0) (o_mv rfl) ?_
      refine h17 _ _ ?_
      clear h17
      refine lp (n := fun _ _ => False) (ι := (List UInt8) × (Nat) × (Value) × (List Ent)) (fun ⟨T, p, y11_, r11_⟩ f w' => f 11 = y11_ ∧ f 12 = .int .i64 (p : Nat) ∧ f 35 = .int .i64 (T.length : Nat) ∧ f 1 = y ∧ f 8 = y3 ∧ f 9 = .pointer (some ⟨b4, 0, none⟩) ∧ f 34 = .int .i64 (n : Nat) ∧ Mem w [] w' [rs3, [⟨b4, 61, ((manyL l 16 0).map i64V)⟩], r11_] ∧ (Dcs l bs n T p) ∧ (SlE byteV 5 y11_ (T) r11_)) (fun ⟨T, p, y11_, r11_⟩ => n - T.length) ([], 0, v14, r14) ?_ ?_
      · exact ⟨rfl, by first | rfl | exact v_int (by omega) | exact v_int (by simp) | exact v_int (by simp; omega), by first | rfl | exact v_int (by omega) | exact v_int (by simp) | exact v_int (by simp; omega), rfl, rfl, rfl, by first | rfl | exact v_int (by omega) | exact v_int (by simp) | exact v_int (by simp; omega), hM14, Dcs.init, by first | exact hs14 | simpa using hs14⟩
      · rintro ⟨T, p, y11_, r11_⟩ f w18 ⟨e18_11, e18_12, e18_35, e18_1, e18_8, e18_9, e18_34, hM18, hD, hy11_⟩ K19 h19
        obtain ⟨frm, rfl⟩ : ∃ frm, f = (upd (upd (upd (upd (upd (upd (upd frm 11 (y11_)) 12 (.int .i64 (p : Nat))) 35 (.int .i64 (T.length : Nat))) 1 (y)) 8 (y3)) 9 (.pointer (some ⟨b4, 0, none⟩))) 34 (.int .i64 (n : Nat))) := ⟨f, by rw [upd_self e18_11, upd_self e18_12, upd_self e18_35, upd_self e18_1, upd_self e18_8, upd_self e18_9, upd_self e18_34]⟩
        clear e18_11 e18_12 e18_35 e18_1 e18_8 e18_9 e18_34
        refine seq fun K20 h20 => ?_
        refine stp (v := .bool (decide (((T.length : Nat) : Int) < (n : Nat)))) (o_bin rfl rfl rfl) ?_
        refine h20 _ _ ?_
        clear h20
        refine seq fun K21 h21 => ?_
        refine cndP rfl (fun c22 => ?_) (fun c22 => ?_)
        ·
          refine h21 _ _ ?_
          clear h21
          refine seq fun K23 h23 => ?_
          refine seq fun K24 h24 => ?_
          refine stp (v := .int .i64 0) (o_mv rfl) ?_
          refine stp (v := .int .i64 0) (o_mv rfl) ?_
          refine stp (v := .int .i64 0) (o_mv rfl) ?_
          refine h24 _ _ ?_
          clear h24
          refine seq fun K25 h25 => ?_
          refine stp (v := .int .i64 1) (o_mv rfl) ?_
          refine h25 _ _ ?_
          clear h25
          refine lp (n := fun _ _ => False) (ι := (Nat) × (Nat) × (Nat)) (fun ⟨W, k, q⟩ f w' => f 11 = y11_ ∧ f 12 = .int .i64 (q : Nat) ∧ f 13 = .int .i64 (W : Nat) ∧ f 14 = .int .i64 (firstW l (k - 1) + cntW l (k - 1) : Nat) ∧ f 15 = .int .i64 ((ordB l (k - 1)).length : Nat) ∧ f 16 = .int .i64 (k : Nat) ∧ f 1 = y ∧ f 8 = y3 ∧ f 9 = .pointer (some ⟨b4, 0, none⟩) ∧ f 34 = .int .i64 (n : Nat) ∧ f 35 = .int .i64 (T.length : Nat) ∧ Mem w [] w' [rs3, [⟨b4, 61, ((manyL l 16 0).map i64V)⟩], r11_] ∧ (Dec l bs p k W q)) (fun ⟨W, k, q⟩ => 16 - k) (0, 1, p) ?_ ?_
          · exact ⟨rfl, by first | rfl | exact v_int (by omega) | exact v_int (by simp) | exact v_int (by simp; omega), by first | rfl | exact v_int (by omega) | exact v_int (by simp) | exact v_int (by simp; omega), by first | rfl | exact v_int (by omega) | exact v_int (by simp) | exact v_int (by simp; omega), by first | rfl | exact v_int (by omega) | exact v_int (by simp) | exact v_int (by simp; omega), by first | rfl | exact v_int (by omega) | exact v_int (by simp) | exact v_int (by simp; omega), rfl, rfl, rfl, by first | rfl | exact v_int (by omega) | exact v_int (by simp) | exact v_int (by simp; omega), by first | rfl | exact v_int (by omega) | exact v_int (by simp) | exact v_int (by simp; omega), hM18, Dec.init hD.p⟩
          · rintro ⟨W, k, q⟩ f w26 ⟨e26_11, e26_12, e26_13, e26_14, e26_15, e26_16, e26_1, e26_8, e26_9, e26_34, e26_35, hM26, hd⟩ K27 h27
            obtain ⟨frm, rfl⟩ : ∃ frm, f = (upd (upd (upd (upd (upd (upd (upd (upd (upd (upd (upd frm 11 (y11_)) 12 (.int .i64 (q : Nat))) 13 (.int .i64 (W : Nat))) 14 (.int .i64 (firstW l (k - 1) + cntW l (k - 1) : Nat))) 15 (.int .i64 ((ordB l (k - 1)).length : Nat))) 16 (.int .i64 (k : Nat))) 1 (y)) 8 (y3)) 9 (.pointer (some ⟨b4, 0, none⟩))) 34 (.int .i64 (n : Nat))) 35 (.int .i64 (T.length : Nat))) := ⟨f, by rw [upd_self e26_11, upd_self e26_12, upd_self e26_13, upd_self e26_14, upd_self e26_15, upd_self e26_16, upd_self e26_1, upd_self e26_8, upd_self e26_9, upd_self e26_34, upd_self e26_35]⟩
            clear e26_11 e26_12 e26_13 e26_14 e26_15 e26_16 e26_1 e26_8 e26_9 e26_34 e26_35
            refine seq fun K28 h28 => ?_
            refine seq fun K29 h29 => ?_
            refine seq fun K30 h30 => ?_
            refine stp (v := .int .i64 (k : Nat)) (o_mv rfl) ?_
            refine stp (v := .bool (decide ((15 : Int) < ((k : Nat) : Int)))) (o_bin rfl rfl rfl) ?_
            refine stp (v := .bool (decide ((15 : Int) < ((k : Nat) : Int)))) (o_mv rfl) ?_
            refine splitP rfl (fun c31 => ?_) (fun c31 => ?_)
            ·
              refine gno rfl (by simp) ?_
              refine gno rfl (by simp) ?_
              refine gno rfl (by simp) ?_
              refine gno rfl (by simp) ?_
              refine gno rfl (by simp) ?_
              refine stp (v := .bool true) (o_pickT rfl rfl) ?_
              refine h30 _ _ ?_
              clear h30
              refine cndT rfl ?_
              refine seq fun K32 h32 => ?_
              refine stp (v := .slice none 0 0) (o_mv rfl) ?_
              refine stp (v := .bool false) (o_mv rfl) ?_
              refine h32 _ _ ?_
              clear h32
              refine ⟨(.tuple [.slice none 0 0, .bool false].toArray), rfl, ?_⟩
              exact ⟨_, _, [], [], rfl, (Sl.nil 1 5 : SlE byteV 5 _ [] []), by rw [wordsF_none (.inr (hD.fail (by omega) (hd.out (.inl (by omega)))))]; rfl, hM26.keep (by simp)⟩
            ·
              refine stg rfl (v := .int .i64 (q : Nat)) (o_mv rfl) ?_
              refine stg rfl (v := y) (o_mv rfl) ?_
              refine stg rfl (v := .int .i64 (bs.length : Nat)) (o_lenR (hy.upd hM26.upd) rfl rfl) ?_
              refine stg rfl (v := .int .i64 (8 * (bs.length : Nat))) (o_bin rfl rfl (v_mul64 (by constructor <;> omega))) ?_
              refine stg rfl (v := .bool (decide (((q : Nat) : Int) = (8 * (bs.length : Nat))))) (o_bin rfl rfl rfl) ?_
              refine stp (v := .bool (decide (((q : Nat) : Int) = (8 * (bs.length : Nat))))) (o_pickF rfl rfl) ?_
              refine h30 _ _ ?_
              clear h30
              refine cndP rfl (fun c33 => ?_) (fun c33 => ?_)
              ·
                refine seq fun K34 h34 => ?_
                refine stp (v := .slice none 0 0) (o_mv rfl) ?_
                refine stp (v := .bool false) (o_mv rfl) ?_
                refine h34 _ _ ?_
                clear h34
                refine ⟨(.tuple [.slice none 0 0, .bool false].toArray), rfl, ?_⟩
                exact ⟨_, _, [], [], rfl, (Sl.nil 1 5 : SlE byteV 5 _ [] []), by rw [wordsF_none (.inr (hD.fail (by omega) (hd.out (.inr (by omega)))))]; rfl, hM26.keep (by simp)⟩
              ·
                refine h29 _ _ ?_
                clear h29
                refine seq fun K35 h35 => ?_
                have hqp := hd.p
                have hWb := hd.bd
                have hfi := hd.first
                have hlo := hd.low
                have hk1 := hd.k1
                have hwl := word_le (l := l) (by omega) (n := k) (by omega)
                have hbw := bitW_le bs q
                have hol := ord_len (l := l) hd.k1
                have hoa := ord_all (l := l) (k := k) (by omega)
                have hoz := ordB_le l 15 hl
                refine stp (v := .int .i64 (W : Nat)) (o_mv rfl) ?_
                refine stp (v := .int .i64 (2 * W : Nat)) (o_shl rfl rfl (by omega) (shl1 (by omega) rfl)) ?_
                refine stp (v := y) (o_mv rfl) ?_
                refine stp (v := .int .i64 (q : Nat)) (o_mv rfl) ?_
                refine stp (v := .int .i64 ((q : Nat) / 8)) (o_quo rfl rfl (by omega) (v_quo (by omega) (by omega) (by simp only [inK]; omega))) ?_
                refine m_idxE 0 (j := (q / 8)) (hy.upd hM26.upd) rfl (v_int (by omega)) (by omega) fun b36 o36 hp36 => ?_
                refine ld (v := byteV (bs.getD (q / 8) 0)) rfl (hp36) ?_
                refine stp (v := .int .i64 (q : Nat)) (o_mv rfl) ?_
                refine stp (v := .int .i64 ((q : Nat) % 8)) (o_rem rfl rfl (by omega) (v_rem (by omega))) ?_
                refine stp (v := .int .u8 ((bs.getD (q / 8) 0).toNat / 2 ^ (q % 8) : Nat)) (o_shr rfl rfl (by omega) (shr_bit (by omega))) ?_
                refine stp (v := .int .u8 (bitW bs q : Nat)) (o_bin rfl rfl (and_bit)) ?_
                refine stp (v := .int .i64 (bitW bs q : Nat)) (o_conv rfl (v_same (by simp only [inK]; omega))) ?_
                refine stp (v := .int .i64 (2 * W + bitW bs q : Nat)) (o_bin rfl rfl (or_bit (by omega) hbw)) ?_
                refine stp (v := .int .i64 (2 * W + bitW bs q : Nat)) (o_mv rfl) ?_
                refine h35 _ _ ?_
                clear h35
                refine seq fun K37 h37 => ?_
                refine stp (v := .int .i64 (q : Nat)) (o_mv rfl) ?_
                refine stp (v := .int .i64 ((q : Nat) + 1)) (o_bin rfl rfl (v_add64 (by constructor <;> omega))) ?_
                refine stp (v := .int .i64 ((q : Nat) + 1)) (o_mv rfl) ?_
                refine h37 _ _ ?_
                clear h37
                refine seq fun K38 h38 => ?_
                refine stp (v := .int .i64 (firstW l (k - 1) + cntW l (k - 1) : Nat)) (o_mv rfl) ?_
                refine stp (v := .int .i64 (firstW l k : Nat)) (o_shl rfl rfl (by omega) (shl1 (by omega) hfi)) ?_
                refine stp (v := .int .i64 (firstW l k : Nat)) (o_mv rfl) ?_
                refine h38 _ _ ?_
                clear h38
                refine seq fun K39 h39 => ?_
                refine seq fun K40 h40 => ?_
                refine stp (v := .int .i64 (2 * W + bitW bs q : Nat)) (o_mv rfl) ?_
                refine stp (v := .int .i64 (firstW l k : Nat)) (o_mv rfl) ?_
                refine stp (v := .int .i64 ((2 * W + bitW bs q : Nat) - (firstW l k : Nat))) (o_bin rfl rfl (v_sub64 (by constructor <;> omega))) ?_
                refine stp (v := .int .i64 (k : Nat)) (o_mv rfl) ?_
                refine stp (v := .pointer (some ⟨b4, k, none⟩)) (o_idxa rfl rfl (by omega) (v_ptr (by first | (rw [Int.toNat_natCast, Nat.mul_one]; done) | (simp; done) | omega))) ?_
                refine ld (v := .int .i64 (cntW l k : Nat)) rfl (((hM26.at (i := 1) (j := 0) rfl rfl).cell k).trans (many_16 (by omega) (by omega))) ?_
                refine stp (v := .bool (decide (((2 * W + bitW bs q : Nat) - (firstW l k : Nat) : Int) < (cntW l k : Nat)))) (o_bin rfl rfl rfl) ?_
                refine h40 _ _ ?_
                clear h40
                refine cndP rfl (fun c41 => ?_) (fun c41 => ?_)
                ·
                  refine seq fun K42 h42 => ?_
                  refine stp (v := y11_) (o_mv rfl) ?_
                  refine stp (v := y3) (o_mv rfl) ?_
                  refine stp (v := .int .i64 ((ordB l (k - 1)).length : Nat)) (o_mv rfl) ?_
                  refine stp (v := .int .i64 (2 * W + bitW bs q : Nat)) (o_mv rfl) ?_
                  refine stp (v := .int .i64 (((ordB l (k - 1)).length : Nat) + (2 * W + bitW bs q : Nat))) (o_bin rfl rfl (v_add64 (by constructor <;> omega))) ?_
                  refine stp (v := .int .i64 (firstW l k : Nat)) (o_mv rfl) ?_
                  refine stp (v := .int .i64 ((((ordB l (k - 1)).length : Nat) + (2 * W + bitW bs q : Nat)) - (firstW l k : Nat))) (o_bin rfl rfl (v_sub64 (by constructor <;> omega))) ?_
                  refine m_idxE 0 (j := ((ordB l (k - 1)).length + (2 * W + bitW bs q - firstW l k))) (hs3.rd hM26 (i := 0) rfl) rfl (v_int (by omega)) (by omega) fun b43 o43 hp43 => ?_
                  refine ld (v := .int .i64 ((ordB l 15).getD ((ordB l (k - 1)).length + (2 * W + bitW bs q - firstW l k)) 0 : Nat)) rfl (hp43) ?_
                  refine stp (v := .int .u8 (((ordB l 15).getD ((ordB l (k - 1)).length + (2 * W + bitW bs q - firstW l k)) 0 : Nat) % 256)) (o_conv rfl (v_u8 _)) ?_
                  refine m_app1 (E := byteV) (q := ((symN l k l.length).getD (2 * W + bitW bs q - firstW l k) 0).toUInt8) hM26 (i := 2) rfl hy11_ rfl (by simp) (sym_byte hl (by omega) (by omega) (by omega)) (by omega) (by omega) fun v44 w44 r44 u44 (hs44 : SlE byteV 5 v44 (T ++ [((symN l k l.length).getD (2 * W + bitW bs q - firstW l k) 0).toUInt8]) r44) (hM44 : Mem w [] w44 [rs3, [⟨b4, 61, ((manyL l 16 0).map i64V)⟩], r44]) => ?_
                  refine stp (v := v44) (o_mv rfl) ?_
                  refine h42 _ _ ?_
                  clear h42
                  refine h23 _ _ ?_
                  clear h23
                  refine stp (v := .int .i64 ((T.length : Nat) + 1)) (o_bin rfl rfl (v_add64 (by constructor <;> omega))) ?_
                  refine stp (v := .int .i64 ((T.length : Nat) + 1)) (o_mv rfl) ?_
                  refine h19 (T ++ [((symN l k l.length).getD (2 * W + bitW bs q - firstW l k) 0).toUInt8], q + 1, v44, r44) _ _ ⟨rfl, by first | rfl | exact v_int (by omega) | exact v_int (by simp) | exact v_int (by simp; omega), by first | rfl | exact v_int (by omega) | exact v_int (by simp) | exact v_int (by simp; omega), rfl, rfl, rfl, by first | rfl | exact v_int (by omega) | exact v_int (by simp) | exact v_int (by simp; omega), hM44, hD.step (by omega) (hd.yes (by omega) (by omega) (by omega)), by first | exact hs44 | simpa using hs44⟩ (by dsimp only; rw [List.length_append, List.length_singleton]; omega)
                ·
                  refine h39 _ _ ?_
                  clear h39
                  refine seq fun K45 h45 => ?_
                  refine stp (v := .int .i64 (firstW l k : Nat)) (o_mv rfl) ?_
                  refine stp (v := .int .i64 (k : Nat)) (o_mv rfl) ?_
                  refine stp (v := .pointer (some ⟨b4, k, none⟩)) (o_idxa rfl rfl (by omega) (v_ptr (by first | (rw [Int.toNat_natCast, Nat.mul_one]; done) | (simp; done) | omega))) ?_
                  refine ld (v := .int .i64 (cntW l k : Nat)) rfl (((hM26.at (i := 1) (j := 0) rfl rfl).cell k).trans (many_16 (by omega) (by omega))) ?_
                  refine stp (v := .int .i64 ((firstW l k : Nat) + (cntW l k : Nat))) (o_bin rfl rfl (v_add64 (by constructor <;> omega))) ?_
                  refine stp (v := .int .i64 ((firstW l k : Nat) + (cntW l k : Nat))) (o_mv rfl) ?_
                  refine h45 _ _ ?_
                  clear h45
                  refine stp (v := .int .i64 ((ordB l (k - 1)).length : Nat)) (o_mv rfl) ?_
                  refine stp (v := .int .i64 (k : Nat)) (o_mv rfl) ?_
                  refine stp (v := .pointer (some ⟨b4, k, none⟩)) (o_idxa rfl rfl (by omega) (v_ptr (by first | (rw [Int.toNat_natCast, Nat.mul_one]; done) | (simp; done) | omega))) ?_
                  refine ld (v := .int .i64 (cntW l k : Nat)) rfl (((hM26.at (i := 1) (j := 0) rfl rfl).cell k).trans (many_16 (by omega) (by omega))) ?_
                  refine stp (v := .int .i64 ((ordB l k).length : Nat)) (o_bin rfl rfl ((v_add64 (by omega)).trans (v_int (by omega)))) ?_
                  refine stp (v := .int .i64 ((ordB l k).length : Nat)) (o_mv rfl) ?_
                  refine h28 _ _ ?_
                  clear h28
                  refine stp (v := .int .i64 (k : Nat)) (o_mv rfl) ?_
                  refine stp (v := .int .i64 ((k : Nat) + 1)) (o_bin rfl rfl (v_add64 (by constructor <;> omega))) ?_
                  refine stp (v := .int .i64 ((k : Nat) + 1)) (o_mv rfl) ?_
                  refine h27 (2 * W + bitW bs q, k + 1, q + 1) _ _ ⟨rfl, by first | rfl | exact v_int (by omega) | exact v_int (by simp) | exact v_int (by simp; omega), by first | rfl | exact v_int (by omega) | exact v_int (by simp) | exact v_int (by simp; omega), by first | rfl | exact v_int (by omega) | exact v_int (by simp) | exact v_int (by simp; omega), by first | rfl | exact v_int (by omega) | exact v_int (by simp) | exact v_int (by simp; omega), by first | rfl | exact v_int (by omega) | exact v_int (by simp) | exact v_int (by simp; omega), rfl, rfl, rfl, by first | rfl | exact v_int (by omega) | exact v_int (by simp) | exact v_int (by simp; omega), by first | rfl | exact v_int (by omega) | exact v_int (by simp) | exact v_int (by simp; omega), hM26, hd.no (by omega) (by omega) (by omega)⟩ (by (try dsimp only); omega)
        ·
          refine h16 _ _ ?_
          clear h16
          refine seq fun K46 h46 => ?_
          refine seq fun K47 h47 => ?_
          have hpp := hD.p
          refine stp (v := .int .i64 (p : Nat)) (o_mv rfl) ?_
          refine stp (v := .int .i64 ((p : Nat) + 7)) (o_bin rfl rfl (v_add64 (by constructor <;> omega))) ?_
          refine stp (v := .int .i64 (((p : Nat) + 7) / 8)) (o_quo rfl rfl (by omega) (v_quo (by omega) (by omega) (by simp only [inK]; omega))) ?_
          refine stp (v := y) (o_mv rfl) ?_
          refine stp (v := .int .i64 (bs.length : Nat)) (o_lenR (hy.upd hM18.upd) rfl rfl) ?_
          refine stp (v := .bool (decide (¬ (((p : Nat) + 7) / 8 : Int) = (bs.length : Nat)))) (o_bin rfl rfl v_neq) ?_
          refine stp (v := .bool (decide (¬ (((p : Nat) + 7) / 8 : Int) = (bs.length : Nat)))) (o_mv rfl) ?_
          refine splitP rfl (fun c48 => ?_) (fun c48 => ?_)
          ·
            refine gno rfl (by simp) ?_
            refine gno rfl (by simp) ?_
            refine gno rfl (by simp) ?_
            refine gno rfl (by simp) ?_
            refine splitU rfl ?_
            refine gnou rfl ?_
            refine gnou rfl ?_
            refine gnou rfl ?_
            refine gnou rfl ?_
            refine gnolu rfl ?_
            refine gnou rfl ?_
            refine gnou rfl ?_
            refine gnou rfl ?_
            refine gnou rfl ?_
            refine gno rfl (by simp) ?_
            refine stp (v := .bool true) (o_pickT rfl rfl) ?_
            refine h47 _ _ ?_
            clear h47
            refine cndT rfl ?_
            refine seq fun K49 h49 => ?_
            refine stp (v := .slice none 0 0) (o_mv rfl) ?_
            refine stp (v := .bool false) (o_mv rfl) ?_
            refine h49 _ _ ?_
            clear h49
            refine ⟨(.tuple [.slice none 0 0, .bool false].toArray), rfl, ?_⟩
            exact ⟨_, _, [], [], rfl, (Sl.nil 1 5 : SlE byteV 5 _ [] []), by rw [wordsF_some (by omega) (hD.done (by omega))]; exact (if_neg (fun h => by have := h.1; omega)).symm, hM18.keep (by simp)⟩
          ·
            refine stg rfl (v := .int .i64 (p : Nat)) (o_mv rfl) ?_
            refine stg rfl (v := .int .i64 ((p : Nat) % 8)) (o_rem rfl rfl (by omega) (v_rem (by omega))) ?_
            refine stg rfl (v := .bool (decide (¬ ((p : Nat) % 8 : Int) = 0))) (o_bin rfl rfl v_neq) ?_
            refine stg rfl (v := .bool (decide (¬ ((p : Nat) % 8 : Int) = 0))) (o_mv rfl) ?_
            refine splitP rfl (fun c50 => ?_) (fun c50 => ?_)
            ·
              refine stg rfl (v := y) (o_mv rfl) ?_
              refine stg rfl (v := .int .i64 (p : Nat)) (o_mv rfl) ?_
              refine stg rfl (v := .int .i64 ((p : Nat) / 8)) (o_quo rfl rfl (by omega) (v_quo (by omega) (by omega) (by simp only [inK]; omega))) ?_
              refine gyes rfl rfl (m_idxE 0 (j := (p / 8)) (hy.upd hM18.upd) rfl (v_int (by omega)) (by omega) fun b51 o51 hp51 => ?_)
              refine gyesl rfl ?_
              refine ld (v := byteV (bs.getD (p / 8) 0)) rfl (hp51) ?_
              refine stg rfl (v := .int .i64 (p : Nat)) (o_mv rfl) ?_
              refine stg rfl (v := .int .i64 ((p : Nat) % 8)) (o_rem rfl rfl (by omega) (v_rem (by omega))) ?_
              refine stg rfl (v := .int .u8 ((bs.getD (p / 8) 0).toNat / 2 ^ (p % 8) : Nat)) (o_shr rfl rfl (by omega) (shr_bit (by omega))) ?_
              refine stg rfl (v := .bool (decide (¬ (((bs.getD (p / 8) 0).toNat / 2 ^ (p % 8) : Nat) : Int) = 0))) (o_bin rfl rfl v_neq) ?_
              refine stg rfl (v := .bool (decide (¬ (((bs.getD (p / 8) 0).toNat / 2 ^ (p % 8) : Nat) : Int) = 0))) (o_pickT rfl rfl) ?_
              refine stp (v := .bool (decide (¬ (((bs.getD (p / 8) 0).toNat / 2 ^ (p % 8) : Nat) : Int) = 0))) (o_pickF rfl rfl) ?_
              refine h47 _ _ ?_
              clear h47
              refine cndP rfl (fun c52 => ?_) (fun c52 => ?_)
              ·
                refine seq fun K53 h53 => ?_
                refine stp (v := .slice none 0 0) (o_mv rfl) ?_
                refine stp (v := .bool false) (o_mv rfl) ?_
                refine h53 _ _ ?_
                clear h53
                refine ⟨(.tuple [.slice none 0 0, .bool false].toArray), rfl, ?_⟩
                exact ⟨_, _, [], [], rfl, (Sl.nil 1 5 : SlE byteV 5 _ [] []), by rw [wordsF_some (by omega) (hD.done (by omega))]; exact (if_neg (fun h => by have := (tail_byte (w := bs) (e := p) (by omega) (by omega)).1 h.2; omega)).symm, hM18.keep (by simp)⟩
              ·
                refine h46 _ _ ?_
                clear h46
                refine seq fun K54 h54 => ?_
                refine stp (v := y11_) (o_mv rfl) ?_
                refine stp (v := y11_) (o_mv rfl) ?_
                refine stp (v := .bool true) (o_mv rfl) ?_
                refine h54 _ _ ?_
                clear h54
                refine ⟨(.tuple [y11_, .bool true].toArray), rfl, ?_⟩
                exact ⟨_, _, T, _, rfl, hy11_, by rw [wordsF_some (by omega) (hD.done (by omega))]; exact (if_pos ⟨by omega, (tail_byte (w := bs) (e := p) (by omega) (by omega)).2 (by omega)⟩).symm, hM18.keep (by simp)⟩
            ·
              refine gno rfl (by simp) ?_
              refine gno rfl (by simp) ?_
              refine gno rfl (by simp) ?_
              refine gno rfl (by simp) ?_
              refine gnol rfl (by simp) ?_
              refine gno rfl (by simp) ?_
              refine gno rfl (by simp) ?_
              refine gno rfl (by simp) ?_
              refine gno rfl (by simp) ?_
              refine stg rfl (v := .bool false) (o_pickF rfl rfl) ?_
              refine stp (v := .bool false) (o_pickF rfl rfl) ?_
              refine h47 _ _ ?_
              clear h47
              refine cndF rfl ?_
              refine h46 _ _ ?_
              clear h46
              refine seq fun K55 h55 => ?_
              refine stp (v := y11_) (o_mv rfl) ?_
              refine stp (v := y11_) (o_mv rfl) ?_
              refine stp (v := .bool true) (o_mv rfl) ?_
              refine h55 _ _ ?_
              clear h55
              refine ⟨(.tuple [y11_, .bool true].toArray), rfl, ?_⟩
              exact ⟨_, _, T, _, rfl, hy11_, by rw [wordsF_some (by omega) (hD.done (by omega))]; exact (if_pos ⟨by omega, tail_none (by omega) (by omega)⟩).symm, hM18.keep (by simp)⟩
