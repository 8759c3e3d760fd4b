/- Filters as bytes: the reference, and the laws' helpers. -/
import Derived.Test.YtjockanmmfmidaaG7
namespace Go.Proofs.Ytjockanmmfmidaa.E
open Go
theorem chk_ne {a : Bool} {h : Int} {d : List UInt8} (k : ¬ chk a h d = 0) : fk a h d = 0 ∧ chk a h d = 70 := by
  have : fk a h d = 0 := Decidable.byContradiction fun c => k (chk_0 c)
  exact ⟨this, chk_70 this⟩
theorem fk_true {h : Int} {d : List UInt8} (k : ¬ fk true h d = 0) : fk true h d = 1 := by
  unfold fk at k ⊢
  split
  · rfl
  · rename_i c; rw [if_neg c, if_neg (fun k => by cases k.1)] at k; exact absurd rfl k
theorem dec_h0 {b : List UInt8} (h1 : (b.length : Int) = 1) (h : ((b.getD 0 0).toNat : Int) = 0) : decF b = (false, 0, [], 0) := by
  match b, h1, h with
  | [c], _, h => rw [decF_cons, if_pos (by simpa using h)]; rfl
theorem dec_h255 {b : List UInt8} (h1 : (b.length : Int) = 1) (h : ((b.getD 0 0).toNat : Int) = 255) : decF b = (true, 0, [], 0) := by
  match b, h1, h with
  | [c], _, h =>
    have e : c.toNat = 255 := by have : ((c.toNat : Nat) : Int) = 255 := by simpa using h
                                 omega
    rw [decF_cons, if_neg (by omega), if_pos e]; rfl
theorem dec_hbad {b : List UInt8} (n0 : ¬ ((b.length : Int) = 1 ∧ ((b.getD 0 0).toNat : Int) = 0)) (n1 : ¬ ((b.length : Int) = 1 ∧ ((b.getD 0 0).toNat : Int) = 255)) (h : (b.length : Int) < 1 ∨ ((b.getD 0 0).toNat : Int) < 1 ∨ (8 : Int) < ((b.getD 0 0).toNat : Int)) : decF b = (false, 0, [], 70) := by
  cases b with
  | nil => rfl
  | cons c r =>
    have e : (c :: r).getD 0 0 = c := rfl
    rw [e] at n0 n1 h
    simp only [List.length_cons] at n0 n1 h
    rw [decF_cons]
    by_cases c0 : c.toNat = 0
    · rw [if_pos c0, if_neg (by omega)]
    · rw [if_neg c0]
      by_cases c1 : c.toNat = 255
      · rw [if_pos c1, if_neg (by omega)]
      · rw [if_neg c1, if_pos (by omega)]
theorem dec_hget {b : List UInt8} (h : ¬ (b.length : Int) < 1) (h1 : ¬ ((b.getD 0 0).toNat : Int) < 1) (h8 : ¬ (8 : Int) < ((b.getD 0 0).toNat : Int)) :
    decF b = if ¬ (get (b.drop 1)).2.2 = 0 ∨ (get (b.drop 1)).1 < 1 ∨ 4096 < (get (b.drop 1)).1 ∨ ¬ b.length = 1 + (get (b.drop 1)).2.1 + (get (b.drop 1)).1 then (false, 0, [], 70) else (false, ((b.getD 0 0).toNat : Int), b.drop (1 + (get (b.drop 1)).2.1), 0) := by
  cases b with
  | nil => simp at h
  | cons c r =>
    have e : (c :: r).getD 0 0 = c := rfl
    rw [e] at h1 h8 ⊢
    rw [decF_cons, if_neg (by omega), if_neg (by omega), if_neg (by omega), List.drop_succ_cons, List.drop_zero, Nat.add_comm 1 (get r).2.1, List.drop_succ_cons]
    by_cases g : ¬ (get r).2.2 = 0 ∨ (get r).1 < 1 ∨ 4096 < (get r).1 ∨ ¬ r.length = (get r).2.1 + (get r).1
    · rw [if_pos g, if_pos (by simp only [List.length_cons]; omega)]
    · rw [if_neg g, if_neg (by simp only [List.length_cons]; omega)]
theorem get_le {b : List UInt8} : (get b).2.1 ≤ b.length ∨ ¬ (get b).2.2 = 0 := by
  by_cases h : (get b).2.2 = 0
  · exact .inl (get_ok h).2.1
  · exact .inr h

/-- winnowref7.Encode -/
theorem refEncode_ok (a : Bool) (h : Int) (v : Value) (d : List UInt8) (w : World) (hx : RdE byteV w v d) (hl : d.length ≤ 140737488351232) : Calls Try.prog 20 [.agg [.bool a, .int .i64 h, v].toArray].toArray w (Rt fun r w' => ∃ v' rs, r = .tuple #[v', .int .i64 (encF a h d).2] ∧ SlE byteV 5 v' (encF a h d).1 rs ∧ Mem w [] w' [rs]) := by
  have hM0 : Mem w [] w [] := Mem.nil w []
  refine calls_vc mixed Try.func20 rfl C20 (by simp [Try.ntmps20]) ?_
  refine seq fun K1 h1 => ?_
  refine m_bx (v := .agg ([.bool a, .int .i64 h, v] : List Value).toArray) hM0 rfl rfl fun b2 w3 (hM3 : Mem w [] w3 [[⟨b2, 30, [.bool a, .int .i64 h, v]⟩]]) => ?_
  refine stp (v := .slice none 0 0) (o_mv rfl) ?_
  refine stp (v := .int .i64 0) (o_mv rfl) ?_
  refine h1 _ _ ?_
  clear h1
  refine seq fun K4 h4 => ?_
  refine m_ldA (l := [.bool a, .int .i64 h, v]) hM3 (i := 0) (j := 0) rfl rfl rfl rfl rfl ?_
  refine m_call (refCheck_ok a h _ d w3 (hx.upd hM3.upd) (by first | omega | (simp; done) | (simp; omega))) rfl fun v5 w5 ⟨hr5, hu5⟩ => ?_
  have hM5 : Mem w [] w5 [[⟨b2, 30, [.bool a, .int .i64 h, v]⟩]] := hM3.pure hu5
  subst hr5
  refine stp (v := .int .i64 (chk a h d)) (o_mv rfl) ?_
  refine h4 _ _ ?_
  clear h4
  refine seq fun K6 h6 => ?_
  refine seq fun K7 h7 => ?_
  refine stp (v := .int .i64 (chk a h d)) (o_mv rfl) ?_
  refine stp (v := .bool (decide (¬ (chk a h d) = 0))) (o_bin rfl rfl v_neq) ?_
  refine h7 _ _ ?_
  clear h7
  refine cndP rfl (fun c8 => ?_) (fun c8 => ?_)
  ·
    refine seq fun K9 h9 => ?_
    refine stp (v := .int .i64 (chk a h d)) (o_mv rfl) ?_
    refine stp (v := .slice none 0 0) (o_mv rfl) ?_
    refine stp (v := .int .i64 (chk a h d)) (o_mv rfl) ?_
    refine h9 _ _ ?_
    clear h9
    refine ⟨(.tuple [.slice none 0 0, .int .i64 (chk a h d)].toArray), rfl, ?_⟩
    have kf := (chk_ne (a := a) (h := h) (d := d) (by omega))
    exact ⟨_, _, by rw [encF_0 (by omega) (by omega) (by omega), kf.2], by rw [encF_0 (by omega) (by omega) (by omega)]; exact Sl.nil 1 5, ((hM5.drop 0).addNil).keep (by simp)⟩
  ·
    refine h6 _ _ ?_
    clear h6
    refine seq fun K10 h10 => ?_
    refine seq fun K11 h11 => ?_
    refine stp (v := .pointer (some ⟨b2, 0, none⟩)) (o_fa rfl rfl) ?_
    refine m_ld (v := .bool a) hM5 (i := 0) (j := 0) rfl rfl rfl rfl ?_
    refine h11 _ _ ?_
    clear h11
    refine cnd rfl (fun c12 => ?_) (fun c12 => ?_)
    ·
      refine seq fun K13 h13 => ?_
      refine m_bs hM5 rfl fun b14 w15 (hM15 : Mem w [] w15 [[⟨b2, 30, [.bool a, .int .i64 h, v]⟩], [⟨b14, 5, [.int .u8 255]⟩]]) => ?_
      refine stp (v := .slice (some ⟨b14, 0, none⟩) 1 1) (o_mv rfl) ?_
      refine stp (v := .int .i64 0) (o_mv rfl) ?_
      refine h13 _ _ ?_
      clear h13
      refine ⟨(.tuple [.slice (some ⟨b14, 0, none⟩) 1 1, .int .i64 0].toArray), rfl, ?_⟩
      have kf := (by subst c12; exact fk_true (chk_fk (a := true) (h := h) (d := d) (by omega)) : fk a h d = 1)
      exact ⟨_, _, by rw [encF_1 kf], by rw [encF_1 kf]; exact SlE.lit (l := [255]) rfl, (hM15.drop 0).keep (by simp [byteV])⟩
    ·
      refine h10 _ _ ?_
      clear h10
      refine seq fun K16 h16 => ?_
      refine seq fun K17 h17 => ?_
      refine stp (v := .pointer (some ⟨b2, 2, none⟩)) (o_fa rfl rfl) ?_
      refine m_ld (v := v) hM5 (i := 0) (j := 0) rfl rfl rfl rfl ?_
      refine stp (v := .int .i64 (d.length : Nat)) (o_lenR (hx.upd hM5.upd) rfl rfl) ?_
      refine stp (v := .bool (decide (((d.length : Nat) : Int) = 0))) (o_bin rfl rfl rfl) ?_
      refine h17 _ _ ?_
      clear h17
      refine cndP rfl (fun c18 => ?_) (fun c18 => ?_)
      ·
        refine seq fun K19 h19 => ?_
        refine m_bs hM5 rfl fun b20 w21 (hM21 : Mem w [] w21 [[⟨b2, 30, [.bool a, .int .i64 h, v]⟩], [⟨b20, 5, [.int .u8 0]⟩]]) => ?_
        refine stp (v := .slice (some ⟨b20, 0, none⟩) 1 1) (o_mv rfl) ?_
        refine stp (v := .int .i64 0) (o_mv rfl) ?_
        refine h19 _ _ ?_
        clear h19
        refine ⟨(.tuple [.slice (some ⟨b20, 0, none⟩) 1 1, .int .i64 0].toArray), rfl, ?_⟩
        have kf := (by rw [fk_empty (chk_fk (a := a) (h := h) (d := d) (by omega)) (by omega)]; simp_all : fk a h d = 2)
        exact ⟨_, _, by rw [encF_2 kf], by rw [encF_2 kf]; exact SlE.lit (l := [0]) rfl, (hM21.drop 0).keep (by simp [byteV])⟩
      ·
        refine h16 _ _ ?_
        clear h16
        refine seq fun K22 h22 => ?_
        intro wd e1 e2 e3 e4
        have hd := Upd.same e1 e2 e3 e4 []
        have hM23 := hM5.pure hd
        clear e1 e2 e3 e4
        refine ⟨(some [b2]), ?_⟩
        show vd _ _ _ _ _ _ _
        have h3f := fk_full (chk_fk (a := a) (h := h) (d := d) (by omega)) (by omega)
        have h3 := fk3 h3f
        refine dq (v := .pointer (some ⟨b2, 1, none⟩)) (o_fa rfl rfl) ?_
        refine dq (v := .pointer (some ⟨b2, 2, none⟩)) (o_fa rfl rfl) ?_
        refine dqld rfl (by simp [isHeld]) (v := v) ((hM23.at (i := 0) (j := 0) rfl rfl).cell 2) ?_
        refine dq (v := .int .i64 (d.length : Nat)) (o_lenR (hx.upd hM23.upd) rfl rfl) ?_
        refine dqld rfl (by simp [isHeld]) (v := .int .i64 h) ((hM23.at (i := 0) (j := 0) rfl rfl).cell 1) ?_
        refine dq (v := byteV h.toNat.toUInt8) (o_conv rfl (conv_h (by omega) (by omega))) ?_
        show _ ∧ _
        refine ⟨?_, ?_⟩
        ·
          show vd _ _ _ _ _ _ _
          refine dl (m_bsU hM23 rfl fun b24 w25 hup25 (hM25 : Mem w [] w25 [[⟨b2, 30, [.bool a, .int .i64 h, v]⟩], [⟨b24, 5, [byteV h.toNat.toUInt8]⟩]]) => ?_)
          have hh25 := held_upd (wr := wd) (bs := [b2]) hup25 (fun b hb => by
            simp only [List.mem_cons, List.not_mem_nil, or_false] at hb
            rw [hb]; exact ⟨(hM23.at (i := 0) (j := 0) rfl rfl).lt, by simp⟩) (fun b hb => rfl)
          refine ⟨hh25, ?_⟩
          refine dl (m_call (refPut_ok (d.length : Nat) (by simp only [inK]; omega) w25) rfl fun v26 w26 ⟨rs26, hs26, hm26⟩ => ?_)
          have hM26 : Mem w [] w26 [[⟨b2, 30, [.bool a, .int .i64 h, v]⟩], [⟨b24, 5, [byteV h.toNat.toUInt8]⟩], rs26] := hM25.add hm26
          have hn26 := putI_len (v := (d.length : Nat)) (by omega)
          have hh26 := held_upd (wr := wd) (bs := [b2]) hm26.upd (fun b hb => by
            simp only [List.mem_cons, List.not_mem_nil, or_false] at hb
            rw [hb]; exact ⟨(hM25.at (i := 0) (j := 0) rfl rfl).lt, by simp⟩) hh25
          refine ⟨hh26, ?_⟩
          have hs27 : SlE byteV 5 (.slice (some ⟨b24, 0, none⟩) 1 1) [h.toNat.toUInt8] [⟨b24, 5, [byteV h.toNat.toUInt8]⟩] := SlE.lit (l := [h.toNat.toUInt8]) rfl
          refine dl (m_appEU hM26 (i := 1) rfl hs27 rfl rfl (hs26.rd hM26 (i := 2) rfl) (by first | omega | (simp; omega)) (by omega) fun v28 w28 r28 (hs28 : SlE byteV 5 v28 (([h.toNat.toUInt8]) ++ (putI (d.length : Nat))) r28) hup28 (hM28 : Mem w [] w28 [[⟨b2, 30, [.bool a, .int .i64 h, v]⟩], r28, rs26]) => ?_)
          have hh28 := held_upd (wr := wd) (bs := [b2]) hup28 (fun b hb => by
            simp only [List.mem_cons, List.not_mem_nil, or_false] at hb
            rw [hb]; exact ⟨(hM26.at (i := 0) (j := 0) rfl rfl).lt, hM26.apart (i := 0) (j := 0) (k := 1) rfl rfl rfl (by decide)⟩) hh26
          refine ⟨hh28, ?_⟩
          refine dq (v := v28) (o_mv rfl) ?_
          refine h22 _ _ ?_
          clear h22
          refine seq fun K29 h29 => ?_
          refine stp (v := v28) (o_mv rfl) ?_
          refine stp (v := .pointer (some ⟨b2, 2, none⟩)) (o_fa rfl rfl) ?_
          refine m_ld (v := v) hM28 (i := 0) (j := 0) rfl rfl rfl rfl ?_
          refine m_appE hM28 (i := 1) rfl hs28 rfl rfl (hx.upd hM28.upd) (by first | omega | (simp; omega)) (by omega) fun v30 w30 r30 (hs30 : SlE byteV 5 v30 ((([h.toNat.toUInt8]) ++ (putI (d.length : Nat))) ++ d) r30) (hM30 : Mem w [] w30 [[⟨b2, 30, [.bool a, .int .i64 h, v]⟩], r30, rs26]) => ?_
          refine stp (v := v30) (o_mv rfl) ?_
          refine stp (v := .int .i64 0) (o_mv rfl) ?_
          refine h29 _ _ ?_
          clear h29
          refine ⟨(.tuple [v30, .int .i64 0].toArray), rfl, ?_⟩
          exact ⟨_, _, by rw [encF_3 h3f], by rw [encF_3 h3f]; simpa using hs30, (hM30.drop 0).keep (by simp)⟩
        ·
          show vd _ _ _ _ _ _ _
          refine dl (m_call (refPut_ok (d.length : Nat) (by simp only [inK]; omega) wd) rfl fun v31 w31 ⟨rs31, hs31, hm31⟩ => ?_)
          have hM31 : Mem w [] w31 [[⟨b2, 30, [.bool a, .int .i64 h, v]⟩], rs31] := hM23.add hm31
          have hn31 := putI_len (v := (d.length : Nat)) (by omega)
          have hh31 := held_upd (wr := wd) (bs := [b2]) hm31.upd (fun b hb => by
            simp only [List.mem_cons, List.not_mem_nil, or_false] at hb
            rw [hb]; exact ⟨(hM23.at (i := 0) (j := 0) rfl rfl).lt, by simp⟩) (fun b hb => rfl)
          refine ⟨hh31, ?_⟩
          refine dl (m_bsU hM31 rfl fun b32 w33 hup33 (hM33 : Mem w [] w33 [[⟨b2, 30, [.bool a, .int .i64 h, v]⟩], rs31, [⟨b32, 5, [byteV h.toNat.toUInt8]⟩]]) => ?_)
          have hh33 := held_upd (wr := wd) (bs := [b2]) hup33 (fun b hb => by
            simp only [List.mem_cons, List.not_mem_nil, or_false] at hb
            rw [hb]; exact ⟨(hM31.at (i := 0) (j := 0) rfl rfl).lt, by simp⟩) hh31
          refine ⟨hh33, ?_⟩
          have hs34 : SlE byteV 5 (.slice (some ⟨b32, 0, none⟩) 1 1) [h.toNat.toUInt8] [⟨b32, 5, [byteV h.toNat.toUInt8]⟩] := SlE.lit (l := [h.toNat.toUInt8]) rfl
          refine dl (m_appEU hM33 (i := 2) rfl hs34 rfl rfl (hs31.rd hM33 (i := 1) rfl) (by first | omega | (simp; omega)) (by omega) fun v35 w35 r35 (hs35 : SlE byteV 5 v35 (([h.toNat.toUInt8]) ++ (putI (d.length : Nat))) r35) hup35 (hM35 : Mem w [] w35 [[⟨b2, 30, [.bool a, .int .i64 h, v]⟩], rs31, r35]) => ?_)
          have hh35 := held_upd (wr := wd) (bs := [b2]) hup35 (fun b hb => by
            simp only [List.mem_cons, List.not_mem_nil, or_false] at hb
            rw [hb]; exact ⟨(hM33.at (i := 0) (j := 0) rfl rfl).lt, hM33.apart (i := 0) (j := 0) (k := 2) rfl rfl rfl (by decide)⟩) hh33
          refine ⟨hh35, ?_⟩
          refine dq (v := v35) (o_mv rfl) ?_
          refine h22 _ _ ?_
          clear h22
          refine seq fun K36 h36 => ?_
          refine stp (v := v35) (o_mv rfl) ?_
          refine stp (v := .pointer (some ⟨b2, 2, none⟩)) (o_fa rfl rfl) ?_
          refine m_ld (v := v) hM35 (i := 0) (j := 0) rfl rfl rfl rfl ?_
          refine m_appE hM35 (i := 2) rfl hs35 rfl rfl (hx.upd hM35.upd) (by first | omega | (simp; omega)) (by omega) fun v37 w37 r37 (hs37 : SlE byteV 5 v37 ((([h.toNat.toUInt8]) ++ (putI (d.length : Nat))) ++ d) r37) (hM37 : Mem w [] w37 [[⟨b2, 30, [.bool a, .int .i64 h, v]⟩], rs31, r37]) => ?_
          refine stp (v := v37) (o_mv rfl) ?_
          refine stp (v := .int .i64 0) (o_mv rfl) ?_
          refine h36 _ _ ?_
          clear h36
          refine ⟨(.tuple [v37, .int .i64 0].toArray), rfl, ?_⟩
          exact ⟨_, _, by rw [encF_3 h3f], by rw [encF_3 h3f]; simpa using hs37, (hM37.drop 0).keep (by simp)⟩

set_option maxRecDepth 100000 in
/-- winnowref7.Decode -/
theorem refDecode_ok (x : Value) (b : List UInt8) (w : World) (hx : RdE byteV w x b) (hl : b.length ≤ 140737488351232) : Calls Try.prog 23 [x].toArray w (Rt fun r w' => ∃ v rs, r = .tuple #[.agg #[.bool (decF b).1, .int .i64 (decF b).2.1, v], .int .i64 (decF b).2.2.2] ∧ SlE byteV 5 v (decF b).2.2.1 rs ∧ Mem w [] w' [rs]) := by
  have hM0 : Mem w [] w [] := Mem.nil w []
  refine calls_vc mixed Try.func23 rfl C23 (by simp [Try.ntmps23]) ?_
  refine seq fun K1 h1 => ?_
  refine m_al hM0 fun b2 w3 (hM3 : Mem w [] w3 [[⟨b2, 30, [.bool false, .int .i64 0, .slice none 0 0]⟩]]) => ?_
  refine stp (v := .int .i64 0) (o_mv rfl) ?_
  refine h1 _ _ ?_
  clear h1
  refine seq fun K4 h4 => ?_
  refine seq fun K5 h5 => ?_
  refine stp (v := x) (o_mv rfl) ?_
  refine stp (v := .int .i64 (b.length : Nat)) (o_lenR (hx.upd hM3.upd) rfl rfl) ?_
  refine stp (v := .bool (decide (((b.length : Nat) : Int) = 1))) (o_bin rfl rfl rfl) ?_
  refine stp (v := .bool (decide (((b.length : Nat) : Int) = 1))) (o_mv rfl) ?_
  refine splitP rfl (fun c6 => ?_) (fun c6 => ?_)
  ·
    refine stg rfl (v := x) (o_mv rfl) ?_
    refine gyes rfl rfl (m_idxE 0 (j := 0) (hx.upd hM3.upd) rfl rfl (by omega) fun b7 o7 hp7 => ?_)
    refine gyesl rfl ?_
    refine ld (v := byteV (b.getD 0 0)) rfl (hp7) ?_
    refine stg rfl (v := .bool (decide (((b.getD 0 0).toNat : Int) = 0))) (o_bin rfl rfl rfl) ?_
    refine stp (v := .bool (decide (((b.getD 0 0).toNat : Int) = 0))) (o_pickT rfl rfl) ?_
    refine h5 _ _ ?_
    clear h5
    refine cndP rfl (fun c8 => ?_) (fun c8 => ?_)
    ·
      refine seq fun K9 h9 => ?_
      refine stp (v := .agg ([.bool false, .int .i64 0, .slice none 0 0] : List Value).toArray) (o_bld rfl rfl) ?_
      refine m_stA (l := [.bool false, .int .i64 0, .slice none 0 0]) hM3 (i := 0) rfl rfl rfl rfl (by simp [oneCells, Value.oneCell', byteV]) (by simp) fun w10 (hM10 : Mem w [] w10 [[⟨b2, 30, [.bool false, .int .i64 0, .slice none 0 0]⟩]]) => ?_
      refine stp (v := .int .i64 0) (o_mv rfl) ?_
      refine h9 _ _ ?_
      clear h9
      show resV _ _ _ _ _
      refine res_cell (s := some 3) (by kernel_rfl) ?_
      refine vl_ldA (cs := [.bool false, .int .i64 0, .slice none 0 0]) rfl rfl ((hM10.at (i := 0) (j := 0) rfl rfl).agg rfl rfl) ?_
      refine res_tmp ?_
      refine ⟨(.tuple [.agg ([.bool false, .int .i64 0, .slice none 0 0] : List Value).toArray, .int .i64 0].toArray), rfl, ?_⟩
      first | omega | (have e := dec_h0 (b := b) (by omega) (by omega); exact ⟨_, _, by rw [e], by rw [e]; exact Sl.nil 1 5, (hM10.addNil).keep (by simp)⟩) | (have e := dec_h255 (b := b) (by omega) (by omega); exact ⟨_, _, by rw [e], by rw [e]; exact Sl.nil 1 5, (hM10.addNil).keep (by simp)⟩) | (have e := dec_hbad (b := b) (by omega) (by omega) (by omega); exact ⟨_, _, by rw [e], by rw [e]; exact Sl.nil 1 5, (hM10.addNil).keep (by simp)⟩) | (have e := (dec_hget (b := b) (by omega) (by omega) (by omega)).trans (if_pos (by omega)); exact ⟨_, _, by rw [e], by rw [e]; exact Sl.nil 1 5, (hM10.addNil).keep (by simp)⟩) | (have e := (dec_hget (b := b) (by omega) (by omega) (by omega)).trans (if_neg (by omega)); exact ⟨_, _, by rw [e], by rw [e]; assumption, (hM10.drop 0).keep (by simp)⟩)
    ·
      refine h4 _ _ ?_
      clear h4
      refine seq fun K11 h11 => ?_
      refine seq fun K12 h12 => ?_
      refine stp (v := x) (o_mv rfl) ?_
      refine stp (v := .int .i64 (b.length : Nat)) (o_lenR (hx.upd hM3.upd) rfl rfl) ?_
      refine stp (v := .bool (decide (((b.length : Nat) : Int) = 1))) (o_bin rfl rfl rfl) ?_
      refine stp (v := .bool (decide (((b.length : Nat) : Int) = 1))) (o_mv rfl) ?_
      refine splitP rfl (fun c13 => ?_) (fun c13 => ?_)
      ·
        refine stg rfl (v := x) (o_mv rfl) ?_
        refine gyes rfl rfl (m_idxE 0 (j := 0) (hx.upd hM3.upd) rfl rfl (by omega) fun b14 o14 hp14 => ?_)
        refine gyesl rfl ?_
        refine ld (v := byteV (b.getD 0 0)) rfl (hp14) ?_
        refine stg rfl (v := .bool (decide (((b.getD 0 0).toNat : Int) = 255))) (o_bin rfl rfl rfl) ?_
        refine stp (v := .bool (decide (((b.getD 0 0).toNat : Int) = 255))) (o_pickT rfl rfl) ?_
        refine h12 _ _ ?_
        clear h12
        refine cndP rfl (fun c15 => ?_) (fun c15 => ?_)
        ·
          refine seq fun K16 h16 => ?_
          refine stp (v := .agg ([.bool true, .int .i64 0, .slice none 0 0] : List Value).toArray) (o_bld rfl rfl) ?_
          refine m_stA (l := [.bool true, .int .i64 0, .slice none 0 0]) hM3 (i := 0) rfl rfl rfl rfl (by simp [oneCells, Value.oneCell', byteV]) (by simp) fun w17 (hM17 : Mem w [] w17 [[⟨b2, 30, [.bool true, .int .i64 0, .slice none 0 0]⟩]]) => ?_
          refine stp (v := .int .i64 0) (o_mv rfl) ?_
          refine h16 _ _ ?_
          clear h16
          show resV _ _ _ _ _
          refine res_cell (s := some 3) (by kernel_rfl) ?_
          refine vl_ldA (cs := [.bool true, .int .i64 0, .slice none 0 0]) rfl rfl ((hM17.at (i := 0) (j := 0) rfl rfl).agg rfl rfl) ?_
          refine res_tmp ?_
          refine ⟨(.tuple [.agg ([.bool true, .int .i64 0, .slice none 0 0] : List Value).toArray, .int .i64 0].toArray), rfl, ?_⟩
          first | omega | (have e := dec_h0 (b := b) (by omega) (by omega); exact ⟨_, _, by rw [e], by rw [e]; exact Sl.nil 1 5, (hM17.addNil).keep (by simp)⟩) | (have e := dec_h255 (b := b) (by omega) (by omega); exact ⟨_, _, by rw [e], by rw [e]; exact Sl.nil 1 5, (hM17.addNil).keep (by simp)⟩) | (have e := dec_hbad (b := b) (by omega) (by omega) (by omega); exact ⟨_, _, by rw [e], by rw [e]; exact Sl.nil 1 5, (hM17.addNil).keep (by simp)⟩) | (have e := (dec_hget (b := b) (by omega) (by omega) (by omega)).trans (if_pos (by omega)); exact ⟨_, _, by rw [e], by rw [e]; exact Sl.nil 1 5, (hM17.addNil).keep (by simp)⟩) | (have e := (dec_hget (b := b) (by omega) (by omega) (by omega)).trans (if_neg (by omega)); exact ⟨_, _, by rw [e], by rw [e]; assumption, (hM17.drop 0).keep (by simp)⟩)
        ·
          refine h11 _ _ ?_
          clear h11
          refine seq fun K18 h18 => ?_
          refine seq fun K19 h19 => ?_
          refine stp (v := x) (o_mv rfl) ?_
          refine stp (v := .int .i64 (b.length : Nat)) (o_lenR (hx.upd hM3.upd) rfl rfl) ?_
          refine stp (v := .bool (decide (((b.length : Nat) : Int) < 1))) (o_bin rfl rfl rfl) ?_
          refine stp (v := .bool (decide (((b.length : Nat) : Int) < 1))) (o_mv rfl) ?_
          refine splitP rfl (fun c20 => ?_) (fun c20 => ?_)
          ·
            refine gno rfl (by simp) ?_
            refine gno rfl (by simp) ?_
            refine gnol rfl (by simp) ?_
            refine gno rfl (by simp) ?_
            refine stp (v := .bool true) (o_pickT rfl rfl) ?_
            refine stp (v := .bool true) (o_mv rfl) ?_
            refine splitT rfl ?_
            refine gno rfl (by simp) ?_
            refine gno rfl (by simp) ?_
            refine gnol rfl (by simp) ?_
            refine gno rfl (by simp) ?_
            refine stp (v := .bool true) (o_pickT rfl rfl) ?_
            refine h19 _ _ ?_
            clear h19
            refine cndT rfl ?_
            refine seq fun K21 h21 => ?_
            refine stp (v := .agg ([.bool false, .int .i64 0, .slice none 0 0] : List Value).toArray) (o_bld rfl rfl) ?_
            refine m_stA (l := [.bool false, .int .i64 0, .slice none 0 0]) hM3 (i := 0) rfl rfl rfl rfl (by simp [oneCells, Value.oneCell', byteV]) (by simp) fun w22 (hM22 : Mem w [] w22 [[⟨b2, 30, [.bool false, .int .i64 0, .slice none 0 0]⟩]]) => ?_
            refine stp (v := .int .i64 70) (o_mv rfl) ?_
            refine h21 _ _ ?_
            clear h21
            show resV _ _ _ _ _
            refine res_cell (s := some 3) (by kernel_rfl) ?_
            refine vl_ldA (cs := [.bool false, .int .i64 0, .slice none 0 0]) rfl rfl ((hM22.at (i := 0) (j := 0) rfl rfl).agg rfl rfl) ?_
            refine res_tmp ?_
            refine ⟨(.tuple [.agg ([.bool false, .int .i64 0, .slice none 0 0] : List Value).toArray, .int .i64 70].toArray), rfl, ?_⟩
            first | omega | (have e := dec_h0 (b := b) (by omega) (by omega); exact ⟨_, _, by rw [e], by rw [e]; exact Sl.nil 1 5, (hM22.addNil).keep (by simp)⟩) | (have e := dec_h255 (b := b) (by omega) (by omega); exact ⟨_, _, by rw [e], by rw [e]; exact Sl.nil 1 5, (hM22.addNil).keep (by simp)⟩) | (have e := dec_hbad (b := b) (by omega) (by omega) (by omega); exact ⟨_, _, by rw [e], by rw [e]; exact Sl.nil 1 5, (hM22.addNil).keep (by simp)⟩) | (have e := (dec_hget (b := b) (by omega) (by omega) (by omega)).trans (if_pos (by omega)); exact ⟨_, _, by rw [e], by rw [e]; exact Sl.nil 1 5, (hM22.addNil).keep (by simp)⟩) | (have e := (dec_hget (b := b) (by omega) (by omega) (by omega)).trans (if_neg (by omega)); exact ⟨_, _, by rw [e], by rw [e]; assumption, (hM22.drop 0).keep (by simp)⟩)
          ·
            refine stg rfl (v := x) (o_mv rfl) ?_
            refine gyes rfl rfl (m_idxE 0 (j := 0) (hx.upd hM3.upd) rfl rfl (by omega) fun b23 o23 hp23 => ?_)
            refine gyesl rfl ?_
            refine ld (v := byteV (b.getD 0 0)) rfl (hp23) ?_
            refine stg rfl (v := .bool (decide (((b.getD 0 0).toNat : Int) < 1))) (o_bin rfl rfl rfl) ?_
            refine stp (v := .bool (decide (((b.getD 0 0).toNat : Int) < 1))) (o_pickF rfl rfl) ?_
            refine stp (v := .bool (decide (((b.getD 0 0).toNat : Int) < 1))) (o_mv rfl) ?_
            refine splitP rfl (fun c24 => ?_) (fun c24 => ?_)
            ·
              refine gno rfl (by simp) ?_
              refine gno rfl (by simp) ?_
              refine gnol rfl (by simp) ?_
              refine gno rfl (by simp) ?_
              refine stp (v := .bool true) (o_pickT rfl rfl) ?_
              refine h19 _ _ ?_
              clear h19
              refine cndT rfl ?_
              refine seq fun K25 h25 => ?_
              refine stp (v := .agg ([.bool false, .int .i64 0, .slice none 0 0] : List Value).toArray) (o_bld rfl rfl) ?_
              refine m_stA (l := [.bool false, .int .i64 0, .slice none 0 0]) hM3 (i := 0) rfl rfl rfl rfl (by simp [oneCells, Value.oneCell', byteV]) (by simp) fun w26 (hM26 : Mem w [] w26 [[⟨b2, 30, [.bool false, .int .i64 0, .slice none 0 0]⟩]]) => ?_
              refine stp (v := .int .i64 70) (o_mv rfl) ?_
              refine h25 _ _ ?_
              clear h25
              show resV _ _ _ _ _
              refine res_cell (s := some 3) (by kernel_rfl) ?_
              refine vl_ldA (cs := [.bool false, .int .i64 0, .slice none 0 0]) rfl rfl ((hM26.at (i := 0) (j := 0) rfl rfl).agg rfl rfl) ?_
              refine res_tmp ?_
              refine ⟨(.tuple [.agg ([.bool false, .int .i64 0, .slice none 0 0] : List Value).toArray, .int .i64 70].toArray), rfl, ?_⟩
              first | omega | (have e := dec_h0 (b := b) (by omega) (by omega); exact ⟨_, _, by rw [e], by rw [e]; exact Sl.nil 1 5, (hM26.addNil).keep (by simp)⟩) | (have e := dec_h255 (b := b) (by omega) (by omega); exact ⟨_, _, by rw [e], by rw [e]; exact Sl.nil 1 5, (hM26.addNil).keep (by simp)⟩) | (have e := dec_hbad (b := b) (by omega) (by omega) (by omega); exact ⟨_, _, by rw [e], by rw [e]; exact Sl.nil 1 5, (hM26.addNil).keep (by simp)⟩) | (have e := (dec_hget (b := b) (by omega) (by omega) (by omega)).trans (if_pos (by omega)); exact ⟨_, _, by rw [e], by rw [e]; exact Sl.nil 1 5, (hM26.addNil).keep (by simp)⟩) | (have e := (dec_hget (b := b) (by omega) (by omega) (by omega)).trans (if_neg (by omega)); exact ⟨_, _, by rw [e], by rw [e]; assumption, (hM26.drop 0).keep (by simp)⟩)
            ·
              refine stg rfl (v := x) (o_mv rfl) ?_
              refine gyes rfl rfl (m_idxE 0 (j := 0) (hx.upd hM3.upd) rfl rfl (by omega) fun b27 o27 hp27 => ?_)
              refine gyesl rfl ?_
              refine ld (v := byteV (b.getD 0 0)) rfl (hp27) ?_
              refine stg rfl (v := .bool (decide ((8 : Int) < ((b.getD 0 0).toNat : Int)))) (o_bin rfl rfl rfl) ?_
              refine stp (v := .bool (decide ((8 : Int) < ((b.getD 0 0).toNat : Int)))) (o_pickF rfl rfl) ?_
              refine h19 _ _ ?_
              clear h19
              refine cndP rfl (fun c28 => ?_) (fun c28 => ?_)
              ·
                refine seq fun K29 h29 => ?_
                refine stp (v := .agg ([.bool false, .int .i64 0, .slice none 0 0] : List Value).toArray) (o_bld rfl rfl) ?_
                refine m_stA (l := [.bool false, .int .i64 0, .slice none 0 0]) hM3 (i := 0) rfl rfl rfl rfl (by simp [oneCells, Value.oneCell', byteV]) (by simp) fun w30 (hM30 : Mem w [] w30 [[⟨b2, 30, [.bool false, .int .i64 0, .slice none 0 0]⟩]]) => ?_
                refine stp (v := .int .i64 70) (o_mv rfl) ?_
                refine h29 _ _ ?_
                clear h29
                show resV _ _ _ _ _
                refine res_cell (s := some 3) (by kernel_rfl) ?_
                refine vl_ldA (cs := [.bool false, .int .i64 0, .slice none 0 0]) rfl rfl ((hM30.at (i := 0) (j := 0) rfl rfl).agg rfl rfl) ?_
                refine res_tmp ?_
                refine ⟨(.tuple [.agg ([.bool false, .int .i64 0, .slice none 0 0] : List Value).toArray, .int .i64 70].toArray), rfl, ?_⟩
                first | omega | (have e := dec_h0 (b := b) (by omega) (by omega); exact ⟨_, _, by rw [e], by rw [e]; exact Sl.nil 1 5, (hM30.addNil).keep (by simp)⟩) | (have e := dec_h255 (b := b) (by omega) (by omega); exact ⟨_, _, by rw [e], by rw [e]; exact Sl.nil 1 5, (hM30.addNil).keep (by simp)⟩) | (have e := dec_hbad (b := b) (by omega) (by omega) (by omega); exact ⟨_, _, by rw [e], by rw [e]; exact Sl.nil 1 5, (hM30.addNil).keep (by simp)⟩) | (have e := (dec_hget (b := b) (by omega) (by omega) (by omega)).trans (if_pos (by omega)); exact ⟨_, _, by rw [e], by rw [e]; exact Sl.nil 1 5, (hM30.addNil).keep (by simp)⟩) | (have e := (dec_hget (b := b) (by omega) (by omega) (by omega)).trans (if_neg (by omega)); exact ⟨_, _, by rw [e], by rw [e]; assumption, (hM30.drop 0).keep (by simp)⟩)
              ·
                refine h18 _ _ ?_
                clear h18
                refine seq fun K31 h31 => ?_
                refine stp (v := x) (o_mv rfl) ?_
                refine m_slcE 1 b.length (hx) rfl (by omega) (by omega) rfl ⟨_, rfl⟩ fun u32 hu32 => ?_
                have hu32' : RdE byteV w u32 (b.drop 1) := by
                  have e : (b.take b.length).drop 1 = (b.drop 1) := by rw [List.take_length]
                  rw [e] at hu32; exact hu32
                refine m_call (refGet_ok _ (b.drop 1) w3 ((hu32'.upd hM3.upd)) (by first | omega | (simp; done) | (simp; omega))) rfl fun v33 w33 ⟨hr33, hu33⟩ => ?_
                have hM33 : Mem w [] w33 [[⟨b2, 30, [.bool false, .int .i64 0, .slice none 0 0]⟩]] := hM3.pure hu33
                subst hr33
                refine stp (v := .tuple [.int .i64 ((get (b.drop 1)).1 : Nat), .int .i64 ((get (b.drop 1)).2.1 : Nat), .int .i64 ((get (b.drop 1)).2.2)].toArray) (o_mv rfl) ?_
                refine stp (v := .int .i64 ((get (b.drop 1)).1 : Nat)) (o_ext rfl rfl) ?_
                refine stp (v := .int .i64 ((get (b.drop 1)).2.1 : Nat)) (o_ext rfl rfl) ?_
                refine stp (v := .int .i64 ((get (b.drop 1)).2.2)) (o_ext rfl rfl) ?_
                refine stp (v := .int .i64 ((get (b.drop 1)).1 : Nat)) (o_mv rfl) ?_
                refine stp (v := .int .i64 ((get (b.drop 1)).2.1 : Nat)) (o_mv rfl) ?_
                refine stp (v := .int .i64 ((get (b.drop 1)).2.2)) (o_mv rfl) ?_
                refine h31 _ _ ?_
                clear h31
                refine seq fun K34 h34 => ?_
                refine seq fun K35 h35 => ?_
                have hgl := get_le (b := b.drop 1)
                rw [List.length_drop] at hgl
                refine stp (v := .int .i64 ((get (b.drop 1)).2.2)) (o_mv rfl) ?_
                refine stp (v := .bool (decide (¬ ((get (b.drop 1)).2.2) = 0))) (o_bin rfl rfl v_neq) ?_
                refine stp (v := .bool (decide (¬ ((get (b.drop 1)).2.2) = 0))) (o_mv rfl) ?_
                refine splitP rfl (fun c36 => ?_) (fun c36 => ?_)
                ·
                  refine gno rfl (by simp) ?_
                  refine gno rfl (by simp) ?_
                  refine stp (v := .bool true) (o_pickT rfl rfl) ?_
                  refine stp (v := .bool true) (o_mv rfl) ?_
                  refine splitT rfl ?_
                  refine gno rfl (by simp) ?_
                  refine gno rfl (by simp) ?_
                  refine stp (v := .bool true) (o_pickT rfl rfl) ?_
                  refine stp (v := .bool true) (o_mv rfl) ?_
                  refine splitT rfl ?_
                  refine gno rfl (by simp) ?_
                  refine gno rfl (by simp) ?_
                  refine gno rfl (by simp) ?_
                  refine gno rfl (by simp) ?_
                  refine gno rfl (by simp) ?_
                  refine gno rfl (by simp) ?_
                  refine gno rfl (by simp) ?_
                  refine stp (v := .bool true) (o_pickT rfl rfl) ?_
                  refine h35 _ _ ?_
                  clear h35
                  refine cndT rfl ?_
                  refine seq fun K37 h37 => ?_
                  refine stp (v := .agg ([.bool false, .int .i64 0, .slice none 0 0] : List Value).toArray) (o_bld rfl rfl) ?_
                  refine m_stA (l := [.bool false, .int .i64 0, .slice none 0 0]) hM33 (i := 0) rfl rfl rfl rfl (by simp [oneCells, Value.oneCell', byteV]) (by simp) fun w38 (hM38 : Mem w [] w38 [[⟨b2, 30, [.bool false, .int .i64 0, .slice none 0 0]⟩]]) => ?_
                  refine stp (v := .int .i64 70) (o_mv rfl) ?_
                  refine h37 _ _ ?_
                  clear h37
                  show resV _ _ _ _ _
                  refine res_cell (s := some 3) (by kernel_rfl) ?_
                  refine vl_ldA (cs := [.bool false, .int .i64 0, .slice none 0 0]) rfl rfl ((hM38.at (i := 0) (j := 0) rfl rfl).agg rfl rfl) ?_
                  refine res_tmp ?_
                  refine ⟨(.tuple [.agg ([.bool false, .int .i64 0, .slice none 0 0] : List Value).toArray, .int .i64 70].toArray), rfl, ?_⟩
                  first | omega | (have e := dec_h0 (b := b) (by omega) (by omega); exact ⟨_, _, by rw [e], by rw [e]; exact Sl.nil 1 5, (hM38.addNil).keep (by simp)⟩) | (have e := dec_h255 (b := b) (by omega) (by omega); exact ⟨_, _, by rw [e], by rw [e]; exact Sl.nil 1 5, (hM38.addNil).keep (by simp)⟩) | (have e := dec_hbad (b := b) (by omega) (by omega) (by omega); exact ⟨_, _, by rw [e], by rw [e]; exact Sl.nil 1 5, (hM38.addNil).keep (by simp)⟩) | (have e := (dec_hget (b := b) (by omega) (by omega) (by omega)).trans (if_pos (by omega)); exact ⟨_, _, by rw [e], by rw [e]; exact Sl.nil 1 5, (hM38.addNil).keep (by simp)⟩) | (have e := (dec_hget (b := b) (by omega) (by omega) (by omega)).trans (if_neg (by omega)); exact ⟨_, _, by rw [e], by rw [e]; assumption, (hM38.drop 0).keep (by simp)⟩)
                ·
                  refine stg rfl (v := .int .i64 ((get (b.drop 1)).1 : Nat)) (o_mv rfl) ?_
                  refine stg rfl (v := .bool (decide ((((get (b.drop 1)).1 : Nat) : Int) < 1))) (o_bin rfl rfl rfl) ?_
                  refine stp (v := .bool (decide ((((get (b.drop 1)).1 : Nat) : Int) < 1))) (o_pickF rfl rfl) ?_
                  refine stp (v := .bool (decide ((((get (b.drop 1)).1 : Nat) : Int) < 1))) (o_mv rfl) ?_
                  refine splitP rfl (fun c39 => ?_) (fun c39 => ?_)
                  ·
                    refine gno rfl (by simp) ?_
                    refine gno rfl (by simp) ?_
                    refine stp (v := .bool true) (o_pickT rfl rfl) ?_
                    refine stp (v := .bool true) (o_mv rfl) ?_
                    refine splitT rfl ?_
                    refine gno rfl (by simp) ?_
                    refine gno rfl (by simp) ?_
                    refine gno rfl (by simp) ?_
                    refine gno rfl (by simp) ?_
                    refine gno rfl (by simp) ?_
                    refine gno rfl (by simp) ?_
                    refine gno rfl (by simp) ?_
                    refine stp (v := .bool true) (o_pickT rfl rfl) ?_
                    refine h35 _ _ ?_
                    clear h35
                    refine cndT rfl ?_
                    refine seq fun K40 h40 => ?_
                    refine stp (v := .agg ([.bool false, .int .i64 0, .slice none 0 0] : List Value).toArray) (o_bld rfl rfl) ?_
                    refine m_stA (l := [.bool false, .int .i64 0, .slice none 0 0]) hM33 (i := 0) rfl rfl rfl rfl (by simp [oneCells, Value.oneCell', byteV]) (by simp) fun w41 (hM41 : Mem w [] w41 [[⟨b2, 30, [.bool false, .int .i64 0, .slice none 0 0]⟩]]) => ?_
                    refine stp (v := .int .i64 70) (o_mv rfl) ?_
                    refine h40 _ _ ?_
                    clear h40
                    show resV _ _ _ _ _
                    refine res_cell (s := some 3) (by kernel_rfl) ?_
                    refine vl_ldA (cs := [.bool false, .int .i64 0, .slice none 0 0]) rfl rfl ((hM41.at (i := 0) (j := 0) rfl rfl).agg rfl rfl) ?_
                    refine res_tmp ?_
                    refine ⟨(.tuple [.agg ([.bool false, .int .i64 0, .slice none 0 0] : List Value).toArray, .int .i64 70].toArray), rfl, ?_⟩
                    first | omega | (have e := dec_h0 (b := b) (by omega) (by omega); exact ⟨_, _, by rw [e], by rw [e]; exact Sl.nil 1 5, (hM41.addNil).keep (by simp)⟩) | (have e := dec_h255 (b := b) (by omega) (by omega); exact ⟨_, _, by rw [e], by rw [e]; exact Sl.nil 1 5, (hM41.addNil).keep (by simp)⟩) | (have e := dec_hbad (b := b) (by omega) (by omega) (by omega); exact ⟨_, _, by rw [e], by rw [e]; exact Sl.nil 1 5, (hM41.addNil).keep (by simp)⟩) | (have e := (dec_hget (b := b) (by omega) (by omega) (by omega)).trans (if_pos (by omega)); exact ⟨_, _, by rw [e], by rw [e]; exact Sl.nil 1 5, (hM41.addNil).keep (by simp)⟩) | (have e := (dec_hget (b := b) (by omega) (by omega) (by omega)).trans (if_neg (by omega)); exact ⟨_, _, by rw [e], by rw [e]; assumption, (hM41.drop 0).keep (by simp)⟩)
                  ·
                    refine stg rfl (v := .int .i64 ((get (b.drop 1)).1 : Nat)) (o_mv rfl) ?_
                    refine stg rfl (v := .bool (decide ((4096 : Int) < (((get (b.drop 1)).1 : Nat) : Int)))) (o_bin rfl rfl rfl) ?_
                    refine stp (v := .bool (decide ((4096 : Int) < (((get (b.drop 1)).1 : Nat) : Int)))) (o_pickF rfl rfl) ?_
                    refine stp (v := .bool (decide ((4096 : Int) < (((get (b.drop 1)).1 : Nat) : Int)))) (o_mv rfl) ?_
                    refine splitP rfl (fun c42 => ?_) (fun c42 => ?_)
                    ·
                      refine gno rfl (by simp) ?_
                      refine gno rfl (by simp) ?_
                      refine gno rfl (by simp) ?_
                      refine gno rfl (by simp) ?_
                      refine gno rfl (by simp) ?_
                      refine gno rfl (by simp) ?_
                      refine gno rfl (by simp) ?_
                      refine stp (v := .bool true) (o_pickT rfl rfl) ?_
                      refine h35 _ _ ?_
                      clear h35
                      refine cndT rfl ?_
                      refine seq fun K43 h43 => ?_
                      refine stp (v := .agg ([.bool false, .int .i64 0, .slice none 0 0] : List Value).toArray) (o_bld rfl rfl) ?_
                      refine m_stA (l := [.bool false, .int .i64 0, .slice none 0 0]) hM33 (i := 0) rfl rfl rfl rfl (by simp [oneCells, Value.oneCell', byteV]) (by simp) fun w44 (hM44 : Mem w [] w44 [[⟨b2, 30, [.bool false, .int .i64 0, .slice none 0 0]⟩]]) => ?_
                      refine stp (v := .int .i64 70) (o_mv rfl) ?_
                      refine h43 _ _ ?_
                      clear h43
                      show resV _ _ _ _ _
                      refine res_cell (s := some 3) (by kernel_rfl) ?_
                      refine vl_ldA (cs := [.bool false, .int .i64 0, .slice none 0 0]) rfl rfl ((hM44.at (i := 0) (j := 0) rfl rfl).agg rfl rfl) ?_
                      refine res_tmp ?_
                      refine ⟨(.tuple [.agg ([.bool false, .int .i64 0, .slice none 0 0] : List Value).toArray, .int .i64 70].toArray), rfl, ?_⟩
                      first | omega | (have e := dec_h0 (b := b) (by omega) (by omega); exact ⟨_, _, by rw [e], by rw [e]; exact Sl.nil 1 5, (hM44.addNil).keep (by simp)⟩) | (have e := dec_h255 (b := b) (by omega) (by omega); exact ⟨_, _, by rw [e], by rw [e]; exact Sl.nil 1 5, (hM44.addNil).keep (by simp)⟩) | (have e := dec_hbad (b := b) (by omega) (by omega) (by omega); exact ⟨_, _, by rw [e], by rw [e]; exact Sl.nil 1 5, (hM44.addNil).keep (by simp)⟩) | (have e := (dec_hget (b := b) (by omega) (by omega) (by omega)).trans (if_pos (by omega)); exact ⟨_, _, by rw [e], by rw [e]; exact Sl.nil 1 5, (hM44.addNil).keep (by simp)⟩) | (have e := (dec_hget (b := b) (by omega) (by omega) (by omega)).trans (if_neg (by omega)); exact ⟨_, _, by rw [e], by rw [e]; assumption, (hM44.drop 0).keep (by simp)⟩)
                    ·
                      refine stg rfl (v := x) (o_mv rfl) ?_
                      refine stg rfl (v := .int .i64 (b.length : Nat)) (o_lenR (hx.upd hM33.upd) rfl rfl) ?_
                      refine stg rfl (v := .int .i64 ((get (b.drop 1)).2.1 : Nat)) (o_mv rfl) ?_
                      refine stg rfl (v := .int .i64 (1 + ((get (b.drop 1)).2.1 : Nat))) (o_bin rfl rfl (v_add64 (by constructor <;> omega))) ?_
                      refine stg rfl (v := .int .i64 ((get (b.drop 1)).1 : Nat)) (o_mv rfl) ?_
                      refine stg rfl (v := .int .i64 ((1 + ((get (b.drop 1)).2.1 : Nat)) + ((get (b.drop 1)).1 : Nat))) (o_bin rfl rfl (v_add64 (by constructor <;> omega))) ?_
                      refine stg rfl (v := .bool (decide (¬ ((b.length : Nat) : Int) = ((1 + ((get (b.drop 1)).2.1 : Nat)) + ((get (b.drop 1)).1 : Nat))))) (o_bin rfl rfl v_neq) ?_
                      refine stp (v := .bool (decide (¬ ((b.length : Nat) : Int) = ((1 + ((get (b.drop 1)).2.1 : Nat)) + ((get (b.drop 1)).1 : Nat))))) (o_pickF rfl rfl) ?_
                      refine h35 _ _ ?_
                      clear h35
                      refine cndP rfl (fun c45 => ?_) (fun c45 => ?_)
                      ·
                        refine seq fun K46 h46 => ?_
                        refine stp (v := .agg ([.bool false, .int .i64 0, .slice none 0 0] : List Value).toArray) (o_bld rfl rfl) ?_
                        refine m_stA (l := [.bool false, .int .i64 0, .slice none 0 0]) hM33 (i := 0) rfl rfl rfl rfl (by simp [oneCells, Value.oneCell', byteV]) (by simp) fun w47 (hM47 : Mem w [] w47 [[⟨b2, 30, [.bool false, .int .i64 0, .slice none 0 0]⟩]]) => ?_
                        refine stp (v := .int .i64 70) (o_mv rfl) ?_
                        refine h46 _ _ ?_
                        clear h46
                        show resV _ _ _ _ _
                        refine res_cell (s := some 3) (by kernel_rfl) ?_
                        refine vl_ldA (cs := [.bool false, .int .i64 0, .slice none 0 0]) rfl rfl ((hM47.at (i := 0) (j := 0) rfl rfl).agg rfl rfl) ?_
                        refine res_tmp ?_
                        refine ⟨(.tuple [.agg ([.bool false, .int .i64 0, .slice none 0 0] : List Value).toArray, .int .i64 70].toArray), rfl, ?_⟩
                        first | omega | (have e := dec_h0 (b := b) (by omega) (by omega); exact ⟨_, _, by rw [e], by rw [e]; exact Sl.nil 1 5, (hM47.addNil).keep (by simp)⟩) | (have e := dec_h255 (b := b) (by omega) (by omega); exact ⟨_, _, by rw [e], by rw [e]; exact Sl.nil 1 5, (hM47.addNil).keep (by simp)⟩) | (have e := dec_hbad (b := b) (by omega) (by omega) (by omega); exact ⟨_, _, by rw [e], by rw [e]; exact Sl.nil 1 5, (hM47.addNil).keep (by simp)⟩) | (have e := (dec_hget (b := b) (by omega) (by omega) (by omega)).trans (if_pos (by omega)); exact ⟨_, _, by rw [e], by rw [e]; exact Sl.nil 1 5, (hM47.addNil).keep (by simp)⟩) | (have e := (dec_hget (b := b) (by omega) (by omega) (by omega)).trans (if_neg (by omega)); exact ⟨_, _, by rw [e], by rw [e]; assumption, (hM47.drop 0).keep (by simp)⟩)
                      ·
                        refine h34 _ _ ?_
                        clear h34
                        refine seq fun K48 h48 => ?_
                        intro wd e1 e2 e3 e4
                        have hd := Upd.same e1 e2 e3 e4 []
                        have hM49 := hM33.pure hd
                        clear e1 e2 e3 e4
                        refine ⟨(some [(blkV x)]), ?_⟩
                        show vd _ _ _ _ _ _ _
                        refine dq (v := x) (o_mv rfl) ?_
                        refine dqp (m_idxE2 0 (j := 0) (hx.upd hM49.upd) rfl rfl (by omega) fun b50 o50 hp50 hbb50 => ?_)
                        show vd _ _ _ _ _ _ _
                        subst hbb50
                        refine dq (v := x) (o_mv rfl) ?_
                        refine dq (v := .int .i64 ((get (b.drop 1)).2.1 : Nat)) (o_mv rfl) ?_
                        refine dq (v := .int .i64 (1 + ((get (b.drop 1)).2.1 : Nat))) (o_bin rfl rfl (v_add64 (by constructor <;> omega))) ?_
                        refine dqp (m_slcE (1 + (get (b.drop 1)).2.1) b.length (hx) rfl (by omega) (by omega) rfl ⟨_, v_int (by omega)⟩ fun u51 hu51 => ?_)
                        show vd _ _ _ _ _ _ _
                        have hu51' : RdE byteV w u51 (b.drop (1 + (get (b.drop 1)).2.1)) := by
                          have e : (b.take b.length).drop (1 + (get (b.drop 1)).2.1) = (b.drop (1 + (get (b.drop 1)).2.1)) := by rw [List.take_length]
                          rw [e] at hu51; exact hu51
                        refine dqld rfl (by simp [isHeld]) (v := byteV (b.getD 0 0)) (hp50) ?_
                        refine dq (v := .int .i64 ((b.getD 0 0).toNat : Int)) (o_conv rfl (v_byteTo (by decide))) ?_
                        refine dl (m_bsU hM49 rfl fun b52 w53 hup53 (hM53 : Mem w [] w53 [[⟨b2, 30, [.bool false, .int .i64 0, .slice none 0 0]⟩], [⟨b52, 5, []⟩]]) => ?_)
                        have hh53 := held_upd (wr := wd) (bs := [(blkV x)]) hup53 (fun b hb => by
                          simp only [List.mem_cons, List.not_mem_nil, or_false] at hb
                          rw [hb]; exact ⟨Rd.blkV_lt (hx.upd hM49.upd) (by omega), by simp⟩) (fun b hb => rfl)
                        refine ⟨hh53, ?_⟩
                        have hs54 : SlE byteV 5 (.slice (some ⟨b52, 0, none⟩) 0 0) [] [⟨b52, 5, []⟩] := SlE.lit (l := []) rfl
                        refine dl (m_appEU hM53 (i := 1) rfl hs54 rfl rfl ((hu51'.upd hM53.upd)) (by first | omega | (simp; omega)) (by omega) fun v55 w55 r55 (hs55 : SlE byteV 5 v55 (b.drop (1 + (get (b.drop 1)).2.1)) r55) hup55 (hM55 : Mem w [] w55 [[⟨b2, 30, [.bool false, .int .i64 0, .slice none 0 0]⟩], r55]) => ?_)
                        have hh55 := held_upd (wr := wd) (bs := [(blkV x)]) hup55 (fun b hb => by
                          simp only [List.mem_cons, List.not_mem_nil, or_false] at hb
                          rw [hb]; exact ⟨Rd.blkV_lt (hx.upd hM53.upd) (by omega), hM53.old (i := 1) rfl (Rd.blkV_lt hx (by omega))⟩) hh53
                        refine ⟨hh55, ?_⟩
                        obtain ⟨a56_, n56_, c56_, rfl⟩ := Sl.isSlice hs55
                        refine dq (v := .agg ([.bool false, .int .i64 ((b.getD 0 0).toNat : Int), (.slice a56_ n56_ c56_)] : List Value).toArray) (o_bld rfl rfl) ?_
                        refine dl (m_stAU (l := [.bool false, .int .i64 ((b.getD 0 0).toNat : Int), (.slice a56_ n56_ c56_)]) hM55 (i := 0) rfl rfl rfl rfl (by simp [oneCells, Value.oneCell', byteV]) (by simp) fun w57 hup57 (hM57 : Mem w [] w57 [[⟨b2, 30, [.bool false, .int .i64 ((b.getD 0 0).toNat : Int), (.slice a56_ n56_ c56_)]⟩], r55]) => ?_)
                        have hh57 := held_upd (wr := wd) (bs := [(blkV x)]) hup57 (fun b hb => by
                          simp only [List.mem_cons, List.not_mem_nil, or_false] at hb
                          rw [hb]; exact ⟨Rd.blkV_lt (hx.upd hM55.upd) (by omega), hM55.old (i := 0) rfl (Rd.blkV_lt hx (by omega))⟩) hh55
                        refine ⟨hh57, ?_⟩
                        refine dq (v := .int .i64 0) (o_mv rfl) ?_
                        refine h48 _ _ ?_
                        clear h48
                        show resV _ _ _ _ _
                        refine res_cell (s := some 3) (by kernel_rfl) ?_
                        refine vl_ldA (cs := [.bool false, .int .i64 ((b.getD 0 0).toNat : Int), (.slice a56_ n56_ c56_)]) rfl rfl ((hM57.at (i := 0) (j := 0) rfl rfl).agg rfl rfl) ?_
                        refine res_tmp ?_
                        refine ⟨(.tuple [.agg ([.bool false, .int .i64 ((b.getD 0 0).toNat : Int), (.slice a56_ n56_ c56_)] : List Value).toArray, .int .i64 0].toArray), rfl, ?_⟩
                        first | omega | (have e := dec_h0 (b := b) (by omega) (by omega); exact ⟨_, _, by rw [e], by rw [e]; exact Sl.nil 1 5, (hM57.addNil).keep (by simp)⟩) | (have e := dec_h255 (b := b) (by omega) (by omega); exact ⟨_, _, by rw [e], by rw [e]; exact Sl.nil 1 5, (hM57.addNil).keep (by simp)⟩) | (have e := dec_hbad (b := b) (by omega) (by omega) (by omega); exact ⟨_, _, by rw [e], by rw [e]; exact Sl.nil 1 5, (hM57.addNil).keep (by simp)⟩) | (have e := (dec_hget (b := b) (by omega) (by omega) (by omega)).trans (if_pos (by omega)); exact ⟨_, _, by rw [e], by rw [e]; exact Sl.nil 1 5, (hM57.addNil).keep (by simp)⟩) | (have e := (dec_hget (b := b) (by omega) (by omega) (by omega)).trans (if_neg (by omega)); exact ⟨_, _, by rw [e], by rw [e]; assumption, (hM57.drop 0).keep (by simp)⟩)
      ·
        refine gno rfl (by simp) ?_
        refine gno rfl (by simp) ?_
        refine gnol rfl (by simp) ?_
        refine gno rfl (by simp) ?_
        refine stp (v := .bool false) (o_pickF rfl rfl) ?_
        refine h12 _ _ ?_
        clear h12
        refine cndF rfl ?_
        refine h11 _ _ ?_
        clear h11
        refine seq fun K58 h58 => ?_
        refine seq fun K59 h59 => ?_
        refine stp (v := x) (o_mv rfl) ?_
        refine stp (v := .int .i64 (b.length : Nat)) (o_lenR (hx.upd hM3.upd) rfl rfl) ?_
        refine stp (v := .bool (decide (((b.length : Nat) : Int) < 1))) (o_bin rfl rfl rfl) ?_
        refine stp (v := .bool (decide (((b.length : Nat) : Int) < 1))) (o_mv rfl) ?_
        refine splitP rfl (fun c60 => ?_) (fun c60 => ?_)
        ·
          refine gno rfl (by simp) ?_
          refine gno rfl (by simp) ?_
          refine gnol rfl (by simp) ?_
          refine gno rfl (by simp) ?_
          refine stp (v := .bool true) (o_pickT rfl rfl) ?_
          refine stp (v := .bool true) (o_mv rfl) ?_
          refine splitT rfl ?_
          refine gno rfl (by simp) ?_
          refine gno rfl (by simp) ?_
          refine gnol rfl (by simp) ?_
          refine gno rfl (by simp) ?_
          refine stp (v := .bool true) (o_pickT rfl rfl) ?_
          refine h59 _ _ ?_
          clear h59
          refine cndT rfl ?_
          refine seq fun K61 h61 => ?_
          refine stp (v := .agg ([.bool false, .int .i64 0, .slice none 0 0] : List Value).toArray) (o_bld rfl rfl) ?_
          refine m_stA (l := [.bool false, .int .i64 0, .slice none 0 0]) hM3 (i := 0) rfl rfl rfl rfl (by simp [oneCells, Value.oneCell', byteV]) (by simp) fun w62 (hM62 : Mem w [] w62 [[⟨b2, 30, [.bool false, .int .i64 0, .slice none 0 0]⟩]]) => ?_
          refine stp (v := .int .i64 70) (o_mv rfl) ?_
          refine h61 _ _ ?_
          clear h61
          show resV _ _ _ _ _
          refine res_cell (s := some 3) (by kernel_rfl) ?_
          refine vl_ldA (cs := [.bool false, .int .i64 0, .slice none 0 0]) rfl rfl ((hM62.at (i := 0) (j := 0) rfl rfl).agg rfl rfl) ?_
          refine res_tmp ?_
          refine ⟨(.tuple [.agg ([.bool false, .int .i64 0, .slice none 0 0] : List Value).toArray, .int .i64 70].toArray), rfl, ?_⟩
          first | omega | (have e := dec_h0 (b := b) (by omega) (by omega); exact ⟨_, _, by rw [e], by rw [e]; exact Sl.nil 1 5, (hM62.addNil).keep (by simp)⟩) | (have e := dec_h255 (b := b) (by omega) (by omega); exact ⟨_, _, by rw [e], by rw [e]; exact Sl.nil 1 5, (hM62.addNil).keep (by simp)⟩) | (have e := dec_hbad (b := b) (by omega) (by omega) (by omega); exact ⟨_, _, by rw [e], by rw [e]; exact Sl.nil 1 5, (hM62.addNil).keep (by simp)⟩) | (have e := (dec_hget (b := b) (by omega) (by omega) (by omega)).trans (if_pos (by omega)); exact ⟨_, _, by rw [e], by rw [e]; exact Sl.nil 1 5, (hM62.addNil).keep (by simp)⟩) | (have e := (dec_hget (b := b) (by omega) (by omega) (by omega)).trans (if_neg (by omega)); exact ⟨_, _, by rw [e], by rw [e]; assumption, (hM62.drop 0).keep (by simp)⟩)
        ·
          refine stg rfl (v := x) (o_mv rfl) ?_
          refine gyes rfl rfl (m_idxE 0 (j := 0) (hx.upd hM3.upd) rfl rfl (by omega) fun b63 o63 hp63 => ?_)
          refine gyesl rfl ?_
          refine ld (v := byteV (b.getD 0 0)) rfl (hp63) ?_
          refine stg rfl (v := .bool (decide (((b.getD 0 0).toNat : Int) < 1))) (o_bin rfl rfl rfl) ?_
          refine stp (v := .bool (decide (((b.getD 0 0).toNat : Int) < 1))) (o_pickF rfl rfl) ?_
          refine stp (v := .bool (decide (((b.getD 0 0).toNat : Int) < 1))) (o_mv rfl) ?_
          refine splitP rfl (fun c64 => ?_) (fun c64 => ?_)
          ·
            refine gno rfl (by simp) ?_
            refine gno rfl (by simp) ?_
            refine gnol rfl (by simp) ?_
            refine gno rfl (by simp) ?_
            refine stp (v := .bool true) (o_pickT rfl rfl) ?_
            refine h59 _ _ ?_
            clear h59
            refine cndT rfl ?_
            refine seq fun K65 h65 => ?_
            refine stp (v := .agg ([.bool false, .int .i64 0, .slice none 0 0] : List Value).toArray) (o_bld rfl rfl) ?_
            refine m_stA (l := [.bool false, .int .i64 0, .slice none 0 0]) hM3 (i := 0) rfl rfl rfl rfl (by simp [oneCells, Value.oneCell', byteV]) (by simp) fun w66 (hM66 : Mem w [] w66 [[⟨b2, 30, [.bool false, .int .i64 0, .slice none 0 0]⟩]]) => ?_
            refine stp (v := .int .i64 70) (o_mv rfl) ?_
            refine h65 _ _ ?_
            clear h65
            show resV _ _ _ _ _
            refine res_cell (s := some 3) (by kernel_rfl) ?_
            refine vl_ldA (cs := [.bool false, .int .i64 0, .slice none 0 0]) rfl rfl ((hM66.at (i := 0) (j := 0) rfl rfl).agg rfl rfl) ?_
            refine res_tmp ?_
            refine ⟨(.tuple [.agg ([.bool false, .int .i64 0, .slice none 0 0] : List Value).toArray, .int .i64 70].toArray), rfl, ?_⟩
            first | omega | (have e := dec_h0 (b := b) (by omega) (by omega); exact ⟨_, _, by rw [e], by rw [e]; exact Sl.nil 1 5, (hM66.addNil).keep (by simp)⟩) | (have e := dec_h255 (b := b) (by omega) (by omega); exact ⟨_, _, by rw [e], by rw [e]; exact Sl.nil 1 5, (hM66.addNil).keep (by simp)⟩) | (have e := dec_hbad (b := b) (by omega) (by omega) (by omega); exact ⟨_, _, by rw [e], by rw [e]; exact Sl.nil 1 5, (hM66.addNil).keep (by simp)⟩) | (have e := (dec_hget (b := b) (by omega) (by omega) (by omega)).trans (if_pos (by omega)); exact ⟨_, _, by rw [e], by rw [e]; exact Sl.nil 1 5, (hM66.addNil).keep (by simp)⟩) | (have e := (dec_hget (b := b) (by omega) (by omega) (by omega)).trans (if_neg (by omega)); exact ⟨_, _, by rw [e], by rw [e]; assumption, (hM66.drop 0).keep (by simp)⟩)
          ·
            refine stg rfl (v := x) (o_mv rfl) ?_
            refine gyes rfl rfl (m_idxE 0 (j := 0) (hx.upd hM3.upd) rfl rfl (by omega) fun b67 o67 hp67 => ?_)
            refine gyesl rfl ?_
            refine ld (v := byteV (b.getD 0 0)) rfl (hp67) ?_
            refine stg rfl (v := .bool (decide ((8 : Int) < ((b.getD 0 0).toNat : Int)))) (o_bin rfl rfl rfl) ?_
            refine stp (v := .bool (decide ((8 : Int) < ((b.getD 0 0).toNat : Int)))) (o_pickF rfl rfl) ?_
            refine h59 _ _ ?_
            clear h59
            refine cndP rfl (fun c68 => ?_) (fun c68 => ?_)
            ·
              refine seq fun K69 h69 => ?_
              refine stp (v := .agg ([.bool false, .int .i64 0, .slice none 0 0] : List Value).toArray) (o_bld rfl rfl) ?_
              refine m_stA (l := [.bool false, .int .i64 0, .slice none 0 0]) hM3 (i := 0) rfl rfl rfl rfl (by simp [oneCells, Value.oneCell', byteV]) (by simp) fun w70 (hM70 : Mem w [] w70 [[⟨b2, 30, [.bool false, .int .i64 0, .slice none 0 0]⟩]]) => ?_
              refine stp (v := .int .i64 70) (o_mv rfl) ?_
              refine h69 _ _ ?_
              clear h69
              show resV _ _ _ _ _
              refine res_cell (s := some 3) (by kernel_rfl) ?_
              refine vl_ldA (cs := [.bool false, .int .i64 0, .slice none 0 0]) rfl rfl ((hM70.at (i := 0) (j := 0) rfl rfl).agg rfl rfl) ?_
              refine res_tmp ?_
              refine ⟨(.tuple [.agg ([.bool false, .int .i64 0, .slice none 0 0] : List Value).toArray, .int .i64 70].toArray), rfl, ?_⟩
              first | omega | (have e := dec_h0 (b := b) (by omega) (by omega); exact ⟨_, _, by rw [e], by rw [e]; exact Sl.nil 1 5, (hM70.addNil).keep (by simp)⟩) | (have e := dec_h255 (b := b) (by omega) (by omega); exact ⟨_, _, by rw [e], by rw [e]; exact Sl.nil 1 5, (hM70.addNil).keep (by simp)⟩) | (have e := dec_hbad (b := b) (by omega) (by omega) (by omega); exact ⟨_, _, by rw [e], by rw [e]; exact Sl.nil 1 5, (hM70.addNil).keep (by simp)⟩) | (have e := (dec_hget (b := b) (by omega) (by omega) (by omega)).trans (if_pos (by omega)); exact ⟨_, _, by rw [e], by rw [e]; exact Sl.nil 1 5, (hM70.addNil).keep (by simp)⟩) | (have e := (dec_hget (b := b) (by omega) (by omega) (by omega)).trans (if_neg (by omega)); exact ⟨_, _, by rw [e], by rw [e]; assumption, (hM70.drop 0).keep (by simp)⟩)
            ·
              refine h58 _ _ ?_
              clear h58
              refine seq fun K71 h71 => ?_
              refine stp (v := x) (o_mv rfl) ?_
              refine m_slcE 1 b.length (hx) rfl (by omega) (by omega) rfl ⟨_, rfl⟩ fun u72 hu72 => ?_
              have hu72' : RdE byteV w u72 (b.drop 1) := by
                have e : (b.take b.length).drop 1 = (b.drop 1) := by rw [List.take_length]
                rw [e] at hu72; exact hu72
              refine m_call (refGet_ok _ (b.drop 1) w3 ((hu72'.upd hM3.upd)) (by first | omega | (simp; done) | (simp; omega))) rfl fun v73 w73 ⟨hr73, hu73⟩ => ?_
              have hM73 : Mem w [] w73 [[⟨b2, 30, [.bool false, .int .i64 0, .slice none 0 0]⟩]] := hM3.pure hu73
              subst hr73
              refine stp (v := .tuple [.int .i64 ((get (b.drop 1)).1 : Nat), .int .i64 ((get (b.drop 1)).2.1 : Nat), .int .i64 ((get (b.drop 1)).2.2)].toArray) (o_mv rfl) ?_
              refine stp (v := .int .i64 ((get (b.drop 1)).1 : Nat)) (o_ext rfl rfl) ?_
              refine stp (v := .int .i64 ((get (b.drop 1)).2.1 : Nat)) (o_ext rfl rfl) ?_
              refine stp (v := .int .i64 ((get (b.drop 1)).2.2)) (o_ext rfl rfl) ?_
              refine stp (v := .int .i64 ((get (b.drop 1)).1 : Nat)) (o_mv rfl) ?_
              refine stp (v := .int .i64 ((get (b.drop 1)).2.1 : Nat)) (o_mv rfl) ?_
              refine stp (v := .int .i64 ((get (b.drop 1)).2.2)) (o_mv rfl) ?_
              refine h71 _ _ ?_
              clear h71
              refine seq fun K74 h74 => ?_
              refine seq fun K75 h75 => ?_
              have hgl := get_le (b := b.drop 1)
              rw [List.length_drop] at hgl
              refine stp (v := .int .i64 ((get (b.drop 1)).2.2)) (o_mv rfl) ?_
              refine stp (v := .bool (decide (¬ ((get (b.drop 1)).2.2) = 0))) (o_bin rfl rfl v_neq) ?_
              refine stp (v := .bool (decide (¬ ((get (b.drop 1)).2.2) = 0))) (o_mv rfl) ?_
              refine splitP rfl (fun c76 => ?_) (fun c76 => ?_)
              ·
                refine gno rfl (by simp) ?_
                refine gno rfl (by simp) ?_
                refine stp (v := .bool true) (o_pickT rfl rfl) ?_
                refine stp (v := .bool true) (o_mv rfl) ?_
                refine splitT rfl ?_
                refine gno rfl (by simp) ?_
                refine gno rfl (by simp) ?_
                refine stp (v := .bool true) (o_pickT rfl rfl) ?_
                refine stp (v := .bool true) (o_mv rfl) ?_
                refine splitT rfl ?_
                refine gno rfl (by simp) ?_
                refine gno rfl (by simp) ?_
                refine gno rfl (by simp) ?_
                refine gno rfl (by simp) ?_
                refine gno rfl (by simp) ?_
                refine gno rfl (by simp) ?_
                refine gno rfl (by simp) ?_
                refine stp (v := .bool true) (o_pickT rfl rfl) ?_
                refine h75 _ _ ?_
                clear h75
                refine cndT rfl ?_
                refine seq fun K77 h77 => ?_
                refine stp (v := .agg ([.bool false, .int .i64 0, .slice none 0 0] : List Value).toArray) (o_bld rfl rfl) ?_
                refine m_stA (l := [.bool false, .int .i64 0, .slice none 0 0]) hM73 (i := 0) rfl rfl rfl rfl (by simp [oneCells, Value.oneCell', byteV]) (by simp) fun w78 (hM78 : Mem w [] w78 [[⟨b2, 30, [.bool false, .int .i64 0, .slice none 0 0]⟩]]) => ?_
                refine stp (v := .int .i64 70) (o_mv rfl) ?_
                refine h77 _ _ ?_
                clear h77
                show resV _ _ _ _ _
                refine res_cell (s := some 3) (by kernel_rfl) ?_
                refine vl_ldA (cs := [.bool false, .int .i64 0, .slice none 0 0]) rfl rfl ((hM78.at (i := 0) (j := 0) rfl rfl).agg rfl rfl) ?_
                refine res_tmp ?_
                refine ⟨(.tuple [.agg ([.bool false, .int .i64 0, .slice none 0 0] : List Value).toArray, .int .i64 70].toArray), rfl, ?_⟩
                first | omega | (have e := dec_h0 (b := b) (by omega) (by omega); exact ⟨_, _, by rw [e], by rw [e]; exact Sl.nil 1 5, (hM78.addNil).keep (by simp)⟩) | (have e := dec_h255 (b := b) (by omega) (by omega); exact ⟨_, _, by rw [e], by rw [e]; exact Sl.nil 1 5, (hM78.addNil).keep (by simp)⟩) | (have e := dec_hbad (b := b) (by omega) (by omega) (by omega); exact ⟨_, _, by rw [e], by rw [e]; exact Sl.nil 1 5, (hM78.addNil).keep (by simp)⟩) | (have e := (dec_hget (b := b) (by omega) (by omega) (by omega)).trans (if_pos (by omega)); exact ⟨_, _, by rw [e], by rw [e]; exact Sl.nil 1 5, (hM78.addNil).keep (by simp)⟩) | (have e := (dec_hget (b := b) (by omega) (by omega) (by omega)).trans (if_neg (by omega)); exact ⟨_, _, by rw [e], by rw [e]; assumption, (hM78.drop 0).keep (by simp)⟩)
              ·
                refine stg rfl (v := .int .i64 ((get (b.drop 1)).1 : Nat)) (o_mv rfl) ?_
                refine stg rfl (v := .bool (decide ((((get (b.drop 1)).1 : Nat) : Int) < 1))) (o_bin rfl rfl rfl) ?_
                refine stp (v := .bool (decide ((((get (b.drop 1)).1 : Nat) : Int) < 1))) (o_pickF rfl rfl) ?_
                refine stp (v := .bool (decide ((((get (b.drop 1)).1 : Nat) : Int) < 1))) (o_mv rfl) ?_
                refine splitP rfl (fun c79 => ?_) (fun c79 => ?_)
                ·
                  refine gno rfl (by simp) ?_
                  refine gno rfl (by simp) ?_
                  refine stp (v := .bool true) (o_pickT rfl rfl) ?_
                  refine stp (v := .bool true) (o_mv rfl) ?_
                  refine splitT rfl ?_
                  refine gno rfl (by simp) ?_
                  refine gno rfl (by simp) ?_
                  refine gno rfl (by simp) ?_
                  refine gno rfl (by simp) ?_
                  refine gno rfl (by simp) ?_
                  refine gno rfl (by simp) ?_
                  refine gno rfl (by simp) ?_
                  refine stp (v := .bool true) (o_pickT rfl rfl) ?_
                  refine h75 _ _ ?_
                  clear h75
                  refine cndT rfl ?_
                  refine seq fun K80 h80 => ?_
                  refine stp (v := .agg ([.bool false, .int .i64 0, .slice none 0 0] : List Value).toArray) (o_bld rfl rfl) ?_
                  refine m_stA (l := [.bool false, .int .i64 0, .slice none 0 0]) hM73 (i := 0) rfl rfl rfl rfl (by simp [oneCells, Value.oneCell', byteV]) (by simp) fun w81 (hM81 : Mem w [] w81 [[⟨b2, 30, [.bool false, .int .i64 0, .slice none 0 0]⟩]]) => ?_
                  refine stp (v := .int .i64 70) (o_mv rfl) ?_
                  refine h80 _ _ ?_
                  clear h80
                  show resV _ _ _ _ _
                  refine res_cell (s := some 3) (by kernel_rfl) ?_
                  refine vl_ldA (cs := [.bool false, .int .i64 0, .slice none 0 0]) rfl rfl ((hM81.at (i := 0) (j := 0) rfl rfl).agg rfl rfl) ?_
                  refine res_tmp ?_
                  refine ⟨(.tuple [.agg ([.bool false, .int .i64 0, .slice none 0 0] : List Value).toArray, .int .i64 70].toArray), rfl, ?_⟩
                  first | omega | (have e := dec_h0 (b := b) (by omega) (by omega); exact ⟨_, _, by rw [e], by rw [e]; exact Sl.nil 1 5, (hM81.addNil).keep (by simp)⟩) | (have e := dec_h255 (b := b) (by omega) (by omega); exact ⟨_, _, by rw [e], by rw [e]; exact Sl.nil 1 5, (hM81.addNil).keep (by simp)⟩) | (have e := dec_hbad (b := b) (by omega) (by omega) (by omega); exact ⟨_, _, by rw [e], by rw [e]; exact Sl.nil 1 5, (hM81.addNil).keep (by simp)⟩) | (have e := (dec_hget (b := b) (by omega) (by omega) (by omega)).trans (if_pos (by omega)); exact ⟨_, _, by rw [e], by rw [e]; exact Sl.nil 1 5, (hM81.addNil).keep (by simp)⟩) | (have e := (dec_hget (b := b) (by omega) (by omega) (by omega)).trans (if_neg (by omega)); exact ⟨_, _, by rw [e], by rw [e]; assumption, (hM81.drop 0).keep (by simp)⟩)
                ·
                  refine stg rfl (v := .int .i64 ((get (b.drop 1)).1 : Nat)) (o_mv rfl) ?_
                  refine stg rfl (v := .bool (decide ((4096 : Int) < (((get (b.drop 1)).1 : Nat) : Int)))) (o_bin rfl rfl rfl) ?_
                  refine stp (v := .bool (decide ((4096 : Int) < (((get (b.drop 1)).1 : Nat) : Int)))) (o_pickF rfl rfl) ?_
                  refine stp (v := .bool (decide ((4096 : Int) < (((get (b.drop 1)).1 : Nat) : Int)))) (o_mv rfl) ?_
                  refine splitP rfl (fun c82 => ?_) (fun c82 => ?_)
                  ·
                    refine gno rfl (by simp) ?_
                    refine gno rfl (by simp) ?_
                    refine gno rfl (by simp) ?_
                    refine gno rfl (by simp) ?_
                    refine gno rfl (by simp) ?_
                    refine gno rfl (by simp) ?_
                    refine gno rfl (by simp) ?_
                    refine stp (v := .bool true) (o_pickT rfl rfl) ?_
                    refine h75 _ _ ?_
                    clear h75
                    refine cndT rfl ?_
                    refine seq fun K83 h83 => ?_
                    refine stp (v := .agg ([.bool false, .int .i64 0, .slice none 0 0] : List Value).toArray) (o_bld rfl rfl) ?_
                    refine m_stA (l := [.bool false, .int .i64 0, .slice none 0 0]) hM73 (i := 0) rfl rfl rfl rfl (by simp [oneCells, Value.oneCell', byteV]) (by simp) fun w84 (hM84 : Mem w [] w84 [[⟨b2, 30, [.bool false, .int .i64 0, .slice none 0 0]⟩]]) => ?_
                    refine stp (v := .int .i64 70) (o_mv rfl) ?_
                    refine h83 _ _ ?_
                    clear h83
                    show resV _ _ _ _ _
                    refine res_cell (s := some 3) (by kernel_rfl) ?_
                    refine vl_ldA (cs := [.bool false, .int .i64 0, .slice none 0 0]) rfl rfl ((hM84.at (i := 0) (j := 0) rfl rfl).agg rfl rfl) ?_
                    refine res_tmp ?_
                    refine ⟨(.tuple [.agg ([.bool false, .int .i64 0, .slice none 0 0] : List Value).toArray, .int .i64 70].toArray), rfl, ?_⟩
                    first | omega | (have e := dec_h0 (b := b) (by omega) (by omega); exact ⟨_, _, by rw [e], by rw [e]; exact Sl.nil 1 5, (hM84.addNil).keep (by simp)⟩) | (have e := dec_h255 (b := b) (by omega) (by omega); exact ⟨_, _, by rw [e], by rw [e]; exact Sl.nil 1 5, (hM84.addNil).keep (by simp)⟩) | (have e := dec_hbad (b := b) (by omega) (by omega) (by omega); exact ⟨_, _, by rw [e], by rw [e]; exact Sl.nil 1 5, (hM84.addNil).keep (by simp)⟩) | (have e := (dec_hget (b := b) (by omega) (by omega) (by omega)).trans (if_pos (by omega)); exact ⟨_, _, by rw [e], by rw [e]; exact Sl.nil 1 5, (hM84.addNil).keep (by simp)⟩) | (have e := (dec_hget (b := b) (by omega) (by omega) (by omega)).trans (if_neg (by omega)); exact ⟨_, _, by rw [e], by rw [e]; assumption, (hM84.drop 0).keep (by simp)⟩)
                  ·
                    refine stg rfl (v := x) (o_mv rfl) ?_
                    refine stg rfl (v := .int .i64 (b.length : Nat)) (o_lenR (hx.upd hM73.upd) rfl rfl) ?_
                    refine stg rfl (v := .int .i64 ((get (b.drop 1)).2.1 : Nat)) (o_mv rfl) ?_
                    refine stg rfl (v := .int .i64 (1 + ((get (b.drop 1)).2.1 : Nat))) (o_bin rfl rfl (v_add64 (by constructor <;> omega))) ?_
                    refine stg rfl (v := .int .i64 ((get (b.drop 1)).1 : Nat)) (o_mv rfl) ?_
                    refine stg rfl (v := .int .i64 ((1 + ((get (b.drop 1)).2.1 : Nat)) + ((get (b.drop 1)).1 : Nat))) (o_bin rfl rfl (v_add64 (by constructor <;> omega))) ?_
                    refine stg rfl (v := .bool (decide (¬ ((b.length : Nat) : Int) = ((1 + ((get (b.drop 1)).2.1 : Nat)) + ((get (b.drop 1)).1 : Nat))))) (o_bin rfl rfl v_neq) ?_
                    refine stp (v := .bool (decide (¬ ((b.length : Nat) : Int) = ((1 + ((get (b.drop 1)).2.1 : Nat)) + ((get (b.drop 1)).1 : Nat))))) (o_pickF rfl rfl) ?_
                    refine h75 _ _ ?_
                    clear h75
                    refine cndP rfl (fun c85 => ?_) (fun c85 => ?_)
                    ·
                      refine seq fun K86 h86 => ?_
                      refine stp (v := .agg ([.bool false, .int .i64 0, .slice none 0 0] : List Value).toArray) (o_bld rfl rfl) ?_
                      refine m_stA (l := [.bool false, .int .i64 0, .slice none 0 0]) hM73 (i := 0) rfl rfl rfl rfl (by simp [oneCells, Value.oneCell', byteV]) (by simp) fun w87 (hM87 : Mem w [] w87 [[⟨b2, 30, [.bool false, .int .i64 0, .slice none 0 0]⟩]]) => ?_
                      refine stp (v := .int .i64 70) (o_mv rfl) ?_
                      refine h86 _ _ ?_
                      clear h86
                      show resV _ _ _ _ _
                      refine res_cell (s := some 3) (by kernel_rfl) ?_
                      refine vl_ldA (cs := [.bool false, .int .i64 0, .slice none 0 0]) rfl rfl ((hM87.at (i := 0) (j := 0) rfl rfl).agg rfl rfl) ?_
                      refine res_tmp ?_
                      refine ⟨(.tuple [.agg ([.bool false, .int .i64 0, .slice none 0 0] : List Value).toArray, .int .i64 70].toArray), rfl, ?_⟩
                      first | omega | (have e := dec_h0 (b := b) (by omega) (by omega); exact ⟨_, _, by rw [e], by rw [e]; exact Sl.nil 1 5, (hM87.addNil).keep (by simp)⟩) | (have e := dec_h255 (b := b) (by omega) (by omega); exact ⟨_, _, by rw [e], by rw [e]; exact Sl.nil 1 5, (hM87.addNil).keep (by simp)⟩) | (have e := dec_hbad (b := b) (by omega) (by omega) (by omega); exact ⟨_, _, by rw [e], by rw [e]; exact Sl.nil 1 5, (hM87.addNil).keep (by simp)⟩) | (have e := (dec_hget (b := b) (by omega) (by omega) (by omega)).trans (if_pos (by omega)); exact ⟨_, _, by rw [e], by rw [e]; exact Sl.nil 1 5, (hM87.addNil).keep (by simp)⟩) | (have e := (dec_hget (b := b) (by omega) (by omega) (by omega)).trans (if_neg (by omega)); exact ⟨_, _, by rw [e], by rw [e]; assumption, (hM87.drop 0).keep (by simp)⟩)
                    ·
                      refine h74 _ _ ?_
                      clear h74
                      refine seq fun K88 h88 => ?_
                      intro wd e1 e2 e3 e4
                      have hd := Upd.same e1 e2 e3 e4 []
                      have hM89 := hM73.pure hd
                      clear e1 e2 e3 e4
                      refine ⟨(some [(blkV x)]), ?_⟩
                      show vd _ _ _ _ _ _ _
                      refine dq (v := x) (o_mv rfl) ?_
                      refine dqp (m_idxE2 0 (j := 0) (hx.upd hM89.upd) rfl rfl (by omega) fun b90 o90 hp90 hbb90 => ?_)
                      show vd _ _ _ _ _ _ _
                      subst hbb90
                      refine dq (v := x) (o_mv rfl) ?_
                      refine dq (v := .int .i64 ((get (b.drop 1)).2.1 : Nat)) (o_mv rfl) ?_
                      refine dq (v := .int .i64 (1 + ((get (b.drop 1)).2.1 : Nat))) (o_bin rfl rfl (v_add64 (by constructor <;> omega))) ?_
                      refine dqp (m_slcE (1 + (get (b.drop 1)).2.1) b.length (hx) rfl (by omega) (by omega) rfl ⟨_, v_int (by omega)⟩ fun u91 hu91 => ?_)
                      show vd _ _ _ _ _ _ _
                      have hu91' : RdE byteV w u91 (b.drop (1 + (get (b.drop 1)).2.1)) := by
                        have e : (b.take b.length).drop (1 + (get (b.drop 1)).2.1) = (b.drop (1 + (get (b.drop 1)).2.1)) := by rw [List.take_length]
                        rw [e] at hu91; exact hu91
                      refine dqld rfl (by simp [isHeld]) (v := byteV (b.getD 0 0)) (hp90) ?_
                      refine dq (v := .int .i64 ((b.getD 0 0).toNat : Int)) (o_conv rfl (v_byteTo (by decide))) ?_
                      refine dl (m_bsU hM89 rfl fun b92 w93 hup93 (hM93 : Mem w [] w93 [[⟨b2, 30, [.bool false, .int .i64 0, .slice none 0 0]⟩], [⟨b92, 5, []⟩]]) => ?_)
                      have hh93 := held_upd (wr := wd) (bs := [(blkV x)]) hup93 (fun b hb => by
                        simp only [List.mem_cons, List.not_mem_nil, or_false] at hb
                        rw [hb]; exact ⟨Rd.blkV_lt (hx.upd hM89.upd) (by omega), by simp⟩) (fun b hb => rfl)
                      refine ⟨hh93, ?_⟩
                      have hs94 : SlE byteV 5 (.slice (some ⟨b92, 0, none⟩) 0 0) [] [⟨b92, 5, []⟩] := SlE.lit (l := []) rfl
                      refine dl (m_appEU hM93 (i := 1) rfl hs94 rfl rfl ((hu91'.upd hM93.upd)) (by first | omega | (simp; omega)) (by omega) fun v95 w95 r95 (hs95 : SlE byteV 5 v95 (b.drop (1 + (get (b.drop 1)).2.1)) r95) hup95 (hM95 : Mem w [] w95 [[⟨b2, 30, [.bool false, .int .i64 0, .slice none 0 0]⟩], r95]) => ?_)
                      have hh95 := held_upd (wr := wd) (bs := [(blkV x)]) hup95 (fun b hb => by
                        simp only [List.mem_cons, List.not_mem_nil, or_false] at hb
                        rw [hb]; exact ⟨Rd.blkV_lt (hx.upd hM93.upd) (by omega), hM93.old (i := 1) rfl (Rd.blkV_lt hx (by omega))⟩) hh93
                      refine ⟨hh95, ?_⟩
                      obtain ⟨a96_, n96_, c96_, rfl⟩ := Sl.isSlice hs95
                      refine dq (v := .agg ([.bool false, .int .i64 ((b.getD 0 0).toNat : Int), (.slice a96_ n96_ c96_)] : List Value).toArray) (o_bld rfl rfl) ?_
                      refine dl (m_stAU (l := [.bool false, .int .i64 ((b.getD 0 0).toNat : Int), (.slice a96_ n96_ c96_)]) hM95 (i := 0) rfl rfl rfl rfl (by simp [oneCells, Value.oneCell', byteV]) (by simp) fun w97 hup97 (hM97 : Mem w [] w97 [[⟨b2, 30, [.bool false, .int .i64 ((b.getD 0 0).toNat : Int), (.slice a96_ n96_ c96_)]⟩], r95]) => ?_)
                      have hh97 := held_upd (wr := wd) (bs := [(blkV x)]) hup97 (fun b hb => by
                        simp only [List.mem_cons, List.not_mem_nil, or_false] at hb
                        rw [hb]; exact ⟨Rd.blkV_lt (hx.upd hM95.upd) (by omega), hM95.old (i := 0) rfl (Rd.blkV_lt hx (by omega))⟩) hh95
                      refine ⟨hh97, ?_⟩
                      refine dq (v := .int .i64 0) (o_mv rfl) ?_
                      refine h88 _ _ ?_
                      clear h88
                      show resV _ _ _ _ _
                      refine res_cell (s := some 3) (by kernel_rfl) ?_
                      refine vl_ldA (cs := [.bool false, .int .i64 ((b.getD 0 0).toNat : Int), (.slice a96_ n96_ c96_)]) rfl rfl ((hM97.at (i := 0) (j := 0) rfl rfl).agg rfl rfl) ?_
                      refine res_tmp ?_
                      refine ⟨(.tuple [.agg ([.bool false, .int .i64 ((b.getD 0 0).toNat : Int), (.slice a96_ n96_ c96_)] : List Value).toArray, .int .i64 0].toArray), rfl, ?_⟩
                      first | omega | (have e := dec_h0 (b := b) (by omega) (by omega); exact ⟨_, _, by rw [e], by rw [e]; exact Sl.nil 1 5, (hM97.addNil).keep (by simp)⟩) | (have e := dec_h255 (b := b) (by omega) (by omega); exact ⟨_, _, by rw [e], by rw [e]; exact Sl.nil 1 5, (hM97.addNil).keep (by simp)⟩) | (have e := dec_hbad (b := b) (by omega) (by omega) (by omega); exact ⟨_, _, by rw [e], by rw [e]; exact Sl.nil 1 5, (hM97.addNil).keep (by simp)⟩) | (have e := (dec_hget (b := b) (by omega) (by omega) (by omega)).trans (if_pos (by omega)); exact ⟨_, _, by rw [e], by rw [e]; exact Sl.nil 1 5, (hM97.addNil).keep (by simp)⟩) | (have e := (dec_hget (b := b) (by omega) (by omega) (by omega)).trans (if_neg (by omega)); exact ⟨_, _, by rw [e], by rw [e]; assumption, (hM97.drop 0).keep (by simp)⟩)
  ·
    refine gno rfl (by simp) ?_
    refine gno rfl (by simp) ?_
    refine gnol rfl (by simp) ?_
    refine gno rfl (by simp) ?_
    refine stp (v := .bool false) (o_pickF rfl rfl) ?_
    refine h5 _ _ ?_
    clear h5
    refine cndF rfl ?_
    refine h4 _ _ ?_
    clear h4
    refine seq fun K98 h98 => ?_
    refine seq fun K99 h99 => ?_
    refine stp (v := x) (o_mv rfl) ?_
    refine stp (v := .int .i64 (b.length : Nat)) (o_lenR (hx.upd hM3.upd) rfl rfl) ?_
    refine stp (v := .bool (decide (((b.length : Nat) : Int) = 1))) (o_bin rfl rfl rfl) ?_
    refine stp (v := .bool (decide (((b.length : Nat) : Int) = 1))) (o_mv rfl) ?_
    refine splitP rfl (fun c100 => ?_) (fun c100 => ?_)
    ·
      refine stg rfl (v := x) (o_mv rfl) ?_
      refine gyes rfl rfl (m_idxE 0 (j := 0) (hx.upd hM3.upd) rfl rfl (by omega) fun b101 o101 hp101 => ?_)
      refine gyesl rfl ?_
      refine ld (v := byteV (b.getD 0 0)) rfl (hp101) ?_
      refine stg rfl (v := .bool (decide (((b.getD 0 0).toNat : Int) = 255))) (o_bin rfl rfl rfl) ?_
      refine stp (v := .bool (decide (((b.getD 0 0).toNat : Int) = 255))) (o_pickT rfl rfl) ?_
      refine h99 _ _ ?_
      clear h99
      refine cndP rfl (fun c102 => ?_) (fun c102 => ?_)
      ·
        refine seq fun K103 h103 => ?_
        refine stp (v := .agg ([.bool true, .int .i64 0, .slice none 0 0] : List Value).toArray) (o_bld rfl rfl) ?_
        refine m_stA (l := [.bool true, .int .i64 0, .slice none 0 0]) hM3 (i := 0) rfl rfl rfl rfl (by simp [oneCells, Value.oneCell', byteV]) (by simp) fun w104 (hM104 : Mem w [] w104 [[⟨b2, 30, [.bool true, .int .i64 0, .slice none 0 0]⟩]]) => ?_
        refine stp (v := .int .i64 0) (o_mv rfl) ?_
        refine h103 _ _ ?_
        clear h103
        show resV _ _ _ _ _
        refine res_cell (s := some 3) (by kernel_rfl) ?_
        refine vl_ldA (cs := [.bool true, .int .i64 0, .slice none 0 0]) rfl rfl ((hM104.at (i := 0) (j := 0) rfl rfl).agg rfl rfl) ?_
        refine res_tmp ?_
        refine ⟨(.tuple [.agg ([.bool true, .int .i64 0, .slice none 0 0] : List Value).toArray, .int .i64 0].toArray), rfl, ?_⟩
        first | omega | (have e := dec_h0 (b := b) (by omega) (by omega); exact ⟨_, _, by rw [e], by rw [e]; exact Sl.nil 1 5, (hM104.addNil).keep (by simp)⟩) | (have e := dec_h255 (b := b) (by omega) (by omega); exact ⟨_, _, by rw [e], by rw [e]; exact Sl.nil 1 5, (hM104.addNil).keep (by simp)⟩) | (have e := dec_hbad (b := b) (by omega) (by omega) (by omega); exact ⟨_, _, by rw [e], by rw [e]; exact Sl.nil 1 5, (hM104.addNil).keep (by simp)⟩) | (have e := (dec_hget (b := b) (by omega) (by omega) (by omega)).trans (if_pos (by omega)); exact ⟨_, _, by rw [e], by rw [e]; exact Sl.nil 1 5, (hM104.addNil).keep (by simp)⟩) | (have e := (dec_hget (b := b) (by omega) (by omega) (by omega)).trans (if_neg (by omega)); exact ⟨_, _, by rw [e], by rw [e]; assumption, (hM104.drop 0).keep (by simp)⟩)
      ·
        refine h98 _ _ ?_
        clear h98
        refine seq fun K105 h105 => ?_
        refine seq fun K106 h106 => ?_
        refine stp (v := x) (o_mv rfl) ?_
        refine stp (v := .int .i64 (b.length : Nat)) (o_lenR (hx.upd hM3.upd) rfl rfl) ?_
        refine stp (v := .bool (decide (((b.length : Nat) : Int) < 1))) (o_bin rfl rfl rfl) ?_
        refine stp (v := .bool (decide (((b.length : Nat) : Int) < 1))) (o_mv rfl) ?_
        refine splitP rfl (fun c107 => ?_) (fun c107 => ?_)
        ·
          refine gno rfl (by simp) ?_
          refine gno rfl (by simp) ?_
          refine gnol rfl (by simp) ?_
          refine gno rfl (by simp) ?_
          refine stp (v := .bool true) (o_pickT rfl rfl) ?_
          refine stp (v := .bool true) (o_mv rfl) ?_
          refine splitT rfl ?_
          refine gno rfl (by simp) ?_
          refine gno rfl (by simp) ?_
          refine gnol rfl (by simp) ?_
          refine gno rfl (by simp) ?_
          refine stp (v := .bool true) (o_pickT rfl rfl) ?_
          refine h106 _ _ ?_
          clear h106
          refine cndT rfl ?_
          refine seq fun K108 h108 => ?_
          refine stp (v := .agg ([.bool false, .int .i64 0, .slice none 0 0] : List Value).toArray) (o_bld rfl rfl) ?_
          refine m_stA (l := [.bool false, .int .i64 0, .slice none 0 0]) hM3 (i := 0) rfl rfl rfl rfl (by simp [oneCells, Value.oneCell', byteV]) (by simp) fun w109 (hM109 : Mem w [] w109 [[⟨b2, 30, [.bool false, .int .i64 0, .slice none 0 0]⟩]]) => ?_
          refine stp (v := .int .i64 70) (o_mv rfl) ?_
          refine h108 _ _ ?_
          clear h108
          show resV _ _ _ _ _
          refine res_cell (s := some 3) (by kernel_rfl) ?_
          refine vl_ldA (cs := [.bool false, .int .i64 0, .slice none 0 0]) rfl rfl ((hM109.at (i := 0) (j := 0) rfl rfl).agg rfl rfl) ?_
          refine res_tmp ?_
          refine ⟨(.tuple [.agg ([.bool false, .int .i64 0, .slice none 0 0] : List Value).toArray, .int .i64 70].toArray), rfl, ?_⟩
          first | omega | (have e := dec_h0 (b := b) (by omega) (by omega); exact ⟨_, _, by rw [e], by rw [e]; exact Sl.nil 1 5, (hM109.addNil).keep (by simp)⟩) | (have e := dec_h255 (b := b) (by omega) (by omega); exact ⟨_, _, by rw [e], by rw [e]; exact Sl.nil 1 5, (hM109.addNil).keep (by simp)⟩) | (have e := dec_hbad (b := b) (by omega) (by omega) (by omega); exact ⟨_, _, by rw [e], by rw [e]; exact Sl.nil 1 5, (hM109.addNil).keep (by simp)⟩) | (have e := (dec_hget (b := b) (by omega) (by omega) (by omega)).trans (if_pos (by omega)); exact ⟨_, _, by rw [e], by rw [e]; exact Sl.nil 1 5, (hM109.addNil).keep (by simp)⟩) | (have e := (dec_hget (b := b) (by omega) (by omega) (by omega)).trans (if_neg (by omega)); exact ⟨_, _, by rw [e], by rw [e]; assumption, (hM109.drop 0).keep (by simp)⟩)
        ·
          refine stg rfl (v := x) (o_mv rfl) ?_
          refine gyes rfl rfl (m_idxE 0 (j := 0) (hx.upd hM3.upd) rfl rfl (by omega) fun b110 o110 hp110 => ?_)
          refine gyesl rfl ?_
          refine ld (v := byteV (b.getD 0 0)) rfl (hp110) ?_
          refine stg rfl (v := .bool (decide (((b.getD 0 0).toNat : Int) < 1))) (o_bin rfl rfl rfl) ?_
          refine stp (v := .bool (decide (((b.getD 0 0).toNat : Int) < 1))) (o_pickF rfl rfl) ?_
          refine stp (v := .bool (decide (((b.getD 0 0).toNat : Int) < 1))) (o_mv rfl) ?_
          refine splitP rfl (fun c111 => ?_) (fun c111 => ?_)
          ·
            refine gno rfl (by simp) ?_
            refine gno rfl (by simp) ?_
            refine gnol rfl (by simp) ?_
            refine gno rfl (by simp) ?_
            refine stp (v := .bool true) (o_pickT rfl rfl) ?_
            refine h106 _ _ ?_
            clear h106
            refine cndT rfl ?_
            refine seq fun K112 h112 => ?_
            refine stp (v := .agg ([.bool false, .int .i64 0, .slice none 0 0] : List Value).toArray) (o_bld rfl rfl) ?_
            refine m_stA (l := [.bool false, .int .i64 0, .slice none 0 0]) hM3 (i := 0) rfl rfl rfl rfl (by simp [oneCells, Value.oneCell', byteV]) (by simp) fun w113 (hM113 : Mem w [] w113 [[⟨b2, 30, [.bool false, .int .i64 0, .slice none 0 0]⟩]]) => ?_
            refine stp (v := .int .i64 70) (o_mv rfl) ?_
            refine h112 _ _ ?_
            clear h112
            show resV _ _ _ _ _
            refine res_cell (s := some 3) (by kernel_rfl) ?_
            refine vl_ldA (cs := [.bool false, .int .i64 0, .slice none 0 0]) rfl rfl ((hM113.at (i := 0) (j := 0) rfl rfl).agg rfl rfl) ?_
            refine res_tmp ?_
            refine ⟨(.tuple [.agg ([.bool false, .int .i64 0, .slice none 0 0] : List Value).toArray, .int .i64 70].toArray), rfl, ?_⟩
            first | omega | (have e := dec_h0 (b := b) (by omega) (by omega); exact ⟨_, _, by rw [e], by rw [e]; exact Sl.nil 1 5, (hM113.addNil).keep (by simp)⟩) | (have e := dec_h255 (b := b) (by omega) (by omega); exact ⟨_, _, by rw [e], by rw [e]; exact Sl.nil 1 5, (hM113.addNil).keep (by simp)⟩) | (have e := dec_hbad (b := b) (by omega) (by omega) (by omega); exact ⟨_, _, by rw [e], by rw [e]; exact Sl.nil 1 5, (hM113.addNil).keep (by simp)⟩) | (have e := (dec_hget (b := b) (by omega) (by omega) (by omega)).trans (if_pos (by omega)); exact ⟨_, _, by rw [e], by rw [e]; exact Sl.nil 1 5, (hM113.addNil).keep (by simp)⟩) | (have e := (dec_hget (b := b) (by omega) (by omega) (by omega)).trans (if_neg (by omega)); exact ⟨_, _, by rw [e], by rw [e]; assumption, (hM113.drop 0).keep (by simp)⟩)
          ·
            refine stg rfl (v := x) (o_mv rfl) ?_
            refine gyes rfl rfl (m_idxE 0 (j := 0) (hx.upd hM3.upd) rfl rfl (by omega) fun b114 o114 hp114 => ?_)
            refine gyesl rfl ?_
            refine ld (v := byteV (b.getD 0 0)) rfl (hp114) ?_
            refine stg rfl (v := .bool (decide ((8 : Int) < ((b.getD 0 0).toNat : Int)))) (o_bin rfl rfl rfl) ?_
            refine stp (v := .bool (decide ((8 : Int) < ((b.getD 0 0).toNat : Int)))) (o_pickF rfl rfl) ?_
            refine h106 _ _ ?_
            clear h106
            refine cndP rfl (fun c115 => ?_) (fun c115 => ?_)
            ·
              refine seq fun K116 h116 => ?_
              refine stp (v := .agg ([.bool false, .int .i64 0, .slice none 0 0] : List Value).toArray) (o_bld rfl rfl) ?_
              refine m_stA (l := [.bool false, .int .i64 0, .slice none 0 0]) hM3 (i := 0) rfl rfl rfl rfl (by simp [oneCells, Value.oneCell', byteV]) (by simp) fun w117 (hM117 : Mem w [] w117 [[⟨b2, 30, [.bool false, .int .i64 0, .slice none 0 0]⟩]]) => ?_
              refine stp (v := .int .i64 70) (o_mv rfl) ?_
              refine h116 _ _ ?_
              clear h116
              show resV _ _ _ _ _
              refine res_cell (s := some 3) (by kernel_rfl) ?_
              refine vl_ldA (cs := [.bool false, .int .i64 0, .slice none 0 0]) rfl rfl ((hM117.at (i := 0) (j := 0) rfl rfl).agg rfl rfl) ?_
              refine res_tmp ?_
              refine ⟨(.tuple [.agg ([.bool false, .int .i64 0, .slice none 0 0] : List Value).toArray, .int .i64 70].toArray), rfl, ?_⟩
              first | omega | (have e := dec_h0 (b := b) (by omega) (by omega); exact ⟨_, _, by rw [e], by rw [e]; exact Sl.nil 1 5, (hM117.addNil).keep (by simp)⟩) | (have e := dec_h255 (b := b) (by omega) (by omega); exact ⟨_, _, by rw [e], by rw [e]; exact Sl.nil 1 5, (hM117.addNil).keep (by simp)⟩) | (have e := dec_hbad (b := b) (by omega) (by omega) (by omega); exact ⟨_, _, by rw [e], by rw [e]; exact Sl.nil 1 5, (hM117.addNil).keep (by simp)⟩) | (have e := (dec_hget (b := b) (by omega) (by omega) (by omega)).trans (if_pos (by omega)); exact ⟨_, _, by rw [e], by rw [e]; exact Sl.nil 1 5, (hM117.addNil).keep (by simp)⟩) | (have e := (dec_hget (b := b) (by omega) (by omega) (by omega)).trans (if_neg (by omega)); exact ⟨_, _, by rw [e], by rw [e]; assumption, (hM117.drop 0).keep (by simp)⟩)
            ·
              refine h105 _ _ ?_
              clear h105
              refine seq fun K118 h118 => ?_
              refine stp (v := x) (o_mv rfl) ?_
              refine m_slcE 1 b.length (hx) rfl (by omega) (by omega) rfl ⟨_, rfl⟩ fun u119 hu119 => ?_
              have hu119' : RdE byteV w u119 (b.drop 1) := by
                have e : (b.take b.length).drop 1 = (b.drop 1) := by rw [List.take_length]
                rw [e] at hu119; exact hu119
              refine m_call (refGet_ok _ (b.drop 1) w3 ((hu119'.upd hM3.upd)) (by first | omega | (simp; done) | (simp; omega))) rfl fun v120 w120 ⟨hr120, hu120⟩ => ?_
              have hM120 : Mem w [] w120 [[⟨b2, 30, [.bool false, .int .i64 0, .slice none 0 0]⟩]] := hM3.pure hu120
              subst hr120
              refine stp (v := .tuple [.int .i64 ((get (b.drop 1)).1 : Nat), .int .i64 ((get (b.drop 1)).2.1 : Nat), .int .i64 ((get (b.drop 1)).2.2)].toArray) (o_mv rfl) ?_
              refine stp (v := .int .i64 ((get (b.drop 1)).1 : Nat)) (o_ext rfl rfl) ?_
              refine stp (v := .int .i64 ((get (b.drop 1)).2.1 : Nat)) (o_ext rfl rfl) ?_
              refine stp (v := .int .i64 ((get (b.drop 1)).2.2)) (o_ext rfl rfl) ?_
              refine stp (v := .int .i64 ((get (b.drop 1)).1 : Nat)) (o_mv rfl) ?_
              refine stp (v := .int .i64 ((get (b.drop 1)).2.1 : Nat)) (o_mv rfl) ?_
              refine stp (v := .int .i64 ((get (b.drop 1)).2.2)) (o_mv rfl) ?_
              refine h118 _ _ ?_
              clear h118
              refine seq fun K121 h121 => ?_
              refine seq fun K122 h122 => ?_
              have hgl := get_le (b := b.drop 1)
              rw [List.length_drop] at hgl
              refine stp (v := .int .i64 ((get (b.drop 1)).2.2)) (o_mv rfl) ?_
              refine stp (v := .bool (decide (¬ ((get (b.drop 1)).2.2) = 0))) (o_bin rfl rfl v_neq) ?_
              refine stp (v := .bool (decide (¬ ((get (b.drop 1)).2.2) = 0))) (o_mv rfl) ?_
              refine splitP rfl (fun c123 => ?_) (fun c123 => ?_)
              ·
                refine gno rfl (by simp) ?_
                refine gno rfl (by simp) ?_
                refine stp (v := .bool true) (o_pickT rfl rfl) ?_
                refine stp (v := .bool true) (o_mv rfl) ?_
                refine splitT rfl ?_
                refine gno rfl (by simp) ?_
                refine gno rfl (by simp) ?_
                refine stp (v := .bool true) (o_pickT rfl rfl) ?_
                refine stp (v := .bool true) (o_mv rfl) ?_
                refine splitT rfl ?_
                refine gno rfl (by simp) ?_
                refine gno rfl (by simp) ?_
                refine gno rfl (by simp) ?_
                refine gno rfl (by simp) ?_
                refine gno rfl (by simp) ?_
                refine gno rfl (by simp) ?_
                refine gno rfl (by simp) ?_
                refine stp (v := .bool true) (o_pickT rfl rfl) ?_
                refine h122 _ _ ?_
                clear h122
                refine cndT rfl ?_
                refine seq fun K124 h124 => ?_
                refine stp (v := .agg ([.bool false, .int .i64 0, .slice none 0 0] : List Value).toArray) (o_bld rfl rfl) ?_
                refine m_stA (l := [.bool false, .int .i64 0, .slice none 0 0]) hM120 (i := 0) rfl rfl rfl rfl (by simp [oneCells, Value.oneCell', byteV]) (by simp) fun w125 (hM125 : Mem w [] w125 [[⟨b2, 30, [.bool false, .int .i64 0, .slice none 0 0]⟩]]) => ?_
                refine stp (v := .int .i64 70) (o_mv rfl) ?_
                refine h124 _ _ ?_
                clear h124
                show resV _ _ _ _ _
                refine res_cell (s := some 3) (by kernel_rfl) ?_
                refine vl_ldA (cs := [.bool false, .int .i64 0, .slice none 0 0]) rfl rfl ((hM125.at (i := 0) (j := 0) rfl rfl).agg rfl rfl) ?_
                refine res_tmp ?_
                refine ⟨(.tuple [.agg ([.bool false, .int .i64 0, .slice none 0 0] : List Value).toArray, .int .i64 70].toArray), rfl, ?_⟩
                first | omega | (have e := dec_h0 (b := b) (by omega) (by omega); exact ⟨_, _, by rw [e], by rw [e]; exact Sl.nil 1 5, (hM125.addNil).keep (by simp)⟩) | (have e := dec_h255 (b := b) (by omega) (by omega); exact ⟨_, _, by rw [e], by rw [e]; exact Sl.nil 1 5, (hM125.addNil).keep (by simp)⟩) | (have e := dec_hbad (b := b) (by omega) (by omega) (by omega); exact ⟨_, _, by rw [e], by rw [e]; exact Sl.nil 1 5, (hM125.addNil).keep (by simp)⟩) | (have e := (dec_hget (b := b) (by omega) (by omega) (by omega)).trans (if_pos (by omega)); exact ⟨_, _, by rw [e], by rw [e]; exact Sl.nil 1 5, (hM125.addNil).keep (by simp)⟩) | (have e := (dec_hget (b := b) (by omega) (by omega) (by omega)).trans (if_neg (by omega)); exact ⟨_, _, by rw [e], by rw [e]; assumption, (hM125.drop 0).keep (by simp)⟩)
              ·
                refine stg rfl (v := .int .i64 ((get (b.drop 1)).1 : Nat)) (o_mv rfl) ?_
                refine stg rfl (v := .bool (decide ((((get (b.drop 1)).1 : Nat) : Int) < 1))) (o_bin rfl rfl rfl) ?_
                refine stp (v := .bool (decide ((((get (b.drop 1)).1 : Nat) : Int) < 1))) (o_pickF rfl rfl) ?_
                refine stp (v := .bool (decide ((((get (b.drop 1)).1 : Nat) : Int) < 1))) (o_mv rfl) ?_
                refine splitP rfl (fun c126 => ?_) (fun c126 => ?_)
                ·
                  refine gno rfl (by simp) ?_
                  refine gno rfl (by simp) ?_
                  refine stp (v := .bool true) (o_pickT rfl rfl) ?_
                  refine stp (v := .bool true) (o_mv rfl) ?_
                  refine splitT rfl ?_
                  refine gno rfl (by simp) ?_
                  refine gno rfl (by simp) ?_
                  refine gno rfl (by simp) ?_
                  refine gno rfl (by simp) ?_
                  refine gno rfl (by simp) ?_
                  refine gno rfl (by simp) ?_
                  refine gno rfl (by simp) ?_
                  refine stp (v := .bool true) (o_pickT rfl rfl) ?_
                  refine h122 _ _ ?_
                  clear h122
                  refine cndT rfl ?_
                  refine seq fun K127 h127 => ?_
                  refine stp (v := .agg ([.bool false, .int .i64 0, .slice none 0 0] : List Value).toArray) (o_bld rfl rfl) ?_
                  refine m_stA (l := [.bool false, .int .i64 0, .slice none 0 0]) hM120 (i := 0) rfl rfl rfl rfl (by simp [oneCells, Value.oneCell', byteV]) (by simp) fun w128 (hM128 : Mem w [] w128 [[⟨b2, 30, [.bool false, .int .i64 0, .slice none 0 0]⟩]]) => ?_
                  refine stp (v := .int .i64 70) (o_mv rfl) ?_
                  refine h127 _ _ ?_
                  clear h127
                  show resV _ _ _ _ _
                  refine res_cell (s := some 3) (by kernel_rfl) ?_
                  refine vl_ldA (cs := [.bool false, .int .i64 0, .slice none 0 0]) rfl rfl ((hM128.at (i := 0) (j := 0) rfl rfl).agg rfl rfl) ?_
                  refine res_tmp ?_
                  refine ⟨(.tuple [.agg ([.bool false, .int .i64 0, .slice none 0 0] : List Value).toArray, .int .i64 70].toArray), rfl, ?_⟩
                  first | omega | (have e := dec_h0 (b := b) (by omega) (by omega); exact ⟨_, _, by rw [e], by rw [e]; exact Sl.nil 1 5, (hM128.addNil).keep (by simp)⟩) | (have e := dec_h255 (b := b) (by omega) (by omega); exact ⟨_, _, by rw [e], by rw [e]; exact Sl.nil 1 5, (hM128.addNil).keep (by simp)⟩) | (have e := dec_hbad (b := b) (by omega) (by omega) (by omega); exact ⟨_, _, by rw [e], by rw [e]; exact Sl.nil 1 5, (hM128.addNil).keep (by simp)⟩) | (have e := (dec_hget (b := b) (by omega) (by omega) (by omega)).trans (if_pos (by omega)); exact ⟨_, _, by rw [e], by rw [e]; exact Sl.nil 1 5, (hM128.addNil).keep (by simp)⟩) | (have e := (dec_hget (b := b) (by omega) (by omega) (by omega)).trans (if_neg (by omega)); exact ⟨_, _, by rw [e], by rw [e]; assumption, (hM128.drop 0).keep (by simp)⟩)
                ·
                  refine stg rfl (v := .int .i64 ((get (b.drop 1)).1 : Nat)) (o_mv rfl) ?_
                  refine stg rfl (v := .bool (decide ((4096 : Int) < (((get (b.drop 1)).1 : Nat) : Int)))) (o_bin rfl rfl rfl) ?_
                  refine stp (v := .bool (decide ((4096 : Int) < (((get (b.drop 1)).1 : Nat) : Int)))) (o_pickF rfl rfl) ?_
                  refine stp (v := .bool (decide ((4096 : Int) < (((get (b.drop 1)).1 : Nat) : Int)))) (o_mv rfl) ?_
                  refine splitP rfl (fun c129 => ?_) (fun c129 => ?_)
                  ·
                    refine gno rfl (by simp) ?_
                    refine gno rfl (by simp) ?_
                    refine gno rfl (by simp) ?_
                    refine gno rfl (by simp) ?_
                    refine gno rfl (by simp) ?_
                    refine gno rfl (by simp) ?_
                    refine gno rfl (by simp) ?_
                    refine stp (v := .bool true) (o_pickT rfl rfl) ?_
                    refine h122 _ _ ?_
                    clear h122
                    refine cndT rfl ?_
                    refine seq fun K130 h130 => ?_
                    refine stp (v := .agg ([.bool false, .int .i64 0, .slice none 0 0] : List Value).toArray) (o_bld rfl rfl) ?_
                    refine m_stA (l := [.bool false, .int .i64 0, .slice none 0 0]) hM120 (i := 0) rfl rfl rfl rfl (by simp [oneCells, Value.oneCell', byteV]) (by simp) fun w131 (hM131 : Mem w [] w131 [[⟨b2, 30, [.bool false, .int .i64 0, .slice none 0 0]⟩]]) => ?_
                    refine stp (v := .int .i64 70) (o_mv rfl) ?_
                    refine h130 _ _ ?_
                    clear h130
                    show resV _ _ _ _ _
                    refine res_cell (s := some 3) (by kernel_rfl) ?_
                    refine vl_ldA (cs := [.bool false, .int .i64 0, .slice none 0 0]) rfl rfl ((hM131.at (i := 0) (j := 0) rfl rfl).agg rfl rfl) ?_
                    refine res_tmp ?_
                    refine ⟨(.tuple [.agg ([.bool false, .int .i64 0, .slice none 0 0] : List Value).toArray, .int .i64 70].toArray), rfl, ?_⟩
                    first | omega | (have e := dec_h0 (b := b) (by omega) (by omega); exact ⟨_, _, by rw [e], by rw [e]; exact Sl.nil 1 5, (hM131.addNil).keep (by simp)⟩) | (have e := dec_h255 (b := b) (by omega) (by omega); exact ⟨_, _, by rw [e], by rw [e]; exact Sl.nil 1 5, (hM131.addNil).keep (by simp)⟩) | (have e := dec_hbad (b := b) (by omega) (by omega) (by omega); exact ⟨_, _, by rw [e], by rw [e]; exact Sl.nil 1 5, (hM131.addNil).keep (by simp)⟩) | (have e := (dec_hget (b := b) (by omega) (by omega) (by omega)).trans (if_pos (by omega)); exact ⟨_, _, by rw [e], by rw [e]; exact Sl.nil 1 5, (hM131.addNil).keep (by simp)⟩) | (have e := (dec_hget (b := b) (by omega) (by omega) (by omega)).trans (if_neg (by omega)); exact ⟨_, _, by rw [e], by rw [e]; assumption, (hM131.drop 0).keep (by simp)⟩)
                  ·
                    refine stg rfl (v := x) (o_mv rfl) ?_
                    refine stg rfl (v := .int .i64 (b.length : Nat)) (o_lenR (hx.upd hM120.upd) rfl rfl) ?_
                    refine stg rfl (v := .int .i64 ((get (b.drop 1)).2.1 : Nat)) (o_mv rfl) ?_
                    refine stg rfl (v := .int .i64 (1 + ((get (b.drop 1)).2.1 : Nat))) (o_bin rfl rfl (v_add64 (by constructor <;> omega))) ?_
                    refine stg rfl (v := .int .i64 ((get (b.drop 1)).1 : Nat)) (o_mv rfl) ?_
                    refine stg rfl (v := .int .i64 ((1 + ((get (b.drop 1)).2.1 : Nat)) + ((get (b.drop 1)).1 : Nat))) (o_bin rfl rfl (v_add64 (by constructor <;> omega))) ?_
                    refine stg rfl (v := .bool (decide (¬ ((b.length : Nat) : Int) = ((1 + ((get (b.drop 1)).2.1 : Nat)) + ((get (b.drop 1)).1 : Nat))))) (o_bin rfl rfl v_neq) ?_
                    refine stp (v := .bool (decide (¬ ((b.length : Nat) : Int) = ((1 + ((get (b.drop 1)).2.1 : Nat)) + ((get (b.drop 1)).1 : Nat))))) (o_pickF rfl rfl) ?_
                    refine h122 _ _ ?_
                    clear h122
                    refine cndP rfl (fun c132 => ?_) (fun c132 => ?_)
                    ·
                      refine seq fun K133 h133 => ?_
                      refine stp (v := .agg ([.bool false, .int .i64 0, .slice none 0 0] : List Value).toArray) (o_bld rfl rfl) ?_
                      refine m_stA (l := [.bool false, .int .i64 0, .slice none 0 0]) hM120 (i := 0) rfl rfl rfl rfl (by simp [oneCells, Value.oneCell', byteV]) (by simp) fun w134 (hM134 : Mem w [] w134 [[⟨b2, 30, [.bool false, .int .i64 0, .slice none 0 0]⟩]]) => ?_
                      refine stp (v := .int .i64 70) (o_mv rfl) ?_
                      refine h133 _ _ ?_
                      clear h133
                      show resV _ _ _ _ _
                      refine res_cell (s := some 3) (by kernel_rfl) ?_
                      refine vl_ldA (cs := [.bool false, .int .i64 0, .slice none 0 0]) rfl rfl ((hM134.at (i := 0) (j := 0) rfl rfl).agg rfl rfl) ?_
                      refine res_tmp ?_
                      refine ⟨(.tuple [.agg ([.bool false, .int .i64 0, .slice none 0 0] : List Value).toArray, .int .i64 70].toArray), rfl, ?_⟩
                      first | omega | (have e := dec_h0 (b := b) (by omega) (by omega); exact ⟨_, _, by rw [e], by rw [e]; exact Sl.nil 1 5, (hM134.addNil).keep (by simp)⟩) | (have e := dec_h255 (b := b) (by omega) (by omega); exact ⟨_, _, by rw [e], by rw [e]; exact Sl.nil 1 5, (hM134.addNil).keep (by simp)⟩) | (have e := dec_hbad (b := b) (by omega) (by omega) (by omega); exact ⟨_, _, by rw [e], by rw [e]; exact Sl.nil 1 5, (hM134.addNil).keep (by simp)⟩) | (have e := (dec_hget (b := b) (by omega) (by omega) (by omega)).trans (if_pos (by omega)); exact ⟨_, _, by rw [e], by rw [e]; exact Sl.nil 1 5, (hM134.addNil).keep (by simp)⟩) | (have e := (dec_hget (b := b) (by omega) (by omega) (by omega)).trans (if_neg (by omega)); exact ⟨_, _, by rw [e], by rw [e]; assumption, (hM134.drop 0).keep (by simp)⟩)
                    ·
                      refine h121 _ _ ?_
                      clear h121
                      refine seq fun K135 h135 => ?_
                      intro wd e1 e2 e3 e4
                      have hd := Upd.same e1 e2 e3 e4 []
                      have hM136 := hM120.pure hd
                      clear e1 e2 e3 e4
                      refine ⟨(some [(blkV x)]), ?_⟩
                      show vd _ _ _ _ _ _ _
                      refine dq (v := x) (o_mv rfl) ?_
                      refine dqp (m_idxE2 0 (j := 0) (hx.upd hM136.upd) rfl rfl (by omega) fun b137 o137 hp137 hbb137 => ?_)
                      show vd _ _ _ _ _ _ _
                      subst hbb137
                      refine dq (v := x) (o_mv rfl) ?_
                      refine dq (v := .int .i64 ((get (b.drop 1)).2.1 : Nat)) (o_mv rfl) ?_
                      refine dq (v := .int .i64 (1 + ((get (b.drop 1)).2.1 : Nat))) (o_bin rfl rfl (v_add64 (by constructor <;> omega))) ?_
                      refine dqp (m_slcE (1 + (get (b.drop 1)).2.1) b.length (hx) rfl (by omega) (by omega) rfl ⟨_, v_int (by omega)⟩ fun u138 hu138 => ?_)
                      show vd _ _ _ _ _ _ _
                      have hu138' : RdE byteV w u138 (b.drop (1 + (get (b.drop 1)).2.1)) := by
                        have e : (b.take b.length).drop (1 + (get (b.drop 1)).2.1) = (b.drop (1 + (get (b.drop 1)).2.1)) := by rw [List.take_length]
                        rw [e] at hu138; exact hu138
                      refine dqld rfl (by simp [isHeld]) (v := byteV (b.getD 0 0)) (hp137) ?_
                      refine dq (v := .int .i64 ((b.getD 0 0).toNat : Int)) (o_conv rfl (v_byteTo (by decide))) ?_
                      refine dl (m_bsU hM136 rfl fun b139 w140 hup140 (hM140 : Mem w [] w140 [[⟨b2, 30, [.bool false, .int .i64 0, .slice none 0 0]⟩], [⟨b139, 5, []⟩]]) => ?_)
                      have hh140 := held_upd (wr := wd) (bs := [(blkV x)]) hup140 (fun b hb => by
                        simp only [List.mem_cons, List.not_mem_nil, or_false] at hb
                        rw [hb]; exact ⟨Rd.blkV_lt (hx.upd hM136.upd) (by omega), by simp⟩) (fun b hb => rfl)
                      refine ⟨hh140, ?_⟩
                      have hs141 : SlE byteV 5 (.slice (some ⟨b139, 0, none⟩) 0 0) [] [⟨b139, 5, []⟩] := SlE.lit (l := []) rfl
                      refine dl (m_appEU hM140 (i := 1) rfl hs141 rfl rfl ((hu138'.upd hM140.upd)) (by first | omega | (simp; omega)) (by omega) fun v142 w142 r142 (hs142 : SlE byteV 5 v142 (b.drop (1 + (get (b.drop 1)).2.1)) r142) hup142 (hM142 : Mem w [] w142 [[⟨b2, 30, [.bool false, .int .i64 0, .slice none 0 0]⟩], r142]) => ?_)
                      have hh142 := held_upd (wr := wd) (bs := [(blkV x)]) hup142 (fun b hb => by
                        simp only [List.mem_cons, List.not_mem_nil, or_false] at hb
                        rw [hb]; exact ⟨Rd.blkV_lt (hx.upd hM140.upd) (by omega), hM140.old (i := 1) rfl (Rd.blkV_lt hx (by omega))⟩) hh140
                      refine ⟨hh142, ?_⟩
                      obtain ⟨a143_, n143_, c143_, rfl⟩ := Sl.isSlice hs142
                      refine dq (v := .agg ([.bool false, .int .i64 ((b.getD 0 0).toNat : Int), (.slice a143_ n143_ c143_)] : List Value).toArray) (o_bld rfl rfl) ?_
                      refine dl (m_stAU (l := [.bool false, .int .i64 ((b.getD 0 0).toNat : Int), (.slice a143_ n143_ c143_)]) hM142 (i := 0) rfl rfl rfl rfl (by simp [oneCells, Value.oneCell', byteV]) (by simp) fun w144 hup144 (hM144 : Mem w [] w144 [[⟨b2, 30, [.bool false, .int .i64 ((b.getD 0 0).toNat : Int), (.slice a143_ n143_ c143_)]⟩], r142]) => ?_)
                      have hh144 := held_upd (wr := wd) (bs := [(blkV x)]) hup144 (fun b hb => by
                        simp only [List.mem_cons, List.not_mem_nil, or_false] at hb
                        rw [hb]; exact ⟨Rd.blkV_lt (hx.upd hM142.upd) (by omega), hM142.old (i := 0) rfl (Rd.blkV_lt hx (by omega))⟩) hh142
                      refine ⟨hh144, ?_⟩
                      refine dq (v := .int .i64 0) (o_mv rfl) ?_
                      refine h135 _ _ ?_
                      clear h135
                      show resV _ _ _ _ _
                      refine res_cell (s := some 3) (by kernel_rfl) ?_
                      refine vl_ldA (cs := [.bool false, .int .i64 ((b.getD 0 0).toNat : Int), (.slice a143_ n143_ c143_)]) rfl rfl ((hM144.at (i := 0) (j := 0) rfl rfl).agg rfl rfl) ?_
                      refine res_tmp ?_
                      refine ⟨(.tuple [.agg ([.bool false, .int .i64 ((b.getD 0 0).toNat : Int), (.slice a143_ n143_ c143_)] : List Value).toArray, .int .i64 0].toArray), rfl, ?_⟩
                      first | omega | (have e := dec_h0 (b := b) (by omega) (by omega); exact ⟨_, _, by rw [e], by rw [e]; exact Sl.nil 1 5, (hM144.addNil).keep (by simp)⟩) | (have e := dec_h255 (b := b) (by omega) (by omega); exact ⟨_, _, by rw [e], by rw [e]; exact Sl.nil 1 5, (hM144.addNil).keep (by simp)⟩) | (have e := dec_hbad (b := b) (by omega) (by omega) (by omega); exact ⟨_, _, by rw [e], by rw [e]; exact Sl.nil 1 5, (hM144.addNil).keep (by simp)⟩) | (have e := (dec_hget (b := b) (by omega) (by omega) (by omega)).trans (if_pos (by omega)); exact ⟨_, _, by rw [e], by rw [e]; exact Sl.nil 1 5, (hM144.addNil).keep (by simp)⟩) | (have e := (dec_hget (b := b) (by omega) (by omega) (by omega)).trans (if_neg (by omega)); exact ⟨_, _, by rw [e], by rw [e]; assumption, (hM144.drop 0).keep (by simp)⟩)
    ·
      refine gno rfl (by simp) ?_
      refine gno rfl (by simp) ?_
      refine gnol rfl (by simp) ?_
      refine gno rfl (by simp) ?_
      refine stp (v := .bool false) (o_pickF rfl rfl) ?_
      refine h99 _ _ ?_
      clear h99
      refine cndF rfl ?_
      refine h98 _ _ ?_
      clear h98
      refine seq fun K145 h145 => ?_
      refine seq fun K146 h146 => ?_
      refine stp (v := x) (o_mv rfl) ?_
      refine stp (v := .int .i64 (b.length : Nat)) (o_lenR (hx.upd hM3.upd) rfl rfl) ?_
      refine stp (v := .bool (decide (((b.length : Nat) : Int) < 1))) (o_bin rfl rfl rfl) ?_
      refine stp (v := .bool (decide (((b.length : Nat) : Int) < 1))) (o_mv rfl) ?_
      refine splitP rfl (fun c147 => ?_) (fun c147 => ?_)
      ·
        refine gno rfl (by simp) ?_
        refine gno rfl (by simp) ?_
        refine gnol rfl (by simp) ?_
        refine gno rfl (by simp) ?_
        refine stp (v := .bool true) (o_pickT rfl rfl) ?_
        refine stp (v := .bool true) (o_mv rfl) ?_
        refine splitT rfl ?_
        refine gno rfl (by simp) ?_
        refine gno rfl (by simp) ?_
        refine gnol rfl (by simp) ?_
        refine gno rfl (by simp) ?_
        refine stp (v := .bool true) (o_pickT rfl rfl) ?_
        refine h146 _ _ ?_
        clear h146
        refine cndT rfl ?_
        refine seq fun K148 h148 => ?_
        refine stp (v := .agg ([.bool false, .int .i64 0, .slice none 0 0] : List Value).toArray) (o_bld rfl rfl) ?_
        refine m_stA (l := [.bool false, .int .i64 0, .slice none 0 0]) hM3 (i := 0) rfl rfl rfl rfl (by simp [oneCells, Value.oneCell', byteV]) (by simp) fun w149 (hM149 : Mem w [] w149 [[⟨b2, 30, [.bool false, .int .i64 0, .slice none 0 0]⟩]]) => ?_
        refine stp (v := .int .i64 70) (o_mv rfl) ?_
        refine h148 _ _ ?_
        clear h148
        show resV _ _ _ _ _
        refine res_cell (s := some 3) (by kernel_rfl) ?_
        refine vl_ldA (cs := [.bool false, .int .i64 0, .slice none 0 0]) rfl rfl ((hM149.at (i := 0) (j := 0) rfl rfl).agg rfl rfl) ?_
        refine res_tmp ?_
        refine ⟨(.tuple [.agg ([.bool false, .int .i64 0, .slice none 0 0] : List Value).toArray, .int .i64 70].toArray), rfl, ?_⟩
        first | omega | (have e := dec_h0 (b := b) (by omega) (by omega); exact ⟨_, _, by rw [e], by rw [e]; exact Sl.nil 1 5, (hM149.addNil).keep (by simp)⟩) | (have e := dec_h255 (b := b) (by omega) (by omega); exact ⟨_, _, by rw [e], by rw [e]; exact Sl.nil 1 5, (hM149.addNil).keep (by simp)⟩) | (have e := dec_hbad (b := b) (by omega) (by omega) (by omega); exact ⟨_, _, by rw [e], by rw [e]; exact Sl.nil 1 5, (hM149.addNil).keep (by simp)⟩) | (have e := (dec_hget (b := b) (by omega) (by omega) (by omega)).trans (if_pos (by omega)); exact ⟨_, _, by rw [e], by rw [e]; exact Sl.nil 1 5, (hM149.addNil).keep (by simp)⟩) | (have e := (dec_hget (b := b) (by omega) (by omega) (by omega)).trans (if_neg (by omega)); exact ⟨_, _, by rw [e], by rw [e]; assumption, (hM149.drop 0).keep (by simp)⟩)
      ·
        refine stg rfl (v := x) (o_mv rfl) ?_
        refine gyes rfl rfl (m_idxE 0 (j := 0) (hx.upd hM3.upd) rfl rfl (by omega) fun b150 o150 hp150 => ?_)
        refine gyesl rfl ?_
        refine ld (v := byteV (b.getD 0 0)) rfl (hp150) ?_
        refine stg rfl (v := .bool (decide (((b.getD 0 0).toNat : Int) < 1))) (o_bin rfl rfl rfl) ?_
        refine stp (v := .bool (decide (((b.getD 0 0).toNat : Int) < 1))) (o_pickF rfl rfl) ?_
        refine stp (v := .bool (decide (((b.getD 0 0).toNat : Int) < 1))) (o_mv rfl) ?_
        refine splitP rfl (fun c151 => ?_) (fun c151 => ?_)
        ·
          refine gno rfl (by simp) ?_
          refine gno rfl (by simp) ?_
          refine gnol rfl (by simp) ?_
          refine gno rfl (by simp) ?_
          refine stp (v := .bool true) (o_pickT rfl rfl) ?_
          refine h146 _ _ ?_
          clear h146
          refine cndT rfl ?_
          refine seq fun K152 h152 => ?_
          refine stp (v := .agg ([.bool false, .int .i64 0, .slice none 0 0] : List Value).toArray) (o_bld rfl rfl) ?_
          refine m_stA (l := [.bool false, .int .i64 0, .slice none 0 0]) hM3 (i := 0) rfl rfl rfl rfl (by simp [oneCells, Value.oneCell', byteV]) (by simp) fun w153 (hM153 : Mem w [] w153 [[⟨b2, 30, [.bool false, .int .i64 0, .slice none 0 0]⟩]]) => ?_
          refine stp (v := .int .i64 70) (o_mv rfl) ?_
          refine h152 _ _ ?_
          clear h152
          show resV _ _ _ _ _
          refine res_cell (s := some 3) (by kernel_rfl) ?_
          refine vl_ldA (cs := [.bool false, .int .i64 0, .slice none 0 0]) rfl rfl ((hM153.at (i := 0) (j := 0) rfl rfl).agg rfl rfl) ?_
          refine res_tmp ?_
          refine ⟨(.tuple [.agg ([.bool false, .int .i64 0, .slice none 0 0] : List Value).toArray, .int .i64 70].toArray), rfl, ?_⟩
          first | omega | (have e := dec_h0 (b := b) (by omega) (by omega); exact ⟨_, _, by rw [e], by rw [e]; exact Sl.nil 1 5, (hM153.addNil).keep (by simp)⟩) | (have e := dec_h255 (b := b) (by omega) (by omega); exact ⟨_, _, by rw [e], by rw [e]; exact Sl.nil 1 5, (hM153.addNil).keep (by simp)⟩) | (have e := dec_hbad (b := b) (by omega) (by omega) (by omega); exact ⟨_, _, by rw [e], by rw [e]; exact Sl.nil 1 5, (hM153.addNil).keep (by simp)⟩) | (have e := (dec_hget (b := b) (by omega) (by omega) (by omega)).trans (if_pos (by omega)); exact ⟨_, _, by rw [e], by rw [e]; exact Sl.nil 1 5, (hM153.addNil).keep (by simp)⟩) | (have e := (dec_hget (b := b) (by omega) (by omega) (by omega)).trans (if_neg (by omega)); exact ⟨_, _, by rw [e], by rw [e]; assumption, (hM153.drop 0).keep (by simp)⟩)
        ·
          refine stg rfl (v := x) (o_mv rfl) ?_
          refine gyes rfl rfl (m_idxE 0 (j := 0) (hx.upd hM3.upd) rfl rfl (by omega) fun b154 o154 hp154 => ?_)
          refine gyesl rfl ?_
          refine ld (v := byteV (b.getD 0 0)) rfl (hp154) ?_
          refine stg rfl (v := .bool (decide ((8 : Int) < ((b.getD 0 0).toNat : Int)))) (o_bin rfl rfl rfl) ?_
          refine stp (v := .bool (decide ((8 : Int) < ((b.getD 0 0).toNat : Int)))) (o_pickF rfl rfl) ?_
          refine h146 _ _ ?_
          clear h146
          refine cndP rfl (fun c155 => ?_) (fun c155 => ?_)
          ·
            refine seq fun K156 h156 => ?_
            refine stp (v := .agg ([.bool false, .int .i64 0, .slice none 0 0] : List Value).toArray) (o_bld rfl rfl) ?_
            refine m_stA (l := [.bool false, .int .i64 0, .slice none 0 0]) hM3 (i := 0) rfl rfl rfl rfl (by simp [oneCells, Value.oneCell', byteV]) (by simp) fun w157 (hM157 : Mem w [] w157 [[⟨b2, 30, [.bool false, .int .i64 0, .slice none 0 0]⟩]]) => ?_
            refine stp (v := .int .i64 70) (o_mv rfl) ?_
            refine h156 _ _ ?_
            clear h156
            show resV _ _ _ _ _
            refine res_cell (s := some 3) (by kernel_rfl) ?_
            refine vl_ldA (cs := [.bool false, .int .i64 0, .slice none 0 0]) rfl rfl ((hM157.at (i := 0) (j := 0) rfl rfl).agg rfl rfl) ?_
            refine res_tmp ?_
            refine ⟨(.tuple [.agg ([.bool false, .int .i64 0, .slice none 0 0] : List Value).toArray, .int .i64 70].toArray), rfl, ?_⟩
            first | omega | (have e := dec_h0 (b := b) (by omega) (by omega); exact ⟨_, _, by rw [e], by rw [e]; exact Sl.nil 1 5, (hM157.addNil).keep (by simp)⟩) | (have e := dec_h255 (b := b) (by omega) (by omega); exact ⟨_, _, by rw [e], by rw [e]; exact Sl.nil 1 5, (hM157.addNil).keep (by simp)⟩) | (have e := dec_hbad (b := b) (by omega) (by omega) (by omega); exact ⟨_, _, by rw [e], by rw [e]; exact Sl.nil 1 5, (hM157.addNil).keep (by simp)⟩) | (have e := (dec_hget (b := b) (by omega) (by omega) (by omega)).trans (if_pos (by omega)); exact ⟨_, _, by rw [e], by rw [e]; exact Sl.nil 1 5, (hM157.addNil).keep (by simp)⟩) | (have e := (dec_hget (b := b) (by omega) (by omega) (by omega)).trans (if_neg (by omega)); exact ⟨_, _, by rw [e], by rw [e]; assumption, (hM157.drop 0).keep (by simp)⟩)
          ·
            refine h145 _ _ ?_
            clear h145
            refine seq fun K158 h158 => ?_
            refine stp (v := x) (o_mv rfl) ?_
            refine m_slcE 1 b.length (hx) rfl (by omega) (by omega) rfl ⟨_, rfl⟩ fun u159 hu159 => ?_
            have hu159' : RdE byteV w u159 (b.drop 1) := by
              have e : (b.take b.length).drop 1 = (b.drop 1) := by rw [List.take_length]
              rw [e] at hu159; exact hu159
            refine m_call (refGet_ok _ (b.drop 1) w3 ((hu159'.upd hM3.upd)) (by first | omega | (simp; done) | (simp; omega))) rfl fun v160 w160 ⟨hr160, hu160⟩ => ?_
            have hM160 : Mem w [] w160 [[⟨b2, 30, [.bool false, .int .i64 0, .slice none 0 0]⟩]] := hM3.pure hu160
            subst hr160
            refine stp (v := .tuple [.int .i64 ((get (b.drop 1)).1 : Nat), .int .i64 ((get (b.drop 1)).2.1 : Nat), .int .i64 ((get (b.drop 1)).2.2)].toArray) (o_mv rfl) ?_
            refine stp (v := .int .i64 ((get (b.drop 1)).1 : Nat)) (o_ext rfl rfl) ?_
            refine stp (v := .int .i64 ((get (b.drop 1)).2.1 : Nat)) (o_ext rfl rfl) ?_
            refine stp (v := .int .i64 ((get (b.drop 1)).2.2)) (o_ext rfl rfl) ?_
            refine stp (v := .int .i64 ((get (b.drop 1)).1 : Nat)) (o_mv rfl) ?_
            refine stp (v := .int .i64 ((get (b.drop 1)).2.1 : Nat)) (o_mv rfl) ?_
            refine stp (v := .int .i64 ((get (b.drop 1)).2.2)) (o_mv rfl) ?_
            refine h158 _ _ ?_
            clear h158
            refine seq fun K161 h161 => ?_
            refine seq fun K162 h162 => ?_
            have hgl := get_le (b := b.drop 1)
            rw [List.length_drop] at hgl
            refine stp (v := .int .i64 ((get (b.drop 1)).2.2)) (o_mv rfl) ?_
            refine stp (v := .bool (decide (¬ ((get (b.drop 1)).2.2) = 0))) (o_bin rfl rfl v_neq) ?_
            refine stp (v := .bool (decide (¬ ((get (b.drop 1)).2.2) = 0))) (o_mv rfl) ?_
            refine splitP rfl (fun c163 => ?_) (fun c163 => ?_)
            ·
              refine gno rfl (by simp) ?_
              refine gno rfl (by simp) ?_
              refine stp (v := .bool true) (o_pickT rfl rfl) ?_
              refine stp (v := .bool true) (o_mv rfl) ?_
              refine splitT rfl ?_
              refine gno rfl (by simp) ?_
              refine gno rfl (by simp) ?_
              refine stp (v := .bool true) (o_pickT rfl rfl) ?_
              refine stp (v := .bool true) (o_mv rfl) ?_
              refine splitT rfl ?_
              refine gno rfl (by simp) ?_
              refine gno rfl (by simp) ?_
              refine gno rfl (by simp) ?_
              refine gno rfl (by simp) ?_
              refine gno rfl (by simp) ?_
              refine gno rfl (by simp) ?_
              refine gno rfl (by simp) ?_
              refine stp (v := .bool true) (o_pickT rfl rfl) ?_
              refine h162 _ _ ?_
              clear h162
              refine cndT rfl ?_
              refine seq fun K164 h164 => ?_
              refine stp (v := .agg ([.bool false, .int .i64 0, .slice none 0 0] : List Value).toArray) (o_bld rfl rfl) ?_
              refine m_stA (l := [.bool false, .int .i64 0, .slice none 0 0]) hM160 (i := 0) rfl rfl rfl rfl (by simp [oneCells, Value.oneCell', byteV]) (by simp) fun w165 (hM165 : Mem w [] w165 [[⟨b2, 30, [.bool false, .int .i64 0, .slice none 0 0]⟩]]) => ?_
              refine stp (v := .int .i64 70) (o_mv rfl) ?_
              refine h164 _ _ ?_
              clear h164
              show resV _ _ _ _ _
              refine res_cell (s := some 3) (by kernel_rfl) ?_
              refine vl_ldA (cs := [.bool false, .int .i64 0, .slice none 0 0]) rfl rfl ((hM165.at (i := 0) (j := 0) rfl rfl).agg rfl rfl) ?_
              refine res_tmp ?_
              refine ⟨(.tuple [.agg ([.bool false, .int .i64 0, .slice none 0 0] : List Value).toArray, .int .i64 70].toArray), rfl, ?_⟩
              first | omega | (have e := dec_h0 (b := b) (by omega) (by omega); exact ⟨_, _, by rw [e], by rw [e]; exact Sl.nil 1 5, (hM165.addNil).keep (by simp)⟩) | (have e := dec_h255 (b := b) (by omega) (by omega); exact ⟨_, _, by rw [e], by rw [e]; exact Sl.nil 1 5, (hM165.addNil).keep (by simp)⟩) | (have e := dec_hbad (b := b) (by omega) (by omega) (by omega); exact ⟨_, _, by rw [e], by rw [e]; exact Sl.nil 1 5, (hM165.addNil).keep (by simp)⟩) | (have e := (dec_hget (b := b) (by omega) (by omega) (by omega)).trans (if_pos (by omega)); exact ⟨_, _, by rw [e], by rw [e]; exact Sl.nil 1 5, (hM165.addNil).keep (by simp)⟩) | (have e := (dec_hget (b := b) (by omega) (by omega) (by omega)).trans (if_neg (by omega)); exact ⟨_, _, by rw [e], by rw [e]; assumption, (hM165.drop 0).keep (by simp)⟩)
            ·
              refine stg rfl (v := .int .i64 ((get (b.drop 1)).1 : Nat)) (o_mv rfl) ?_
              refine stg rfl (v := .bool (decide ((((get (b.drop 1)).1 : Nat) : Int) < 1))) (o_bin rfl rfl rfl) ?_
              refine stp (v := .bool (decide ((((get (b.drop 1)).1 : Nat) : Int) < 1))) (o_pickF rfl rfl) ?_
              refine stp (v := .bool (decide ((((get (b.drop 1)).1 : Nat) : Int) < 1))) (o_mv rfl) ?_
              refine splitP rfl (fun c166 => ?_) (fun c166 => ?_)
              ·
                refine gno rfl (by simp) ?_
                refine gno rfl (by simp) ?_
                refine stp (v := .bool true) (o_pickT rfl rfl) ?_
                refine stp (v := .bool true) (o_mv rfl) ?_
                refine splitT rfl ?_
                refine gno rfl (by simp) ?_
                refine gno rfl (by simp) ?_
                refine gno rfl (by simp) ?_
                refine gno rfl (by simp) ?_
                refine gno rfl (by simp) ?_
                refine gno rfl (by simp) ?_
                refine gno rfl (by simp) ?_
                refine stp (v := .bool true) (o_pickT rfl rfl) ?_
                refine h162 _ _ ?_
                clear h162
                refine cndT rfl ?_
                refine seq fun K167 h167 => ?_
                refine stp (v := .agg ([.bool false, .int .i64 0, .slice none 0 0] : List Value).toArray) (o_bld rfl rfl) ?_
                refine m_stA (l := [.bool false, .int .i64 0, .slice none 0 0]) hM160 (i := 0) rfl rfl rfl rfl (by simp [oneCells, Value.oneCell', byteV]) (by simp) fun w168 (hM168 : Mem w [] w168 [[⟨b2, 30, [.bool false, .int .i64 0, .slice none 0 0]⟩]]) => ?_
                refine stp (v := .int .i64 70) (o_mv rfl) ?_
                refine h167 _ _ ?_
                clear h167
                show resV _ _ _ _ _
                refine res_cell (s := some 3) (by kernel_rfl) ?_
                refine vl_ldA (cs := [.bool false, .int .i64 0, .slice none 0 0]) rfl rfl ((hM168.at (i := 0) (j := 0) rfl rfl).agg rfl rfl) ?_
                refine res_tmp ?_
                refine ⟨(.tuple [.agg ([.bool false, .int .i64 0, .slice none 0 0] : List Value).toArray, .int .i64 70].toArray), rfl, ?_⟩
                first | omega | (have e := dec_h0 (b := b) (by omega) (by omega); exact ⟨_, _, by rw [e], by rw [e]; exact Sl.nil 1 5, (hM168.addNil).keep (by simp)⟩) | (have e := dec_h255 (b := b) (by omega) (by omega); exact ⟨_, _, by rw [e], by rw [e]; exact Sl.nil 1 5, (hM168.addNil).keep (by simp)⟩) | (have e := dec_hbad (b := b) (by omega) (by omega) (by omega); exact ⟨_, _, by rw [e], by rw [e]; exact Sl.nil 1 5, (hM168.addNil).keep (by simp)⟩) | (have e := (dec_hget (b := b) (by omega) (by omega) (by omega)).trans (if_pos (by omega)); exact ⟨_, _, by rw [e], by rw [e]; exact Sl.nil 1 5, (hM168.addNil).keep (by simp)⟩) | (have e := (dec_hget (b := b) (by omega) (by omega) (by omega)).trans (if_neg (by omega)); exact ⟨_, _, by rw [e], by rw [e]; assumption, (hM168.drop 0).keep (by simp)⟩)
              ·
                refine stg rfl (v := .int .i64 ((get (b.drop 1)).1 : Nat)) (o_mv rfl) ?_
                refine stg rfl (v := .bool (decide ((4096 : Int) < (((get (b.drop 1)).1 : Nat) : Int)))) (o_bin rfl rfl rfl) ?_
                refine stp (v := .bool (decide ((4096 : Int) < (((get (b.drop 1)).1 : Nat) : Int)))) (o_pickF rfl rfl) ?_
                refine stp (v := .bool (decide ((4096 : Int) < (((get (b.drop 1)).1 : Nat) : Int)))) (o_mv rfl) ?_
                refine splitP rfl (fun c169 => ?_) (fun c169 => ?_)
                ·
                  refine gno rfl (by simp) ?_
                  refine gno rfl (by simp) ?_
                  refine gno rfl (by simp) ?_
                  refine gno rfl (by simp) ?_
                  refine gno rfl (by simp) ?_
                  refine gno rfl (by simp) ?_
                  refine gno rfl (by simp) ?_
                  refine stp (v := .bool true) (o_pickT rfl rfl) ?_
                  refine h162 _ _ ?_
                  clear h162
                  refine cndT rfl ?_
                  refine seq fun K170 h170 => ?_
                  refine stp (v := .agg ([.bool false, .int .i64 0, .slice none 0 0] : List Value).toArray) (o_bld rfl rfl) ?_
                  refine m_stA (l := [.bool false, .int .i64 0, .slice none 0 0]) hM160 (i := 0) rfl rfl rfl rfl (by simp [oneCells, Value.oneCell', byteV]) (by simp) fun w171 (hM171 : Mem w [] w171 [[⟨b2, 30, [.bool false, .int .i64 0, .slice none 0 0]⟩]]) => ?_
                  refine stp (v := .int .i64 70) (o_mv rfl) ?_
                  refine h170 _ _ ?_
                  clear h170
                  show resV _ _ _ _ _
                  refine res_cell (s := some 3) (by kernel_rfl) ?_
                  refine vl_ldA (cs := [.bool false, .int .i64 0, .slice none 0 0]) rfl rfl ((hM171.at (i := 0) (j := 0) rfl rfl).agg rfl rfl) ?_
                  refine res_tmp ?_
                  refine ⟨(.tuple [.agg ([.bool false, .int .i64 0, .slice none 0 0] : List Value).toArray, .int .i64 70].toArray), rfl, ?_⟩
                  first | omega | (have e := dec_h0 (b := b) (by omega) (by omega); exact ⟨_, _, by rw [e], by rw [e]; exact Sl.nil 1 5, (hM171.addNil).keep (by simp)⟩) | (have e := dec_h255 (b := b) (by omega) (by omega); exact ⟨_, _, by rw [e], by rw [e]; exact Sl.nil 1 5, (hM171.addNil).keep (by simp)⟩) | (have e := dec_hbad (b := b) (by omega) (by omega) (by omega); exact ⟨_, _, by rw [e], by rw [e]; exact Sl.nil 1 5, (hM171.addNil).keep (by simp)⟩) | (have e := (dec_hget (b := b) (by omega) (by omega) (by omega)).trans (if_pos (by omega)); exact ⟨_, _, by rw [e], by rw [e]; exact Sl.nil 1 5, (hM171.addNil).keep (by simp)⟩) | (have e := (dec_hget (b := b) (by omega) (by omega) (by omega)).trans (if_neg (by omega)); exact ⟨_, _, by rw [e], by rw [e]; assumption, (hM171.drop 0).keep (by simp)⟩)
                ·
                  refine stg rfl (v := x) (o_mv rfl) ?_
                  refine stg rfl (v := .int .i64 (b.length : Nat)) (o_lenR (hx.upd hM160.upd) rfl rfl) ?_
                  refine stg rfl (v := .int .i64 ((get (b.drop 1)).2.1 : Nat)) (o_mv rfl) ?_
                  refine stg rfl (v := .int .i64 (1 + ((get (b.drop 1)).2.1 : Nat))) (o_bin rfl rfl (v_add64 (by constructor <;> omega))) ?_
                  refine stg rfl (v := .int .i64 ((get (b.drop 1)).1 : Nat)) (o_mv rfl) ?_
                  refine stg rfl (v := .int .i64 ((1 + ((get (b.drop 1)).2.1 : Nat)) + ((get (b.drop 1)).1 : Nat))) (o_bin rfl rfl (v_add64 (by constructor <;> omega))) ?_
                  refine stg rfl (v := .bool (decide (¬ ((b.length : Nat) : Int) = ((1 + ((get (b.drop 1)).2.1 : Nat)) + ((get (b.drop 1)).1 : Nat))))) (o_bin rfl rfl v_neq) ?_
                  refine stp (v := .bool (decide (¬ ((b.length : Nat) : Int) = ((1 + ((get (b.drop 1)).2.1 : Nat)) + ((get (b.drop 1)).1 : Nat))))) (o_pickF rfl rfl) ?_
                  refine h162 _ _ ?_
                  clear h162
                  refine cndP rfl (fun c172 => ?_) (fun c172 => ?_)
                  ·
                    refine seq fun K173 h173 => ?_
                    refine stp (v := .agg ([.bool false, .int .i64 0, .slice none 0 0] : List Value).toArray) (o_bld rfl rfl) ?_
                    refine m_stA (l := [.bool false, .int .i64 0, .slice none 0 0]) hM160 (i := 0) rfl rfl rfl rfl (by simp [oneCells, Value.oneCell', byteV]) (by simp) fun w174 (hM174 : Mem w [] w174 [[⟨b2, 30, [.bool false, .int .i64 0, .slice none 0 0]⟩]]) => ?_
                    refine stp (v := .int .i64 70) (o_mv rfl) ?_
                    refine h173 _ _ ?_
                    clear h173
                    show resV _ _ _ _ _
                    refine res_cell (s := some 3) (by kernel_rfl) ?_
                    refine vl_ldA (cs := [.bool false, .int .i64 0, .slice none 0 0]) rfl rfl ((hM174.at (i := 0) (j := 0) rfl rfl).agg rfl rfl) ?_
                    refine res_tmp ?_
                    refine ⟨(.tuple [.agg ([.bool false, .int .i64 0, .slice none 0 0] : List Value).toArray, .int .i64 70].toArray), rfl, ?_⟩
                    first | omega | (have e := dec_h0 (b := b) (by omega) (by omega); exact ⟨_, _, by rw [e], by rw [e]; exact Sl.nil 1 5, (hM174.addNil).keep (by simp)⟩) | (have e := dec_h255 (b := b) (by omega) (by omega); exact ⟨_, _, by rw [e], by rw [e]; exact Sl.nil 1 5, (hM174.addNil).keep (by simp)⟩) | (have e := dec_hbad (b := b) (by omega) (by omega) (by omega); exact ⟨_, _, by rw [e], by rw [e]; exact Sl.nil 1 5, (hM174.addNil).keep (by simp)⟩) | (have e := (dec_hget (b := b) (by omega) (by omega) (by omega)).trans (if_pos (by omega)); exact ⟨_, _, by rw [e], by rw [e]; exact Sl.nil 1 5, (hM174.addNil).keep (by simp)⟩) | (have e := (dec_hget (b := b) (by omega) (by omega) (by omega)).trans (if_neg (by omega)); exact ⟨_, _, by rw [e], by rw [e]; assumption, (hM174.drop 0).keep (by simp)⟩)
                  ·
                    refine h161 _ _ ?_
                    clear h161
                    refine seq fun K175 h175 => ?_
                    intro wd e1 e2 e3 e4
                    have hd := Upd.same e1 e2 e3 e4 []
                    have hM176 := hM160.pure hd
                    clear e1 e2 e3 e4
                    refine ⟨(some [(blkV x)]), ?_⟩
                    show vd _ _ _ _ _ _ _
                    refine dq (v := x) (o_mv rfl) ?_
                    refine dqp (m_idxE2 0 (j := 0) (hx.upd hM176.upd) rfl rfl (by omega) fun b177 o177 hp177 hbb177 => ?_)
                    show vd _ _ _ _ _ _ _
                    subst hbb177
                    refine dq (v := x) (o_mv rfl) ?_
                    refine dq (v := .int .i64 ((get (b.drop 1)).2.1 : Nat)) (o_mv rfl) ?_
                    refine dq (v := .int .i64 (1 + ((get (b.drop 1)).2.1 : Nat))) (o_bin rfl rfl (v_add64 (by constructor <;> omega))) ?_
                    refine dqp (m_slcE (1 + (get (b.drop 1)).2.1) b.length (hx) rfl (by omega) (by omega) rfl ⟨_, v_int (by omega)⟩ fun u178 hu178 => ?_)
                    show vd _ _ _ _ _ _ _
                    have hu178' : RdE byteV w u178 (b.drop (1 + (get (b.drop 1)).2.1)) := by
                      have e : (b.take b.length).drop (1 + (get (b.drop 1)).2.1) = (b.drop (1 + (get (b.drop 1)).2.1)) := by rw [List.take_length]
                      rw [e] at hu178; exact hu178
                    refine dqld rfl (by simp [isHeld]) (v := byteV (b.getD 0 0)) (hp177) ?_
                    refine dq (v := .int .i64 ((b.getD 0 0).toNat : Int)) (o_conv rfl (v_byteTo (by decide))) ?_
                    refine dl (m_bsU hM176 rfl fun b179 w180 hup180 (hM180 : Mem w [] w180 [[⟨b2, 30, [.bool false, .int .i64 0, .slice none 0 0]⟩], [⟨b179, 5, []⟩]]) => ?_)
                    have hh180 := held_upd (wr := wd) (bs := [(blkV x)]) hup180 (fun b hb => by
                      simp only [List.mem_cons, List.not_mem_nil, or_false] at hb
                      rw [hb]; exact ⟨Rd.blkV_lt (hx.upd hM176.upd) (by omega), by simp⟩) (fun b hb => rfl)
                    refine ⟨hh180, ?_⟩
                    have hs181 : SlE byteV 5 (.slice (some ⟨b179, 0, none⟩) 0 0) [] [⟨b179, 5, []⟩] := SlE.lit (l := []) rfl
                    refine dl (m_appEU hM180 (i := 1) rfl hs181 rfl rfl ((hu178'.upd hM180.upd)) (by first | omega | (simp; omega)) (by omega) fun v182 w182 r182 (hs182 : SlE byteV 5 v182 (b.drop (1 + (get (b.drop 1)).2.1)) r182) hup182 (hM182 : Mem w [] w182 [[⟨b2, 30, [.bool false, .int .i64 0, .slice none 0 0]⟩], r182]) => ?_)
                    have hh182 := held_upd (wr := wd) (bs := [(blkV x)]) hup182 (fun b hb => by
                      simp only [List.mem_cons, List.not_mem_nil, or_false] at hb
                      rw [hb]; exact ⟨Rd.blkV_lt (hx.upd hM180.upd) (by omega), hM180.old (i := 1) rfl (Rd.blkV_lt hx (by omega))⟩) hh180
                    refine ⟨hh182, ?_⟩
                    obtain ⟨a183_, n183_, c183_, rfl⟩ := Sl.isSlice hs182
                    refine dq (v := .agg ([.bool false, .int .i64 ((b.getD 0 0).toNat : Int), (.slice a183_ n183_ c183_)] : List Value).toArray) (o_bld rfl rfl) ?_
                    refine dl (m_stAU (l := [.bool false, .int .i64 ((b.getD 0 0).toNat : Int), (.slice a183_ n183_ c183_)]) hM182 (i := 0) rfl rfl rfl rfl (by simp [oneCells, Value.oneCell', byteV]) (by simp) fun w184 hup184 (hM184 : Mem w [] w184 [[⟨b2, 30, [.bool false, .int .i64 ((b.getD 0 0).toNat : Int), (.slice a183_ n183_ c183_)]⟩], r182]) => ?_)
                    have hh184 := held_upd (wr := wd) (bs := [(blkV x)]) hup184 (fun b hb => by
                      simp only [List.mem_cons, List.not_mem_nil, or_false] at hb
                      rw [hb]; exact ⟨Rd.blkV_lt (hx.upd hM182.upd) (by omega), hM182.old (i := 0) rfl (Rd.blkV_lt hx (by omega))⟩) hh182
                    refine ⟨hh184, ?_⟩
                    refine dq (v := .int .i64 0) (o_mv rfl) ?_
                    refine h175 _ _ ?_
                    clear h175
                    show resV _ _ _ _ _
                    refine res_cell (s := some 3) (by kernel_rfl) ?_
                    refine vl_ldA (cs := [.bool false, .int .i64 ((b.getD 0 0).toNat : Int), (.slice a183_ n183_ c183_)]) rfl rfl ((hM184.at (i := 0) (j := 0) rfl rfl).agg rfl rfl) ?_
                    refine res_tmp ?_
                    refine ⟨(.tuple [.agg ([.bool false, .int .i64 ((b.getD 0 0).toNat : Int), (.slice a183_ n183_ c183_)] : List Value).toArray, .int .i64 0].toArray), rfl, ?_⟩
                    first | omega | (have e := dec_h0 (b := b) (by omega) (by omega); exact ⟨_, _, by rw [e], by rw [e]; exact Sl.nil 1 5, (hM184.addNil).keep (by simp)⟩) | (have e := dec_h255 (b := b) (by omega) (by omega); exact ⟨_, _, by rw [e], by rw [e]; exact Sl.nil 1 5, (hM184.addNil).keep (by simp)⟩) | (have e := dec_hbad (b := b) (by omega) (by omega) (by omega); exact ⟨_, _, by rw [e], by rw [e]; exact Sl.nil 1 5, (hM184.addNil).keep (by simp)⟩) | (have e := (dec_hget (b := b) (by omega) (by omega) (by omega)).trans (if_pos (by omega)); exact ⟨_, _, by rw [e], by rw [e]; exact Sl.nil 1 5, (hM184.addNil).keep (by simp)⟩) | (have e := (dec_hget (b := b) (by omega) (by omega) (by omega)).trans (if_neg (by omega)); exact ⟨_, _, by rw [e], by rw [e]; assumption, (hM184.drop 0).keep (by simp)⟩)

/-- bytes of which the last is another one -/
def turnL (l : List UInt8) : List UInt8 := l.set (l.length - 1) (l.getD (l.length - 1) 0 ^^^ 85)
theorem turnL_length (l : List UInt8) : (turnL l).length = l.length := by simp [turnL]
theorem turnL_nil {l : List UInt8} (h : l.length ≤ 0) : turnL l = l := by
  obtain rfl := List.length_eq_zero_iff.1 (by omega : l.length = 0); rfl
theorem xor85 (c : UInt8) : xorI .u8 (c.toNat : Int) 85 = ((c ^^^ 85).toNat : Int) := by
  have hc := c.toNat_lt
  have h : c.toNat ^^^ 85 < 2 ^ 8 := Nat.xor_lt_two_pow hc (by decide)
  have := xorI_nat (k := .u8) (a := c.toNat) (b := 85) (by simpa [IntKind.bits] using hc) (by decide) (by simp only [inK]; omega)
  rw [show (85 : Int) = ((85 : Nat) : Int) from rfl, this]
  simp

/-- winnowlaw7.turned -/
theorem turned_ok (x : Value) (l : List UInt8) (r0 : List Ent) (w : World) (hs0 : SlE byteV 5 x l r0) (hr : Res w r0) (hl : l.length ≤ 140737488351232) : Calls Try.prog 28 [x].toArray w (Rt fun r w' => r = x ∧ Mem w (ids r0) w' [upR byteV (turnL l) r0]) := by
  have hM0 : Mem w (ids r0) w [r0] := Mem.start hr
  refine calls_vc mixed Try.func28 rfl C28 (by simp [Try.ntmps28]) ?_
  refine seq fun K1 h1 => ?_
  refine stp (v := .slice none 0 0) (o_mv rfl) ?_
  refine h1 _ _ ?_
  clear h1
  refine seq fun K2 h2 => ?_
  refine seq fun K3 h3 => ?_
  refine stp (v := x) (o_mv rfl) ?_
  refine stp (v := .int .i64 (l.length : Nat)) (o_lenR (hs0.rd hM0 (i := 0) rfl) rfl rfl) ?_
  refine stp (v := .bool (decide ((0 : Int) < ((l.length : Nat) : Int)))) (o_bin rfl rfl rfl) ?_
  refine h3 _ _ ?_
  clear h3
  refine cndP rfl (fun c4 => ?_) (fun c4 => ?_)
  ·
    refine stp (v := x) (o_mv rfl) ?_
    refine stp (v := x) (o_mv rfl) ?_
    refine stp (v := .int .i64 (l.length : Nat)) (o_lenR (hs0.rd hM0 (i := 0) rfl) rfl rfl) ?_
    refine stp (v := .int .i64 ((l.length : Nat) - 1)) (o_bin rfl rfl (v_sub64 (by constructor <;> omega))) ?_
    refine stp (v := x) (o_mv rfl) ?_
    refine stp (v := x) (o_mv rfl) ?_
    refine stp (v := .int .i64 (l.length : Nat)) (o_lenR (hs0.rd hM0 (i := 0) rfl) rfl rfl) ?_
    refine stp (v := .int .i64 ((l.length : Nat) - 1)) (o_bin rfl rfl (v_sub64 (by constructor <;> omega))) ?_
    refine m_idxE 0 (j := (l.length - 1)) (hs0.rd hM0 (i := 0) rfl) rfl (v_int (by omega)) (by omega) fun b5 o5 hp5 => ?_
    refine ld (v := byteV (l.getD (l.length - 1) 0)) rfl (hp5) ?_
    refine stp (v := .int .u8 ((l.getD (l.length - 1) 0 ^^^ 85).toNat : Int)) (o_bin rfl rfl (v_int (xor85 _))) ?_
    refine m_set (E := byteV) (q := l.getD (l.length - 1) 0 ^^^ 85) (j := (l.length - 1)) hM0 (i := 0) rfl hs0 rfl (v_int (by omega)) (by omega) (by simp) (rfl) fun w6 r6 u6 he6 hs6 (hM6 : Mem w (ids r0) w6 [r6]) => ?_
    refine h2 _ _ ?_
    clear h2
    refine seq fun K7 h7 => ?_
    refine stp (v := x) (o_mv rfl) ?_
    refine stp (v := x) (o_mv rfl) ?_
    refine h7 _ _ ?_
    clear h7
    refine ⟨x, rfl, ?_⟩
    have e : r6 = upR byteV (turnL l) r0 := he6
    rw [← e]
    exact ⟨rfl, hM6⟩
  ·
    refine h2 _ _ ?_
    clear h2
    refine seq fun K8 h8 => ?_
    refine stp (v := x) (o_mv rfl) ?_
    refine stp (v := x) (o_mv rfl) ?_
    refine h8 _ _ ?_
    clear h8
    refine ⟨x, rfl, ?_⟩
    rw [turnL_nil (by omega), up_self hs0]
    exact ⟨rfl, hM0⟩

/-- winnowlaw7.roomy -/
theorem roomy_ok (x : Value) (b : List UInt8) (w : World) (hx : RdE byteV w x b) (hl : b.length ≤ 140737488351232) : Calls Try.prog 21 [x].toArray w (Rt fun r w' => ∃ rs, SlE byteV 5 r (b ++ List.replicate 64 (165 : UInt8)) rs ∧ Mem w [] w' [rs]) := by
  have hM0 : Mem w [] w [] := Mem.nil w []
  refine calls_vc mixed Try.func21 rfl C21 (by simp [Try.ntmps21]) ?_
  refine seq fun K1 h1 => ?_
  refine stp (v := .slice none 0 0) (o_mv rfl) ?_
  refine h1 _ _ ?_
  clear h1
  refine seq fun K2 h2 => ?_
  refine stp (v := x) (o_mv rfl) ?_
  refine stp (v := .int .i64 (b.length : Nat)) (o_lenR (hx.upd hM0.upd) rfl rfl) ?_
  refine stp (v := .int .i64 ((b.length : Nat) + 64)) (o_bin rfl rfl (v_add64 (by constructor <;> omega))) ?_
  refine m_mksE (E := byteV) (z := 0) (n := (b.length + 64)) (c := (b.length + 64)) rfl hM0 (v_int (by omega)) (v_int (by omega)) (by omega) (by omega) (by omega) fun v3 w3 r3 hs3 (hM3 : Mem w [] w3 [r3]) => ?_
  refine stp (v := v3) (o_mv rfl) ?_
  refine h2 _ _ ?_
  clear h2
  refine seq fun K4 h4 => ?_
  refine seq fun K5 h5 => ?_
  refine stp (v := .int .i64 0) (o_mv rfl) ?_
  refine h5 _ _ ?_
  clear h5
  refine lp (n := fun _ _ => False) (ι := (Nat) × (Value) × (List Ent)) (fun ⟨i, g, r⟩ f w' => f 0 = x ∧ f 3 = g ∧ f 4 = .int .i64 (i : Nat) ∧ Mem w [] w' [r] ∧ (SlE byteV 5 g ((b ++ List.replicate 64 (165 : UInt8)).take i ++ List.replicate ((b.length + 64) - i) (0 : UInt8)) r) ∧ (i ≤ (b.length + 64)) ∧ (((b ++ List.replicate 64 (165 : UInt8)).take i ++ List.replicate ((b.length + 64) - i) (0 : UInt8)).length = (b.length + 64))) (fun ⟨i, g, r⟩ => (b.length + 64) - i) (0, v3, r3) ?_ ?_
  · exact ⟨rfl, rfl, by first | rfl | exact v_int (by omega) | exact v_int (by simp) | exact v_int (by simp; omega), hM3, by simpa using hs3, by omega, by simp⟩
  · rintro ⟨i, g, r⟩ f w6 ⟨e6_0, e6_3, e6_4, hM6, hs, hi, hq⟩ K7 h7
    obtain ⟨frm, rfl⟩ : ∃ frm, f = (upd (upd (upd frm 0 (x)) 3 (g)) 4 (.int .i64 (i : Nat))) := ⟨f, by rw [upd_self e6_0, upd_self e6_3, upd_self e6_4]⟩
    clear e6_0 e6_3 e6_4
    refine seq fun K8 h8 => ?_
    refine seq fun K9 h9 => ?_
    refine stp (v := .int .i64 (i : Nat)) (o_mv rfl) ?_
    refine stp (v := g) (o_mv rfl) ?_
    refine stp (v := .int .i64 (((b ++ List.replicate 64 (165 : UInt8)).take i ++ List.replicate ((b.length + 64) - i) (0 : UInt8)).length : Nat)) (o_lenR (hs.rd hM6 (i := 0) rfl) rfl rfl) ?_
    refine stp (v := .bool (decide (((i : Nat) : Int) < (((b ++ List.replicate 64 (165 : UInt8)).take i ++ List.replicate ((b.length + 64) - i) (0 : UInt8)).length : Nat)))) (o_bin rfl rfl rfl) ?_
    refine h9 _ _ ?_
    clear h9
    refine cndP rfl (fun c10 => ?_) (fun c10 => ?_)
    ·
      refine h8 _ _ ?_
      clear h8
      refine seq fun K11 h11 => ?_
      refine seq fun K12 h12 => ?_
      refine stp (v := g) (o_mv rfl) ?_
      refine stp (v := .int .i64 (i : Nat)) (o_mv rfl) ?_
      refine m_set (E := byteV) (q := 165) (j := i) hM6 (i := 0) rfl hs rfl rfl (by omega) (by simp) (rfl) fun w13 r13 u13 he13 hs13 (hM13 : Mem w [] w13 [r13]) => ?_
      refine h12 _ _ ?_
      clear h12
      refine seq fun K14 h14 => ?_
      refine stp (v := .int .i64 (i : Nat)) (o_mv rfl) ?_
      refine stp (v := x) (o_mv rfl) ?_
      refine stp (v := .int .i64 (b.length : Nat)) (o_lenR (hx.upd hM13.upd) rfl rfl) ?_
      refine stp (v := .bool (decide (((i : Nat) : Int) < (b.length : Nat)))) (o_bin rfl rfl rfl) ?_
      refine h14 _ _ ?_
      clear h14
      refine cndP rfl (fun c15 => ?_) (fun c15 => ?_)
      ·
        refine stp (v := g) (o_mv rfl) ?_
        refine stp (v := .int .i64 (i : Nat)) (o_mv rfl) ?_
        refine stp (v := x) (o_mv rfl) ?_
        refine stp (v := .int .i64 (i : Nat)) (o_mv rfl) ?_
        refine m_idxE 0 (j := i) (hx.upd hM13.upd) rfl rfl (by omega) fun b16 o16 hp16 => ?_
        refine ld (v := byteV (b.getD i 0)) rfl (hp16) ?_
        refine m_set (E := byteV) (q := b.getD i 0) (j := i) hM13 (i := 0) rfl hs13 rfl rfl (by simp; omega) (by simp) (rfl) fun w17 r17 u17 he17 hs17 (hM17 : Mem w [] w17 [r17]) => ?_
        refine h11 _ _ ?_
        clear h11
        refine stp (v := .int .i64 (i : Nat)) (o_mv rfl) ?_
        refine stp (v := .int .i64 ((i : Nat) + 1)) (o_bin rfl rfl (v_add64 (by constructor <;> omega))) ?_
        refine stp (v := .int .i64 ((i : Nat) + 1)) (o_mv rfl) ?_
        refine h7 (i + 1, g, r17) _ _ ⟨rfl, rfl, by first | rfl | exact v_int (by omega) | exact v_int (by simp) | exact v_int (by simp; omega), hM17, by rw [← setG 0 rfl (c := b.getD i 0) (by omega) rfl]; simpa [List.set_set] using hs17, by omega, by simp; omega⟩ (by (try dsimp only); omega)
      ·
        refine h11 _ _ ?_
        clear h11
        refine stp (v := .int .i64 (i : Nat)) (o_mv rfl) ?_
        refine stp (v := .int .i64 ((i : Nat) + 1)) (o_bin rfl rfl (v_add64 (by constructor <;> omega))) ?_
        refine stp (v := .int .i64 ((i : Nat) + 1)) (o_mv rfl) ?_
        refine h7 (i + 1, g, r13) _ _ ⟨rfl, rfl, by first | rfl | exact v_int (by omega) | exact v_int (by simp) | exact v_int (by simp; omega), hM13, by rw [← setG2 0 rfl (by omega) (by omega)]; exact hs13, by omega, by simp; omega⟩ (by (try dsimp only); omega)
    ·
      refine h4 _ _ ?_
      clear h4
      refine seq fun K18 h18 => ?_
      refine stp (v := g) (o_mv rfl) ?_
      refine stp (v := g) (o_mv rfl) ?_
      refine h18 _ _ ?_
      clear h18
      refine ⟨g, rfl, ?_⟩
      have e : i = (b.length + 64) := by omega
      subst e
      rw [Nat.sub_self, List.replicate_zero, List.append_nil, List.take_of_length_le (by simp)] at hs
      exact ⟨_, hs, hM6⟩

set_option maxRecDepth 100000 in
/-- winnowlaw7.given -/
theorem given_ok (a : Bool) (h : Int) (v : Value) (d : List UInt8) (w : World) (hx : RdE byteV w v d) (hl : d.length ≤ 140737488351232) : Calls Try.prog 18 [.agg [.bool a, .int .i64 h, v].toArray].toArray w (Rt fun r w' => ∃ bg cp rs, r = .agg #[.bool a, .int .i64 h, .slice (some ⟨bg, 0, none⟩) d.length cp] ∧ (d ++ List.replicate 64 (165 : UInt8)).length ≤ cp ∧ SlE byteV 5 (.slice (some ⟨bg, 0, none⟩) (d ++ List.replicate 64 (165 : UInt8)).length cp) (d ++ List.replicate 64 (165 : UInt8)) rs ∧ Mem w [] w' [rs]) := by
  obtain ⟨av, nv, cv, rfl⟩ := hx.isSlice
  have hM0 : Mem w [] w [] := Mem.nil w []
  refine calls_vc mixed Try.func18 rfl C18 (by simp [Try.ntmps18]) ?_
  refine seq fun K1 h1 => ?_
  refine m_bx (v := .agg ([.bool a, .int .i64 h, (.slice av nv cv)] : List Value).toArray) hM0 rfl rfl fun b2 w3 (hM3 : Mem w [] w3 [[⟨b2, 30, [.bool a, .int .i64 h, (.slice av nv cv)]⟩]]) => ?_
  refine m_al hM3 fun b4 w5 (hM5 : Mem w [] w5 [[⟨b2, 30, [.bool a, .int .i64 h, (.slice av nv cv)]⟩], [⟨b4, 30, [.bool false, .int .i64 0, .slice none 0 0]⟩]]) => ?_
  refine h1 _ _ ?_
  clear h1
  refine seq fun K6 h6 => ?_
  refine m_ldA (l := [.bool a, .int .i64 h, (.slice av nv cv)]) hM5 (i := 0) (j := 0) rfl rfl rfl rfl rfl ?_
  refine m_al hM5 fun b7 w8 (hM8 : Mem w [] w8 [[⟨b2, 30, [.bool a, .int .i64 h, (.slice av nv cv)]⟩], [⟨b4, 30, [.bool false, .int .i64 0, .slice none 0 0]⟩], [⟨b7, 30, [.bool false, .int .i64 0, .slice none 0 0]⟩]]) => ?_
  refine m_stA (l := [.bool a, .int .i64 h, (.slice av nv cv)]) hM8 (i := 2) rfl rfl rfl rfl (by simp [oneCells, Value.oneCell', byteV]) (by simp) fun w9 (hM9 : Mem w [] w9 [[⟨b2, 30, [.bool a, .int .i64 h, (.slice av nv cv)]⟩], [⟨b4, 30, [.bool false, .int .i64 0, .slice none 0 0]⟩], [⟨b7, 30, [.bool a, .int .i64 h, (.slice av nv cv)]⟩]]) => ?_
  refine h6 _ _ ?_
  clear h6
  refine seq fun K10 h10 => ?_
  intro wd e1 e2 e3 e4
  have hd := Upd.same e1 e2 e3 e4 []
  have hM11 := hM9.pure hd
  clear e1 e2 e3 e4
  refine ⟨(some [b2]), ?_⟩
  show vd _ _ _ _ _ _ _
  refine dq (v := .pointer (some ⟨b2, 2, none⟩)) (o_fa rfl rfl) ?_
  refine dq (v := .pointer (some ⟨b2, 2, none⟩)) (o_fa rfl rfl) ?_
  refine dqld rfl (by simp [isHeld]) (v := (.slice av nv cv)) ((hM11.at (i := 0) (j := 0) rfl rfl).cell 2) ?_
  refine dq (v := .int .i64 (d.length : Nat)) (o_lenR (hx.upd hM11.upd) rfl rfl) ?_
  refine dl (m_ld (v := (.slice av nv cv)) hM11 (i := 0) (j := 0) rfl rfl rfl rfl ?_)
  refine ⟨(fun b hb => rfl), ?_⟩
  refine dl (m_call (roomy_ok _ d wd (hx.upd hM11.upd) (by first | omega | (simp; done) | (simp; omega))) rfl fun v12 w12 ⟨rs12, hs12, hm12⟩ => ?_)
  have hM12 : Mem w [] w12 [[⟨b2, 30, [.bool a, .int .i64 h, (.slice av nv cv)]⟩], [⟨b4, 30, [.bool false, .int .i64 0, .slice none 0 0]⟩], [⟨b7, 30, [.bool a, .int .i64 h, (.slice av nv cv)]⟩], rs12] := hM11.add hm12
  obtain ⟨bg12, cp12, rfl, hcp12⟩ := hs12.isSome (by simp)
  have hh12 := held_upd (wr := wd) (bs := [b2]) hm12.upd (fun b hb => by
    simp only [List.mem_cons, List.not_mem_nil, or_false] at hb
    rw [hb]; exact ⟨(hM11.at (i := 0) (j := 0) rfl rfl).lt, by simp⟩) (fun b hb => rfl)
  refine ⟨hh12, ?_⟩
  refine dq (v := (.slice (some ⟨bg12, 0, none⟩) d.length cp12)) (o_slcU rfl rfl (by first | omega | (simp at *; omega)) rfl) ?_
  refine dq (v := .pointer (some ⟨b7, 2, none⟩)) (o_fa rfl rfl) ?_
  refine dl (m_stU (v := (.slice (some ⟨bg12, 0, none⟩) d.length cp12)) hM12 (i := 2) rfl rfl rfl (Sl.one hs12.cutTo) (by simp) fun w13 hup13 (hM13 : Mem w [] w13 [[⟨b2, 30, [.bool a, .int .i64 h, (.slice av nv cv)]⟩], [⟨b4, 30, [.bool false, .int .i64 0, .slice none 0 0]⟩], [⟨b7, 30, [.bool a, .int .i64 h, (.slice (some ⟨bg12, 0, none⟩) d.length cp12)]⟩], rs12]) => ?_)
  have hh13 := held_upd (wr := wd) (bs := [b2]) hup13 (fun b hb => by
    simp only [List.mem_cons, List.not_mem_nil, or_false] at hb
    rw [hb]; exact ⟨(hM12.at (i := 0) (j := 0) rfl rfl).lt, hM12.apart (i := 0) (j := 0) (k := 2) rfl rfl rfl (by decide)⟩) hh12
  refine ⟨hh13, ?_⟩
  refine h10 _ _ ?_
  clear h10
  refine seq fun K14 h14 => ?_
  refine m_ldA (l := [.bool a, .int .i64 h, (.slice (some ⟨bg12, 0, none⟩) d.length cp12)]) hM13 (i := 2) (j := 0) rfl rfl rfl rfl rfl ?_
  refine m_stA (l := [.bool a, .int .i64 h, (.slice (some ⟨bg12, 0, none⟩) d.length cp12)]) hM13 (i := 1) rfl rfl rfl rfl (by simp [oneCells, Value.oneCell', byteV]) (by simp) fun w15 (hM15 : Mem w [] w15 [[⟨b2, 30, [.bool a, .int .i64 h, (.slice av nv cv)]⟩], [⟨b4, 30, [.bool a, .int .i64 h, (.slice (some ⟨bg12, 0, none⟩) d.length cp12)]⟩], [⟨b7, 30, [.bool a, .int .i64 h, (.slice (some ⟨bg12, 0, none⟩) d.length cp12)]⟩], rs12]) => ?_
  refine h14 _ _ ?_
  clear h14
  show resV _ _ _ _ _
  refine res_cell (s := some 3) (by kernel_rfl) ?_
  refine vl_ldA (cs := [.bool a, .int .i64 h, (.slice (some ⟨bg12, 0, none⟩) d.length cp12)]) rfl rfl ((hM15.at (i := 1) (j := 0) rfl rfl).agg rfl rfl) ?_
  refine ⟨(.agg ([.bool a, .int .i64 h, (.slice (some ⟨bg12, 0, none⟩) d.length cp12)] : List Value).toArray), rfl, ?_⟩
  exact ⟨_, _, _, rfl, by assumption, by assumption, (((hM15.drop 0).drop 1).drop 2).keep (by simp)⟩
