/- Filters as bytes. -/
import Derived.Test.YthhmhmnhbababaaK2
import Derived.Test.YthhmhmnhbababaaE23
import Derived.Test.YthhmhmnhbababaaD2
namespace Go.Proofs.Ythhmhmnhbababaa.E
open Go
def encF (a : Bool) (h : Int) (d : List UInt8) : List UInt8 × Int := if fk a h d = 1 then ([255], 0) else if fk a h d = 2 then ([0], 0) else if fk a h d = 3 then (h.toNat.toUInt8 :: (putI d.length ++ d), 0) else ([], 70)
theorem encF_1 {a : Bool} {h : Int} {d : List UInt8} (k : fk a h d = 1) : encF a h d = ([255], 0) := by unfold encF; rw [if_pos k]
theorem encF_2 {a : Bool} {h : Int} {d : List UInt8} (k : fk a h d = 2) : encF a h d = ([0], 0) := by unfold encF; rw [if_neg (by omega), if_pos k]
theorem encF_3 {a : Bool} {h : Int} {d : List UInt8} (k : fk a h d = 3) : encF a h d = (h.toNat.toUInt8 :: (putI d.length ++ d), 0) := by unfold encF; rw [if_neg (by omega), if_neg (by omega), if_pos k]
theorem encF_0 {a : Bool} {h : Int} {d : List UInt8} (k : ¬ fk a h d = 1) (k2 : ¬ fk a h d = 2) (k3 : ¬ fk a h d = 3) : encF a h d = ([], 70) := by unfold encF; rw [if_neg k, if_neg k2, if_neg k3]
theorem conv_h {h : Int} (h0 : 0 ≤ h) (h1 : h ≤ 255) : Value.int .u8 (IntKind.u8.wrap h) = byteV h.toNat.toUInt8 := by
 rw [wrap_u8, Int.emod_eq_of_lt h0 (by omega)]; exact byteV_of h0 (by omega)
theorem fEncode_ok (a : Bool) (h : Int) (v : Value) (d : List UInt8) (w : World) (hx : RdE byteV w v d) (hl : d.length ≤ 140737488351232) : Calls Try.prog 77 [.agg [.bool a, .int .i64 h, v].toArray].toArray w (Rt fun r w' => ∃ v' rs, r = .tuple #[v', .int .i64 (encF a h d).2] ∧ SlE byteV 5 v' (encF a h d).1 rs ∧ Mem w [] w' [rs]) := by
 have hM0 : Mem w [] w [] := Mem.nil w []
 refine calls_vc mixed Try.func77 rfl C77 (by simp [Try.ntmps77]) <| seq fun _ h1 => m_bx (v := .agg ([.bool a, .int .i64 h, v] : List Value).toArray) hM0 rfl rfl fun b2 w3 (hM3 : Mem w [] w3 [[⟨b2, 69, [.bool a, .int .i64 h, v]⟩]]) => mv <| mv <| h1 _ _ <| seq fun _ h4 => seq fun _ h5 => m_ldA (l := [.bool a, .int .i64 h, v]) hM3 (i := 0) (j := 0) rfl rfl rfl rfl rfl <| m_call (kind_ok a h _ d w3 (hx.upd hM3.upd) (by first | omega | (simp; done) | (simp; omega))) rfl fun v6 w6 ⟨hr6, hu6⟩ => ?_
 have hM6 : Mem w [] w6 [[⟨b2, 69, [.bool a, .int .i64 h, v]⟩]] := hM3.pure hu6
 subst hr6
 refine h5 _ _ <| seq fun _ h7 => bn rfl rfl <| mv <| h7 _ _ <| cndP rfl (fun c8 => ?_) (fun c8 => ?_)
 ·refine seq fun _ h9 => m_bs hM6 rfl fun b10 w11 (hM11 : Mem w [] w11 [[⟨b2, 69, [.bool a, .int .i64 h, v]⟩], [⟨b10, 5, [.int .u8 255]⟩]]) => mv <| mv <| h9 _ _ <| ⟨(.tuple [.slice (some ⟨b10, 0, none⟩) 1 1, .int .i64 0].toArray), rfl, ⟨_, _, by rw [encF_1 (by omega)], by rw [encF_1 (by omega)]; exact SlE.lit (l := [255]) rfl, (hM11.drop 0).keep (by simp [byteV])⟩⟩
 refine seq fun _ h12 => bn rfl rfl <| mv <| h12 _ _ <| cndP rfl (fun c13 => ?_) (fun c13 => ?_)
 ·refine seq fun _ h14 => m_bs hM6 rfl fun b15 w16 (hM16 : Mem w [] w16 [[⟨b2, 69, [.bool a, .int .i64 h, v]⟩], [⟨b15, 5, [.int .u8 0]⟩]]) => mv <| mv <| h14 _ _ <| ⟨(.tuple [.slice (some ⟨b15, 0, none⟩) 1 1, .int .i64 0].toArray), rfl, ⟨_, _, by rw [encF_2 (by omega)], by rw [encF_2 (by omega)]; exact SlE.lit (l := [0]) rfl, (hM16.drop 0).keep (by simp [byteV])⟩⟩
 refine seq fun _ h17 => bn rfl rfl <| mv <| h17 _ _ <| cndP rfl (fun c18 => ?_) (fun c18 => ?_)
 ·refine seq fun _ h19 => ?_
  intro wd e1 e2 e3 e4
  have hd := Upd.same e1 e2 e3 e4 []
  have hM20 := hM6.pure hd
  clear e1 e2 e3 e4
  refine ⟨(some [b2]), ?_⟩
  show vd _ _ _ _ _ _ _
  have h3 := fk3 (a := a) (h := h) (d := d) (by omega)
  refine dfa rfl <| dfa rfl <| dqld rfl (by simp [isHeld]) (v := v) ((hM20.at (i := 0) (j := 0) rfl rfl).cell 2) <| dq (v := .int .i64 (d.length : Nat)) (o_lenR (hx.upd hM20.upd) rfl rfl) <| dqld rfl (by simp [isHeld]) (v := .int .i64 h) ((hM20.at (i := 0) (j := 0) rfl rfl).cell 1) <| dq (v := byteV h.toNat.toUInt8) (o_conv rfl (conv_h (by omega) (by omega))) ?_
  show _ ∧ _
  refine ⟨?_, ?_⟩
  ·show vd _ _ _ _ _ _ _
   refine dl (m_bsU hM20 rfl fun b21 w22 hup22 (hM22 : Mem w [] w22 [[⟨b2, 69, [.bool a, .int .i64 h, v]⟩], [⟨b21, 5, [byteV h.toNat.toUInt8]⟩]]) => ?_)
   have hh22 := held_upd (wr := wd) (bs := [b2]) hup22 (fun b hb => by
    simp only [List.mem_cons, List.not_mem_nil, or_false] at hb
    rw [hb]; exact ⟨(hM20.at (i := 0) (j := 0) rfl rfl).lt, by simp⟩) (fun b hb => rfl)
   refine ⟨hh22, dl (m_call (Put_ok (d.length : Nat) (by simp only [inK]; omega) w22) rfl fun v23 w23 ⟨rs23, hs23, hm23⟩ => ?_)⟩
   have hM23 : Mem w [] w23 [[⟨b2, 69, [.bool a, .int .i64 h, v]⟩], [⟨b21, 5, [byteV h.toNat.toUInt8]⟩], rs23] := hM22.add hm23
   have hn23 := putI_len (v := (d.length : Nat)) (by omega)
   have hh23 := held_upd (wr := wd) (bs := [b2]) hm23.upd (fun b hb => by
    simp only [List.mem_cons, List.not_mem_nil, or_false] at hb
    rw [hb]; exact ⟨(hM22.at (i := 0) (j := 0) rfl rfl).lt, by simp⟩) hh22
   refine ⟨hh23, ?_⟩
   have hs24 : SlE byteV 5 (.slice (some ⟨b21, 0, none⟩) 1 1) [h.toNat.toUInt8] [⟨b21, 5, [byteV h.toNat.toUInt8]⟩] := SlE.lit (l := [h.toNat.toUInt8]) rfl
   refine dl (m_appEU hM23 (i := 1) rfl hs24 rfl rfl (hs23.rd hM23 (i := 2) rfl) (by first | omega | (simp; omega)) (by omega) fun v25 w25 r25 (hs25 : SlE byteV 5 v25 (([h.toNat.toUInt8]) ++ (putI (d.length : Nat))) r25) hup25 (hM25 : Mem w [] w25 [[⟨b2, 69, [.bool a, .int .i64 h, v]⟩], r25, rs23]) => ?_)
   have hh25 := held_upd (wr := wd) (bs := [b2]) hup25 (fun b hb => by
    simp only [List.mem_cons, List.not_mem_nil, or_false] at hb
    rw [hb]; exact ⟨(hM23.at (i := 0) (j := 0) rfl rfl).lt, hM23.apart (i := 0) (j := 0) (k := 1) rfl rfl rfl (by decide)⟩) hh23
   refine ⟨hh25, dmv <| h19 _ _ <| seq fun _ h26 => mv <| fa rfl <| m_ld (v := v) hM25 (i := 0) (j := 0) rfl rfl rfl rfl <| m_appE hM25 (i := 1) rfl hs25 rfl rfl (hx.upd hM25.upd) (by first | omega | (simp; omega)) (by omega) fun v27 w27 r27 (hs27 : SlE byteV 5 v27 ((([h.toNat.toUInt8]) ++ (putI (d.length : Nat))) ++ d) r27) (hM27 : Mem w [] w27 [[⟨b2, 69, [.bool a, .int .i64 h, v]⟩], r27, rs23]) => mv <| mv <| h26 _ _ <| ⟨(.tuple [v27, .int .i64 0].toArray), rfl, ⟨_, _, by rw [encF_3 (by omega)], by rw [encF_3 (by omega)]; simpa using hs27, (hM27.drop 0).keep (by simp)⟩⟩⟩
  show vd _ _ _ _ _ _ _
  refine dl (m_call (Put_ok (d.length : Nat) (by simp only [inK]; omega) wd) rfl fun v28 w28 ⟨rs28, hs28, hm28⟩ => ?_)
  have hM28 : Mem w [] w28 [[⟨b2, 69, [.bool a, .int .i64 h, v]⟩], rs28] := hM20.add hm28
  have hn28 := putI_len (v := (d.length : Nat)) (by omega)
  have hh28 := held_upd (wr := wd) (bs := [b2]) hm28.upd (fun b hb => by
   simp only [List.mem_cons, List.not_mem_nil, or_false] at hb
   rw [hb]; exact ⟨(hM20.at (i := 0) (j := 0) rfl rfl).lt, by simp⟩) (fun b hb => rfl)
  refine ⟨hh28, dl (m_bsU hM28 rfl fun b29 w30 hup30 (hM30 : Mem w [] w30 [[⟨b2, 69, [.bool a, .int .i64 h, v]⟩], rs28, [⟨b29, 5, [byteV h.toNat.toUInt8]⟩]]) => ?_)⟩
  have hh30 := held_upd (wr := wd) (bs := [b2]) hup30 (fun b hb => by
   simp only [List.mem_cons, List.not_mem_nil, or_false] at hb
   rw [hb]; exact ⟨(hM28.at (i := 0) (j := 0) rfl rfl).lt, by simp⟩) hh28
  refine ⟨hh30, ?_⟩
  have hs31 : SlE byteV 5 (.slice (some ⟨b29, 0, none⟩) 1 1) [h.toNat.toUInt8] [⟨b29, 5, [byteV h.toNat.toUInt8]⟩] := SlE.lit (l := [h.toNat.toUInt8]) rfl
  refine dl (m_appEU hM30 (i := 2) rfl hs31 rfl rfl (hs28.rd hM30 (i := 1) rfl) (by first | omega | (simp; omega)) (by omega) fun v32 w32 r32 (hs32 : SlE byteV 5 v32 (([h.toNat.toUInt8]) ++ (putI (d.length : Nat))) r32) hup32 (hM32 : Mem w [] w32 [[⟨b2, 69, [.bool a, .int .i64 h, v]⟩], rs28, r32]) => ?_)
  have hh32 := held_upd (wr := wd) (bs := [b2]) hup32 (fun b hb => by
   simp only [List.mem_cons, List.not_mem_nil, or_false] at hb
   rw [hb]; exact ⟨(hM30.at (i := 0) (j := 0) rfl rfl).lt, hM30.apart (i := 0) (j := 0) (k := 2) rfl rfl rfl (by decide)⟩) hh30
  refine ⟨hh32, dmv <| h19 _ _ <| seq fun _ h33 => mv <| fa rfl <| m_ld (v := v) hM32 (i := 0) (j := 0) rfl rfl rfl rfl <| m_appE hM32 (i := 2) rfl hs32 rfl rfl (hx.upd hM32.upd) (by first | omega | (simp; omega)) (by omega) fun v34 w34 r34 (hs34 : SlE byteV 5 v34 ((([h.toNat.toUInt8]) ++ (putI (d.length : Nat))) ++ d) r34) (hM34 : Mem w [] w34 [[⟨b2, 69, [.bool a, .int .i64 h, v]⟩], rs28, r34]) => mv <| mv <| h33 _ _ <| ⟨(.tuple [v34, .int .i64 0].toArray), rfl, ⟨_, _, by rw [encF_3 (by omega)], by rw [encF_3 (by omega)]; simpa using hs34, (hM34.drop 0).keep (by simp)⟩⟩⟩
 refine h4 _ _ <| seq fun _ h35 => mv <| mv <| h35 _ _ <| ⟨(.tuple [.slice none 0 0, .int .i64 70].toArray), rfl, ⟨_, _, by rw [encF_0 (by omega) (by omega) (by omega)], by rw [encF_0 (by omega) (by omega) (by omega)]; exact Sl.nil 1 5, ((hM6.drop 0).addNil).keep (by simp)⟩⟩
def decF : List UInt8 → Bool × Int × List UInt8 × Int
 | [] => (false, 0, [], 70)
 | c :: r => if c.toNat = 0 then (if r.length = 0 then (false, 0, [], 0) else (false, 0, [], 70)) else if c.toNat = 255 then (if r.length = 0 then (true, 0, [], 0) else (false, 0, [], 70)) else if 8 < c.toNat then (false, 0, [], 70)
  else if ¬ (get r).2.2 = 0 ∨ (get r).1 < 1 ∨ 4096 < (get r).1 ∨ ¬ r.length = (get r).2.1 + (get r).1 then (false, 0, [], 70) else (false, (c.toNat : Int), r.drop (get r).2.1, 0)
theorem decF_cons (c : UInt8) (r : List UInt8) : decF (c :: r) = if c.toNat = 0 then (if r.length = 0 then (false, 0, [], 0) else (false, 0, [], 70)) else if c.toNat = 255 then (if r.length = 0 then (true, 0, [], 0) else (false, 0, [], 70)) else if 8 < c.toNat then (false, 0, [], 70)
 else if ¬ (get r).2.2 = 0 ∨ (get r).1 < 1 ∨ 4096 < (get r).1 ∨ ¬ r.length = (get r).2.1 + (get r).1 then (false, 0, [], 70) else (false, (c.toNat : Int), r.drop (get r).2.1, 0) := rfl
theorem head_nil : cFix [] 0 0 1 = 0 ∧ cFixA [] 0 0 1 = 0 ∧ cFixE [] 0 0 1 = 20 := by decide
theorem head_cons (c : UInt8) (r : List UInt8) : cFix (c :: r) 0 0 1 = c.toNat ∧ cFixA (c :: r) 0 0 1 = 1 ∧ cFixE (c :: r) 0 0 1 = 0 := by
 have h := fix_fine (l := c :: r) (n := 1) (by omega) (by simp only [List.length_cons]; omega)
 refine ⟨?_, ?_, ?_⟩
 ·unfold cFix; rw [if_pos rfl, List.drop_zero, h.2]; simp [word, le]
 ·unfold cFixA; rw [List.drop_zero, if_pos ⟨rfl, h.1⟩]; have := fixN_n h.1; omega
 unfold cFixE; rw [if_pos rfl, List.drop_zero, h.1]
theorem endE_1 (c : UInt8) (r : List UInt8) : endE (c :: r) 1 0 = if r.length = 0 then 0 else 22 := by
 unfold endE
 rw [if_neg (by omega)]
 by_cases h : r.length = 0
 ·rw [if_pos h, if_neg (by simp only [List.length_cons]; omega)]
 rw [if_neg h, if_pos (by simp only [List.length_cons]; omega)]
theorem dec_zero {b : List UInt8} (h : ((cFix b 0 0 1 : Nat) : Int) = 0) : decF b = if endE b (cFixA b 0 0 1) (cFixE b 0 0 1) = 0 then (false, 0, [], 0) else (false, 0, [], 70) := by
 cases b with
 | nil => rw [head_nil.2.1, head_nil.2.2]; rfl
 | cons c r =>
  rw [(head_cons c r).1] at h
  rw [(head_cons c r).2.1, (head_cons c r).2.2]
  rw [decF_cons, if_pos (by omega), endE_1]
  by_cases hr : r.length = 0
  ·rw [if_pos hr, if_pos hr, if_pos rfl]
  rw [if_neg hr, if_neg hr, if_neg (by decide)]
theorem dec_all {b : List UInt8} (h : ((cFix b 0 0 1 : Nat) : Int) = 255) : decF b = if endE b (cFixA b 0 0 1) (cFixE b 0 0 1) = 0 then (true, 0, [], 0) else (false, 0, [], 70) := by
 cases b with
 | nil => rw [head_nil.1] at h; omega
 | cons c r =>
  rw [(head_cons c r).1] at h
  rw [(head_cons c r).2.1, (head_cons c r).2.2]
  rw [decF_cons, if_neg (by omega), if_pos (by omega), endE_1]
  by_cases hr : r.length = 0
  ·rw [if_pos hr, if_pos hr, if_pos rfl]
  rw [if_neg hr, if_neg hr, if_neg (by decide)]
def decT (b : List UInt8) : List UInt8 := cTk b (cNumA b (cFixA b 0 0 1) (cFixE b 0 0 1) 4096) (cNumE b (cFixA b 0 0 1) (cFixE b 0 0 1) 4096) (cNum b (cFixA b 0 0 1) (cFixE b 0 0 1) 4096)
def decA (b : List UInt8) : Nat := cTkA b (cNumA b (cFixA b 0 0 1) (cFixE b 0 0 1) 4096) (cNumE b (cFixA b 0 0 1) (cFixE b 0 0 1) 4096) (cNum b (cFixA b 0 0 1) (cFixE b 0 0 1) 4096)
def decE (b : List UInt8) : Int := cTkE b (cNumA b (cFixA b 0 0 1) (cFixE b 0 0 1) 4096) (cNumE b (cFixA b 0 0 1) (cFixE b 0 0 1) 4096) (cNum b (cFixA b 0 0 1) (cFixE b 0 0 1) 4096)
theorem dec_far {c : UInt8} {r : List UInt8} (n0 : ¬ numE r 4096 = 0) : decT (c :: r) = [] := by
 unfold decT
 rw [(head_cons c r).2.1, (head_cons c r).2.2]
 unfold cTk cNumE
 rw [if_pos rfl, List.drop_succ_cons, List.drop_zero, if_neg n0]
theorem dec_near {c : UInt8} {r : List UInt8} (n0 : numE r 4096 = 0) : decT (c :: r) = tkV (r.drop (get r).2.1) ((get r).1 : Nat) ∧
 decA (c :: r) = (if tkE (r.drop (get r).2.1) ((get r).1 : Nat) = 0 then 1 + (get r).2.1 + tkN (r.drop (get r).2.1) ((get r).1 : Nat) else 1 + (get r).2.1) ∧ decE (c :: r) = tkE (r.drop (get r).2.1) ((get r).1 : Nat) := by
 have e1 : cNumE (c :: r) 1 0 4096 = 0 := by unfold cNumE; rw [if_pos rfl, List.drop_succ_cons, List.drop_zero, n0]
 have e2 : cNumA (c :: r) 1 0 4096 = 1 + (get r).2.1 := by unfold cNumA; rw [List.drop_succ_cons, List.drop_zero, if_pos ⟨rfl, n0⟩]
 have e3 : cNum (c :: r) 1 0 4096 = ((get r).1 : Nat) := by unfold cNum numV; rw [if_pos rfl, List.drop_succ_cons, List.drop_zero, if_pos n0]
 have e4 : (c :: r).drop (1 + (get r).2.1) = r.drop (get r).2.1 := by rw [Nat.add_comm, List.drop_succ_cons]
 unfold decT decA decE
 rw [(head_cons c r).2.1, (head_cons c r).2.2, e1, e2, e3]
 unfold cTk cTkA cTkE
 rw [if_pos rfl, if_pos rfl, e4]
 refine ⟨rfl, ?_, rfl⟩
 by_cases h : tkE (r.drop (get r).2.1) ((get r).1 : Nat) = 0
 ·rw [if_pos ⟨rfl, h⟩, if_pos h]
 rw [if_neg (fun k => h k.2), if_neg h]
theorem dec_bits {b : List UInt8} (h0 : ¬ ((cFix b 0 0 1 : Nat) : Int) = 0) (h1 : ¬ ((cFix b 0 0 1 : Nat) : Int) = 255) :
 decF b = if fk false ((cFix b 0 0 1 : Nat) : Int) (decT b) = 3 ∧ endE b (decA b) (decE b) = 0 then (false, ((cFix b 0 0 1 : Nat) : Int), decT b, 0) else (false, 0, [], 70) := by
 cases b with
 | nil => rw [head_nil.1] at h0; omega
 | cons c r =>
  rw [(head_cons c r).1] at h0 h1 ⊢
  have hc := c.toNat_lt
  rw [decF_cons, if_neg (by omega), if_neg (by omega)]
  by_cases n0 : numE r 4096 = 0
  ·obtain ⟨e1, e2, e3⟩ := dec_near (c := c) n0
   have g0 := numE_get n0
   have gl := (get_ok g0).2.1
   have g4 : ¬ 4096 < (get r).1 := fun h => by unfold numE at n0; rw [if_pos g0, if_pos (by omega)] at n0; omega
   by_cases t0 : tkE (r.drop (get r).2.1) ((get r).1 : Nat) = 0
   ·have tn := tkN_n t0
    have tl := tkN_le t0
    rw [List.length_drop] at tl
    have tv : tkV (r.drop (get r).2.1) ((get r).1 : Nat) = (r.drop (get r).2.1).take (get r).1 := by unfold tkV; rw [if_pos t0, Int.toNat_natCast]
    rw [if_pos t0] at e2
    rw [e1, e2, e3, t0, tv]
    by_cases h8 : 8 < c.toNat
    ·rw [if_pos h8, if_neg (fun k => by have := (fk3 k.1).2.2.1; omega)]
    rw [if_neg h8]
    have ll : ((r.drop (get r).2.1).take (get r).1).length = (get r).1 := by rw [List.length_take, List.length_drop]; omega
    by_cases hz : (get r).1 < 1
    ·rw [if_pos (by omega), if_neg (fun k => by have := (fk3 k.1).2.2.2.1; rw [ll] at this; omega)]
    have k3 : fk false (c.toNat : Int) ((r.drop (get r).2.1).take (get r).1) = 3 := fk_bits (by rw [ll]; omega)
    by_cases hf : r.length = (get r).2.1 + (get r).1
    ·rw [if_neg (by omega), if_pos ⟨k3, by unfold endE; rw [if_neg (by omega), if_neg (by simp only [List.length_cons]; omega)]⟩, List.take_of_length_le (by rw [List.length_drop]; omega)]
    rw [if_pos (by omega), if_neg (fun k => by have := k.2; unfold endE at this; rw [if_neg (by omega), if_pos (by simp only [List.length_cons]; omega)] at this; omega)]
   have tv : tkV (r.drop (get r).2.1) ((get r).1 : Nat) = [] := by unfold tkV; rw [if_neg t0]
   have t2 : r.length < (get r).2.1 + (get r).1 := by
    apply Decidable.byContradiction; intro hk
    exact t0 (tk_fine (by omega) (by rw [List.length_drop]; omega)).1
   have F : ¬ (fk false (c.toNat : Int) [] = 3 ∧ endE (c :: r) (decA (c :: r)) (decE (c :: r)) = 0) := fun k => by have := (fk3 k.1).2.2.2.1; simp at this
   rw [e1, tv, if_neg F]
   split
   ·rfl
   rw [if_pos (by omega)]
  have F : ¬ (fk false (c.toNat : Int) [] = 3 ∧ endE (c :: r) (decA (c :: r)) (decE (c :: r)) = 0) := fun k => by have := (fk3 k.1).2.2.2.1; simp at this
  rw [dec_far n0, if_neg F]
  have : ¬ (get r).2.2 = 0 ∨ 4096 < (get r).1 := by
   by_cases g0 : (get r).2.2 = 0
   ·refine .inr (Decidable.byContradiction fun h => n0 ?_)
    unfold numE; rw [if_pos g0, if_neg (by omega)]
   exact .inl g0
  split
  ·rfl
  rw [if_pos (by omega)]
theorem cTk_len (b : List UInt8) (a : Nat) (e n : Int) : (cTk b a e n).length ≤ b.length := by
 unfold cTk; split
 ·unfold tkV; split
  ·rw [List.length_take, List.length_drop]; omega
  simp
 simp
theorem cFix_lt (b : List UInt8) : cFix b 0 0 1 < 256 := by
 cases b with
 | nil => rw [head_nil.1]; omega
 | cons c r => rw [(head_cons c r).1]; exact c.toNat_lt
set_option maxRecDepth 100000 in
theorem fDecode_ok (x : Value) (b : List UInt8) (w : World) (hx : RdE byteV w x b) (hl : b.length ≤ 140737488351232) : Calls Try.prog 86 [x].toArray w (Rt fun r w' => ∃ v rs, r = .tuple #[.agg #[.bool (decF b).1, .int .i64 (decF b).2.1, v], .int .i64 (decF b).2.2.2] ∧ SlE byteV 5 v (decF b).2.2.1 rs ∧ Mem w [] w' [rs]) := by
 have hM0 : Mem w [] w [] := Mem.nil w []
 have hcf := cFix_lt b
 have htl := cTk_len b (cNumA b (cFixA b 0 0 1) (cFixE b 0 0 1) 4096) (cNumE b (cFixA b 0 0 1) (cFixE b 0 0 1) 4096) (cNum b (cFixA b 0 0 1) (cFixE b 0 0 1) 4096)
 refine calls_vc mixed Try.func86 rfl C86 (by simp [Try.ntmps86]) <| seq fun _ h1 => m_al hM0 fun b2 w3 (hM3 : Mem w [] w3 [[⟨b2, 69, [.bool false, .int .i64 0, .slice none 0 0]⟩]]) => mv <| h1 _ _ <| seq fun _ h4 => mv <| m_call (NewCursor_ok _ b w3 (hx.upd hM3.upd) (by first | omega | (simp; done) | (simp; omega))) rfl fun v5 w5 ⟨bc5, rs5, hr5, hc5, hm5⟩ => ?_
 have hM5 : Mem w [] w5 [[⟨b2, 69, [.bool false, .int .i64 0, .slice none 0 0]⟩], rs5] := hM3.add hm5
 subst hr5
 refine mv <| h4 _ _ <| seq fun _ h6 => m_al hM5 fun b7 w8 (hM8 : Mem w [] w8 [[⟨b2, 69, [.bool false, .int .i64 0, .slice none 0 0]⟩], rs5, [⟨b7, 69, [.bool false, .int .i64 0, .slice none 0 0]⟩]]) => h6 _ _ <| seq fun _ h9 => seq fun _ h10 => mv <| m_call (cFixed_ok _ b 0 0 1 rs5 w8 hc5 (hM8.res (i := 1) rfl) (by first | omega | (simp; done) | (simp; omega))) rfl fun v11 w11 ⟨hr11, r'11, hc11, hm11⟩ => ?_
 have hM11 : Mem w [] w11 [[⟨b2, 69, [.bool false, .int .i64 0, .slice none 0 0]⟩], r'11, [⟨b7, 69, [.bool false, .int .i64 0, .slice none 0 0]⟩]] := hM8.step 1 rfl hm11
 subst hr11
 refine mv <| h10 _ _ <| seq fun _ h12 => mv <| h12 _ _ <| seq fun _ h13 => bn rfl rfl <| mv <| h13 _ _ <| cndP rfl (fun c14 => ?_) (fun c14 => ?_)
 ·refine h9 _ _ <| seq fun _ h15 => seq fun _ h16 => mv <| m_call (End_ok _ b (cFixA b 0 0 1) (cFixE b 0 0 1) r'11 w11 hc11 (hM11.res (i := 1) rfl)) rfl fun v17 w17 ⟨hr17, hm17⟩ => ?_
  have hM17 : Mem w [] w17 [[⟨b2, 69, [.bool false, .int .i64 0, .slice none 0 0]⟩], r'11, [⟨b7, 69, [.bool false, .int .i64 0, .slice none 0 0]⟩]] := hM11.step 1 rfl hm17
  subst hr17
  refine stp (v := .int .i64 (endE b (cFixA b 0 0 1) (cFixE b 0 0 1))) (o_fld rfl rfl) <| bneq rfl rfl <| h16 _ _ <| cndP rfl (fun c18 => ?_) (fun c18 => ?_)
  ·refine seq fun _ h19 => stp (v := .agg ([.bool false, .int .i64 0, .slice none 0 0] : List Value).toArray) (o_bld rfl rfl) <| m_stA (l := [.bool false, .int .i64 0, .slice none 0 0]) hM17 (i := 0) rfl rfl rfl rfl (by simp [oneCells, Value.oneCell', byteV]) (by simp) fun w20 (hM20 : Mem w [] w20 [[⟨b2, 69, [.bool false, .int .i64 0, .slice none 0 0]⟩], r'11, [⟨b7, 69, [.bool false, .int .i64 0, .slice none 0 0]⟩]]) => mv <| h19 _ _ ?_
   show resV _ _ _ _ _
   refine res_cell (s := some 3) (by kernel_rfl) <| vl_ldA (cs := [.bool false, .int .i64 0, .slice none 0 0]) rfl rfl ((hM20.at (i := 0) (j := 0) rfl rfl).agg rfl rfl) <| res_tmp <| ⟨(.tuple [.agg ([.bool false, .int .i64 0, .slice none 0 0] : List Value).toArray, .int .i64 70].toArray), rfl, ?_⟩
   have e := (dec_zero (by omega)).trans (if_neg (by omega))
   exact ⟨_, _, by rw [e], by rw [e]; exact Sl.nil 1 5, (hM20.addNil).keep (by simp)⟩
  refine h15 _ _ <| seq fun _ h21 => m_ldA (l := [.bool false, .int .i64 0, .slice none 0 0]) hM17 (i := 2) (j := 0) rfl rfl rfl rfl rfl <| m_stA (l := [.bool false, .int .i64 0, .slice none 0 0]) hM17 (i := 0) rfl rfl rfl rfl (by simp [oneCells, Value.oneCell', byteV]) (by simp) fun w22 (hM22 : Mem w [] w22 [[⟨b2, 69, [.bool false, .int .i64 0, .slice none 0 0]⟩], r'11, [⟨b7, 69, [.bool false, .int .i64 0, .slice none 0 0]⟩]]) => mv <| h21 _ _ ?_
  show resV _ _ _ _ _
  refine res_cell (s := some 3) (by kernel_rfl) <| vl_ldA (cs := [.bool false, .int .i64 0, .slice none 0 0]) rfl rfl ((hM22.at (i := 0) (j := 0) rfl rfl).agg rfl rfl) <| res_tmp <| ⟨(.tuple [.agg ([.bool false, .int .i64 0, .slice none 0 0] : List Value).toArray, .int .i64 0].toArray), rfl, ?_⟩
  have e := (dec_zero (by omega)).trans (if_pos (by omega))
  exact ⟨_, _, by rw [e], by rw [e]; exact Sl.nil 1 5, (hM22.addNil).keep (by simp)⟩
 refine seq fun _ h23 => bn rfl rfl <| mv <| h23 _ _ <| cndP rfl (fun c24 => ?_) (fun c24 => ?_)
 ·refine fa rfl <| m_st (v := .bool true) hM11 (i := 2) rfl rfl rfl rfl (by simp) fun w25 (hM25 : Mem w [] w25 [[⟨b2, 69, [.bool false, .int .i64 0, .slice none 0 0]⟩], r'11, [⟨b7, 69, [.bool true, .int .i64 0, .slice none 0 0]⟩]]) => h9 _ _ <| seq fun _ h26 => seq fun _ h27 => mv <| m_call (End_ok _ b (cFixA b 0 0 1) (cFixE b 0 0 1) r'11 w25 hc11 (hM25.res (i := 1) rfl)) rfl fun v28 w28 ⟨hr28, hm28⟩ => ?_
  have hM28 : Mem w [] w28 [[⟨b2, 69, [.bool false, .int .i64 0, .slice none 0 0]⟩], r'11, [⟨b7, 69, [.bool true, .int .i64 0, .slice none 0 0]⟩]] := hM25.step 1 rfl hm28
  subst hr28
  refine stp (v := .int .i64 (endE b (cFixA b 0 0 1) (cFixE b 0 0 1))) (o_fld rfl rfl) <| bneq rfl rfl <| h27 _ _ <| cndP rfl (fun c29 => ?_) (fun c29 => ?_)
  ·refine seq fun _ h30 => stp (v := .agg ([.bool false, .int .i64 0, .slice none 0 0] : List Value).toArray) (o_bld rfl rfl) <| m_stA (l := [.bool false, .int .i64 0, .slice none 0 0]) hM28 (i := 0) rfl rfl rfl rfl (by simp [oneCells, Value.oneCell', byteV]) (by simp) fun w31 (hM31 : Mem w [] w31 [[⟨b2, 69, [.bool false, .int .i64 0, .slice none 0 0]⟩], r'11, [⟨b7, 69, [.bool true, .int .i64 0, .slice none 0 0]⟩]]) => mv <| h30 _ _ ?_
   show resV _ _ _ _ _
   refine res_cell (s := some 3) (by kernel_rfl) <| vl_ldA (cs := [.bool false, .int .i64 0, .slice none 0 0]) rfl rfl ((hM31.at (i := 0) (j := 0) rfl rfl).agg rfl rfl) <| res_tmp <| ⟨(.tuple [.agg ([.bool false, .int .i64 0, .slice none 0 0] : List Value).toArray, .int .i64 70].toArray), rfl, ?_⟩
   have e := (dec_all (by omega)).trans (if_neg (by omega))
   exact ⟨_, _, by rw [e], by rw [e]; exact Sl.nil 1 5, (hM31.addNil).keep (by simp)⟩
  refine h26 _ _ <| seq fun _ h32 => m_ldA (l := [.bool true, .int .i64 0, .slice none 0 0]) hM28 (i := 2) (j := 0) rfl rfl rfl rfl rfl <| m_stA (l := [.bool true, .int .i64 0, .slice none 0 0]) hM28 (i := 0) rfl rfl rfl rfl (by simp [oneCells, Value.oneCell', byteV]) (by simp) fun w33 (hM33 : Mem w [] w33 [[⟨b2, 69, [.bool true, .int .i64 0, .slice none 0 0]⟩], r'11, [⟨b7, 69, [.bool true, .int .i64 0, .slice none 0 0]⟩]]) => mv <| h32 _ _ ?_
  show resV _ _ _ _ _
  refine res_cell (s := some 3) (by kernel_rfl) <| vl_ldA (cs := [.bool true, .int .i64 0, .slice none 0 0]) rfl rfl ((hM33.at (i := 0) (j := 0) rfl rfl).agg rfl rfl) <| res_tmp <| ⟨(.tuple [.agg ([.bool true, .int .i64 0, .slice none 0 0] : List Value).toArray, .int .i64 0].toArray), rfl, ?_⟩
  have e := (dec_all (by omega)).trans (if_pos (by omega))
  exact ⟨_, _, by rw [e], by rw [e]; exact Sl.nil 1 5, (hM33.addNil).keep (by simp)⟩
 refine seq fun _ h34 => mv <| stp (v := .int .i64 (cFix b 0 0 1 : Nat)) (o_conv rfl (v_same (by simp only [inK]; omega))) <| fa rfl <| m_st (v := .int .i64 (cFix b 0 0 1 : Nat)) hM11 (i := 2) rfl rfl rfl rfl (by simp) fun w35 (hM35 : Mem w [] w35 [[⟨b2, 69, [.bool false, .int .i64 0, .slice none 0 0]⟩], r'11, [⟨b7, 69, [.bool false, .int .i64 (cFix b 0 0 1 : Nat), .slice none 0 0]⟩]]) => h34 _ _ <| seq fun _ h36 => mv <| mv <| m_call (Num_ok _ b (cFixA b 0 0 1) (cFixE b 0 0 1) 4096 r'11 w35 hc11 (hM35.res (i := 1) rfl) (by first | omega | (simp; done) | (simp; omega))) rfl fun v37 w37 ⟨hr37, r'37, hc37, hm37⟩ => ?_
 have hM37 : Mem w [] w37 [[⟨b2, 69, [.bool false, .int .i64 0, .slice none 0 0]⟩], r'37, [⟨b7, 69, [.bool false, .int .i64 (cFix b 0 0 1 : Nat), .slice none 0 0]⟩]] := hM35.step 1 rfl hm37
 subst hr37
 refine m_call (Take_ok _ b (cNumA b (cFixA b 0 0 1) (cFixE b 0 0 1) 4096) (cNumE b (cFixA b 0 0 1) (cFixE b 0 0 1) 4096) (cNum b (cFixA b 0 0 1) (cFixE b 0 0 1) 4096) r'37 w37 hc37 (hM37.res (i := 1) rfl) (by first | omega | (simp; done) | (simp; omega))) rfl fun v38 w38 ⟨r'38, rs38, hc38, hs38, hm38⟩ => ?_
 have hM38 : Mem w [] w38 [[⟨b2, 69, [.bool false, .int .i64 0, .slice none 0 0]⟩], r'38, [⟨b7, 69, [.bool false, .int .i64 (cFix b 0 0 1 : Nat), .slice none 0 0]⟩], rs38] := hM37.stepAdd 1 rfl hm38
 obtain ⟨a39_, n39_, c39_, rfl⟩ := Sl.isSlice hs38
 refine fa rfl <| m_st (v := (.slice a39_ n39_ c39_)) hM38 (i := 2) rfl rfl rfl (Sl.one hs38) (by simp) fun w40 (hM40 : Mem w [] w40 [[⟨b2, 69, [.bool false, .int .i64 0, .slice none 0 0]⟩], r'38, [⟨b7, 69, [.bool false, .int .i64 (cFix b 0 0 1 : Nat), (.slice a39_ n39_ c39_)]⟩], rs38]) => h36 _ _ <| seq fun _ h41 => m_ldA (l := [.bool false, .int .i64 (cFix b 0 0 1 : Nat), (.slice a39_ n39_ c39_)]) hM40 (i := 2) (j := 0) rfl rfl rfl rfl rfl <| m_call (kind_ok false (cFix b 0 0 1 : Nat) _ (cTk b (cNumA b (cFixA b 0 0 1) (cFixE b 0 0 1) 4096) (cNumE b (cFixA b 0 0 1) (cFixE b 0 0 1) 4096) (cNum b (cFixA b 0 0 1) (cFixE b 0 0 1) 4096)) w40 (hs38.rd hM40 (i := 3) rfl) (by first | omega | (simp; done) | (simp; omega))) rfl fun v42 w42 ⟨hr42, hu42⟩ => ?_
 have hM42 : Mem w [] w42 [[⟨b2, 69, [.bool false, .int .i64 0, .slice none 0 0]⟩], r'38, [⟨b7, 69, [.bool false, .int .i64 (cFix b 0 0 1 : Nat), (.slice a39_ n39_ c39_)]⟩], rs38] := hM40.pure hu42
 subst hr42
 refine bneq rfl rfl <| h41 _ _ <| cndP rfl (fun c43 => ?_) (fun c43 => ?_)
 ·refine seq fun _ h44 => stp (v := .agg ([.bool false, .int .i64 0, .slice none 0 0] : List Value).toArray) (o_bld rfl rfl) <| m_stA (l := [.bool false, .int .i64 0, .slice none 0 0]) hM42 (i := 0) rfl rfl rfl rfl (by simp [oneCells, Value.oneCell', byteV]) (by simp) fun w45 (hM45 : Mem w [] w45 [[⟨b2, 69, [.bool false, .int .i64 0, .slice none 0 0]⟩], r'38, [⟨b7, 69, [.bool false, .int .i64 (cFix b 0 0 1 : Nat), (.slice a39_ n39_ c39_)]⟩], rs38]) => mv <| h44 _ _ ?_
  show resV _ _ _ _ _
  refine res_cell (s := some 3) (by kernel_rfl) <| vl_ldA (cs := [.bool false, .int .i64 0, .slice none 0 0]) rfl rfl ((hM45.at (i := 0) (j := 0) rfl rfl).agg rfl rfl) <| res_tmp <| ⟨(.tuple [.agg ([.bool false, .int .i64 0, .slice none 0 0] : List Value).toArray, .int .i64 70].toArray), rfl, ?_⟩
  have e := (dec_bits (by omega) (by omega)).trans (if_neg (fun k => by have := k.1; unfold decT at this; omega))
  exact ⟨_, _, by rw [e], by rw [e]; exact Sl.nil 1 5, (hM45.addNil).keep (by simp)⟩
 refine h9 _ _ <| seq fun _ h46 => seq fun _ h47 => mv <| m_call (End_ok _ b (cTkA b (cNumA b (cFixA b 0 0 1) (cFixE b 0 0 1) 4096) (cNumE b (cFixA b 0 0 1) (cFixE b 0 0 1) 4096) (cNum b (cFixA b 0 0 1) (cFixE b 0 0 1) 4096)) (cTkE b (cNumA b (cFixA b 0 0 1) (cFixE b 0 0 1) 4096) (cNumE b (cFixA b 0 0 1) (cFixE b 0 0 1) 4096) (cNum b (cFixA b 0 0 1) (cFixE b 0 0 1) 4096)) r'38 w42 hc38 (hM42.res (i := 1) rfl)) rfl fun v48 w48 ⟨hr48, hm48⟩ => ?_
 have hM48 : Mem w [] w48 [[⟨b2, 69, [.bool false, .int .i64 0, .slice none 0 0]⟩], r'38, [⟨b7, 69, [.bool false, .int .i64 (cFix b 0 0 1 : Nat), (.slice a39_ n39_ c39_)]⟩], rs38] := hM42.step 1 rfl hm48
 subst hr48
 refine stp (v := .int .i64 (endE b (cTkA b (cNumA b (cFixA b 0 0 1) (cFixE b 0 0 1) 4096) (cNumE b (cFixA b 0 0 1) (cFixE b 0 0 1) 4096) (cNum b (cFixA b 0 0 1) (cFixE b 0 0 1) 4096)) (cTkE b (cNumA b (cFixA b 0 0 1) (cFixE b 0 0 1) 4096) (cNumE b (cFixA b 0 0 1) (cFixE b 0 0 1) 4096) (cNum b (cFixA b 0 0 1) (cFixE b 0 0 1) 4096)))) (o_fld rfl rfl) <| bneq rfl rfl <| h47 _ _ <| cndP rfl (fun c49 => ?_) (fun c49 => ?_)
 ·refine seq fun _ h50 => stp (v := .agg ([.bool false, .int .i64 0, .slice none 0 0] : List Value).toArray) (o_bld rfl rfl) <| m_stA (l := [.bool false, .int .i64 0, .slice none 0 0]) hM48 (i := 0) rfl rfl rfl rfl (by simp [oneCells, Value.oneCell', byteV]) (by simp) fun w51 (hM51 : Mem w [] w51 [[⟨b2, 69, [.bool false, .int .i64 0, .slice none 0 0]⟩], r'38, [⟨b7, 69, [.bool false, .int .i64 (cFix b 0 0 1 : Nat), (.slice a39_ n39_ c39_)]⟩], rs38]) => mv <| h50 _ _ ?_
  show resV _ _ _ _ _
  refine res_cell (s := some 3) (by kernel_rfl) <| vl_ldA (cs := [.bool false, .int .i64 0, .slice none 0 0]) rfl rfl ((hM51.at (i := 0) (j := 0) rfl rfl).agg rfl rfl) <| res_tmp <| ⟨(.tuple [.agg ([.bool false, .int .i64 0, .slice none 0 0] : List Value).toArray, .int .i64 70].toArray), rfl, ?_⟩
  have e := (dec_bits (by omega) (by omega)).trans (if_neg (fun k => by have := k.2; unfold decA decE at this; omega))
  exact ⟨_, _, by rw [e], by rw [e]; exact Sl.nil 1 5, (hM51.addNil).keep (by simp)⟩
 refine h46 _ _ <| seq fun _ h52 => m_ldA (l := [.bool false, .int .i64 (cFix b 0 0 1 : Nat), (.slice a39_ n39_ c39_)]) hM48 (i := 2) (j := 0) rfl rfl rfl rfl rfl <| m_stA (l := [.bool false, .int .i64 (cFix b 0 0 1 : Nat), (.slice a39_ n39_ c39_)]) hM48 (i := 0) rfl rfl rfl rfl (by simp [oneCells, Value.oneCell', byteV]) (by simp) fun w53 (hM53 : Mem w [] w53 [[⟨b2, 69, [.bool false, .int .i64 (cFix b 0 0 1 : Nat), (.slice a39_ n39_ c39_)]⟩], r'38, [⟨b7, 69, [.bool false, .int .i64 (cFix b 0 0 1 : Nat), (.slice a39_ n39_ c39_)]⟩], rs38]) => mv <| h52 _ _ ?_
 show resV _ _ _ _ _
 refine res_cell (s := some 3) (by kernel_rfl) <| vl_ldA (cs := [.bool false, .int .i64 (cFix b 0 0 1 : Nat), (.slice a39_ n39_ c39_)]) rfl rfl ((hM53.at (i := 0) (j := 0) rfl rfl).agg rfl rfl) <| res_tmp <| ⟨(.tuple [.agg ([.bool false, .int .i64 (cFix b 0 0 1 : Nat), (.slice a39_ n39_ c39_)] : List Value).toArray, .int .i64 0].toArray), rfl, ?_⟩
 have e := (dec_bits (by omega) (by omega)).trans (if_pos ⟨by unfold decT; omega, by unfold decA decE; omega⟩)
 exact ⟨_, _, by rw [e], by rw [e]; exact (by unfold decT; assumption), (((hM53.drop 0).drop 1).drop 2).keep (by simp)⟩
theorem encF_len (a : Bool) (h : Int) (d : List UInt8) : (encF a h d).1.length ≤ 4099 := by
 by_cases k1 : fk a h d = 1
 ·rw [encF_1 k1]; simp
 by_cases k2 : fk a h d = 2
 ·rw [encF_2 k2]; simp
 by_cases k3 : fk a h d = 3
 ·have h3 := fk3 k3
  have hp : (putI (d.length : Int)).length ≤ 2 := by
   unfold putI; rw [if_neg (by omega)]; exact put_len 1 _ (by rw [Int.toNat_natCast]; omega)
  rw [encF_3 k3]; simp only [List.length_cons, List.length_append]; omega
 rw [encF_0 k1 k2 k3]; simp
theorem fk1 {a : Bool} {h : Int} {d : List UInt8} (h0 : fk a h d = 1) : a = true ∧ h = 0 ∧ d = [] := by
 unfold fk at h0
 split at h0
 ·rename_i c
  cases a
  ·simp at h0
  exact ⟨rfl, c.1, List.length_eq_zero_iff.1 c.2⟩
 split at h0 <;> omega
theorem fk2 {a : Bool} {h : Int} {d : List UInt8} (h0 : fk a h d = 2) : a = false ∧ h = 0 ∧ d = [] := by
 unfold fk at h0
 split at h0
 ·rename_i c
  cases a
  ·exact ⟨rfl, c.1, List.length_eq_zero_iff.1 c.2⟩
  simp at h0
 split at h0 <;> omega
theorem dec_enc {a : Bool} {h : Int} {d : List UInt8} (h0 : (encF a h d).2 = 0) : decF (encF a h d).1 = (a, h, d, 0) := by
 by_cases k1 : fk a h d = 1
 ·rw [encF_1 k1]; obtain ⟨rfl, rfl, rfl⟩ := fk1 k1; rfl
 by_cases k2 : fk a h d = 2
 ·rw [encF_2 k2]; obtain ⟨rfl, rfl, rfl⟩ := fk2 k2; rfl
 by_cases k3 : fk a h d = 3
 ·obtain ⟨rfl, h1, h8, d1, d4⟩ := fk3 k3
  have g := get_put (v := (d.length : Int)) (by omega) (by omega) d
  rw [Int.toNat_natCast] at g
  have hu : (h.toNat.toUInt8).toNat = h.toNat := by simp; omega
  rw [encF_3 k3]
  show decF (h.toNat.toUInt8 :: (putI (d.length : Int) ++ d)) = _
  rw [decF_cons, hu, if_neg (show ¬ h.toNat = 0 by omega), if_neg (show ¬ h.toNat = 255 by omega), if_neg (show ¬ 8 < h.toNat by omega), g]
  dsimp only
  rw [if_neg (show ¬ (¬ (0 : Int) = 0 ∨ d.length < 1 ∨ 4096 < d.length ∨ ¬ (putI (d.length : Int) ++ d).length = (putI (d.length : Int)).length + d.length) by have hal : (putI (d.length : Int) ++ d).length = (putI (d.length : Int)).length + d.length := List.length_append; omega), List.drop_left, Int.toNat_of_nonneg (by omega)]
 rw [encF_0 k1 k2 k3] at h0; simp at h0
theorem decF_err (b : List UInt8) : (decF b).2.2.2 = 0 ∨ decF b = (false, 0, [], 70) := by
 cases b with
 | nil => exact .inr rfl
 | cons c r =>
  rw [decF_cons]
  split
  ·split
   ·exact .inl rfl
   exact .inr rfl
  split
  ·split
   ·exact .inl rfl
   exact .inr rfl
  split
  ·exact .inr rfl
  split
  ·exact .inr rfl
  exact .inl rfl
theorem decF_no {b : List UInt8} (h : ¬ (decF b).2.2.2 = 0) : decF b = (false, 0, [], 70) := (decF_err b).resolve_left h
theorem decF_len (b : List UInt8) : (decF b).2.2.1.length ≤ b.length := by
 cases b with
 | nil => exact Nat.le_refl _
 | cons c r =>
  rw [decF_cons]
  split
  ·split <;> simp
  split
  ·split <;> simp
  split
  ·simp
  split
  ·simp
  simp only [List.length_drop, List.length_cons]; omega
theorem enc_dec {b : List UInt8} (h0 : (decF b).2.2.2 = 0) : encF (decF b).1 (decF b).2.1 (decF b).2.2.1 = (b, 0) := by
 cases b with
 | nil => exact absurd h0 (by decide)
 | cons c r =>
  have hc := c.toNat_lt
  rw [decF_cons] at h0 ⊢
  by_cases c0 : c.toNat = 0
  ·rw [if_pos c0] at h0 ⊢
   by_cases r0 : r.length = 0
   ·rw [if_pos r0]
    obtain rfl := List.length_eq_zero_iff.1 r0
    obtain rfl : c = 0 := UInt8.toNat_inj.1 c0
    rfl
   rw [if_neg r0] at h0; simp at h0
  rw [if_neg c0] at h0 ⊢
  by_cases c1 : c.toNat = 255
  ·rw [if_pos c1] at h0 ⊢
   by_cases r0 : r.length = 0
   ·rw [if_pos r0]
    obtain rfl := List.length_eq_zero_iff.1 r0
    obtain rfl : c = 255 := UInt8.toNat_inj.1 c1
    rfl
   rw [if_neg r0] at h0; simp at h0
  rw [if_neg c1] at h0 ⊢
  by_cases c8 : 8 < c.toNat
  ·rw [if_pos c8] at h0; simp at h0
  rw [if_neg c8] at h0 ⊢
  by_cases g : ¬ (get r).2.2 = 0 ∨ (get r).1 < 1 ∨ 4096 < (get r).1 ∨ ¬ r.length = (get r).2.1 + (get r).1
  ·rw [if_pos g] at h0; simp at h0
  rw [if_neg g]
  have g0 : (get r).2.2 = 0 := by omega
  have go := get_ok g0
  have hl : (r.drop (get r).2.1).length = (get r).1 := by rw [List.length_drop]; omega
  rw [encF_3 (fk_bits (by simp only [hl]; omega))]
  simp only [hl, Int.toNat_natCast, go.2.2, List.take_append_drop]
  rw [show c.toNat.toUInt8 = c by simp]
