/- Decoding: the reference's header, its bits, its words. -/
import Derived.Test.YtojnkjnebejodaaH8
namespace Go.Proofs.Ytojnkjnebejodaa.E
open Go
theorem lastI_get {L : List Int} (h : 0 < L.length) : lastI L = L.getD (L.length - 1) 0 := by
  unfold lastI
  rw [List.getLast?_eq_getElem?, List.getD_eq_getElem?_getD, List.getElem?_eq_getElem (by omega)]; rfl
theorem lastI_nil {L : List Int} (h : ¬ 0 < L.length) : lastI L = -1 := by
  have : L = [] := List.length_eq_zero_iff.1 (by omega)
  subst this; rfl
theorem rl_bad1 {b : List UInt8} {a : Nat} {L : List Int} (h : hdr b 0 [] = hdr b a L) (ha : a < b.length) (h0 : ¬ b.getD a 0 = 0) (hx : ¬ (get (b.drop a)).2.2 = 0 ∨ (((get (b.drop a)).1 : Nat) : Int) < 1 ∨ (256 : Int) - (L.length : Nat) < (((get (b.drop a)).1 : Nat) : Int) ∨ (b.length : Int) ≤ (a : Int) + (((get (b.drop a)).2.1 : Nat) : Int)) : hdr b 0 [] = none := by
  rw [h, hdr_no ha h0]
  rintro ⟨p1, p2, p3, _⟩
  have := get_nz ha h0 p1
  omega
theorem rl_bad2 {b : List UInt8} {a : Nat} {L : List Int} (h : hdr b 0 [] = hdr b a L) (ha : a < b.length) (h0 : ¬ b.getD a 0 = 0) (hx : 15 < ((b.getD (a + (get (b.drop a)).2.1) 0).toNat : Int) ∨ (0 < L.length ∧ L.getD (L.length - 1) 0 = ((b.getD (a + (get (b.drop a)).2.1) 0).toNat : Int))) : hdr b 0 [] = none := by
  rw [h, hdr_no ha h0]
  rintro ⟨p1, p2, p3, p4, p5⟩
  rcases hx with hx | ⟨h1, hx⟩
  · omega
  · exact p5 (by rw [lastI_get h1, hx])
theorem rl_go {b : List UInt8} {a : Nat} {L : List Int} (h : hdr b 0 [] = hdr b a L) (ha : a < b.length) (h0 : ¬ b.getD a 0 = 0) (h1 : (get (b.drop a)).2.2 = 0) (h2 : ¬ (256 : Int) - (L.length : Nat) < (((get (b.drop a)).1 : Nat) : Int)) (h3 : ¬ (b.length : Int) ≤ (a : Int) + (((get (b.drop a)).2.1 : Nat) : Int)) (h4 : ¬ 15 < ((b.getD (a + (get (b.drop a)).2.1) 0).toNat : Int)) (h5 : 0 < L.length → ¬ L.getD (L.length - 1) 0 = ((b.getD (a + (get (b.drop a)).2.1) 0).toNat : Int)) :
    hdr b 0 [] = hdr b (a + (get (b.drop a)).2.1 + 1) (hdrL b a L) ∧ (hdrL b a L).length ≤ 256 := by
  refine ⟨?_, by unfold hdrL; rw [List.length_append, List.length_replicate]; omega⟩
  rw [h, hdr_more ha h0 ⟨h1, by omega, by omega, by omega, fun k => ?_⟩]
  by_cases c : 0 < L.length
  · exact h5 c (by rw [← lastI_get c, k])
  · rw [lastI_nil c] at k; omega
theorem rl_end {b : List UInt8} {a : Nat} {L : List Int} (h : hdr b 0 [] = hdr b a L) (ha : a < b.length) (h0 : b.getD a 0 = 0) : hdr b 0 [] = (if 0 < L.length ∧ L.getD (L.length - 1) 0 = 0 then none else some (L, a + 1)) := by
  rw [h]
  by_cases c : 0 < L.length
  · by_cases z : L.getD (L.length - 1) 0 = 0
    · rw [if_pos ⟨c, z⟩, hdr_z0 ha h0 (by rw [lastI_get c, z])]
    · rw [if_neg (fun h => z h.2), hdr_z1 ha h0 (by rw [lastI_get c]; exact z)]
  · rw [if_neg (fun h => c h.1), hdr_z1 ha h0 (by rw [lastI_nil c]; omega)]
theorem hdr_bd {b : List UInt8} : ∀ (m a : Nat) (L : List Int), b.length - a ≤ m → L.length ≤ 256 → inB 0 15 L = true → ∀ l e, hdr b a L = some (l, e) → l.length ≤ 256 ∧ inB 0 15 l = true ∧ e ≤ b.length
  | m, a, L, hm, hL, hB, l, e, h => by
    by_cases ha : a < b.length
    · by_cases h0 : b.getD a 0 = 0
      · by_cases c : lastI L = 0
        · rw [hdr_z0 ha h0 c] at h; cases h
        · rw [hdr_z1 ha h0 c] at h; injection h with h; injection h with h1 h2; subst h1; exact ⟨hL, hB, by omega⟩
      · by_cases p : hdrP b a L
        · rw [hdr_more ha h0 p] at h
          obtain ⟨p1, p2, p3, p4, p5⟩ := p
          cases m with
          | zero => omega
          | succ m =>
            refine hdr_bd m _ _ (by omega) ?_ ?_ l e h
            · unfold hdrL; rw [List.length_append, List.length_replicate]; omega
            · unfold hdrL inB at *
              rw [List.all_append, hB, Bool.true_and, List.all_eq_true]
              intro x hx
              have := List.eq_of_mem_replicate hx
              simp only [Bool.and_eq_true, decide_eq_true_eq]; omega
        · rw [hdr_no ha h0 p] at h; cases h
    · rw [hdr_end ha] at h; cases h
theorem hdr_ok {b : List UInt8} {l : List Int} {e : Nat} (h : hdr b 0 [] = some (l, e)) : l.length ≤ 256 ∧ inB 0 15 l = true ∧ e ≤ b.length := hdr_bd _ 0 [] (Nat.le_refl _) (by simp) rfl l e h
theorem get_le (b : List UInt8) : (get b).2.1 ≤ b.length := by
  by_cases c : (get b).2.2 = 0
  · exact (get_ok c).2.1
  · have h : (get b).2.1 = 0 := ((getA_err b 0 0).2 c).2
    omega
theorem u8_z {x : UInt8} : ((x.toNat : Int) = 0) ↔ x = 0 := by
  constructor
  · intro h
    have : x.toNat = (0 : UInt8).toNat := by simp; omega
    exact UInt8.toNat_inj.1 this
  · rintro rfl; rfl
theorem u32_small {m : Nat} (h : m ≤ 255) : inK .u32 ((m : Nat) : Int) := by simp only [inK]; omega
theorem rem2 {m : Nat} : Value.int .u32 (((m : Nat) : Int).tmod 2) = .int .u32 ((m % 2 : Nat) : Int) := (v_rem (by omega)).trans (v_int (by omega))
theorem bit8 (x : UInt8) (k : Nat) : x.toNat / 2 ^ k ≤ 255 := by have := x.toNat_lt; have := Nat.div_le_self x.toNat (2 ^ k); omega
theorem shr_bit {x : UInt8} {i : Nat} {z : Int} (hz : z = ((i % 8 : Nat) : Int)) : Value.int .u8 ((x.toNat : Int).fdiv (2 ^ min z.toNat IntKind.u8.bits)) = .int .u8 ((x.toNat / 2 ^ (i % 8) : Nat) : Int) := by
  subst hz
  rw [v_shr _ (by simp only [IntKind.bits]; omega), Int.natCast_ediv]; simp

/-- winnowref4.readLens -/
theorem readLens_ok (x : Value) (b : List UInt8) (w : World) (hx : RdE byteV w x b) (hl : b.length ≤ 140737488355328) : Calls Try.prog 49 [x].toArray w (Rt fun r w' => ∃ v ok L a rs, r = .tuple [v, .int .i64 ((a : Nat) : Int), .bool ok].toArray ∧ SlE i64V 3 v L rs ∧ (if ok then some (L, a) else none) = hdr b 0 [] ∧ Mem w [] w' [rs]) := by
  have hM0 : Mem w [] w [] := Mem.nil w []
  refine calls_vc mixed Try.func49 rfl C49 (by simp [Try.ntmps49]) ?_
  refine seq fun K1 h1 => ?_
  refine stp (v := .slice none 0 0) (o_mv rfl) ?_
  refine stp (v := .int .i64 0) (o_mv rfl) ?_
  refine stp (v := .bool false) (o_mv rfl) ?_
  refine h1 _ _ ?_
  clear h1
  refine seq fun K2 h2 => ?_
  refine stp (v := .slice none 0 0) (o_mv rfl) ?_
  refine h2 _ _ ?_
  clear h2
  refine seq fun K3 h3 => ?_
  refine stp (v := .int .i64 0) (o_mv rfl) ?_
  refine h3 _ _ ?_
  clear h3
  refine seq fun K4 h4 => ?_
  have hM5 : Mem w [] w [[]] := hM0.addNil
  have hs5 : SlE i64V 3 (.slice none 0 0) [] [] := Sl.nil 1 3
  refine lp (n := fun _ _ => False) (ι := (List Int) × (Nat) × (Value) × (List Ent)) (fun ⟨L, a, y5_, r5_⟩ f w' => f 5 = y5_ ∧ f 6 = .int .i64 (a : Nat) ∧ f 0 = x ∧ Mem w [] w' [r5_] ∧ (hdr b 0 [] = hdr b a L) ∧ (L.length ≤ 256) ∧ (SlE i64V 3 y5_ (L) r5_)) (fun ⟨L, a, y5_, r5_⟩ => b.length + 1 - a) ([], 0, ((.slice none 0 0)), ([])) ?_ ?_
  · exact ⟨rfl, by first | rfl | exact v_int (by omega) | exact v_int (by simp) | exact v_int (by simp; omega), rfl, hM5, rfl, by simp, by first | exact hs5 | simpa using hs5⟩
  · rintro ⟨L, a, y5_, r5_⟩ f w6 ⟨e6_5, e6_6, e6_0, hM6, hh, hL, hy5_⟩ K7 h7
    obtain ⟨frm, rfl⟩ : ∃ frm, f = (upd (upd (upd frm 5 (y5_)) 6 (.int .i64 (a : Nat))) 0 (x)) := ⟨f, by rw [upd_self e6_5, upd_self e6_6, upd_self e6_0]⟩
    clear e6_5 e6_6 e6_0
    refine seq fun K8 h8 => ?_
    refine seq fun K9 h9 => ?_
    refine stp (v := .int .i64 (a : Nat)) (o_mv rfl) ?_
    refine stp (v := x) (o_mv rfl) ?_
    refine stp (v := .int .i64 (b.length : Nat)) (o_lenR (hx.upd hM6.upd) rfl rfl) ?_
    refine stp (v := .bool (decide (((a : Nat) : Int) < (b.length : Nat)))) (o_bin rfl rfl rfl) ?_
    refine stp (v := .bool (decide (((a : Nat) : Int) < (b.length : Nat)))) (o_mv rfl) ?_
    refine splitP rfl (fun c10 => ?_) (fun c10 => ?_)
    ·
      refine stg rfl (v := x) (o_mv rfl) ?_
      refine stg rfl (v := .int .i64 (a : Nat)) (o_mv rfl) ?_
      refine gyes rfl rfl (m_idxE 0 (j := a) (hx.upd hM6.upd) rfl rfl (by omega) fun b11 o11 hp11 => ?_)
      refine gyesl rfl ?_
      refine ld (v := byteV (b.getD a 0)) rfl (hp11) ?_
      refine stg rfl (v := .bool (decide (¬ ((b.getD a 0).toNat : Int) = 0))) (o_bin rfl rfl v_neq) ?_
      refine stp (v := .bool (decide (¬ ((b.getD a 0).toNat : Int) = 0))) (o_pickT rfl rfl) ?_
      refine h9 _ _ ?_
      clear h9
      refine cndP rfl (fun c12 => ?_) (fun c12 => ?_)
      ·
        refine h8 _ _ ?_
        clear h8
        refine seq fun K13 h13 => ?_
        refine stp (v := x) (o_mv rfl) ?_
        refine stp (v := .int .i64 (a : Nat)) (o_mv rfl) ?_
        refine m_slcE a b.length (hx) rfl (by omega) (by omega) rfl ⟨_, rfl⟩ fun u14 hu14 => ?_
        have hu14' : RdE byteV w u14 (b.drop a) := by
          have e : (b.take b.length).drop a = (b.drop a) := by rw [List.take_length]
          rw [e] at hu14; exact hu14
        refine m_call (refGet_ok _ (b.drop a) w6 ((hu14'.upd hM6.upd)) (by first | omega | (simp; done) | (simp; omega))) rfl fun v15 w15 ⟨hr15, hu15⟩ => ?_
        have hM15 : Mem w [] w15 [r5_] := hM6.pure hu15
        subst hr15
        refine stp (v := .tuple [.int .i64 ((get (b.drop a)).1 : Nat), .int .i64 ((get (b.drop a)).2.1 : Nat), .int .i64 ((get (b.drop a)).2.2)].toArray) (o_mv rfl) ?_
        have hgl := get_le (b.drop a)
        rw [List.length_drop] at hgl
        refine stp (v := .int .i64 ((get (b.drop a)).1 : Nat)) (o_ext rfl rfl) ?_
        refine stp (v := .int .i64 ((get (b.drop a)).2.1 : Nat)) (o_ext rfl rfl) ?_
        refine stp (v := .int .i64 ((get (b.drop a)).2.2)) (o_ext rfl rfl) ?_
        refine stp (v := .int .i64 ((get (b.drop a)).1 : Nat)) (o_mv rfl) ?_
        refine stp (v := .int .i64 ((get (b.drop a)).2.1 : Nat)) (o_mv rfl) ?_
        refine stp (v := .int .i64 ((get (b.drop a)).2.2)) (o_mv rfl) ?_
        refine h13 _ _ ?_
        clear h13
        refine seq fun K16 h16 => ?_
        refine seq fun K17 h17 => ?_
        refine stp (v := .int .i64 ((get (b.drop a)).2.2)) (o_mv rfl) ?_
        refine stp (v := .bool (decide (¬ ((get (b.drop a)).2.2) = 0))) (o_bin rfl rfl v_neq) ?_
        refine stp (v := .bool (decide (¬ ((get (b.drop a)).2.2) = 0))) (o_mv rfl) ?_
        refine splitP rfl (fun c18 => ?_) (fun c18 => ?_)
        ·
          refine gno rfl (by simp) ?_
          refine gno rfl (by simp) ?_
          refine stp (v := .bool true) (o_pickT rfl rfl) ?_
          refine stp (v := .bool true) (o_mv rfl) ?_
          refine splitT rfl ?_
          refine gno rfl (by simp) ?_
          refine gno rfl (by simp) ?_
          refine gno rfl (by simp) ?_
          refine gno rfl (by simp) ?_
          refine gno rfl (by simp) ?_
          refine stp (v := .bool true) (o_pickT rfl rfl) ?_
          refine stp (v := .bool true) (o_mv rfl) ?_
          refine splitT rfl ?_
          refine gno rfl (by simp) ?_
          refine gno rfl (by simp) ?_
          refine gno rfl (by simp) ?_
          refine gno rfl (by simp) ?_
          refine gno rfl (by simp) ?_
          refine gno rfl (by simp) ?_
          refine stp (v := .bool true) (o_pickT rfl rfl) ?_
          refine h17 _ _ ?_
          clear h17
          refine cndT rfl ?_
          refine seq fun K19 h19 => ?_
          refine stp (v := .slice none 0 0) (o_mv rfl) ?_
          refine stp (v := .int .i64 0) (o_mv rfl) ?_
          refine stp (v := .bool false) (o_mv rfl) ?_
          refine h19 _ _ ?_
          clear h19
          refine ⟨(.tuple [.slice none 0 0, .int .i64 0, .bool false].toArray), rfl, ?_⟩
          exact ⟨_, _, [], _, _, rfl, (Sl.nil 1 3 : SlE i64V 3 _ [] []), by rw [rl_bad1 hh (by omega) (fun h => by have := (u8_z (x := b.getD a 0)).2 h; omega) (by omega)]; rfl, (hM15.drop 0).keep (by simp)⟩
        ·
          refine stg rfl (v := .int .i64 ((get (b.drop a)).1 : Nat)) (o_mv rfl) ?_
          refine stg rfl (v := .bool (decide ((((get (b.drop a)).1 : Nat) : Int) < 1))) (o_bin rfl rfl rfl) ?_
          refine stp (v := .bool (decide ((((get (b.drop a)).1 : Nat) : Int) < 1))) (o_pickF rfl rfl) ?_
          refine stp (v := .bool (decide ((((get (b.drop a)).1 : Nat) : Int) < 1))) (o_mv rfl) ?_
          refine splitP rfl (fun c20 => ?_) (fun c20 => ?_)
          ·
            refine gno rfl (by simp) ?_
            refine gno rfl (by simp) ?_
            refine gno rfl (by simp) ?_
            refine gno rfl (by simp) ?_
            refine gno rfl (by simp) ?_
            refine stp (v := .bool true) (o_pickT rfl rfl) ?_
            refine stp (v := .bool true) (o_mv rfl) ?_
            refine splitT rfl ?_
            refine gno rfl (by simp) ?_
            refine gno rfl (by simp) ?_
            refine gno rfl (by simp) ?_
            refine gno rfl (by simp) ?_
            refine gno rfl (by simp) ?_
            refine gno rfl (by simp) ?_
            refine stp (v := .bool true) (o_pickT rfl rfl) ?_
            refine h17 _ _ ?_
            clear h17
            refine cndT rfl ?_
            refine seq fun K21 h21 => ?_
            refine stp (v := .slice none 0 0) (o_mv rfl) ?_
            refine stp (v := .int .i64 0) (o_mv rfl) ?_
            refine stp (v := .bool false) (o_mv rfl) ?_
            refine h21 _ _ ?_
            clear h21
            refine ⟨(.tuple [.slice none 0 0, .int .i64 0, .bool false].toArray), rfl, ?_⟩
            exact ⟨_, _, [], _, _, rfl, (Sl.nil 1 3 : SlE i64V 3 _ [] []), by rw [rl_bad1 hh (by omega) (fun h => by have := (u8_z (x := b.getD a 0)).2 h; omega) (by omega)]; rfl, (hM15.drop 0).keep (by simp)⟩
          ·
            refine stg rfl (v := .int .i64 ((get (b.drop a)).1 : Nat)) (o_mv rfl) ?_
            refine stg rfl (v := y5_) (o_mv rfl) ?_
            refine stg rfl (v := .int .i64 (L.length : Nat)) (o_lenR (hy5_.rd hM15 (i := 0) rfl) rfl rfl) ?_
            refine stg rfl (v := .int .i64 (256 - (L.length : Nat))) (o_bin rfl rfl (v_sub64 (by constructor <;> omega))) ?_
            refine stg rfl (v := .bool (decide (((256 - (L.length : Nat) : Int) : Int) < (((get (b.drop a)).1 : Nat) : Int)))) (o_bin rfl rfl rfl) ?_
            refine stp (v := .bool (decide (((256 - (L.length : Nat) : Int) : Int) < (((get (b.drop a)).1 : Nat) : Int)))) (o_pickF rfl rfl) ?_
            refine stp (v := .bool (decide (((256 - (L.length : Nat) : Int) : Int) < (((get (b.drop a)).1 : Nat) : Int)))) (o_mv rfl) ?_
            refine splitP rfl (fun c22 => ?_) (fun c22 => ?_)
            ·
              refine gno rfl (by simp) ?_
              refine gno rfl (by simp) ?_
              refine gno rfl (by simp) ?_
              refine gno rfl (by simp) ?_
              refine gno rfl (by simp) ?_
              refine gno rfl (by simp) ?_
              refine stp (v := .bool true) (o_pickT rfl rfl) ?_
              refine h17 _ _ ?_
              clear h17
              refine cndT rfl ?_
              refine seq fun K23 h23 => ?_
              refine stp (v := .slice none 0 0) (o_mv rfl) ?_
              refine stp (v := .int .i64 0) (o_mv rfl) ?_
              refine stp (v := .bool false) (o_mv rfl) ?_
              refine h23 _ _ ?_
              clear h23
              refine ⟨(.tuple [.slice none 0 0, .int .i64 0, .bool false].toArray), rfl, ?_⟩
              exact ⟨_, _, [], _, _, rfl, (Sl.nil 1 3 : SlE i64V 3 _ [] []), by rw [rl_bad1 hh (by omega) (fun h => by have := (u8_z (x := b.getD a 0)).2 h; omega) (by omega)]; rfl, (hM15.drop 0).keep (by simp)⟩
            ·
              refine stg rfl (v := .int .i64 (a : Nat)) (o_mv rfl) ?_
              refine stg rfl (v := .int .i64 ((get (b.drop a)).2.1 : Nat)) (o_mv rfl) ?_
              refine stg rfl (v := .int .i64 ((a : Nat) + ((get (b.drop a)).2.1 : Nat))) (o_bin rfl rfl (v_add64 (by constructor <;> omega))) ?_
              refine stg rfl (v := x) (o_mv rfl) ?_
              refine stg rfl (v := .int .i64 (b.length : Nat)) (o_lenR (hx.upd hM15.upd) rfl rfl) ?_
              refine stg rfl (v := .bool (decide ((b.length : Nat) ≤ ((a : Nat) + ((get (b.drop a)).2.1 : Nat) : Int)))) (o_bin rfl rfl rfl) ?_
              refine stp (v := .bool (decide ((b.length : Nat) ≤ ((a : Nat) + ((get (b.drop a)).2.1 : Nat) : Int)))) (o_pickF rfl rfl) ?_
              refine h17 _ _ ?_
              clear h17
              refine cndP rfl (fun c24 => ?_) (fun c24 => ?_)
              ·
                refine seq fun K25 h25 => ?_
                refine stp (v := .slice none 0 0) (o_mv rfl) ?_
                refine stp (v := .int .i64 0) (o_mv rfl) ?_
                refine stp (v := .bool false) (o_mv rfl) ?_
                refine h25 _ _ ?_
                clear h25
                refine ⟨(.tuple [.slice none 0 0, .int .i64 0, .bool false].toArray), rfl, ?_⟩
                exact ⟨_, _, [], _, _, rfl, (Sl.nil 1 3 : SlE i64V 3 _ [] []), by rw [rl_bad1 hh (by omega) (fun h => by have := (u8_z (x := b.getD a 0)).2 h; omega) (by omega)]; rfl, (hM15.drop 0).keep (by simp)⟩
              ·
                refine h16 _ _ ?_
                clear h16
                refine seq fun K26 h26 => ?_
                refine stp (v := x) (o_mv rfl) ?_
                refine stp (v := .int .i64 (a : Nat)) (o_mv rfl) ?_
                refine stp (v := .int .i64 ((get (b.drop a)).2.1 : Nat)) (o_mv rfl) ?_
                refine stp (v := .int .i64 ((a : Nat) + ((get (b.drop a)).2.1 : Nat))) (o_bin rfl rfl (v_add64 (by constructor <;> omega))) ?_
                refine m_idxE 0 (j := (a + (get (b.drop a)).2.1)) (hx.upd hM15.upd) rfl (v_int (by omega)) (by omega) fun b27 o27 hp27 => ?_
                refine ld (v := byteV (b.getD (a + (get (b.drop a)).2.1) 0)) rfl (hp27) ?_
                refine stp (v := .int .i64 ((b.getD (a + (get (b.drop a)).2.1) 0).toNat : Int)) (o_conv rfl (v_byteTo (by decide))) ?_
                refine stp (v := .int .i64 ((b.getD (a + (get (b.drop a)).2.1) 0).toNat : Int)) (o_mv rfl) ?_
                refine h26 _ _ ?_
                clear h26
                refine seq fun K28 h28 => ?_
                refine seq fun K29 h29 => ?_
                refine stp (v := .int .i64 ((b.getD (a + (get (b.drop a)).2.1) 0).toNat : Int)) (o_mv rfl) ?_
                refine stp (v := .bool (decide ((15 : Int) < ((b.getD (a + (get (b.drop a)).2.1) 0).toNat : Int)))) (o_bin rfl rfl rfl) ?_
                refine stp (v := .bool (decide ((15 : Int) < ((b.getD (a + (get (b.drop a)).2.1) 0).toNat : Int)))) (o_mv rfl) ?_
                refine splitP rfl (fun c30 => ?_) (fun c30 => ?_)
                ·
                  refine gno rfl (by simp) ?_
                  refine gno rfl (by simp) ?_
                  refine gno rfl (by simp) ?_
                  refine gno rfl (by simp) ?_
                  refine splitU rfl ?_
                  refine gnou rfl ?_
                  refine gnou rfl ?_
                  refine gnou rfl ?_
                  refine gnou rfl ?_
                  refine gnou rfl ?_
                  refine gnolu rfl ?_
                  refine gnou rfl ?_
                  refine gnou rfl ?_
                  refine gno rfl (by simp) ?_
                  refine stp (v := .bool true) (o_pickT rfl rfl) ?_
                  refine h29 _ _ ?_
                  clear h29
                  refine cndT rfl ?_
                  refine seq fun K31 h31 => ?_
                  refine stp (v := .slice none 0 0) (o_mv rfl) ?_
                  refine stp (v := .int .i64 0) (o_mv rfl) ?_
                  refine stp (v := .bool false) (o_mv rfl) ?_
                  refine h31 _ _ ?_
                  clear h31
                  refine ⟨(.tuple [.slice none 0 0, .int .i64 0, .bool false].toArray), rfl, ?_⟩
                  exact ⟨_, _, [], _, _, rfl, (Sl.nil 1 3 : SlE i64V 3 _ [] []), by rw [rl_bad2 hh (by omega) (fun h => by have := (u8_z (x := b.getD a 0)).2 h; omega) (by omega)]; rfl, (hM15.drop 0).keep (by simp)⟩
                ·
                  refine stg rfl (v := y5_) (o_mv rfl) ?_
                  refine stg rfl (v := .int .i64 (L.length : Nat)) (o_lenR (hy5_.rd hM15 (i := 0) rfl) rfl rfl) ?_
                  refine stg rfl (v := .bool (decide ((0 : Int) < ((L.length : Nat) : Int)))) (o_bin rfl rfl rfl) ?_
                  refine stg rfl (v := .bool (decide ((0 : Int) < ((L.length : Nat) : Int)))) (o_mv rfl) ?_
                  refine splitP rfl (fun c32 => ?_) (fun c32 => ?_)
                  ·
                    refine stg rfl (v := y5_) (o_mv rfl) ?_
                    refine stg rfl (v := y5_) (o_mv rfl) ?_
                    refine stg rfl (v := .int .i64 (L.length : Nat)) (o_lenR (hy5_.rd hM15 (i := 0) rfl) rfl rfl) ?_
                    refine stg rfl (v := .int .i64 ((L.length : Nat) - 1)) (o_bin rfl rfl (v_sub64 (by constructor <;> omega))) ?_
                    refine gyes rfl rfl (m_idxE 0 (j := (L.length - 1)) (hy5_.rd hM15 (i := 0) rfl) rfl (v_int (by omega)) (by omega) fun b33 o33 hp33 => ?_)
                    refine gyesl rfl ?_
                    refine ld (v := .int .i64 (L.getD (L.length - 1) 0)) rfl (hp33) ?_
                    refine stg rfl (v := .int .i64 ((b.getD (a + (get (b.drop a)).2.1) 0).toNat : Int)) (o_mv rfl) ?_
                    refine stg rfl (v := .bool (decide ((L.getD (L.length - 1) 0) = ((b.getD (a + (get (b.drop a)).2.1) 0).toNat : Int)))) (o_bin rfl rfl rfl) ?_
                    refine stg rfl (v := .bool (decide ((L.getD (L.length - 1) 0) = ((b.getD (a + (get (b.drop a)).2.1) 0).toNat : Int)))) (o_pickT rfl rfl) ?_
                    refine stp (v := .bool (decide ((L.getD (L.length - 1) 0) = ((b.getD (a + (get (b.drop a)).2.1) 0).toNat : Int)))) (o_pickF rfl rfl) ?_
                    refine h29 _ _ ?_
                    clear h29
                    refine cndP rfl (fun c34 => ?_) (fun c34 => ?_)
                    ·
                      refine seq fun K35 h35 => ?_
                      refine stp (v := .slice none 0 0) (o_mv rfl) ?_
                      refine stp (v := .int .i64 0) (o_mv rfl) ?_
                      refine stp (v := .bool false) (o_mv rfl) ?_
                      refine h35 _ _ ?_
                      clear h35
                      refine ⟨(.tuple [.slice none 0 0, .int .i64 0, .bool false].toArray), rfl, ?_⟩
                      exact ⟨_, _, [], _, _, rfl, (Sl.nil 1 3 : SlE i64V 3 _ [] []), by rw [rl_bad2 hh (by omega) (fun h => by have := (u8_z (x := b.getD a 0)).2 h; omega) (by omega)]; rfl, (hM15.drop 0).keep (by simp)⟩
                    ·
                      refine h28 _ _ ?_
                      clear h28
                      refine seq fun K36 h36 => ?_
                      refine seq fun K37 h37 => ?_
                      refine stp (v := .int .i64 0) (o_mv rfl) ?_
                      refine h37 _ _ ?_
                      clear h37
                      refine lp (n := fun _ _ => False) (ι := (Nat) × (Value) × (List Ent)) (fun ⟨j, y5_, r5_⟩ f w' => f 5 = y5_ ∧ f 11 = .int .i64 (j : Nat) ∧ f 0 = x ∧ f 6 = .int .i64 (a : Nat) ∧ f 7 = .int .i64 ((get (b.drop a)).1 : Nat) ∧ f 8 = .int .i64 ((get (b.drop a)).2.1 : Nat) ∧ f 10 = .int .i64 ((b.getD (a + (get (b.drop a)).2.1) 0).toNat : Int) ∧ Mem w [] w' [r5_] ∧ (j ≤ (get (b.drop a)).1) ∧ (SlE i64V 3 y5_ (L ++ List.replicate j (((b.getD (a + (get (b.drop a)).2.1) 0).toNat : Nat) : Int)) r5_)) (fun ⟨j, y5_, r5_⟩ => (get (b.drop a)).1 - j) (0, y5_, r5_) ?_ ?_
                      · exact ⟨rfl, by first | rfl | exact v_int (by omega) | exact v_int (by simp) | exact v_int (by simp; omega), rfl, by first | rfl | exact v_int (by omega) | exact v_int (by simp) | exact v_int (by simp; omega), by first | rfl | exact v_int (by omega) | exact v_int (by simp) | exact v_int (by simp; omega), by first | rfl | exact v_int (by omega) | exact v_int (by simp) | exact v_int (by simp; omega), by first | rfl | exact v_int (by omega) | exact v_int (by simp) | exact v_int (by simp; omega), hM15, by omega, by first | exact hy5_ | simpa using hy5_⟩
                      · rintro ⟨j, y5_, r5_⟩ f w38 ⟨e38_5, e38_11, e38_0, e38_6, e38_7, e38_8, e38_10, hM38, hj, hy5_⟩ K39 h39
                        obtain ⟨frm, rfl⟩ : ∃ frm, f = (upd (upd (upd (upd (upd (upd (upd frm 5 (y5_)) 11 (.int .i64 (j : Nat))) 0 (x)) 6 (.int .i64 (a : Nat))) 7 (.int .i64 ((get (b.drop a)).1 : Nat))) 8 (.int .i64 ((get (b.drop a)).2.1 : Nat))) 10 (.int .i64 ((b.getD (a + (get (b.drop a)).2.1) 0).toNat : Int))) := ⟨f, by rw [upd_self e38_5, upd_self e38_11, upd_self e38_0, upd_self e38_6, upd_self e38_7, upd_self e38_8, upd_self e38_10]⟩
                        clear e38_5 e38_11 e38_0 e38_6 e38_7 e38_8 e38_10
                        refine seq fun K40 h40 => ?_
                        refine seq fun K41 h41 => ?_
                        refine stp (v := .int .i64 (j : Nat)) (o_mv rfl) ?_
                        refine stp (v := .int .i64 ((get (b.drop a)).1 : Nat)) (o_mv rfl) ?_
                        refine stp (v := .bool (decide (((j : Nat) : Int) < ((get (b.drop a)).1 : Nat)))) (o_bin rfl rfl rfl) ?_
                        refine h41 _ _ ?_
                        clear h41
                        refine cndP rfl (fun c42 => ?_) (fun c42 => ?_)
                        ·
                          refine h40 _ _ ?_
                          clear h40
                          refine seq fun K43 h43 => ?_
                          refine stp (v := y5_) (o_mv rfl) ?_
                          refine stp (v := .int .i64 ((b.getD (a + (get (b.drop a)).2.1) 0).toNat : Int)) (o_mv rfl) ?_
                          refine m_app1 (E := i64V) (q := (((b.getD (a + (get (b.drop a)).2.1) 0).toNat : Nat) : Int)) hM38 (i := 0) rfl hy5_ rfl (by simp) (rfl) (by rw [List.length_append, List.length_replicate]; omega) (by omega) fun v44 w44 r44 u44 (hs44 : SlE i64V 3 v44 ((L ++ List.replicate j (((b.getD (a + (get (b.drop a)).2.1) 0).toNat : Nat) : Int)) ++ [(((b.getD (a + (get (b.drop a)).2.1) 0).toNat : Nat) : Int)]) r44) (hM44 : Mem w [] w44 [r44]) => ?_
                          refine stp (v := v44) (o_mv rfl) ?_
                          refine h43 _ _ ?_
                          clear h43
                          refine stp (v := .int .i64 (j : Nat)) (o_mv rfl) ?_
                          refine stp (v := .int .i64 ((j : Nat) + 1)) (o_bin rfl rfl (v_add64 (by constructor <;> omega))) ?_
                          refine stp (v := .int .i64 ((j : Nat) + 1)) (o_mv rfl) ?_
                          refine h39 (j + 1, v44, r44) _ _ ⟨rfl, by first | rfl | exact v_int (by omega) | exact v_int (by simp) | exact v_int (by simp; omega), rfl, by first | rfl | exact v_int (by omega) | exact v_int (by simp) | exact v_int (by simp; omega), by first | rfl | exact v_int (by omega) | exact v_int (by simp) | exact v_int (by simp; omega), by first | rfl | exact v_int (by omega) | exact v_int (by simp) | exact v_int (by simp; omega), by first | rfl | exact v_int (by omega) | exact v_int (by simp) | exact v_int (by simp; omega), hM44, by omega, by rw [List.replicate_succ', ← List.append_assoc]; exact hs44⟩ (by (try dsimp only); omega)
                        ·
                          refine h36 _ _ ?_
                          clear h36
                          have hjj : j = (get (b.drop a)).1 := by omega
                          have hgo := rl_go hh (by omega) (fun h => by have := (u8_z (x := b.getD a 0)).2 h; omega) (by omega) (by omega) (by omega) (by omega) (by intro _; omega)
                          refine stp (v := .int .i64 (a : Nat)) (o_mv rfl) ?_
                          refine stp (v := .int .i64 ((get (b.drop a)).2.1 : Nat)) (o_mv rfl) ?_
                          refine stp (v := .int .i64 ((a : Nat) + ((get (b.drop a)).2.1 : Nat))) (o_bin rfl rfl (v_add64 (by constructor <;> omega))) ?_
                          refine stp (v := .int .i64 (((a : Nat) + ((get (b.drop a)).2.1 : Nat)) + 1)) (o_bin rfl rfl (v_add64 (by constructor <;> omega))) ?_
                          refine stp (v := .int .i64 (((a : Nat) + ((get (b.drop a)).2.1 : Nat)) + 1)) (o_mv rfl) ?_
                          refine h7 (hdrL b a L, a + (get (b.drop a)).2.1 + 1, y5_, r5_) _ _ ⟨rfl, by first | rfl | exact v_int (by omega) | exact v_int (by simp) | exact v_int (by simp; omega), rfl, hM38, hgo.1, hgo.2, by unfold hdrL; rw [← hjj]; exact hy5_⟩ (by (try dsimp only); omega)
                  ·
                    refine gno rfl (by simp) ?_
                    refine gno rfl (by simp) ?_
                    refine gno rfl (by simp) ?_
                    refine gno rfl (by simp) ?_
                    refine gno rfl (by simp) ?_
                    refine gnol rfl (by simp) ?_
                    refine gno rfl (by simp) ?_
                    refine gno rfl (by simp) ?_
                    refine stg rfl (v := .bool false) (o_pickF rfl rfl) ?_
                    refine stp (v := .bool false) (o_pickF rfl rfl) ?_
                    refine h29 _ _ ?_
                    clear h29
                    refine cndF rfl ?_
                    refine h28 _ _ ?_
                    clear h28
                    refine seq fun K45 h45 => ?_
                    refine seq fun K46 h46 => ?_
                    refine stp (v := .int .i64 0) (o_mv rfl) ?_
                    refine h46 _ _ ?_
                    clear h46
                    refine lp (n := fun _ _ => False) (ι := (Nat) × (Value) × (List Ent)) (fun ⟨j, y5_, r5_⟩ f w' => f 5 = y5_ ∧ f 11 = .int .i64 (j : Nat) ∧ f 0 = x ∧ f 6 = .int .i64 (a : Nat) ∧ f 7 = .int .i64 ((get (b.drop a)).1 : Nat) ∧ f 8 = .int .i64 ((get (b.drop a)).2.1 : Nat) ∧ f 10 = .int .i64 ((b.getD (a + (get (b.drop a)).2.1) 0).toNat : Int) ∧ Mem w [] w' [r5_] ∧ (j ≤ (get (b.drop a)).1) ∧ (SlE i64V 3 y5_ (L ++ List.replicate j (((b.getD (a + (get (b.drop a)).2.1) 0).toNat : Nat) : Int)) r5_)) (fun ⟨j, y5_, r5_⟩ => (get (b.drop a)).1 - j) (0, y5_, r5_) ?_ ?_
                    · exact ⟨rfl, by first | rfl | exact v_int (by omega) | exact v_int (by simp) | exact v_int (by simp; omega), rfl, by first | rfl | exact v_int (by omega) | exact v_int (by simp) | exact v_int (by simp; omega), by first | rfl | exact v_int (by omega) | exact v_int (by simp) | exact v_int (by simp; omega), by first | rfl | exact v_int (by omega) | exact v_int (by simp) | exact v_int (by simp; omega), by first | rfl | exact v_int (by omega) | exact v_int (by simp) | exact v_int (by simp; omega), hM15, by omega, by first | exact hy5_ | simpa using hy5_⟩
                    · rintro ⟨j, y5_, r5_⟩ f w47 ⟨e47_5, e47_11, e47_0, e47_6, e47_7, e47_8, e47_10, hM47, hj, hy5_⟩ K48 h48
                      obtain ⟨frm, rfl⟩ : ∃ frm, f = (upd (upd (upd (upd (upd (upd (upd frm 5 (y5_)) 11 (.int .i64 (j : Nat))) 0 (x)) 6 (.int .i64 (a : Nat))) 7 (.int .i64 ((get (b.drop a)).1 : Nat))) 8 (.int .i64 ((get (b.drop a)).2.1 : Nat))) 10 (.int .i64 ((b.getD (a + (get (b.drop a)).2.1) 0).toNat : Int))) := ⟨f, by rw [upd_self e47_5, upd_self e47_11, upd_self e47_0, upd_self e47_6, upd_self e47_7, upd_self e47_8, upd_self e47_10]⟩
                      clear e47_5 e47_11 e47_0 e47_6 e47_7 e47_8 e47_10
                      refine seq fun K49 h49 => ?_
                      refine seq fun K50 h50 => ?_
                      refine stp (v := .int .i64 (j : Nat)) (o_mv rfl) ?_
                      refine stp (v := .int .i64 ((get (b.drop a)).1 : Nat)) (o_mv rfl) ?_
                      refine stp (v := .bool (decide (((j : Nat) : Int) < ((get (b.drop a)).1 : Nat)))) (o_bin rfl rfl rfl) ?_
                      refine h50 _ _ ?_
                      clear h50
                      refine cndP rfl (fun c51 => ?_) (fun c51 => ?_)
                      ·
                        refine h49 _ _ ?_
                        clear h49
                        refine seq fun K52 h52 => ?_
                        refine stp (v := y5_) (o_mv rfl) ?_
                        refine stp (v := .int .i64 ((b.getD (a + (get (b.drop a)).2.1) 0).toNat : Int)) (o_mv rfl) ?_
                        refine m_app1 (E := i64V) (q := (((b.getD (a + (get (b.drop a)).2.1) 0).toNat : Nat) : Int)) hM47 (i := 0) rfl hy5_ rfl (by simp) (rfl) (by rw [List.length_append, List.length_replicate]; omega) (by omega) fun v53 w53 r53 u53 (hs53 : SlE i64V 3 v53 ((L ++ List.replicate j (((b.getD (a + (get (b.drop a)).2.1) 0).toNat : Nat) : Int)) ++ [(((b.getD (a + (get (b.drop a)).2.1) 0).toNat : Nat) : Int)]) r53) (hM53 : Mem w [] w53 [r53]) => ?_
                        refine stp (v := v53) (o_mv rfl) ?_
                        refine h52 _ _ ?_
                        clear h52
                        refine stp (v := .int .i64 (j : Nat)) (o_mv rfl) ?_
                        refine stp (v := .int .i64 ((j : Nat) + 1)) (o_bin rfl rfl (v_add64 (by constructor <;> omega))) ?_
                        refine stp (v := .int .i64 ((j : Nat) + 1)) (o_mv rfl) ?_
                        refine h48 (j + 1, v53, r53) _ _ ⟨rfl, by first | rfl | exact v_int (by omega) | exact v_int (by simp) | exact v_int (by simp; omega), rfl, by first | rfl | exact v_int (by omega) | exact v_int (by simp) | exact v_int (by simp; omega), by first | rfl | exact v_int (by omega) | exact v_int (by simp) | exact v_int (by simp; omega), by first | rfl | exact v_int (by omega) | exact v_int (by simp) | exact v_int (by simp; omega), by first | rfl | exact v_int (by omega) | exact v_int (by simp) | exact v_int (by simp; omega), hM53, by omega, by rw [List.replicate_succ', ← List.append_assoc]; exact hs53⟩ (by (try dsimp only); omega)
                      ·
                        refine h45 _ _ ?_
                        clear h45
                        have hjj : j = (get (b.drop a)).1 := by omega
                        have hgo := rl_go hh (by omega) (fun h => by have := (u8_z (x := b.getD a 0)).2 h; omega) (by omega) (by omega) (by omega) (by omega) (by intro _; omega)
                        refine stp (v := .int .i64 (a : Nat)) (o_mv rfl) ?_
                        refine stp (v := .int .i64 ((get (b.drop a)).2.1 : Nat)) (o_mv rfl) ?_
                        refine stp (v := .int .i64 ((a : Nat) + ((get (b.drop a)).2.1 : Nat))) (o_bin rfl rfl (v_add64 (by constructor <;> omega))) ?_
                        refine stp (v := .int .i64 (((a : Nat) + ((get (b.drop a)).2.1 : Nat)) + 1)) (o_bin rfl rfl (v_add64 (by constructor <;> omega))) ?_
                        refine stp (v := .int .i64 (((a : Nat) + ((get (b.drop a)).2.1 : Nat)) + 1)) (o_mv rfl) ?_
                        refine h7 (hdrL b a L, a + (get (b.drop a)).2.1 + 1, y5_, r5_) _ _ ⟨rfl, by first | rfl | exact v_int (by omega) | exact v_int (by simp) | exact v_int (by simp; omega), rfl, hM47, hgo.1, hgo.2, by unfold hdrL; rw [← hjj]; exact hy5_⟩ (by (try dsimp only); omega)
      ·
        refine h4 _ _ ?_
        clear h4
        refine seq fun K54 h54 => ?_
        refine seq fun K55 h55 => ?_
        refine stp (v := .int .i64 (a : Nat)) (o_mv rfl) ?_
        refine stp (v := x) (o_mv rfl) ?_
        refine stp (v := .int .i64 (b.length : Nat)) (o_lenR (hx.upd hM6.upd) rfl rfl) ?_
        refine stp (v := .bool (decide (((b.length : Nat) : Int) ≤ ((a : Nat) : Int)))) (o_bin rfl rfl rfl) ?_
        refine stp (v := .bool (decide (((b.length : Nat) : Int) ≤ ((a : Nat) : Int)))) (o_mv rfl) ?_
        refine splitP rfl (fun c56 => ?_) (fun c56 => ?_)
        ·
          refine gno rfl (by simp) ?_
          refine gno rfl (by simp) ?_
          refine gno rfl (by simp) ?_
          refine gno rfl (by simp) ?_
          refine splitU rfl ?_
          refine gnou rfl ?_
          refine gnou rfl ?_
          refine gnou rfl ?_
          refine gnou rfl ?_
          refine gnou rfl ?_
          refine gnolu rfl ?_
          refine gnou rfl ?_
          refine gno rfl (by simp) ?_
          refine stp (v := .bool true) (o_pickT rfl rfl) ?_
          refine h55 _ _ ?_
          clear h55
          refine cndT rfl ?_
          refine seq fun K57 h57 => ?_
          refine stp (v := .slice none 0 0) (o_mv rfl) ?_
          refine stp (v := .int .i64 0) (o_mv rfl) ?_
          refine stp (v := .bool false) (o_mv rfl) ?_
          refine h57 _ _ ?_
          clear h57
          refine ⟨(.tuple [.slice none 0 0, .int .i64 0, .bool false].toArray), rfl, ?_⟩
          first | exact ⟨_, _, L, a + 1, _, rfl, hy5_, by rw [rl_end hh (by omega) (u8_z.1 (by omega))]; exact (if_neg (by omega)).symm, hM6⟩ | exact ⟨_, _, [], _, _, rfl, (Sl.nil 1 3 : SlE i64V 3 _ [] []), by rw [hh, hdr_end (by omega)]; rfl, (hM6.drop 0).keep (by simp)⟩ | exact ⟨_, _, [], _, _, rfl, (Sl.nil 1 3 : SlE i64V 3 _ [] []), by rw [rl_end hh (by omega) (u8_z.1 (by omega))]; exact (if_pos ⟨by omega, by omega⟩).symm, (hM6.drop 0).keep (by simp)⟩
        ·
          refine stg rfl (v := y5_) (o_mv rfl) ?_
          refine stg rfl (v := .int .i64 (L.length : Nat)) (o_lenR (hy5_.rd hM6 (i := 0) rfl) rfl rfl) ?_
          refine stg rfl (v := .bool (decide ((0 : Int) < ((L.length : Nat) : Int)))) (o_bin rfl rfl rfl) ?_
          refine stg rfl (v := .bool (decide ((0 : Int) < ((L.length : Nat) : Int)))) (o_mv rfl) ?_
          refine splitP rfl (fun c58 => ?_) (fun c58 => ?_)
          ·
            refine stg rfl (v := y5_) (o_mv rfl) ?_
            refine stg rfl (v := y5_) (o_mv rfl) ?_
            refine stg rfl (v := .int .i64 (L.length : Nat)) (o_lenR (hy5_.rd hM6 (i := 0) rfl) rfl rfl) ?_
            refine stg rfl (v := .int .i64 ((L.length : Nat) - 1)) (o_bin rfl rfl (v_sub64 (by constructor <;> omega))) ?_
            refine gyes rfl rfl (m_idxE 0 (j := (L.length - 1)) (hy5_.rd hM6 (i := 0) rfl) rfl (v_int (by omega)) (by omega) fun b59 o59 hp59 => ?_)
            refine gyesl rfl ?_
            refine ld (v := .int .i64 (L.getD (L.length - 1) 0)) rfl (hp59) ?_
            refine stg rfl (v := .bool (decide ((L.getD (L.length - 1) 0) = 0))) (o_bin rfl rfl rfl) ?_
            refine stg rfl (v := .bool (decide ((L.getD (L.length - 1) 0) = 0))) (o_pickT rfl rfl) ?_
            refine stp (v := .bool (decide ((L.getD (L.length - 1) 0) = 0))) (o_pickF rfl rfl) ?_
            refine h55 _ _ ?_
            clear h55
            refine cndP rfl (fun c60 => ?_) (fun c60 => ?_)
            ·
              refine seq fun K61 h61 => ?_
              refine stp (v := .slice none 0 0) (o_mv rfl) ?_
              refine stp (v := .int .i64 0) (o_mv rfl) ?_
              refine stp (v := .bool false) (o_mv rfl) ?_
              refine h61 _ _ ?_
              clear h61
              refine ⟨(.tuple [.slice none 0 0, .int .i64 0, .bool false].toArray), rfl, ?_⟩
              first | exact ⟨_, _, L, a + 1, _, rfl, hy5_, by rw [rl_end hh (by omega) (u8_z.1 (by omega))]; exact (if_neg (by omega)).symm, hM6⟩ | exact ⟨_, _, [], _, _, rfl, (Sl.nil 1 3 : SlE i64V 3 _ [] []), by rw [hh, hdr_end (by omega)]; rfl, (hM6.drop 0).keep (by simp)⟩ | exact ⟨_, _, [], _, _, rfl, (Sl.nil 1 3 : SlE i64V 3 _ [] []), by rw [rl_end hh (by omega) (u8_z.1 (by omega))]; exact (if_pos ⟨by omega, by omega⟩).symm, (hM6.drop 0).keep (by simp)⟩
            ·
              refine h54 _ _ ?_
              clear h54
              refine seq fun K62 h62 => ?_
              refine stp (v := y5_) (o_mv rfl) ?_
              refine stp (v := .int .i64 (a : Nat)) (o_mv rfl) ?_
              refine stp (v := .int .i64 ((a : Nat) + 1)) (o_bin rfl rfl (v_add64 (by constructor <;> omega))) ?_
              refine stp (v := y5_) (o_mv rfl) ?_
              refine stp (v := .int .i64 ((a : Nat) + 1)) (o_mv rfl) ?_
              refine stp (v := .bool true) (o_mv rfl) ?_
              refine h62 _ _ ?_
              clear h62
              refine ⟨(.tuple [y5_, .int .i64 ((a : Nat) + 1), .bool true].toArray), rfl, ?_⟩
              first | exact ⟨_, _, L, a + 1, _, rfl, hy5_, by rw [rl_end hh (by omega) (u8_z.1 (by omega))]; exact (if_neg (by omega)).symm, hM6⟩ | exact ⟨_, _, [], _, _, rfl, (Sl.nil 1 3 : SlE i64V 3 _ [] []), by rw [hh, hdr_end (by omega)]; rfl, (hM6.drop 0).keep (by simp)⟩ | exact ⟨_, _, [], _, _, rfl, (Sl.nil 1 3 : SlE i64V 3 _ [] []), by rw [rl_end hh (by omega) (u8_z.1 (by omega))]; exact (if_pos ⟨by omega, by omega⟩).symm, (hM6.drop 0).keep (by simp)⟩
          ·
            refine gno rfl (by simp) ?_
            refine gno rfl (by simp) ?_
            refine gno rfl (by simp) ?_
            refine gno rfl (by simp) ?_
            refine gno rfl (by simp) ?_
            refine gnol rfl (by simp) ?_
            refine gno rfl (by simp) ?_
            refine stg rfl (v := .bool false) (o_pickF rfl rfl) ?_
            refine stp (v := .bool false) (o_pickF rfl rfl) ?_
            refine h55 _ _ ?_
            clear h55
            refine cndF rfl ?_
            refine h54 _ _ ?_
            clear h54
            refine seq fun K63 h63 => ?_
            refine stp (v := y5_) (o_mv rfl) ?_
            refine stp (v := .int .i64 (a : Nat)) (o_mv rfl) ?_
            refine stp (v := .int .i64 ((a : Nat) + 1)) (o_bin rfl rfl (v_add64 (by constructor <;> omega))) ?_
            refine stp (v := y5_) (o_mv rfl) ?_
            refine stp (v := .int .i64 ((a : Nat) + 1)) (o_mv rfl) ?_
            refine stp (v := .bool true) (o_mv rfl) ?_
            refine h63 _ _ ?_
            clear h63
            refine ⟨(.tuple [y5_, .int .i64 ((a : Nat) + 1), .bool true].toArray), rfl, ?_⟩
            first | exact ⟨_, _, L, a + 1, _, rfl, hy5_, by rw [rl_end hh (by omega) (u8_z.1 (by omega))]; exact (if_neg (by omega)).symm, hM6⟩ | exact ⟨_, _, [], _, _, rfl, (Sl.nil 1 3 : SlE i64V 3 _ [] []), by rw [hh, hdr_end (by omega)]; rfl, (hM6.drop 0).keep (by simp)⟩ | exact ⟨_, _, [], _, _, rfl, (Sl.nil 1 3 : SlE i64V 3 _ [] []), by rw [rl_end hh (by omega) (u8_z.1 (by omega))]; exact (if_pos ⟨by omega, by omega⟩).symm, (hM6.drop 0).keep (by simp)⟩
    ·
      refine gno rfl (by simp) ?_
      refine gno rfl (by simp) ?_
      refine gno rfl (by simp) ?_
      refine gnol rfl (by simp) ?_
      refine gno rfl (by simp) ?_
      refine stp (v := .bool false) (o_pickF rfl rfl) ?_
      refine h9 _ _ ?_
      clear h9
      refine cndF rfl ?_
      refine h4 _ _ ?_
      clear h4
      refine seq fun K64 h64 => ?_
      refine seq fun K65 h65 => ?_
      refine stp (v := .int .i64 (a : Nat)) (o_mv rfl) ?_
      refine stp (v := x) (o_mv rfl) ?_
      refine stp (v := .int .i64 (b.length : Nat)) (o_lenR (hx.upd hM6.upd) rfl rfl) ?_
      refine stp (v := .bool (decide (((b.length : Nat) : Int) ≤ ((a : Nat) : Int)))) (o_bin rfl rfl rfl) ?_
      refine stp (v := .bool (decide (((b.length : Nat) : Int) ≤ ((a : Nat) : Int)))) (o_mv rfl) ?_
      refine splitP rfl (fun c66 => ?_) (fun c66 => ?_)
      ·
        refine gno rfl (by simp) ?_
        refine gno rfl (by simp) ?_
        refine gno rfl (by simp) ?_
        refine gno rfl (by simp) ?_
        refine splitU rfl ?_
        refine gnou rfl ?_
        refine gnou rfl ?_
        refine gnou rfl ?_
        refine gnou rfl ?_
        refine gnou rfl ?_
        refine gnolu rfl ?_
        refine gnou rfl ?_
        refine gno rfl (by simp) ?_
        refine stp (v := .bool true) (o_pickT rfl rfl) ?_
        refine h65 _ _ ?_
        clear h65
        refine cndT rfl ?_
        refine seq fun K67 h67 => ?_
        refine stp (v := .slice none 0 0) (o_mv rfl) ?_
        refine stp (v := .int .i64 0) (o_mv rfl) ?_
        refine stp (v := .bool false) (o_mv rfl) ?_
        refine h67 _ _ ?_
        clear h67
        refine ⟨(.tuple [.slice none 0 0, .int .i64 0, .bool false].toArray), rfl, ?_⟩
        first | exact ⟨_, _, L, a + 1, _, rfl, hy5_, by rw [rl_end hh (by omega) (u8_z.1 (by omega))]; exact (if_neg (by omega)).symm, hM6⟩ | exact ⟨_, _, [], _, _, rfl, (Sl.nil 1 3 : SlE i64V 3 _ [] []), by rw [hh, hdr_end (by omega)]; rfl, (hM6.drop 0).keep (by simp)⟩ | exact ⟨_, _, [], _, _, rfl, (Sl.nil 1 3 : SlE i64V 3 _ [] []), by rw [rl_end hh (by omega) (u8_z.1 (by omega))]; exact (if_pos ⟨by omega, by omega⟩).symm, (hM6.drop 0).keep (by simp)⟩
      ·
        refine stg rfl (v := y5_) (o_mv rfl) ?_
        refine stg rfl (v := .int .i64 (L.length : Nat)) (o_lenR (hy5_.rd hM6 (i := 0) rfl) rfl rfl) ?_
        refine stg rfl (v := .bool (decide ((0 : Int) < ((L.length : Nat) : Int)))) (o_bin rfl rfl rfl) ?_
        refine stg rfl (v := .bool (decide ((0 : Int) < ((L.length : Nat) : Int)))) (o_mv rfl) ?_
        refine splitP rfl (fun c68 => ?_) (fun c68 => ?_)
        ·
          refine stg rfl (v := y5_) (o_mv rfl) ?_
          refine stg rfl (v := y5_) (o_mv rfl) ?_
          refine stg rfl (v := .int .i64 (L.length : Nat)) (o_lenR (hy5_.rd hM6 (i := 0) rfl) rfl rfl) ?_
          refine stg rfl (v := .int .i64 ((L.length : Nat) - 1)) (o_bin rfl rfl (v_sub64 (by constructor <;> omega))) ?_
          refine gyes rfl rfl (m_idxE 0 (j := (L.length - 1)) (hy5_.rd hM6 (i := 0) rfl) rfl (v_int (by omega)) (by omega) fun b69 o69 hp69 => ?_)
          refine gyesl rfl ?_
          refine ld (v := .int .i64 (L.getD (L.length - 1) 0)) rfl (hp69) ?_
          refine stg rfl (v := .bool (decide ((L.getD (L.length - 1) 0) = 0))) (o_bin rfl rfl rfl) ?_
          refine stg rfl (v := .bool (decide ((L.getD (L.length - 1) 0) = 0))) (o_pickT rfl rfl) ?_
          refine stp (v := .bool (decide ((L.getD (L.length - 1) 0) = 0))) (o_pickF rfl rfl) ?_
          refine h65 _ _ ?_
          clear h65
          refine cndP rfl (fun c70 => ?_) (fun c70 => ?_)
          ·
            refine seq fun K71 h71 => ?_
            refine stp (v := .slice none 0 0) (o_mv rfl) ?_
            refine stp (v := .int .i64 0) (o_mv rfl) ?_
            refine stp (v := .bool false) (o_mv rfl) ?_
            refine h71 _ _ ?_
            clear h71
            refine ⟨(.tuple [.slice none 0 0, .int .i64 0, .bool false].toArray), rfl, ?_⟩
            first | exact ⟨_, _, L, a + 1, _, rfl, hy5_, by rw [rl_end hh (by omega) (u8_z.1 (by omega))]; exact (if_neg (by omega)).symm, hM6⟩ | exact ⟨_, _, [], _, _, rfl, (Sl.nil 1 3 : SlE i64V 3 _ [] []), by rw [hh, hdr_end (by omega)]; rfl, (hM6.drop 0).keep (by simp)⟩ | exact ⟨_, _, [], _, _, rfl, (Sl.nil 1 3 : SlE i64V 3 _ [] []), by rw [rl_end hh (by omega) (u8_z.1 (by omega))]; exact (if_pos ⟨by omega, by omega⟩).symm, (hM6.drop 0).keep (by simp)⟩
          ·
            refine h64 _ _ ?_
            clear h64
            refine seq fun K72 h72 => ?_
            refine stp (v := y5_) (o_mv rfl) ?_
            refine stp (v := .int .i64 (a : Nat)) (o_mv rfl) ?_
            refine stp (v := .int .i64 ((a : Nat) + 1)) (o_bin rfl rfl (v_add64 (by constructor <;> omega))) ?_
            refine stp (v := y5_) (o_mv rfl) ?_
            refine stp (v := .int .i64 ((a : Nat) + 1)) (o_mv rfl) ?_
            refine stp (v := .bool true) (o_mv rfl) ?_
            refine h72 _ _ ?_
            clear h72
            refine ⟨(.tuple [y5_, .int .i64 ((a : Nat) + 1), .bool true].toArray), rfl, ?_⟩
            first | exact ⟨_, _, L, a + 1, _, rfl, hy5_, by rw [rl_end hh (by omega) (u8_z.1 (by omega))]; exact (if_neg (by omega)).symm, hM6⟩ | exact ⟨_, _, [], _, _, rfl, (Sl.nil 1 3 : SlE i64V 3 _ [] []), by rw [hh, hdr_end (by omega)]; rfl, (hM6.drop 0).keep (by simp)⟩ | exact ⟨_, _, [], _, _, rfl, (Sl.nil 1 3 : SlE i64V 3 _ [] []), by rw [rl_end hh (by omega) (u8_z.1 (by omega))]; exact (if_pos ⟨by omega, by omega⟩).symm, (hM6.drop 0).keep (by simp)⟩
        ·
          refine gno rfl (by simp) ?_
          refine gno rfl (by simp) ?_
          refine gno rfl (by simp) ?_
          refine gno rfl (by simp) ?_
          refine gno rfl (by simp) ?_
          refine gnol rfl (by simp) ?_
          refine gno rfl (by simp) ?_
          refine stg rfl (v := .bool false) (o_pickF rfl rfl) ?_
          refine stp (v := .bool false) (o_pickF rfl rfl) ?_
          refine h65 _ _ ?_
          clear h65
          refine cndF rfl ?_
          refine h64 _ _ ?_
          clear h64
          refine seq fun K73 h73 => ?_
          refine stp (v := y5_) (o_mv rfl) ?_
          refine stp (v := .int .i64 (a : Nat)) (o_mv rfl) ?_
          refine stp (v := .int .i64 ((a : Nat) + 1)) (o_bin rfl rfl (v_add64 (by constructor <;> omega))) ?_
          refine stp (v := y5_) (o_mv rfl) ?_
          refine stp (v := .int .i64 ((a : Nat) + 1)) (o_mv rfl) ?_
          refine stp (v := .bool true) (o_mv rfl) ?_
          refine h73 _ _ ?_
          clear h73
          refine ⟨(.tuple [y5_, .int .i64 ((a : Nat) + 1), .bool true].toArray), rfl, ?_⟩
          first | exact ⟨_, _, L, a + 1, _, rfl, hy5_, by rw [rl_end hh (by omega) (u8_z.1 (by omega))]; exact (if_neg (by omega)).symm, hM6⟩ | exact ⟨_, _, [], _, _, rfl, (Sl.nil 1 3 : SlE i64V 3 _ [] []), by rw [hh, hdr_end (by omega)]; rfl, (hM6.drop 0).keep (by simp)⟩ | exact ⟨_, _, [], _, _, rfl, (Sl.nil 1 3 : SlE i64V 3 _ [] []), by rw [rl_end hh (by omega) (u8_z.1 (by omega))]; exact (if_pos ⟨by omega, by omega⟩).symm, (hM6.drop 0).keep (by simp)⟩

/-- winnowref4.bit -/
theorem bit_ok (x : Value) (b : List UInt8) (i : Nat) (w : World) (hx : RdE byteV w x b) (hi : i < 8 * b.length) (hl : b.length ≤ 140737488355328) : Calls Try.prog 50 [x, .int .i64 ((i : Nat) : Int)].toArray w (Rt fun r w' => r = .int .u32 ((bitW b i : Nat) : Int) ∧ Upd [] w w') := by
  have hM0 : Mem w [] w [] := Mem.nil w []
  refine calls_vc mixed Try.func50 rfl C50 (by simp [Try.ntmps50]) ?_
  refine seq fun K1 h1 => ?_
  refine stp (v := .int .u32 0) (o_mv rfl) ?_
  refine h1 _ _ ?_
  clear h1
  refine seq fun K2 h2 => ?_
  refine stp (v := x) (o_mv rfl) ?_
  refine stp (v := .int .i64 (i : Nat)) (o_mv rfl) ?_
  refine stp (v := .int .i64 ((i : Nat) / 8)) (o_quo rfl rfl (by omega) (v_quo (by omega) (by omega) (by simp only [inK]; omega))) ?_
  refine m_idxE 0 (j := (i / 8)) (hx.upd hM0.upd) rfl (v_int (by omega)) (by omega) fun b3 o3 hp3 => ?_
  refine ld (v := byteV (b.getD (i / 8) 0)) rfl (hp3) ?_
  refine stp (v := .int .i64 (i : Nat)) (o_mv rfl) ?_
  refine stp (v := .int .i64 ((i : Nat) % 8)) (o_rem rfl rfl (by omega) (v_rem (by omega))) ?_
  refine stp (v := .int .u8 ((b.getD (i / 8) 0).toNat / 2 ^ (i % 8) : Nat)) (o_shr rfl rfl (by omega) (shr_bit (by omega))) ?_
  refine stp (v := .int .u32 ((b.getD (i / 8) 0).toNat / 2 ^ (i % 8) : Nat)) (o_conv rfl (v_same (u32_small (bit8 _ _)))) ?_
  refine stp (v := .int .u32 ((b.getD (i / 8) 0).toNat / 2 ^ (i % 8) % 2 : Nat)) (o_rem rfl rfl (by omega) (rem2)) ?_
  refine stp (v := .int .u32 ((b.getD (i / 8) 0).toNat / 2 ^ (i % 8) % 2 : Nat)) (o_mv rfl) ?_
  refine h2 _ _ ?_
  clear h2
  refine ⟨(.int .u32 ((b.getD (i / 8) 0).toNat / 2 ^ (i % 8) % 2 : Nat)), rfl, ?_⟩
  exact ⟨by unfold bitW; rfl, hM0.upd⟩
