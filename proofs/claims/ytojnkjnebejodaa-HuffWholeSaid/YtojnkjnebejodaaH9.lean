/- Decoding: the reference's header, its bits, its words. -/
import Derived.Test.YtojnkjnebejodaaH8
namespace Go.Proofs.Ytojnkjnebejodaa.E
open Go
theorem lastI_get {L : List Int} (h : 0 < L.length) : lastI L = L.getD (L.length - 1) 0 := by
  unfold lastI
  rw [List.getLast?_eq_getElem?, List.getD_eq_getElem?_getD, List.getElem?_eq_getElem (by omega)]; rfl
theorem lastI_nil {L : List Int} (h : ¬ 0 < L.length) : lastI L = -1 := by
  have : L = [] := List.length_eq_zero_iff.1 (by omega)
  subst this; rfl
theorem rl_bad1 {b : List UInt8} {a : Nat} {L : List Int} (h : hdr b 0 [] = hdr b a L) (ha : a < b.length) (h0 : ¬ b.getD a 0 = 0) (hx : ¬ (get (b.drop a)).2.2 = 0 ∨ (((get (b.drop a)).1 : Nat) : Int) < 1 ∨ (256 : Int) - (L.length : Nat) < (((get (b.drop a)).1 : Nat) : Int) ∨ (b.length : Int) ≤ (a : Int) + (((get (b.drop a)).2.1 : Nat) : Int)) : hdr b 0 [] = none := by
  rw [h, hdr_no ha h0]
  rintro ⟨p1, p2, p3, _⟩
  have := get_nz ha h0 p1
  omega
theorem rl_bad2 {b : List UInt8} {a : Nat} {L : List Int} (h : hdr b 0 [] = hdr b a L) (ha : a < b.length) (h0 : ¬ b.getD a 0 = 0) (hx : 15 < ((b.getD (a + (get (b.drop a)).2.1) 0).toNat : Int) ∨ (0 < L.length ∧ L.getD (L.length - 1) 0 = ((b.getD (a + (get (b.drop a)).2.1) 0).toNat : Int))) : hdr b 0 [] = none := by
  rw [h, hdr_no ha h0]
  rintro ⟨p1, p2, p3, p4, p5⟩
  rcases hx with hx | ⟨h1, hx⟩
  · omega
  · exact p5 (by rw [lastI_get h1, hx])
theorem rl_go {b : List UInt8} {a : Nat} {L : List Int} (h : hdr b 0 [] = hdr b a L) (ha : a < b.length) (h0 : ¬ b.getD a 0 = 0) (h1 : (get (b.drop a)).2.2 = 0) (h2 : ¬ (256 : Int) - (L.length : Nat) < (((get (b.drop a)).1 : Nat) : Int)) (h3 : ¬ (b.length : Int) ≤ (a : Int) + (((get (b.drop a)).2.1 : Nat) : Int)) (h4 : ¬ 15 < ((b.getD (a + (get (b.drop a)).2.1) 0).toNat : Int)) (h5 : 0 < L.length → ¬ L.getD (L.length - 1) 0 = ((b.getD (a + (get (b.drop a)).2.1) 0).toNat : Int)) :
    hdr b 0 [] = hdr b (a + (get (b.drop a)).2.1 + 1) (hdrL b a L) ∧ (hdrL b a L).length ≤ 256 := by
  refine ⟨?_, by unfold hdrL; rw [List.length_append, List.length_replicate]; omega⟩
  rw [h, hdr_more ha h0 ⟨h1, by omega, by omega, by omega, fun k => ?_⟩]
  by_cases c : 0 < L.length
  · exact h5 c (by rw [← lastI_get c, k])
  · rw [lastI_nil c] at k; omega
theorem rl_end {b : List UInt8} {a : Nat} {L : List Int} (h : hdr b 0 [] = hdr b a L) (ha : a < b.length) (h0 : b.getD a 0 = 0) : hdr b 0 [] = (if 0 < L.length ∧ L.getD (L.length - 1) 0 = 0 then none else some (L, a + 1)) := by
  rw [h]
  by_cases c : 0 < L.length
  · by_cases z : L.getD (L.length - 1) 0 = 0
    · rw [if_pos ⟨c, z⟩, hdr_z0 ha h0 (by rw [lastI_get c, z])]
    · rw [if_neg (fun h => z h.2), hdr_z1 ha h0 (by rw [lastI_get c]; exact z)]
  · rw [if_neg (fun h => c h.1), hdr_z1 ha h0 (by rw [lastI_nil c]; omega)]
theorem hdr_bd {b : List UInt8} : ∀ (m a : Nat) (L : List Int), b.length - a ≤ m → L.length ≤ 256 → inB 0 15 L = true → ∀ l e, hdr b a L = some (l, e) → l.length ≤ 256 ∧ inB 0 15 l = true ∧ e ≤ b.length
  | m, a, L, hm, hL, hB, l, e, h => by
    by_cases ha : a < b.length
    · by_cases h0 : b.getD a 0 = 0
      · by_cases c : lastI L = 0
        · rw [hdr_z0 ha h0 c] at h; cases h
        · rw [hdr_z1 ha h0 c] at h; injection h with h; injection h with h1 h2; subst h1; exact ⟨hL, hB, by omega⟩
      · by_cases p : hdrP b a L
        · rw [hdr_more ha h0 p] at h
          obtain ⟨p1, p2, p3, p4, p5⟩ := p
          cases m with
          | zero => omega
          | succ m =>
            refine hdr_bd m _ _ (by omega) ?_ ?_ l e h
            · unfold hdrL; rw [List.length_append, List.length_replicate]; omega
            · unfold hdrL inB at *
              rw [List.all_append, hB, Bool.true_and, List.all_eq_true]
              intro x hx
              have := List.eq_of_mem_replicate hx
              simp only [Bool.and_eq_true, decide_eq_true_eq]; omega
        · rw [hdr_no ha h0 p] at h; cases h
    · rw [hdr_end ha] at h; cases h
theorem hdr_ok {b : List UInt8} {l : List Int} {e : Nat} (h : hdr b 0 [] = some (l, e)) : l.length ≤ 256 ∧ inB 0 15 l = true ∧ e ≤ b.length := hdr_bd _ 0 [] (Nat.le_refl _) (by simp) rfl l e h
theorem get_le (b : List UInt8) : (get b).2.1 ≤ b.length := by
  by_cases c : (get b).2.2 = 0
  · exact (get_ok c).2.1
  · have h : (get b).2.1 = 0 := ((getA_err b 0 0).2 c).2
    omega
theorem u8_z {x : UInt8} : ((x.toNat : Int) = 0) ↔ x = 0 := by
  constructor
  · intro h
    have : x.toNat = (0 : UInt8).toNat := by simp; omega
    exact UInt8.toNat_inj.1 this
  · rintro rfl; rfl
theorem u32_small {m : Nat} (h : m ≤ 255) : inK .u32 ((m : Nat) : Int) := by simp only [inK]; omega
theorem rem2 {m : Nat} : Value.int .u32 (((m : Nat) : Int).tmod 2) = .int .u32 ((m % 2 : Nat) : Int) := (v_rem (by omega)).trans (v_int (by omega))
theorem bit8 (x : UInt8) (k : Nat) : x.toNat / 2 ^ k ≤ 255 := by have := x.toNat_lt; have := Nat.div_le_self x.toNat (2 ^ k); omega
theorem shr_bit {x : UInt8} {i : Nat} {z : Int} (hz : z = ((i % 8 : Nat) : Int)) : Value.int .u8 ((x.toNat : Int).fdiv (2 ^ min z.toNat IntKind.u8.bits)) = .int .u8 ((x.toNat / 2 ^ (i % 8) : Nat) : Int) := by
  subst hz
  rw [v_shr _ (by simp only [IntKind.bits]; omega), Int.natCast_ediv]; simp
