/- Encode, the program's and the reference's: places by their hashes. -/
import Derived.Test.YteanplpnhlgjeaaT13
import Derived.Test.YteanplpnhlgjeaaM2
namespace Go.Proofs.Yteanplpnhlgjeaa.E
open Go
/-- the last place below m whose hash is v, and 1; 0: there is none -/
def pv (h : Nat → Nat) (v : Nat) : Nat → Nat
  | 0 => 0
  | m + 1 => if h m = v then m + 1 else pv h v m
theorem pv_le (h : Nat → Nat) (v : Nat) : ∀ m, pv h v m ≤ m
  | 0 => Nat.le_refl _
  | m + 1 => by
    have := pv_le h v m
    rw [pv]; split <;> omega
theorem pv_is (h : Nat → Nat) (v : Nat) : ∀ m, 0 < pv h v m → h (pv h v m - 1) = v
  | 0, k => by simp [pv] at k
  | m + 1, k => by
    rw [pv] at k ⊢
    split
    · assumption
    · rename_i c; rw [if_neg c] at k; exact pv_is h v m k
theorem pv_gap (h : Nat → Nat) (v : Nat) : ∀ m j, pv h v m ≤ j → j < m → ¬ h j = v
  | m + 1, j, k, hj => by
    rw [pv] at k
    split at k
    · omega
    · rename_i c
      by_cases e : j = m
      · rw [e]; exact c
      · exact pv_gap h v m j k (by omega)
/-- whatever is alike has the same hash -/
def Hsh (T : List UInt8) (h : Nat → Nat) : Prop := ∀ i j, alk T i j → h i = h j
theorem cands_pv {T : List UInt8} {h : Nat → Nat} (hh : Hsh T h) {i m : Nat} : cands T i m = cands T i (pv h (h i) m) :=
  cands_skip (pv_le _ _ _) fun j a b c => pv_gap h (h i) m j a b (hh i j c).symm
/-- where the search stands -/
structure Srch (T : List UInt8) (h : Nat → Nat) (i p s d b : Nat) : Prop where
  he : bestF T i = pick T i (cands T i p) s d b
  hp : p ≤ i
  hh : 0 < p → h (p - 1) = h i
  hb : b ≤ 259 ∧ d ≤ i ∧ d ≤ 32768
theorem Srch.init {T : List UInt8} {h : Nat → Nat} (hh : Hsh T h) {i : Nat} (hi : i + 4 ≤ T.length) : Srch T h i (pv h (h i) i) 0 0 0 :=
  ⟨by unfold bestF; rw [if_pos hi, cands_pv hh], pv_le _ _ _, fun k => pv_is _ _ _ k, by omega, by omega, by omega⟩
theorem Srch.stop {T : List UInt8} {h : Nat → Nat} {i p s d b : Nat} (H : Srch T h i p s d b) (hs : p = 0 ∨ 32768 < i - (p - 1) ∨ 16 ≤ s) : bestF T i = (d, b) := by
  rw [H.he]
  rcases hs with hs | hs | hs
  · subst hs; rfl
  · exact pick_far fun j hj => by have := (cands_mem hj).1; omega
  · exact pick_16 hs
theorem Srch.skip {T : List UInt8} {h : Nat → Nat} (hh : Hsh T h) {i p s d b : Nat} (H : Srch T h i p s d b) (hp : 0 < p) (hn : ¬ alk T i (p - 1)) : Srch T h i (pv h (h (p - 1)) (p - 1)) s d b := by
  have hpl := pv_le h (h (p - 1)) (p - 1)
  have hpp := H.hp
  refine ⟨?_, by omega, fun k => ?_, H.hb⟩
  · rw [H.he, show p = p - 1 + 1 by omega, cands, if_neg hn, Nat.add_sub_cancel, cands_pv hh, H.hh hp]
  · rw [pv_is _ _ _ k, H.hh hp]
theorem Srch.look {T : List UInt8} {h : Nat → Nat} (hh : Hsh T h) {i p s d b : Nat} (H : Srch T h i p s d b) (hp : 0 < p) (ha : alk T i (p - 1)) (hw : i - (p - 1) ≤ 32768) (hs : s < 16) :
    bestF T i = (if b < lcF T i (p - 1) ∧ 3 + plen (i - (p - 1)) ≤ lcF T i (p - 1) then pick T i (cands T i (pv h (h (p - 1)) (p - 1))) (s + 1) (i - (p - 1)) (lcF T i (p - 1)) else pick T i (cands T i (pv h (h (p - 1)) (p - 1))) (s + 1) d b) := by
  rw [H.he]
  conv => lhs; rw [show p = p - 1 + 1 by omega, cands, if_pos ha, pick, if_pos ⟨hw, hs⟩]
  rw [cands_pv hh, H.hh hp]
theorem Srch.worse {T : List UInt8} {h : Nat → Nat} (hh : Hsh T h) {i p s d b : Nat} (H : Srch T h i p s d b) (hp : 0 < p) (ha : alk T i (p - 1)) (hw : i - (p - 1) ≤ 32768) (hs : s < 16) (hn : ¬ (b < lcF T i (p - 1) ∧ 3 + plen (i - (p - 1)) ≤ lcF T i (p - 1))) : Srch T h i (pv h (h (p - 1)) (p - 1)) (s + 1) d b := by
  have hpl := pv_le h (h (p - 1)) (p - 1)
  have hpp := H.hp
  refine ⟨?_, by omega, fun k => ?_, H.hb⟩
  · rw [H.look hh hp ha hw hs, if_neg hn]
  · rw [pv_is _ _ _ k, H.hh hp]
theorem Srch.better {T : List UInt8} {h : Nat → Nat} (hh : Hsh T h) {i p s d b : Nat} (H : Srch T h i p s d b) (hp : 0 < p) (ha : alk T i (p - 1)) (hw : i - (p - 1) ≤ 32768) (hs : s < 16) (hn : b < lcF T i (p - 1) ∧ 3 + plen (i - (p - 1)) ≤ lcF T i (p - 1)) : Srch T h i (pv h (h (p - 1)) (p - 1)) (s + 1) (i - (p - 1)) (lcF T i (p - 1)) := by
  have hpl := pv_le h (h (p - 1)) (p - 1)
  have hpp := H.hp
  have := lcF_le (T := T) (i := i) (j := p - 1)
  refine ⟨?_, by omega, fun k => ?_, by omega, by omega, by omega⟩
  · rw [H.look hh hp ha hw hs, if_pos hn]
  · rw [pv_is _ _ _ k, H.hh hp]
theorem Srch.most {T : List UInt8} {h : Nat → Nat} (hh : Hsh T h) {i p s d b : Nat} (H : Srch T h i p s d b) (hp : 0 < p) (ha : alk T i (p - 1)) (hw : i - (p - 1) ≤ 32768) (hs : s < 16) (hn : b < lcF T i (p - 1) ∧ 3 + plen (i - (p - 1)) ≤ lcF T i (p - 1)) (hm : lcF T i (p - 1) = 259 ∨ T.length ≤ i + lcF T i (p - 1)) : bestF T i = (i - (p - 1), lcF T i (p - 1)) := by
  rw [H.look hh hp ha hw hs, if_pos hn, pick_most _ _ _ _ hm]
/-- the table of the last places, and of the one ahead of each -/
structure Tab (h : Nat → Nat) (n : Nat) (m : Nat) (H A : List Int) (off : Int) : Prop where
  hl : H.length = n
  hv : ∀ v, v < n → H.getD v 0 = (pv h v m : Nat)
  av : ∀ j, j < m → A.getD j 0 = (pv h (h j) j : Nat) - off
theorem Tab.init (h : Nat → Nat) (n k : Nat) (off : Int) : Tab h n 0 (List.replicate n 0) (List.replicate k 0) off :=
  ⟨by simp, fun v hv => by rw [repG 0 hv]; rfl, fun j hj => by omega⟩
theorem Tab.step {h : Nat → Nat} {n m : Nat} {H A : List Int} {off : Int} (t : Tab h n m H A off) (hm : m < A.length) (hh : h m < n) : Tab h n (m + 1) (H.set (h m) ((m : Int) + 1)) (A.set m (H.getD (h m) 0 - off)) off := by
  refine ⟨by rw [List.length_set]; exact t.hl, fun v hv => ?_, fun j hj => ?_⟩
  · rw [set_getD 0 (by rw [t.hl]; exact hv), pv]
    split
    · rfl
    · exact t.hv v hv
  · rw [set_getD 0 (by omega)]
    split
    · rename_i e; subst e; rw [t.hv _ hh]
    · exact t.av j (by omega)
/-! ### the hashes -/
theorem orI_cong {a b c d : Int} (h1 : a = c) (h2 : b = d) : orI .u32 a b = orI .u32 c d := by rw [h1, h2]

/-- of a place's four bytes -/
def hsh4 (a b c d : UInt8) : Int := orI .u32 (orI .u32 (orI .u32 (a.toNat : Int) (shlI .u32 (b.toNat : Int) 8)) (shlI .u32 (c.toNat : Int) 16)) (shlI .u32 (d.toNat : Int) 24)
def hashP (T : List UInt8) (i : Nat) : Nat := (hsh4 (T.getD i 0) (T.getD (i + 1) 0) (T.getD (i + 2) 0) (T.getD (i + 3) 0) * 2654435761 % 4294967296 / 131072).toNat
theorem hashP_lt (T : List UInt8) (i : Nat) : hashP T i < 32768 := by unfold hashP; omega
theorem hashP_h (T : List UInt8) : Hsh T (hashP T) := fun i j ⟨h0, h1, h2, h3⟩ => by unfold hashP; rw [h0, h1, h2, h3]
def slotR (T : List UInt8) (i : Nat) : Nat := ((T.getD i 0).toNat + 7 * (T.getD (i + 1) 0).toNat + 61 * (T.getD (i + 2) 0).toNat + 509 * (T.getD (i + 3) 0).toNat) % 4096
theorem slotR_lt (T : List UInt8) (i : Nat) : slotR T i < 4096 := by unfold slotR; omega
theorem slotR_h (T : List UInt8) : Hsh T (slotR T) := fun i j ⟨h0, h1, h2, h3⟩ => by unfold slotR; rw [h0, h1, h2, h3]

/-- (*lz.finder).hash -/
theorem hash_ok (bf : Nat) (x : Value) (cs : List Value) (T : List UInt8) (i : Nat) (w : World) (ho : Own w ⟨bf, 56, x :: cs⟩) (hx : RdE byteV w x T) (hi : i + 4 ≤ T.length) (hl : T.length ≤ 65536) : Calls Try.prog 50 [.pointer (some ⟨bf, 0, none⟩), .int .i64 ((i : Nat) : Int)].toArray w (Rt fun r w' => r = .int .i64 ((hashP T i : Nat) : Int) ∧ Upd [] w w') := by
  have hM0 : Mem w [] w [] := Mem.nil w []
  refine calls_vc mixed Try.func50 rfl C50 (by simp [Try.ntmps50]) ?_
  refine seq fun K1 h1 => ?_
  refine stp (v := .int .i64 0) (o_mv rfl) ?_
  refine h1 _ _ ?_
  clear h1
  refine seq fun K2 h2 => ?_
  intro wd e1 e2 e3 e4
  have hd := Upd.same e1 e2 e3 e4 []
  have hM3 := hM0.pure hd
  clear e1 e2 e3 e4
  refine ⟨none, ?_⟩
  show vd _ _ _ _ _ _ _
  refine dq (v := .pointer (some ⟨bf, 0, none⟩)) (o_mv rfl) ?_
  refine dq (v := .pointer (some ⟨bf, 0, none⟩)) (o_nilchk rfl rfl) ?_
  refine dq (v := .pointer (some ⟨bf, 0, none⟩)) (o_fa rfl rfl) ?_
  refine dq (v := .int .i64 (i : Nat)) (o_mv rfl) ?_
  refine dq (v := .pointer (some ⟨bf, 0, none⟩)) (o_mv rfl) ?_
  refine dq (v := .pointer (some ⟨bf, 0, none⟩)) (o_nilchk rfl rfl) ?_
  refine dq (v := .pointer (some ⟨bf, 0, none⟩)) (o_fa rfl rfl) ?_
  refine dq (v := .int .i64 (i : Nat)) (o_mv rfl) ?_
  refine dq (v := .int .i64 ((i : Nat) + 1)) (o_bin rfl rfl (v_add64 (by constructor <;> omega))) ?_
  refine dq (v := .pointer (some ⟨bf, 0, none⟩)) (o_mv rfl) ?_
  refine dq (v := .pointer (some ⟨bf, 0, none⟩)) (o_nilchk rfl rfl) ?_
  refine dq (v := .pointer (some ⟨bf, 0, none⟩)) (o_fa rfl rfl) ?_
  refine dq (v := .int .i64 (i : Nat)) (o_mv rfl) ?_
  refine dq (v := .int .i64 ((i : Nat) + 2)) (o_bin rfl rfl (v_add64 (by constructor <;> omega))) ?_
  refine dq (v := .pointer (some ⟨bf, 0, none⟩)) (o_mv rfl) ?_
  refine dq (v := .pointer (some ⟨bf, 0, none⟩)) (o_nilchk rfl rfl) ?_
  refine dq (v := .pointer (some ⟨bf, 0, none⟩)) (o_fa rfl rfl) ?_
  refine dq (v := .int .i64 (i : Nat)) (o_mv rfl) ?_
  refine dq (v := .int .i64 ((i : Nat) + 3)) (o_bin rfl rfl (v_add64 (by constructor <;> omega))) ?_
  refine dqld rfl (trivial) (v := x) ((ho.upd hM3.upd (by simp)).cell 0) ?_
  refine dqp (m_idxE 0 (j := ((i) + 3)) (hx.upd hM3.upd) rfl (v_int (by omega)) (by omega) fun b4 o4 hp4 => ?_)
  show vd _ _ _ _ _ _ _
  refine dqld rfl (trivial) (v := x) ((ho.upd hM3.upd (by simp)).cell 0) ?_
  refine dqp (m_idxE 0 (j := ((i) + 2)) (hx.upd hM3.upd) rfl (v_int (by omega)) (by omega) fun b5 o5 hp5 => ?_)
  show vd _ _ _ _ _ _ _
  refine dqld rfl (trivial) (v := x) ((ho.upd hM3.upd (by simp)).cell 0) ?_
  refine dqp (m_idxE 0 (j := ((i) + 1)) (hx.upd hM3.upd) rfl (v_int (by omega)) (by omega) fun b6 o6 hp6 => ?_)
  show vd _ _ _ _ _ _ _
  refine dqld rfl (trivial) (v := x) ((ho.upd hM3.upd (by simp)).cell 0) ?_
  refine dqp (m_idxE 0 (j := i) (hx.upd hM3.upd) rfl rfl (by omega) fun b7 o7 hp7 => ?_)
  show vd _ _ _ _ _ _ _
  refine dqld rfl (trivial) (v := byteV (T.getD ((i) + 3) 0)) (hp4) ?_
  refine dq (v := .int .u32 ((T.getD ((i) + 3) 0).toNat : Int)) (o_conv rfl (v_byteTo (by decide))) ?_
  refine dq (v := .int .u32 (shlI .u32 ((T.getD ((i) + 3) 0).toNat : Int) 24)) (o_shl rfl rfl (by omega) rfl) ?_
  refine dqld rfl (trivial) (v := byteV (T.getD ((i) + 2) 0)) (hp5) ?_
  refine dq (v := .int .u32 ((T.getD ((i) + 2) 0).toNat : Int)) (o_conv rfl (v_byteTo (by decide))) ?_
  refine dq (v := .int .u32 (shlI .u32 ((T.getD ((i) + 2) 0).toNat : Int) 16)) (o_shl rfl rfl (by omega) rfl) ?_
  refine dqld rfl (trivial) (v := byteV (T.getD ((i) + 1) 0)) (hp6) ?_
  refine dq (v := .int .u32 ((T.getD ((i) + 1) 0).toNat : Int)) (o_conv rfl (v_byteTo (by decide))) ?_
  refine dq (v := .int .u32 (shlI .u32 ((T.getD ((i) + 1) 0).toNat : Int) 8)) (o_shl rfl rfl (by omega) rfl) ?_
  refine dl (ld (v := byteV (T.getD i 0)) rfl (hp7) ?_)
  refine ⟨rfl, ?_⟩
  refine dq (v := .int .u32 ((T.getD i 0).toNat : Int)) (o_conv rfl (v_byteTo (by decide))) ?_
  refine dq (v := .int .u32 (orI .u32 ((T.getD i 0).toNat : Int) (shlI .u32 ((T.getD ((i) + 1) 0).toNat : Int) 8))) (o_bin rfl rfl rfl) ?_
  refine dq (v := .int .u32 (orI .u32 (orI .u32 ((T.getD i 0).toNat : Int) (shlI .u32 ((T.getD ((i) + 1) 0).toNat : Int) 8)) (shlI .u32 ((T.getD ((i) + 2) 0).toNat : Int) 16))) (o_bin rfl rfl rfl) ?_
  refine dq (v := .int .u32 (orI .u32 (orI .u32 (orI .u32 ((T.getD i 0).toNat : Int) (shlI .u32 ((T.getD ((i) + 1) 0).toNat : Int) 8)) (shlI .u32 ((T.getD ((i) + 2) 0).toNat : Int) 16)) (shlI .u32 ((T.getD ((i) + 3) 0).toNat : Int) 24))) (o_bin rfl rfl rfl) ?_
  refine dq (v := .int .u32 (orI .u32 (orI .u32 (orI .u32 ((T.getD i 0).toNat : Int) (shlI .u32 ((T.getD ((i) + 1) 0).toNat : Int) 8)) (shlI .u32 ((T.getD ((i) + 2) 0).toNat : Int) 16)) (shlI .u32 ((T.getD ((i) + 3) 0).toNat : Int) 24))) (o_mv rfl) ?_
  refine h2 _ _ ?_
  clear h2
  refine seq fun K8 h8 => ?_
  refine stp (v := .int .u32 (orI .u32 (orI .u32 (orI .u32 ((T.getD i 0).toNat : Int) (shlI .u32 ((T.getD ((i) + 1) 0).toNat : Int) 8)) (shlI .u32 ((T.getD ((i) + 2) 0).toNat : Int) 16)) (shlI .u32 ((T.getD ((i) + 3) 0).toNat : Int) 24))) (o_mv rfl) ?_
  refine stp (v := .int .u32 (((orI .u32 (orI .u32 (orI .u32 ((T.getD i 0).toNat : Int) (shlI .u32 ((T.getD ((i) + 1) 0).toNat : Int) 8)) (shlI .u32 ((T.getD ((i) + 2) 0).toNat : Int) 16)) (shlI .u32 ((T.getD ((i) + 3) 0).toNat : Int) 24)) * 2654435761) % 4294967296)) (o_bin rfl rfl (v_u32 _)) ?_
  refine stp (v := .int .u32 ((((orI .u32 (orI .u32 (orI .u32 ((T.getD i 0).toNat : Int) (shlI .u32 ((T.getD ((i) + 1) 0).toNat : Int) 8)) (shlI .u32 ((T.getD ((i) + 2) 0).toNat : Int) 16)) (shlI .u32 ((T.getD ((i) + 3) 0).toNat : Int) 24)) * 2654435761) % 4294967296) / 131072)) (o_shr rfl rfl (by omega) (v_shr 17 (by decide))) ?_
  refine stp (v := .int .i64 ((((orI .u32 (orI .u32 (orI .u32 ((T.getD i 0).toNat : Int) (shlI .u32 ((T.getD ((i) + 1) 0).toNat : Int) 8)) (shlI .u32 ((T.getD ((i) + 2) 0).toNat : Int) 16)) (shlI .u32 ((T.getD ((i) + 3) 0).toNat : Int) 24)) * 2654435761) % 4294967296) / 131072)) (o_conv rfl (v_same (by simp only [inK]; omega))) ?_
  refine stp (v := .int .i64 ((((orI .u32 (orI .u32 (orI .u32 ((T.getD i 0).toNat : Int) (shlI .u32 ((T.getD ((i) + 1) 0).toNat : Int) 8)) (shlI .u32 ((T.getD ((i) + 2) 0).toNat : Int) 16)) (shlI .u32 ((T.getD ((i) + 3) 0).toNat : Int) 24)) * 2654435761) % 4294967296) / 131072)) (o_mv rfl) ?_
  refine h8 _ _ ?_
  clear h8
  refine ⟨(.int .i64 ((((orI .u32 (orI .u32 (orI .u32 ((T.getD i 0).toNat : Int) (shlI .u32 ((T.getD ((i) + 1) 0).toNat : Int) 8)) (shlI .u32 ((T.getD ((i) + 2) 0).toNat : Int) 16)) (shlI .u32 ((T.getD ((i) + 3) 0).toNat : Int) 24)) * 2654435761) % 4294967296) / 131072)), rfl, ?_⟩
  exact ⟨v_int (by unfold hashP hsh4; omega), hM3.upd⟩

/-- winnowref3.slot -/
theorem slot_ok (x : Value) (T : List UInt8) (i : Nat) (w : World) (hx : RdE byteV w x T) (hi : i + 4 ≤ T.length) (hl : T.length ≤ 65536) : Calls Try.prog 47 [x, .int .i64 ((i : Nat) : Int)].toArray w (Rt fun r w' => r = .int .i64 ((slotR T i : Nat) : Int) ∧ Upd [] w w') := by
  have hM0 : Mem w [] w [] := Mem.nil w []
  have a0 := (T.getD i 0).toNat_lt
  have a1 := (T.getD (i + 1) 0).toNat_lt
  have a2 := (T.getD (i + 2) 0).toNat_lt
  have a3 := (T.getD (i + 3) 0).toNat_lt
  refine calls_vc mixed Try.func47 rfl C47 (by simp [Try.ntmps47]) ?_
  refine seq fun K1 h1 => ?_
  refine stp (v := .int .i64 0) (o_mv rfl) ?_
  refine h1 _ _ ?_
  clear h1
  refine seq fun K2 h2 => ?_
  intro wd e1 e2 e3 e4
  have hd := Upd.same e1 e2 e3 e4 []
  have hM3 := hM0.pure hd
  clear e1 e2 e3 e4
  refine ⟨none, ?_⟩
  show vd _ _ _ _ _ _ _
  refine dq (v := x) (o_mv rfl) ?_
  refine dq (v := .int .i64 (i : Nat)) (o_mv rfl) ?_
  refine dqp (m_idxE 0 (j := i) (hx.upd hM3.upd) rfl rfl (by omega) fun b4 o4 hp4 => ?_)
  show vd _ _ _ _ _ _ _
  refine dq (v := x) (o_mv rfl) ?_
  refine dq (v := .int .i64 (i : Nat)) (o_mv rfl) ?_
  refine dq (v := .int .i64 ((i : Nat) + 1)) (o_bin rfl rfl (v_add64 (by constructor <;> omega))) ?_
  refine dqp (m_idxE 0 (j := ((i) + 1)) (hx.upd hM3.upd) rfl (v_int (by omega)) (by omega) fun b5 o5 hp5 => ?_)
  show vd _ _ _ _ _ _ _
  refine dq (v := x) (o_mv rfl) ?_
  refine dq (v := .int .i64 (i : Nat)) (o_mv rfl) ?_
  refine dq (v := .int .i64 ((i : Nat) + 2)) (o_bin rfl rfl (v_add64 (by constructor <;> omega))) ?_
  refine dqp (m_idxE 0 (j := ((i) + 2)) (hx.upd hM3.upd) rfl (v_int (by omega)) (by omega) fun b6 o6 hp6 => ?_)
  show vd _ _ _ _ _ _ _
  refine dq (v := x) (o_mv rfl) ?_
  refine dq (v := .int .i64 (i : Nat)) (o_mv rfl) ?_
  refine dq (v := .int .i64 ((i : Nat) + 3)) (o_bin rfl rfl (v_add64 (by constructor <;> omega))) ?_
  refine dqp (m_idxE 0 (j := ((i) + 3)) (hx.upd hM3.upd) rfl (v_int (by omega)) (by omega) fun b7 o7 hp7 => ?_)
  show vd _ _ _ _ _ _ _
  refine dqld rfl (trivial) (v := byteV (T.getD ((i) + 3) 0)) (hp7) ?_
  refine dq (v := .int .i64 ((T.getD ((i) + 3) 0).toNat : Int)) (o_conv rfl (v_byteTo (by decide))) ?_
  refine dq (v := .int .i64 (509 * ((T.getD ((i) + 3) 0).toNat : Int))) (o_bin rfl rfl (v_mul64 (by constructor <;> omega))) ?_
  refine dqld rfl (trivial) (v := byteV (T.getD ((i) + 2) 0)) (hp6) ?_
  refine dq (v := .int .i64 ((T.getD ((i) + 2) 0).toNat : Int)) (o_conv rfl (v_byteTo (by decide))) ?_
  refine dq (v := .int .i64 (61 * ((T.getD ((i) + 2) 0).toNat : Int))) (o_bin rfl rfl (v_mul64 (by constructor <;> omega))) ?_
  refine dqld rfl (trivial) (v := byteV (T.getD ((i) + 1) 0)) (hp5) ?_
  refine dq (v := .int .i64 ((T.getD ((i) + 1) 0).toNat : Int)) (o_conv rfl (v_byteTo (by decide))) ?_
  refine dq (v := .int .i64 (7 * ((T.getD ((i) + 1) 0).toNat : Int))) (o_bin rfl rfl (v_mul64 (by constructor <;> omega))) ?_
  refine dl (ld (v := byteV (T.getD i 0)) rfl (hp4) ?_)
  refine ⟨rfl, ?_⟩
  refine dq (v := .int .i64 ((T.getD i 0).toNat : Int)) (o_conv rfl (v_byteTo (by decide))) ?_
  refine dq (v := .int .i64 (((T.getD i 0).toNat : Int) + (7 * ((T.getD ((i) + 1) 0).toNat : Int)))) (o_bin rfl rfl (v_add64 (by constructor <;> omega))) ?_
  refine dq (v := .int .i64 ((((T.getD i 0).toNat : Int) + (7 * ((T.getD ((i) + 1) 0).toNat : Int))) + (61 * ((T.getD ((i) + 2) 0).toNat : Int)))) (o_bin rfl rfl (v_add64 (by constructor <;> omega))) ?_
  refine dq (v := .int .i64 (((((T.getD i 0).toNat : Int) + (7 * ((T.getD ((i) + 1) 0).toNat : Int))) + (61 * ((T.getD ((i) + 2) 0).toNat : Int))) + (509 * ((T.getD ((i) + 3) 0).toNat : Int)))) (o_bin rfl rfl (v_add64 (by constructor <;> omega))) ?_
  refine dq (v := .int .i64 (((((T.getD i 0).toNat : Int) + (7 * ((T.getD ((i) + 1) 0).toNat : Int))) + (61 * ((T.getD ((i) + 2) 0).toNat : Int))) + (509 * ((T.getD ((i) + 3) 0).toNat : Int)))) (o_mv rfl) ?_
  refine h2 _ _ ?_
  clear h2
  refine seq fun K8 h8 => ?_
  refine stp (v := .int .i64 (((((T.getD i 0).toNat : Int) + (7 * ((T.getD ((i) + 1) 0).toNat : Int))) + (61 * ((T.getD ((i) + 2) 0).toNat : Int))) + (509 * ((T.getD ((i) + 3) 0).toNat : Int)))) (o_mv rfl) ?_
  refine stp (v := .int .i64 ((((((T.getD i 0).toNat : Int) + (7 * ((T.getD ((i) + 1) 0).toNat : Int))) + (61 * ((T.getD ((i) + 2) 0).toNat : Int))) + (509 * ((T.getD ((i) + 3) 0).toNat : Int))) % 4096)) (o_rem rfl rfl (by omega) (v_rem (by omega))) ?_
  refine stp (v := .int .i64 ((((((T.getD i 0).toNat : Int) + (7 * ((T.getD ((i) + 1) 0).toNat : Int))) + (61 * ((T.getD ((i) + 2) 0).toNat : Int))) + (509 * ((T.getD ((i) + 3) 0).toNat : Int))) % 4096)) (o_mv rfl) ?_
  refine h8 _ _ ?_
  clear h8
  refine ⟨(.int .i64 ((((((T.getD i 0).toNat : Int) + (7 * ((T.getD ((i) + 1) 0).toNat : Int))) + (61 * ((T.getD ((i) + 2) 0).toNat : Int))) + (509 * ((T.getD ((i) + 3) 0).toNat : Int))) % 4096)), rfl, ?_⟩
  exact ⟨v_int (by unfold slotR; omega), hM3.upd⟩

/-- winnowref3.alike -/
theorem alike_ok (x : Value) (T : List UInt8) (i j : Nat) (w : World) (hx : RdE byteV w x T) (hi : i + 4 ≤ T.length) (hj : j ≤ i) (hl : T.length ≤ 65536) : Calls Try.prog 48 [x, .int .i64 ((i : Nat) : Int), .int .i64 ((j : Nat) : Int)].toArray w (Rt fun r w' => r = .bool (decide (alk T i j)) ∧ Upd [] w w') := by
  have hM0 : Mem w [] w [] := Mem.nil w []
  refine calls_vc mixed Try.func48 rfl C48 (by simp [Try.ntmps48]) ?_
  refine seq fun K1 h1 => ?_
  refine stp (v := .bool false) (o_mv rfl) ?_
  refine h1 _ _ ?_
  clear h1
  refine seq fun K2 h2 => ?_
  intro wd e1 e2 e3 e4
  have hd := Upd.same e1 e2 e3 e4 []
  have hM3 := hM0.pure hd
  clear e1 e2 e3 e4
  refine ⟨none, ?_⟩
  show vd _ _ _ _ _ _ _
  refine dq (v := x) (o_mv rfl) ?_
  refine dq (v := .int .i64 (i : Nat)) (o_mv rfl) ?_
  refine dqp (m_idxE 0 (j := i) (hx.upd hM3.upd) rfl rfl (by omega) fun b4 o4 hp4 => ?_)
  show vd _ _ _ _ _ _ _
  refine dq (v := x) (o_mv rfl) ?_
  refine dq (v := .int .i64 (j : Nat)) (o_mv rfl) ?_
  refine dqp (m_idxE 0 (j := j) (hx.upd hM3.upd) rfl rfl (by omega) fun b5 o5 hp5 => ?_)
  show vd _ _ _ _ _ _ _
  refine dqld rfl (trivial) (v := byteV (T.getD j 0)) (hp5) ?_
  refine dl (ld (v := byteV (T.getD i 0)) rfl (hp4) ?_)
  refine ⟨rfl, ?_⟩
  refine dq (v := .bool (decide (((T.getD i 0).toNat : Int) = ((T.getD j 0).toNat : Int)))) (o_bin rfl rfl rfl) ?_
  refine dq (v := .bool (decide (((T.getD i 0).toNat : Int) = ((T.getD j 0).toNat : Int)))) (o_mv rfl) ?_
  refine dsplitP rfl (fun c6 => ?_) (fun c6 => ?_)
  ·
    refine dqg rfl (v := x) (o_mv rfl) ?_
    refine dqg rfl (v := .int .i64 (i : Nat)) (o_mv rfl) ?_
    refine dqg rfl (v := .int .i64 ((i : Nat) + 1)) (o_bin rfl rfl (v_add64 (by constructor <;> omega))) ?_
    refine dgyes rfl rfl (dqp (m_idxE 0 (j := ((i) + 1)) (hx.upd hM3.upd) rfl (v_int (by omega)) (by omega) fun b7 o7 hp7 => ?_))
    show vd _ _ _ _ _ _ _
    refine dqg rfl (v := x) (o_mv rfl) ?_
    refine dqg rfl (v := .int .i64 (j : Nat)) (o_mv rfl) ?_
    refine dqg rfl (v := .int .i64 ((j : Nat) + 1)) (o_bin rfl rfl (v_add64 (by constructor <;> omega))) ?_
    refine dgyes rfl rfl (dqp (m_idxE 0 (j := ((j) + 1)) (hx.upd hM3.upd) rfl (v_int (by omega)) (by omega) fun b8 o8 hp8 => ?_))
    show vd _ _ _ _ _ _ _
    refine dqgyes rfl rfl ?_
    refine dqld rfl (trivial) (v := byteV (T.getD ((j) + 1) 0)) (hp8) ?_
    refine dgyesl rfl ?_
    refine dl (ld (v := byteV (T.getD ((i) + 1) 0)) rfl (hp7) ?_)
    refine ⟨rfl, ?_⟩
    refine dqg rfl (v := .bool (decide (((T.getD ((i) + 1) 0).toNat : Int) = ((T.getD ((j) + 1) 0).toNat : Int)))) (o_bin rfl rfl rfl) ?_
    refine dq (v := .bool (decide (((T.getD ((i) + 1) 0).toNat : Int) = ((T.getD ((j) + 1) 0).toNat : Int)))) (o_pickT rfl rfl) ?_
    refine dq (v := .bool (decide (((T.getD ((i) + 1) 0).toNat : Int) = ((T.getD ((j) + 1) 0).toNat : Int)))) (o_mv rfl) ?_
    refine dsplitP rfl (fun c9 => ?_) (fun c9 => ?_)
    ·
      refine dqg rfl (v := x) (o_mv rfl) ?_
      refine dqg rfl (v := .int .i64 (i : Nat)) (o_mv rfl) ?_
      refine dqg rfl (v := .int .i64 ((i : Nat) + 2)) (o_bin rfl rfl (v_add64 (by constructor <;> omega))) ?_
      refine dgyes rfl rfl (dqp (m_idxE 0 (j := ((i) + 2)) (hx.upd hM3.upd) rfl (v_int (by omega)) (by omega) fun b10 o10 hp10 => ?_))
      show vd _ _ _ _ _ _ _
      refine dqg rfl (v := x) (o_mv rfl) ?_
      refine dqg rfl (v := .int .i64 (j : Nat)) (o_mv rfl) ?_
      refine dqg rfl (v := .int .i64 ((j : Nat) + 2)) (o_bin rfl rfl (v_add64 (by constructor <;> omega))) ?_
      refine dgyes rfl rfl (dqp (m_idxE 0 (j := ((j) + 2)) (hx.upd hM3.upd) rfl (v_int (by omega)) (by omega) fun b11 o11 hp11 => ?_))
      show vd _ _ _ _ _ _ _
      refine dqgyes rfl rfl ?_
      refine dqld rfl (trivial) (v := byteV (T.getD ((j) + 2) 0)) (hp11) ?_
      refine dgyesl rfl ?_
      refine dl (ld (v := byteV (T.getD ((i) + 2) 0)) rfl (hp10) ?_)
      refine ⟨rfl, ?_⟩
      refine dqg rfl (v := .bool (decide (((T.getD ((i) + 2) 0).toNat : Int) = ((T.getD ((j) + 2) 0).toNat : Int)))) (o_bin rfl rfl rfl) ?_
      refine dq (v := .bool (decide (((T.getD ((i) + 2) 0).toNat : Int) = ((T.getD ((j) + 2) 0).toNat : Int)))) (o_pickT rfl rfl) ?_
      refine dq (v := .bool (decide (((T.getD ((i) + 2) 0).toNat : Int) = ((T.getD ((j) + 2) 0).toNat : Int)))) (o_mv rfl) ?_
      refine dsplitP rfl (fun c12 => ?_) (fun c12 => ?_)
      ·
        refine dqg rfl (v := x) (o_mv rfl) ?_
        refine dqg rfl (v := .int .i64 (i : Nat)) (o_mv rfl) ?_
        refine dqg rfl (v := .int .i64 ((i : Nat) + 3)) (o_bin rfl rfl (v_add64 (by constructor <;> omega))) ?_
        refine dgyes rfl rfl (dqp (m_idxE 0 (j := ((i) + 3)) (hx.upd hM3.upd) rfl (v_int (by omega)) (by omega) fun b13 o13 hp13 => ?_))
        show vd _ _ _ _ _ _ _
        refine dqg rfl (v := x) (o_mv rfl) ?_
        refine dqg rfl (v := .int .i64 (j : Nat)) (o_mv rfl) ?_
        refine dqg rfl (v := .int .i64 ((j : Nat) + 3)) (o_bin rfl rfl (v_add64 (by constructor <;> omega))) ?_
        refine dgyes rfl rfl (dqp (m_idxE 0 (j := ((j) + 3)) (hx.upd hM3.upd) rfl (v_int (by omega)) (by omega) fun b14 o14 hp14 => ?_))
        show vd _ _ _ _ _ _ _
        refine dqgyes rfl rfl ?_
        refine dqld rfl (trivial) (v := byteV (T.getD ((j) + 3) 0)) (hp14) ?_
        refine dgyesl rfl ?_
        refine dl (ld (v := byteV (T.getD ((i) + 3) 0)) rfl (hp13) ?_)
        refine ⟨rfl, ?_⟩
        refine dqg rfl (v := .bool (decide (((T.getD ((i) + 3) 0).toNat : Int) = ((T.getD ((j) + 3) 0).toNat : Int)))) (o_bin rfl rfl rfl) ?_
        refine dq (v := .bool (decide (((T.getD ((i) + 3) 0).toNat : Int) = ((T.getD ((j) + 3) 0).toNat : Int)))) (o_pickT rfl rfl) ?_
        refine dq (v := .bool (decide (((T.getD ((i) + 3) 0).toNat : Int) = ((T.getD ((j) + 3) 0).toNat : Int)))) (o_mv rfl) ?_
        refine h2 _ _ ?_
        clear h2
        refine ⟨(.bool (decide (((T.getD ((i) + 3) 0).toNat : Int) = ((T.getD ((j) + 3) 0).toNat : Int)))), rfl, ?_⟩
        exact ⟨by unfold alk; first | exact bool_no (fun ⟨h0, h1, h2, h3⟩ => by first | exact ‹¬ ((_ : Nat) : Int) = _› (by rw [h0]) | exact ‹¬ ((_ : Nat) : Int) = _› (by rw [h1]) | exact ‹¬ ((_ : Nat) : Int) = _› (by rw [h2])) | exact bool_iff ⟨fun h => ⟨u8_eq ‹_›, u8_eq ‹_›, u8_eq ‹_›, u8_eq h⟩, fun h => by rw [h.2.2.2]⟩, hM3.upd⟩
      ·
        refine dgno rfl (by simp) ?_
        refine dgno rfl (by simp) ?_
        refine dgno rfl (by simp) ?_
        refine dgno rfl (by simp) ?_
        refine dgno rfl (by simp) ?_
        refine dgno rfl (by simp) ?_
        refine dgno rfl (by simp) ?_
        refine dgno rfl (by simp) ?_
        refine dqgno rfl (by simp) ?_
        refine dgnol rfl (by simp) ?_
        refine dgno rfl (by simp) ?_
        refine dq (v := .bool false) (o_pickF rfl rfl) ?_
        refine dq (v := .bool false) (o_mv rfl) ?_
        refine h2 _ _ ?_
        clear h2
        refine ⟨(.bool false), rfl, ?_⟩
        exact ⟨by unfold alk; first | exact bool_no (fun ⟨h0, h1, h2, h3⟩ => by first | exact ‹¬ ((_ : Nat) : Int) = _› (by rw [h0]) | exact ‹¬ ((_ : Nat) : Int) = _› (by rw [h1]) | exact ‹¬ ((_ : Nat) : Int) = _› (by rw [h2])) | exact bool_iff ⟨fun h => ⟨u8_eq ‹_›, u8_eq ‹_›, u8_eq ‹_›, u8_eq h⟩, fun h => by rw [h.2.2.2]⟩, hM3.upd⟩
    ·
      refine dgno rfl (by simp) ?_
      refine dgno rfl (by simp) ?_
      refine dgno rfl (by simp) ?_
      refine dgno rfl (by simp) ?_
      refine dgno rfl (by simp) ?_
      refine dgno rfl (by simp) ?_
      refine dgno rfl (by simp) ?_
      refine dgno rfl (by simp) ?_
      refine dqgno rfl (by simp) ?_
      refine dgnol rfl (by simp) ?_
      refine dgno rfl (by simp) ?_
      refine dq (v := .bool false) (o_pickF rfl rfl) ?_
      refine dq (v := .bool false) (o_mv rfl) ?_
      refine dsplitF rfl ?_
      refine dgno rfl (by simp) ?_
      refine dgno rfl (by simp) ?_
      refine dgno rfl (by simp) ?_
      refine dgno rfl (by simp) ?_
      refine dgno rfl (by simp) ?_
      refine dgno rfl (by simp) ?_
      refine dgno rfl (by simp) ?_
      refine dgno rfl (by simp) ?_
      refine dqgno rfl (by simp) ?_
      refine dgnol rfl (by simp) ?_
      refine dgno rfl (by simp) ?_
      refine dq (v := .bool false) (o_pickF rfl rfl) ?_
      refine dq (v := .bool false) (o_mv rfl) ?_
      refine h2 _ _ ?_
      clear h2
      refine ⟨(.bool false), rfl, ?_⟩
      exact ⟨by unfold alk; first | exact bool_no (fun ⟨h0, h1, h2, h3⟩ => by first | exact ‹¬ ((_ : Nat) : Int) = _› (by rw [h0]) | exact ‹¬ ((_ : Nat) : Int) = _› (by rw [h1]) | exact ‹¬ ((_ : Nat) : Int) = _› (by rw [h2])) | exact bool_iff ⟨fun h => ⟨u8_eq ‹_›, u8_eq ‹_›, u8_eq ‹_›, u8_eq h⟩, fun h => by rw [h.2.2.2]⟩, hM3.upd⟩
  ·
    refine dgno rfl (by simp) ?_
    refine dgno rfl (by simp) ?_
    refine dgno rfl (by simp) ?_
    refine dgno rfl (by simp) ?_
    refine dgno rfl (by simp) ?_
    refine dgno rfl (by simp) ?_
    refine dgno rfl (by simp) ?_
    refine dgno rfl (by simp) ?_
    refine dqgno rfl (by simp) ?_
    refine dgnol rfl (by simp) ?_
    refine dgno rfl (by simp) ?_
    refine dq (v := .bool false) (o_pickF rfl rfl) ?_
    refine dq (v := .bool false) (o_mv rfl) ?_
    refine dsplitF rfl ?_
    refine dgno rfl (by simp) ?_
    refine dgno rfl (by simp) ?_
    refine dgno rfl (by simp) ?_
    refine dgno rfl (by simp) ?_
    refine dgno rfl (by simp) ?_
    refine dgno rfl (by simp) ?_
    refine dgno rfl (by simp) ?_
    refine dgno rfl (by simp) ?_
    refine dqgno rfl (by simp) ?_
    refine dgnol rfl (by simp) ?_
    refine dgno rfl (by simp) ?_
    refine dq (v := .bool false) (o_pickF rfl rfl) ?_
    refine dq (v := .bool false) (o_mv rfl) ?_
    refine dsplitF rfl ?_
    refine dgno rfl (by simp) ?_
    refine dgno rfl (by simp) ?_
    refine dgno rfl (by simp) ?_
    refine dgno rfl (by simp) ?_
    refine dgno rfl (by simp) ?_
    refine dgno rfl (by simp) ?_
    refine dgno rfl (by simp) ?_
    refine dgno rfl (by simp) ?_
    refine dqgno rfl (by simp) ?_
    refine dgnol rfl (by simp) ?_
    refine dgno rfl (by simp) ?_
    refine dq (v := .bool false) (o_pickF rfl rfl) ?_
    refine dq (v := .bool false) (o_mv rfl) ?_
    refine h2 _ _ ?_
    clear h2
    refine ⟨(.bool false), rfl, ?_⟩
    exact ⟨by unfold alk; first | exact bool_no (fun ⟨h0, h1, h2, h3⟩ => by first | exact ‹¬ ((_ : Nat) : Int) = _› (by rw [h0]) | exact ‹¬ ((_ : Nat) : Int) = _› (by rw [h1]) | exact ‹¬ ((_ : Nat) : Int) = _› (by rw [h2])) | exact bool_iff ⟨fun h => ⟨u8_eq ‹_›, u8_eq ‹_›, u8_eq ‹_›, u8_eq h⟩, fun h => by rw [h.2.2.2]⟩, hM3.upd⟩

theorem or3 {a b c : Prop} (h : a ∨ b) : a ∨ b ∨ c := h.elim .inl fun h => .inr (.inl h)
theorem heads_at {H : List Int} {x va : Value} {v : Nat} (h : v < H.length) : (x :: (H.map i64V ++ [va]))[1 + v]? = some (.int .i64 (H.getD v 0)) := by
  rw [Nat.add_comm, List.getElem?_cons_succ, List.getElem?_append_left (by simpa using h), List.getElem?_map, List.getD_eq_getElem?_getD, List.getElem?_eq_getElem h]; rfl
theorem ahead_at {H : List Int} {x va : Value} (h : H.length = 32768) : (x :: (H.map i64V ++ [va]))[32769]? = some va := by
  rw [List.getElem?_cons_succ, List.getElem?_append_right (by simp [h]), List.length_map, h]; rfl

/-- (*lz.finder).match -/
theorem match_ok (bf : Nat) (x va : Value) (T : List UInt8) (H A : List Int) (i : Nat) (w : World) (ho : Own w ⟨bf, 56, x :: (H.map i64V ++ [va])⟩) (hA : RdE i64V w va A) (hAl : A.length = T.length) (ht : Tab (hashP T) 32768 (min i (T.length - 3)) H A 1) (hx : RdE byteV w x T) (hi : i < T.length) (hl : T.length ≤ 65536) : Calls Try.prog 38 [.pointer (some ⟨bf, 0, none⟩), .int .i64 ((i : Nat) : Int)].toArray w (Rt fun r w' => r = .tuple [.int .i64 (((bestF T i).1 : Nat) : Int), .int .i64 (((bestF T i).2 : Nat) : Int)].toArray ∧ Upd [] w w') := by
  have hM0 : Mem w [] w [] := Mem.nil w []
  have hhl := hashP_lt T i
  have hhv := ht.hv (hashP T i) hhl
  have hpl := pv_le (hashP T) (hashP T i) (min i (T.length - 3))
  refine calls_vc mixed Try.func38 rfl C38 (by simp [Try.ntmps38]) ?_
  refine seq fun K1 h1 => ?_
  refine stp (v := .int .i64 0) (o_mv rfl) ?_
  refine stp (v := .int .i64 0) (o_mv rfl) ?_
  refine h1 _ _ ?_
  clear h1
  refine seq fun K2 h2 => ?_
  refine seq fun K3 h3 => ?_
  refine stp (v := .int .i64 (i : Nat)) (o_mv rfl) ?_
  refine stp (v := .int .i64 ((i : Nat) + 4)) (o_bin rfl rfl (v_add64 (by constructor <;> omega))) ?_
  refine stp (v := .pointer (some ⟨bf, 0, none⟩)) (o_mv rfl) ?_
  refine stp (v := .pointer (some ⟨bf, 0, none⟩)) (o_nilchk rfl rfl) ?_
  refine stp (v := .pointer (some ⟨bf, 0, none⟩)) (o_fa rfl rfl) ?_
  refine ld (v := x) rfl ((ho.upd hM0.upd (by simp)).cell 0) ?_
  refine stp (v := .int .i64 (T.length : Nat)) (o_lenR (hx.upd hM0.upd) rfl rfl) ?_
  refine stp (v := .bool (decide ((T.length : Nat) < ((i : Nat) + 4 : Int)))) (o_bin rfl rfl rfl) ?_
  refine h3 _ _ ?_
  clear h3
  refine cndP rfl (fun c4 => ?_) (fun c4 => ?_)
  ·
    refine seq fun K5 h5 => ?_
    refine stp (v := .int .i64 0) (o_mv rfl) ?_
    refine stp (v := .int .i64 0) (o_mv rfl) ?_
    refine h5 _ _ ?_
    clear h5
    refine ⟨(.tuple [.int .i64 0, .int .i64 0].toArray), rfl, ?_⟩
    exact ⟨by unfold bestF; rw [if_neg (by omega)]; rfl, hM0.upd⟩
  ·
    refine h2 _ _ ?_
    clear h2
    refine seq fun K6 h6 => ?_
    refine stp (v := .int .i64 0) (o_mv rfl) ?_
    refine h6 _ _ ?_
    clear h6
    refine seq fun K7 h7 => ?_
    have hmi : min i (T.length - 3) = i := by omega
    rw [hmi] at ht hhv hpl
    refine stp (v := .pointer (some ⟨bf, 0, none⟩)) (o_mv rfl) ?_
    refine stp (v := .pointer (some ⟨bf, 0, none⟩)) (o_nilchk rfl rfl) ?_
    refine stp (v := .pointer (some ⟨bf, 0, none⟩)) (o_fa rfl rfl) ?_
    refine ld (v := x) rfl ((ho.upd hM0.upd (by simp)).cell 0) ?_
    refine stp (v := .int .i64 (T.length : Nat)) (o_lenR (hx.upd hM0.upd) rfl rfl) ?_
    refine stp (v := .int .i64 (i : Nat)) (o_mv rfl) ?_
    refine stp (v := .int .i64 ((T.length : Nat) - (i : Nat))) (o_bin rfl rfl (v_sub64 (by constructor <;> omega))) ?_
    refine stp (v := .int .i64 ((min 259 (T.length - i) : Nat) : Int)) (o_mm rfl rfl (by show Value.int .i64 (min _ _) = _; exact v_int (by omega))) ?_
    refine stp (v := .int .i64 ((min 259 (T.length - i) : Nat) : Int)) (o_mv rfl) ?_
    refine h7 _ _ ?_
    clear h7
    refine seq fun K8 h8 => ?_
    refine h8 _ _ ?_
    clear h8
    refine seq fun K9 h9 => ?_
    refine seq fun K10 h10 => ?_
    intro wd e1 e2 e3 e4
    have hd := Upd.same e1 e2 e3 e4 []
    have hM11 := hM0.pure hd
    clear e1 e2 e3 e4
    refine ⟨(some []), ?_⟩
    show vd _ _ _ _ _ _ _
    refine dq (v := .pointer (some ⟨bf, 0, none⟩)) (o_mv rfl) ?_
    refine dq (v := .pointer (some ⟨bf, 0, none⟩)) (o_mv rfl) ?_
    refine dq (v := .int .i64 (i : Nat)) (o_mv rfl) ?_
    refine dq (v := .pointer (some ⟨bf, 0, none⟩)) (o_nilchk rfl rfl) ?_
    refine dq (v := .pointer (some ⟨bf, 1, none⟩)) (o_fa rfl rfl) ?_
    refine dl (m_call (hash_ok bf x _ T i wd (ho.upd hM11.upd (by simp)) (hx.upd hM11.upd) (by omega) (by omega)) rfl fun v12 w12 ⟨hr12, hu12⟩ => ?_)
    have hM12 : Mem w [] w12 [] := hM11.pure hu12
    subst hr12
    refine ⟨(fun b hb => by cases hb), ?_⟩
    refine dq (v := .pointer (some ⟨bf, 1 + hashP T i, none⟩)) (o_idxa rfl rfl (by omega) (v_ptr (by first | rw [Int.toNat_natCast, Nat.mul_one] | (simp; done) | omega))) ?_
    refine dl (ld (v := .int .i64 (H.getD (hashP T i) 0)) rfl (((ho.upd hM12.upd (by simp)).cell _).trans (heads_at (by rw [ht.hl]; exact hashP_lt _ _))) ?_)
    refine ⟨(fun b hb => by cases hb), ?_⟩
    refine dq (v := .int .i64 ((H.getD (hashP T i) 0) - 1)) (o_bin rfl rfl (v_sub64 (by constructor <;> omega))) ?_
    refine dq (v := .int .i64 ((H.getD (hashP T i) 0) - 1)) (o_mv rfl) ?_
    refine h10 _ _ ?_
    clear h10
    refine lp (n := fun _ _ => False) (ι := (Nat) × (Nat) × (Nat) × (Nat)) (fun ⟨p, s, d, b⟩ f w' => f 4 = .int .i64 (d : Nat) ∧ f 5 = .int .i64 (b : Nat) ∧ f 6 = .int .i64 (s : Nat) ∧ f 8 = .int .i64 ((p : Nat) - 1) ∧ f 0 = .pointer (some ⟨bf, 0, none⟩) ∧ f 1 = .int .i64 (i : Nat) ∧ f 7 = .int .i64 ((min 259 (T.length - i) : Nat) : Int) ∧ Mem w [] w' [] ∧ (Srch T (hashP T) i p s d b) ∧ (s ≤ 16)) (fun ⟨p, s, d, b⟩ => p) (pv (hashP T) (hashP T i) i, 0, 0, 0) ?_ ?_
    · exact ⟨by first | rfl | exact v_int (by omega) | exact v_int (by simp) | exact v_int (by simp; omega), by first | rfl | exact v_int (by omega) | exact v_int (by simp) | exact v_int (by simp; omega), by first | rfl | exact v_int (by omega) | exact v_int (by simp) | exact v_int (by simp; omega), by first | rfl | exact v_int (by omega) | exact v_int (by simp) | exact v_int (by simp; omega), rfl, by first | rfl | exact v_int (by omega) | exact v_int (by simp) | exact v_int (by simp; omega), by first | rfl | exact v_int (by omega) | exact v_int (by simp) | exact v_int (by simp; omega), hM12, Srch.init (hashP_h T) (by omega), by omega⟩
    · rintro ⟨p, s, d, b⟩ f w13 ⟨e13_4, e13_5, e13_6, e13_8, e13_0, e13_1, e13_7, hM13, hS, hs⟩ K14 h14
      obtain ⟨frm, rfl⟩ : ∃ frm, f = (upd (upd (upd (upd (upd (upd (upd frm 4 (.int .i64 (d : Nat))) 5 (.int .i64 (b : Nat))) 6 (.int .i64 (s : Nat))) 8 (.int .i64 ((p : Nat) - 1))) 0 (.pointer (some ⟨bf, 0, none⟩))) 1 (.int .i64 (i : Nat))) 7 (.int .i64 ((min 259 (T.length - i) : Nat) : Int))) := ⟨f, by rw [upd_self e13_4, upd_self e13_5, upd_self e13_6, upd_self e13_8, upd_self e13_0, upd_self e13_1, upd_self e13_7]⟩
      clear e13_4 e13_5 e13_6 e13_8 e13_0 e13_1 e13_7
      refine seq fun K15 h15 => ?_
      refine seq fun K16 h16 => ?_
      have hSp := hS.hp
      have hSb := hS.hb
      refine stp (v := .int .i64 ((p : Nat) - 1)) (o_mv rfl) ?_
      refine stp (v := .bool (decide ((0 : Int) ≤ ((p : Nat) - 1 : Int)))) (o_bin rfl rfl rfl) ?_
      refine stp (v := .bool (decide ((0 : Int) ≤ ((p : Nat) - 1 : Int)))) (o_mv rfl) ?_
      refine splitP rfl (fun c17 => ?_) (fun c17 => ?_)
      ·
        refine stg rfl (v := .int .i64 (i : Nat)) (o_mv rfl) ?_
        refine stg rfl (v := .int .i64 ((p : Nat) - 1)) (o_mv rfl) ?_
        refine stg rfl (v := .int .i64 ((i : Nat) - ((p : Nat) - 1))) (o_bin rfl rfl (v_sub64 (by constructor <;> omega))) ?_
        refine stg rfl (v := .bool (decide (((i : Nat) - ((p : Nat) - 1) : Int) ≤ 32768))) (o_bin rfl rfl rfl) ?_
        refine stp (v := .bool (decide (((i : Nat) - ((p : Nat) - 1) : Int) ≤ 32768))) (o_pickT rfl rfl) ?_
        refine stp (v := .bool (decide (((i : Nat) - ((p : Nat) - 1) : Int) ≤ 32768))) (o_mv rfl) ?_
        refine splitP rfl (fun c18 => ?_) (fun c18 => ?_)
        ·
          refine stg rfl (v := .int .i64 (s : Nat)) (o_mv rfl) ?_
          refine stg rfl (v := .bool (decide (((s : Nat) : Int) < 16))) (o_bin rfl rfl rfl) ?_
          refine stp (v := .bool (decide (((s : Nat) : Int) < 16))) (o_pickT rfl rfl) ?_
          refine h16 _ _ ?_
          clear h16
          refine cndP rfl (fun c19 => ?_) (fun c19 => ?_)
          ·
            refine h15 _ _ ?_
            clear h15
            refine seq fun K20 h20 => ?_
            refine seq fun K21 h21 => ?_
            refine stp (v := .int .i64 0) (o_mv rfl) ?_
            refine h21 _ _ ?_
            clear h21
            refine seq fun K22 h22 => ?_
            refine lp (n := fun _ _ => False) (ι := (Nat)) (fun n f w' => f 9 = .int .i64 (n : Nat) ∧ f 0 = .pointer (some ⟨bf, 0, none⟩) ∧ f 1 = .int .i64 (i : Nat) ∧ f 4 = .int .i64 (d : Nat) ∧ f 5 = .int .i64 (b : Nat) ∧ f 6 = .int .i64 (s : Nat) ∧ f 7 = .int .i64 ((min 259 (T.length - i) : Nat) : Int) ∧ f 8 = .int .i64 ((p : Nat) - 1) ∧ Mem w [] w' [] ∧ (n ≤ min 259 (T.length - i)) ∧ (∀ k, k < n → T.getD (i + k) 0 = T.getD (p - 1 + k) 0)) (fun n => min 259 (T.length - i) - n) (0) ?_ ?_
            · exact ⟨by first | rfl | exact v_int (by omega) | exact v_int (by simp) | exact v_int (by simp; omega), rfl, by first | rfl | exact v_int (by omega) | exact v_int (by simp) | exact v_int (by simp; omega), by first | rfl | exact v_int (by omega) | exact v_int (by simp) | exact v_int (by simp; omega), by first | rfl | exact v_int (by omega) | exact v_int (by simp) | exact v_int (by simp; omega), by first | rfl | exact v_int (by omega) | exact v_int (by simp) | exact v_int (by simp; omega), by first | rfl | exact v_int (by omega) | exact v_int (by simp) | exact v_int (by simp; omega), by first | rfl | exact v_int (by omega) | exact v_int (by simp) | exact v_int (by simp; omega), hM13, by omega, fun k hk => by omega⟩
            · rintro n f w23 ⟨e23_9, e23_0, e23_1, e23_4, e23_5, e23_6, e23_7, e23_8, hM23, hn, hk⟩ K24 h24
              obtain ⟨frm, rfl⟩ : ∃ frm, f = (upd (upd (upd (upd (upd (upd (upd (upd frm 9 (.int .i64 (n : Nat))) 0 (.pointer (some ⟨bf, 0, none⟩))) 1 (.int .i64 (i : Nat))) 4 (.int .i64 (d : Nat))) 5 (.int .i64 (b : Nat))) 6 (.int .i64 (s : Nat))) 7 (.int .i64 ((min 259 (T.length - i) : Nat) : Int))) 8 (.int .i64 ((p : Nat) - 1))) := ⟨f, by rw [upd_self e23_9, upd_self e23_0, upd_self e23_1, upd_self e23_4, upd_self e23_5, upd_self e23_6, upd_self e23_7, upd_self e23_8]⟩
              clear e23_9 e23_0 e23_1 e23_4 e23_5 e23_6 e23_7 e23_8
              refine seq fun K25 h25 => ?_
              refine seq fun K26 h26 => ?_
              intro wd e1 e2 e3 e4
              have hd := Upd.same e1 e2 e3 e4 []
              have hM27 := hM23.pure hd
              clear e1 e2 e3 e4
              refine ⟨none, ?_⟩
              show vd _ _ _ _ _ _ _
              refine dq (v := .int .i64 (n : Nat)) (o_mv rfl) ?_
              refine dq (v := .int .i64 ((min 259 (T.length - i) : Nat) : Int)) (o_mv rfl) ?_
              refine dq (v := .bool (decide (((n : Nat) : Int) < ((min 259 (T.length - i) : Nat) : Int)))) (o_bin rfl rfl rfl) ?_
              refine dq (v := .bool (decide (((n : Nat) : Int) < ((min 259 (T.length - i) : Nat) : Int)))) (o_mv rfl) ?_
              refine dsplitP rfl (fun c28 => ?_) (fun c28 => ?_)
              ·
                refine dqg rfl (v := .pointer (some ⟨bf, 0, none⟩)) (o_mv rfl) ?_
                refine dqg rfl (v := .pointer (some ⟨bf, 0, none⟩)) (o_nilchk rfl rfl) ?_
                refine dqg rfl (v := .pointer (some ⟨bf, 0, none⟩)) (o_fa rfl rfl) ?_
                refine dqg rfl (v := .int .i64 (i : Nat)) (o_mv rfl) ?_
                refine dqg rfl (v := .int .i64 (n : Nat)) (o_mv rfl) ?_
                refine dqg rfl (v := .int .i64 ((i : Nat) + (n : Nat))) (o_bin rfl rfl (v_add64 (by constructor <;> omega))) ?_
                refine dqg rfl (v := .pointer (some ⟨bf, 0, none⟩)) (o_mv rfl) ?_
                refine dqg rfl (v := .pointer (some ⟨bf, 0, none⟩)) (o_nilchk rfl rfl) ?_
                refine dqg rfl (v := .pointer (some ⟨bf, 0, none⟩)) (o_fa rfl rfl) ?_
                refine dqg rfl (v := .int .i64 ((p : Nat) - 1)) (o_mv rfl) ?_
                refine dqg rfl (v := .int .i64 (n : Nat)) (o_mv rfl) ?_
                refine dqg rfl (v := .int .i64 (((p : Nat) - 1) + (n : Nat))) (o_bin rfl rfl (v_add64 (by constructor <;> omega))) ?_
                refine dqgyes rfl rfl ?_
                refine dqld rfl (trivial) (v := x) ((ho.upd hM27.upd (by simp)).cell 0) ?_
                refine dgyes rfl rfl (dqp (m_idxE 0 (j := (p - 1 + n)) (hx.upd hM27.upd) rfl (v_int (by omega)) (by omega) fun b29 o29 hp29 => ?_))
                show vd _ _ _ _ _ _ _
                refine dqgyes rfl rfl ?_
                refine dqld rfl (trivial) (v := x) ((ho.upd hM27.upd (by simp)).cell 0) ?_
                refine dgyes rfl rfl (dqp (m_idxE 0 (j := ((i) + (n))) (hx.upd hM27.upd) rfl (v_int (by omega)) (by omega) fun b30 o30 hp30 => ?_))
                show vd _ _ _ _ _ _ _
                refine dqgyes rfl rfl ?_
                refine dqld rfl (trivial) (v := byteV (T.getD (p - 1 + n) 0)) (hp29) ?_
                refine dgyesl rfl ?_
                refine dl (ld (v := byteV (T.getD ((i) + (n)) 0)) rfl (hp30) ?_)
                refine ⟨rfl, ?_⟩
                refine dqg rfl (v := .bool (decide (((T.getD ((i) + (n)) 0).toNat : Int) = ((T.getD (p - 1 + n) 0).toNat : Int)))) (o_bin rfl rfl rfl) ?_
                refine dq (v := .bool (decide (((T.getD ((i) + (n)) 0).toNat : Int) = ((T.getD (p - 1 + n) 0).toNat : Int)))) (o_pickT rfl rfl) ?_
                refine h26 _ _ ?_
                clear h26
                refine cndP rfl (fun c31 => ?_) (fun c31 => ?_)
                ·
                  refine h25 _ _ ?_
                  clear h25
                  refine stp (v := .int .i64 (n : Nat)) (o_mv rfl) ?_
                  refine stp (v := .int .i64 ((n : Nat) + 1)) (o_bin rfl rfl (v_add64 (by constructor <;> omega))) ?_
                  refine stp (v := .int .i64 ((n : Nat) + 1)) (o_mv rfl) ?_
                  refine h24 (n + 1) _ _ ⟨by first | rfl | exact v_int (by omega) | exact v_int (by simp) | exact v_int (by simp; omega), rfl, by first | rfl | exact v_int (by omega) | exact v_int (by simp) | exact v_int (by simp; omega), by first | rfl | exact v_int (by omega) | exact v_int (by simp) | exact v_int (by simp; omega), by first | rfl | exact v_int (by omega) | exact v_int (by simp) | exact v_int (by simp; omega), by first | rfl | exact v_int (by omega) | exact v_int (by simp) | exact v_int (by simp; omega), by first | rfl | exact v_int (by omega) | exact v_int (by simp) | exact v_int (by simp; omega), by first | rfl | exact v_int (by omega) | exact v_int (by simp) | exact v_int (by simp; omega), hM27, by omega, fun k hk9 => by
                      rcases Nat.lt_or_ge k n with h9 | h9
                      · exact hk k h9
                      · (obtain rfl : k = n := by omega); exact u8_eq (by assumption)⟩ (by (try dsimp only); omega)
                ·
                  refine h22 _ _ ?_
                  clear h22
                  refine seq fun K32 h32 => ?_
                  refine seq fun K33 h33 => ?_
                  have hL : lcF T i (p - 1) = n := lcF_is (by omega) (by omega) (by omega) hk (by first | exact .inr (.inr (nat_neG (by assumption))) | exact or3 (by omega))
                  have hA4 := alk_lc (T := T) (i := i) (j := p - 1) (by omega) (by omega)
                  rw [hL] at hA4
                  refine stp (v := .int .i64 (n : Nat)) (o_mv rfl) ?_
                  refine stp (v := .bool (decide (((n : Nat) : Int) < 4))) (o_bin rfl rfl rfl) ?_
                  refine h33 _ _ ?_
                  clear h33
                  refine cndP rfl (fun c34 => ?_) (fun c34 => ?_)
                  ·
                    refine h20 _ _ ?_
                    clear h20
                    have hav := ht.av (p - 1) (by omega)
                    have hpq := pv_le (hashP T) (hashP T (p - 1)) (p - 1)
                    refine stp (v := .pointer (some ⟨bf, 0, none⟩)) (o_mv rfl) ?_
                    refine stp (v := .pointer (some ⟨bf, 0, none⟩)) (o_nilchk rfl rfl) ?_
                    refine stp (v := .pointer (some ⟨bf, 32769, none⟩)) (o_fa rfl rfl) ?_
                    refine ld (v := va) rfl (((ho.upd hM27.upd (by simp)).cell _).trans (ahead_at ht.hl)) ?_
                    refine stp (v := .int .i64 ((p : Nat) - 1)) (o_mv rfl) ?_
                    refine m_idxE 0 (j := (p - 1)) (hA.upd hM27.upd) rfl (v_int (by omega)) (by omega) fun b35 o35 hp35 => ?_
                    refine ld (v := .int .i64 (A.getD (p - 1) 0)) rfl (hp35) ?_
                    refine stp (v := .int .i64 (A.getD (p - 1) 0)) (o_mv rfl) ?_
                    refine h14 (pv (hashP T) (hashP T (p - 1)) (p - 1), s, d, b) _ _ ⟨by first | rfl | exact v_int (by omega) | exact v_int (by simp) | exact v_int (by simp; omega), by first | rfl | exact v_int (by omega) | exact v_int (by simp) | exact v_int (by simp; omega), by first | rfl | exact v_int (by omega) | exact v_int (by simp) | exact v_int (by simp; omega), by first | rfl | exact v_int (by omega) | exact v_int (by simp) | exact v_int (by simp; omega), rfl, by first | rfl | exact v_int (by omega) | exact v_int (by simp) | exact v_int (by simp; omega), by first | rfl | exact v_int (by omega) | exact v_int (by simp) | exact v_int (by simp; omega), hM27, hS.skip (hashP_h T) (by omega) (fun h => by have := hA4.1 h; omega), by omega⟩ (by (try dsimp only); omega)
                  ·
                    refine h32 _ _ ?_
                    clear h32
                    refine seq fun K36 h36 => ?_
                    refine stp (v := .int .i64 (s : Nat)) (o_mv rfl) ?_
                    refine stp (v := .int .i64 ((s : Nat) + 1)) (o_bin rfl rfl (v_add64 (by constructor <;> omega))) ?_
                    refine stp (v := .int .i64 ((s : Nat) + 1)) (o_mv rfl) ?_
                    refine h36 _ _ ?_
                    clear h36
                    refine seq fun K37 h37 => ?_
                    refine seq fun K38 h38 => ?_
                    refine stp (v := .int .i64 (n : Nat)) (o_mv rfl) ?_
                    refine stp (v := .int .i64 (b : Nat)) (o_mv rfl) ?_
                    refine stp (v := .bool (decide (((n : Nat) : Int) ≤ (b : Nat)))) (o_bin rfl rfl rfl) ?_
                    refine stp (v := .bool (decide (((n : Nat) : Int) ≤ (b : Nat)))) (o_mv rfl) ?_
                    refine splitP rfl (fun c39 => ?_) (fun c39 => ?_)
                    ·
                      refine gno rfl (by simp) ?_
                      refine gno rfl (by simp) ?_
                      refine gno rfl (by simp) ?_
                      refine gno rfl (by simp) ?_
                      refine gnol rfl (by simp) ?_
                      refine gno rfl (by simp) ?_
                      refine gno rfl (by simp) ?_
                      refine gno rfl (by simp) ?_
                      refine stp (v := .bool true) (o_pickT rfl rfl) ?_
                      refine h38 _ _ ?_
                      clear h38
                      refine cndT rfl ?_
                      refine h20 _ _ ?_
                      clear h20
                      have hav := ht.av (p - 1) (by omega)
                      have hpq := pv_le (hashP T) (hashP T (p - 1)) (p - 1)
                      refine stp (v := .pointer (some ⟨bf, 0, none⟩)) (o_mv rfl) ?_
                      refine stp (v := .pointer (some ⟨bf, 0, none⟩)) (o_nilchk rfl rfl) ?_
                      refine stp (v := .pointer (some ⟨bf, 32769, none⟩)) (o_fa rfl rfl) ?_
                      refine ld (v := va) rfl (((ho.upd hM27.upd (by simp)).cell _).trans (ahead_at ht.hl)) ?_
                      refine stp (v := .int .i64 ((p : Nat) - 1)) (o_mv rfl) ?_
                      refine m_idxE 0 (j := (p - 1)) (hA.upd hM27.upd) rfl (v_int (by omega)) (by omega) fun b40 o40 hp40 => ?_
                      refine ld (v := .int .i64 (A.getD (p - 1) 0)) rfl (hp40) ?_
                      refine stp (v := .int .i64 (A.getD (p - 1) 0)) (o_mv rfl) ?_
                      refine h14 (pv (hashP T) (hashP T (p - 1)) (p - 1), s + 1, d, b) _ _ ⟨by first | rfl | exact v_int (by omega) | exact v_int (by simp) | exact v_int (by simp; omega), by first | rfl | exact v_int (by omega) | exact v_int (by simp) | exact v_int (by simp; omega), by first | rfl | exact v_int (by omega) | exact v_int (by simp) | exact v_int (by simp; omega), by first | rfl | exact v_int (by omega) | exact v_int (by simp) | exact v_int (by simp; omega), rfl, by first | rfl | exact v_int (by omega) | exact v_int (by simp) | exact v_int (by simp; omega), by first | rfl | exact v_int (by omega) | exact v_int (by simp) | exact v_int (by simp; omega), hM27, hS.worse (hashP_h T) (by omega) (hA4.2 (by omega)) (by omega) (by omega) (by rw [hL]; omega), by omega⟩ (by (try dsimp only); omega)
                    ·
                      refine stg rfl (v := .int .i64 (n : Nat)) (o_mv rfl) ?_
                      refine stg rfl (v := .int .i64 (i : Nat)) (o_mv rfl) ?_
                      refine stg rfl (v := .int .i64 ((p : Nat) - 1)) (o_mv rfl) ?_
                      refine stg rfl (v := .int .i64 ((i : Nat) - ((p : Nat) - 1))) (o_bin rfl rfl (v_sub64 (by constructor <;> omega))) ?_
                      refine gyesl rfl ?_
                      refine m_call (Put_ok ((i : Nat) - ((p : Nat) - 1)) (by simp only [inK]; omega) wd) rfl fun v41 w41 ⟨rs41, hs41, hm41⟩ => ?_
                      have hM41 : Mem w [] w41 [rs41] := hM27.add hm41
                      have hn41 := putI_len (v := (i : Nat) - ((p : Nat) - 1)) (by omega)
                      have hpl2 := plen_put (v := (i : Nat) - ((p : Nat) - 1)) (by omega) (by omega)
                      rw [show ((i : Nat) - ((p : Nat) - 1) : Int).toNat = i - (p - 1) by omega] at hpl2
                      refine stg rfl (v := .int .i64 ((putI ((i : Nat) - ((p : Nat) - 1))).length : Nat)) (o_lenR (hs41.rd hM41 (i := 0) rfl) rfl rfl) ?_
                      refine stg rfl (v := .int .i64 (3 + ((putI ((i : Nat) - ((p : Nat) - 1))).length : Nat))) (o_bin rfl rfl (v_add64 (by constructor <;> omega))) ?_
                      refine stg rfl (v := .bool (decide (((n : Nat) : Int) < (3 + ((putI ((i : Nat) - ((p : Nat) - 1))).length : Nat))))) (o_bin rfl rfl rfl) ?_
                      refine stp (v := .bool (decide (((n : Nat) : Int) < (3 + ((putI ((i : Nat) - ((p : Nat) - 1))).length : Nat))))) (o_pickF rfl rfl) ?_
                      refine h38 _ _ ?_
                      clear h38
                      refine cndP rfl (fun c42 => ?_) (fun c42 => ?_)
                      ·
                        refine h20 _ _ ?_
                        clear h20
                        have hav := ht.av (p - 1) (by omega)
                        have hpq := pv_le (hashP T) (hashP T (p - 1)) (p - 1)
                        refine stp (v := .pointer (some ⟨bf, 0, none⟩)) (o_mv rfl) ?_
                        refine stp (v := .pointer (some ⟨bf, 0, none⟩)) (o_nilchk rfl rfl) ?_
                        refine stp (v := .pointer (some ⟨bf, 32769, none⟩)) (o_fa rfl rfl) ?_
                        refine ld (v := va) rfl (((ho.upd hM41.upd (by simp)).cell _).trans (ahead_at ht.hl)) ?_
                        refine stp (v := .int .i64 ((p : Nat) - 1)) (o_mv rfl) ?_
                        refine m_idxE 0 (j := (p - 1)) (hA.upd hM41.upd) rfl (v_int (by omega)) (by omega) fun b43 o43 hp43 => ?_
                        refine ld (v := .int .i64 (A.getD (p - 1) 0)) rfl (hp43) ?_
                        refine stp (v := .int .i64 (A.getD (p - 1) 0)) (o_mv rfl) ?_
                        refine h14 (pv (hashP T) (hashP T (p - 1)) (p - 1), s + 1, d, b) _ _ ⟨by first | rfl | exact v_int (by omega) | exact v_int (by simp) | exact v_int (by simp; omega), by first | rfl | exact v_int (by omega) | exact v_int (by simp) | exact v_int (by simp; omega), by first | rfl | exact v_int (by omega) | exact v_int (by simp) | exact v_int (by simp; omega), by first | rfl | exact v_int (by omega) | exact v_int (by simp) | exact v_int (by simp; omega), rfl, by first | rfl | exact v_int (by omega) | exact v_int (by simp) | exact v_int (by simp; omega), by first | rfl | exact v_int (by omega) | exact v_int (by simp) | exact v_int (by simp; omega), hM41.keep (by simp), hS.worse (hashP_h T) (by omega) (hA4.2 (by omega)) (by omega) (by omega) (by rw [hL]; omega), by omega⟩ (by (try dsimp only); omega)
                      ·
                        refine h37 _ _ ?_
                        clear h37
                        refine seq fun K44 h44 => ?_
                        refine stp (v := .int .i64 (i : Nat)) (o_mv rfl) ?_
                        refine stp (v := .int .i64 ((p : Nat) - 1)) (o_mv rfl) ?_
                        refine stp (v := .int .i64 ((i : Nat) - ((p : Nat) - 1))) (o_bin rfl rfl (v_sub64 (by constructor <;> omega))) ?_
                        refine stp (v := .int .i64 (n : Nat)) (o_mv rfl) ?_
                        refine stp (v := .int .i64 ((i : Nat) - ((p : Nat) - 1))) (o_mv rfl) ?_
                        refine stp (v := .int .i64 (n : Nat)) (o_mv rfl) ?_
                        refine h44 _ _ ?_
                        clear h44
                        refine seq fun K45 h45 => ?_
                        refine stp (v := .int .i64 (n : Nat)) (o_mv rfl) ?_
                        refine stp (v := .int .i64 ((min 259 (T.length - i) : Nat) : Int)) (o_mv rfl) ?_
                        refine stp (v := .bool (decide (((n : Nat) : Int) = ((min 259 (T.length - i) : Nat) : Int)))) (o_bin rfl rfl rfl) ?_
                        refine h45 _ _ ?_
                        clear h45
                        refine cndP rfl (fun c46 => ?_) (fun c46 => ?_)
                        ·
                          refine h9 _ _ ?_
                          clear h9
                          refine seq fun K47 h47 => ?_
                          refine stp (v := .int .i64 ((i : Nat) - ((p : Nat) - 1))) (o_mv rfl) ?_
                          refine stp (v := .int .i64 (n : Nat)) (o_mv rfl) ?_
                          refine stp (v := .int .i64 ((i : Nat) - ((p : Nat) - 1))) (o_mv rfl) ?_
                          refine stp (v := .int .i64 (n : Nat)) (o_mv rfl) ?_
                          refine h47 _ _ ?_
                          clear h47
                          refine ⟨(.tuple [.int .i64 ((i : Nat) - ((p : Nat) - 1)), .int .i64 (n : Nat)].toArray), rfl, ?_⟩
                          exact ⟨by rw [hS.most (hashP_h T) (by omega) (hA4.2 (by omega)) (by omega) (by omega) (by rw [hL]; omega) (by rw [hL]; omega), hL]; rw [show ((i : Nat) : Int) - (((p : Nat) : Int) - 1) = ((i - (p - 1) : Nat) : Int) by omega], hM41.upd⟩
                        ·
                          refine h20 _ _ ?_
                          clear h20
                          have hav := ht.av (p - 1) (by omega)
                          have hpq := pv_le (hashP T) (hashP T (p - 1)) (p - 1)
                          refine stp (v := .pointer (some ⟨bf, 0, none⟩)) (o_mv rfl) ?_
                          refine stp (v := .pointer (some ⟨bf, 0, none⟩)) (o_nilchk rfl rfl) ?_
                          refine stp (v := .pointer (some ⟨bf, 32769, none⟩)) (o_fa rfl rfl) ?_
                          refine ld (v := va) rfl (((ho.upd hM41.upd (by simp)).cell _).trans (ahead_at ht.hl)) ?_
                          refine stp (v := .int .i64 ((p : Nat) - 1)) (o_mv rfl) ?_
                          refine m_idxE 0 (j := (p - 1)) (hA.upd hM41.upd) rfl (v_int (by omega)) (by omega) fun b48 o48 hp48 => ?_
                          refine ld (v := .int .i64 (A.getD (p - 1) 0)) rfl (hp48) ?_
                          refine stp (v := .int .i64 (A.getD (p - 1) 0)) (o_mv rfl) ?_
                          refine h14 (pv (hashP T) (hashP T (p - 1)) (p - 1), s + 1, i - (p - 1), n) _ _ ⟨by first | rfl | exact v_int (by omega) | exact v_int (by simp) | exact v_int (by simp; omega), by first | rfl | exact v_int (by omega) | exact v_int (by simp) | exact v_int (by simp; omega), by first | rfl | exact v_int (by omega) | exact v_int (by simp) | exact v_int (by simp; omega), by first | rfl | exact v_int (by omega) | exact v_int (by simp) | exact v_int (by simp; omega), rfl, by first | rfl | exact v_int (by omega) | exact v_int (by simp) | exact v_int (by simp; omega), by first | rfl | exact v_int (by omega) | exact v_int (by simp) | exact v_int (by simp; omega), hM41.keep (by simp), by have h9 := hS.better (hashP_h T) (by omega) (hA4.2 (by omega)) (by omega) (by omega) (by rw [hL]; omega); rw [hL] at h9; exact h9, by omega⟩ (by (try dsimp only); omega)
              ·
                refine dgno rfl (by simp) ?_
                refine dgno rfl (by simp) ?_
                refine dgno rfl (by simp) ?_
                refine dgno rfl (by simp) ?_
                refine dgno rfl (by simp) ?_
                refine dgno rfl (by simp) ?_
                refine dgno rfl (by simp) ?_
                refine dgno rfl (by simp) ?_
                refine dgno rfl (by simp) ?_
                refine dgno rfl (by simp) ?_
                refine dgno rfl (by simp) ?_
                refine dgno rfl (by simp) ?_
                refine dqgno rfl (by simp) ?_
                refine dgno rfl (by simp) ?_
                refine dqgno rfl (by simp) ?_
                refine dgno rfl (by simp) ?_
                refine dqgno rfl (by simp) ?_
                refine dgnol rfl (by simp) ?_
                refine dgno rfl (by simp) ?_
                refine dq (v := .bool false) (o_pickF rfl rfl) ?_
                refine h26 _ _ ?_
                clear h26
                refine cndF rfl ?_
                refine h22 _ _ ?_
                clear h22
                refine seq fun K49 h49 => ?_
                refine seq fun K50 h50 => ?_
                have hL : lcF T i (p - 1) = n := lcF_is (by omega) (by omega) (by omega) hk (by first | exact .inr (.inr (nat_neG (by assumption))) | exact or3 (by omega))
                have hA4 := alk_lc (T := T) (i := i) (j := p - 1) (by omega) (by omega)
                rw [hL] at hA4
                refine stp (v := .int .i64 (n : Nat)) (o_mv rfl) ?_
                refine stp (v := .bool (decide (((n : Nat) : Int) < 4))) (o_bin rfl rfl rfl) ?_
                refine h50 _ _ ?_
                clear h50
                refine cndP rfl (fun c51 => ?_) (fun c51 => ?_)
                ·
                  refine h20 _ _ ?_
                  clear h20
                  have hav := ht.av (p - 1) (by omega)
                  have hpq := pv_le (hashP T) (hashP T (p - 1)) (p - 1)
                  refine stp (v := .pointer (some ⟨bf, 0, none⟩)) (o_mv rfl) ?_
                  refine stp (v := .pointer (some ⟨bf, 0, none⟩)) (o_nilchk rfl rfl) ?_
                  refine stp (v := .pointer (some ⟨bf, 32769, none⟩)) (o_fa rfl rfl) ?_
                  refine ld (v := va) rfl (((ho.upd hM27.upd (by simp)).cell _).trans (ahead_at ht.hl)) ?_
                  refine stp (v := .int .i64 ((p : Nat) - 1)) (o_mv rfl) ?_
                  refine m_idxE 0 (j := (p - 1)) (hA.upd hM27.upd) rfl (v_int (by omega)) (by omega) fun b52 o52 hp52 => ?_
                  refine ld (v := .int .i64 (A.getD (p - 1) 0)) rfl (hp52) ?_
                  refine stp (v := .int .i64 (A.getD (p - 1) 0)) (o_mv rfl) ?_
                  refine h14 (pv (hashP T) (hashP T (p - 1)) (p - 1), s, d, b) _ _ ⟨by first | rfl | exact v_int (by omega) | exact v_int (by simp) | exact v_int (by simp; omega), by first | rfl | exact v_int (by omega) | exact v_int (by simp) | exact v_int (by simp; omega), by first | rfl | exact v_int (by omega) | exact v_int (by simp) | exact v_int (by simp; omega), by first | rfl | exact v_int (by omega) | exact v_int (by simp) | exact v_int (by simp; omega), rfl, by first | rfl | exact v_int (by omega) | exact v_int (by simp) | exact v_int (by simp; omega), by first | rfl | exact v_int (by omega) | exact v_int (by simp) | exact v_int (by simp; omega), hM27, hS.skip (hashP_h T) (by omega) (fun h => by have := hA4.1 h; omega), by omega⟩ (by (try dsimp only); omega)
                ·
                  refine h49 _ _ ?_
                  clear h49
                  refine seq fun K53 h53 => ?_
                  refine stp (v := .int .i64 (s : Nat)) (o_mv rfl) ?_
                  refine stp (v := .int .i64 ((s : Nat) + 1)) (o_bin rfl rfl (v_add64 (by constructor <;> omega))) ?_
                  refine stp (v := .int .i64 ((s : Nat) + 1)) (o_mv rfl) ?_
                  refine h53 _ _ ?_
                  clear h53
                  refine seq fun K54 h54 => ?_
                  refine seq fun K55 h55 => ?_
                  refine stp (v := .int .i64 (n : Nat)) (o_mv rfl) ?_
                  refine stp (v := .int .i64 (b : Nat)) (o_mv rfl) ?_
                  refine stp (v := .bool (decide (((n : Nat) : Int) ≤ (b : Nat)))) (o_bin rfl rfl rfl) ?_
                  refine stp (v := .bool (decide (((n : Nat) : Int) ≤ (b : Nat)))) (o_mv rfl) ?_
                  refine splitP rfl (fun c56 => ?_) (fun c56 => ?_)
                  ·
                    refine gno rfl (by simp) ?_
                    refine gno rfl (by simp) ?_
                    refine gno rfl (by simp) ?_
                    refine gno rfl (by simp) ?_
                    refine gnol rfl (by simp) ?_
                    refine gno rfl (by simp) ?_
                    refine gno rfl (by simp) ?_
                    refine gno rfl (by simp) ?_
                    refine stp (v := .bool true) (o_pickT rfl rfl) ?_
                    refine h55 _ _ ?_
                    clear h55
                    refine cndT rfl ?_
                    refine h20 _ _ ?_
                    clear h20
                    have hav := ht.av (p - 1) (by omega)
                    have hpq := pv_le (hashP T) (hashP T (p - 1)) (p - 1)
                    refine stp (v := .pointer (some ⟨bf, 0, none⟩)) (o_mv rfl) ?_
                    refine stp (v := .pointer (some ⟨bf, 0, none⟩)) (o_nilchk rfl rfl) ?_
                    refine stp (v := .pointer (some ⟨bf, 32769, none⟩)) (o_fa rfl rfl) ?_
                    refine ld (v := va) rfl (((ho.upd hM27.upd (by simp)).cell _).trans (ahead_at ht.hl)) ?_
                    refine stp (v := .int .i64 ((p : Nat) - 1)) (o_mv rfl) ?_
                    refine m_idxE 0 (j := (p - 1)) (hA.upd hM27.upd) rfl (v_int (by omega)) (by omega) fun b57 o57 hp57 => ?_
                    refine ld (v := .int .i64 (A.getD (p - 1) 0)) rfl (hp57) ?_
                    refine stp (v := .int .i64 (A.getD (p - 1) 0)) (o_mv rfl) ?_
                    refine h14 (pv (hashP T) (hashP T (p - 1)) (p - 1), s + 1, d, b) _ _ ⟨by first | rfl | exact v_int (by omega) | exact v_int (by simp) | exact v_int (by simp; omega), by first | rfl | exact v_int (by omega) | exact v_int (by simp) | exact v_int (by simp; omega), by first | rfl | exact v_int (by omega) | exact v_int (by simp) | exact v_int (by simp; omega), by first | rfl | exact v_int (by omega) | exact v_int (by simp) | exact v_int (by simp; omega), rfl, by first | rfl | exact v_int (by omega) | exact v_int (by simp) | exact v_int (by simp; omega), by first | rfl | exact v_int (by omega) | exact v_int (by simp) | exact v_int (by simp; omega), hM27, hS.worse (hashP_h T) (by omega) (hA4.2 (by omega)) (by omega) (by omega) (by rw [hL]; omega), by omega⟩ (by (try dsimp only); omega)
                  ·
                    refine stg rfl (v := .int .i64 (n : Nat)) (o_mv rfl) ?_
                    refine stg rfl (v := .int .i64 (i : Nat)) (o_mv rfl) ?_
                    refine stg rfl (v := .int .i64 ((p : Nat) - 1)) (o_mv rfl) ?_
                    refine stg rfl (v := .int .i64 ((i : Nat) - ((p : Nat) - 1))) (o_bin rfl rfl (v_sub64 (by constructor <;> omega))) ?_
                    refine gyesl rfl ?_
                    refine m_call (Put_ok ((i : Nat) - ((p : Nat) - 1)) (by simp only [inK]; omega) wd) rfl fun v58 w58 ⟨rs58, hs58, hm58⟩ => ?_
                    have hM58 : Mem w [] w58 [rs58] := hM27.add hm58
                    have hn58 := putI_len (v := (i : Nat) - ((p : Nat) - 1)) (by omega)
                    have hpl2 := plen_put (v := (i : Nat) - ((p : Nat) - 1)) (by omega) (by omega)
                    rw [show ((i : Nat) - ((p : Nat) - 1) : Int).toNat = i - (p - 1) by omega] at hpl2
                    refine stg rfl (v := .int .i64 ((putI ((i : Nat) - ((p : Nat) - 1))).length : Nat)) (o_lenR (hs58.rd hM58 (i := 0) rfl) rfl rfl) ?_
                    refine stg rfl (v := .int .i64 (3 + ((putI ((i : Nat) - ((p : Nat) - 1))).length : Nat))) (o_bin rfl rfl (v_add64 (by constructor <;> omega))) ?_
                    refine stg rfl (v := .bool (decide (((n : Nat) : Int) < (3 + ((putI ((i : Nat) - ((p : Nat) - 1))).length : Nat))))) (o_bin rfl rfl rfl) ?_
                    refine stp (v := .bool (decide (((n : Nat) : Int) < (3 + ((putI ((i : Nat) - ((p : Nat) - 1))).length : Nat))))) (o_pickF rfl rfl) ?_
                    refine h55 _ _ ?_
                    clear h55
                    refine cndP rfl (fun c59 => ?_) (fun c59 => ?_)
                    ·
                      refine h20 _ _ ?_
                      clear h20
                      have hav := ht.av (p - 1) (by omega)
                      have hpq := pv_le (hashP T) (hashP T (p - 1)) (p - 1)
                      refine stp (v := .pointer (some ⟨bf, 0, none⟩)) (o_mv rfl) ?_
                      refine stp (v := .pointer (some ⟨bf, 0, none⟩)) (o_nilchk rfl rfl) ?_
                      refine stp (v := .pointer (some ⟨bf, 32769, none⟩)) (o_fa rfl rfl) ?_
                      refine ld (v := va) rfl (((ho.upd hM58.upd (by simp)).cell _).trans (ahead_at ht.hl)) ?_
                      refine stp (v := .int .i64 ((p : Nat) - 1)) (o_mv rfl) ?_
                      refine m_idxE 0 (j := (p - 1)) (hA.upd hM58.upd) rfl (v_int (by omega)) (by omega) fun b60 o60 hp60 => ?_
                      refine ld (v := .int .i64 (A.getD (p - 1) 0)) rfl (hp60) ?_
                      refine stp (v := .int .i64 (A.getD (p - 1) 0)) (o_mv rfl) ?_
                      refine h14 (pv (hashP T) (hashP T (p - 1)) (p - 1), s + 1, d, b) _ _ ⟨by first | rfl | exact v_int (by omega) | exact v_int (by simp) | exact v_int (by simp; omega), by first | rfl | exact v_int (by omega) | exact v_int (by simp) | exact v_int (by simp; omega), by first | rfl | exact v_int (by omega) | exact v_int (by simp) | exact v_int (by simp; omega), by first | rfl | exact v_int (by omega) | exact v_int (by simp) | exact v_int (by simp; omega), rfl, by first | rfl | exact v_int (by omega) | exact v_int (by simp) | exact v_int (by simp; omega), by first | rfl | exact v_int (by omega) | exact v_int (by simp) | exact v_int (by simp; omega), hM58.keep (by simp), hS.worse (hashP_h T) (by omega) (hA4.2 (by omega)) (by omega) (by omega) (by rw [hL]; omega), by omega⟩ (by (try dsimp only); omega)
                    ·
                      refine h54 _ _ ?_
                      clear h54
                      refine seq fun K61 h61 => ?_
                      refine stp (v := .int .i64 (i : Nat)) (o_mv rfl) ?_
                      refine stp (v := .int .i64 ((p : Nat) - 1)) (o_mv rfl) ?_
                      refine stp (v := .int .i64 ((i : Nat) - ((p : Nat) - 1))) (o_bin rfl rfl (v_sub64 (by constructor <;> omega))) ?_
                      refine stp (v := .int .i64 (n : Nat)) (o_mv rfl) ?_
                      refine stp (v := .int .i64 ((i : Nat) - ((p : Nat) - 1))) (o_mv rfl) ?_
                      refine stp (v := .int .i64 (n : Nat)) (o_mv rfl) ?_
                      refine h61 _ _ ?_
                      clear h61
                      refine seq fun K62 h62 => ?_
                      refine stp (v := .int .i64 (n : Nat)) (o_mv rfl) ?_
                      refine stp (v := .int .i64 ((min 259 (T.length - i) : Nat) : Int)) (o_mv rfl) ?_
                      refine stp (v := .bool (decide (((n : Nat) : Int) = ((min 259 (T.length - i) : Nat) : Int)))) (o_bin rfl rfl rfl) ?_
                      refine h62 _ _ ?_
                      clear h62
                      refine cndP rfl (fun c63 => ?_) (fun c63 => ?_)
                      ·
                        refine h9 _ _ ?_
                        clear h9
                        refine seq fun K64 h64 => ?_
                        refine stp (v := .int .i64 ((i : Nat) - ((p : Nat) - 1))) (o_mv rfl) ?_
                        refine stp (v := .int .i64 (n : Nat)) (o_mv rfl) ?_
                        refine stp (v := .int .i64 ((i : Nat) - ((p : Nat) - 1))) (o_mv rfl) ?_
                        refine stp (v := .int .i64 (n : Nat)) (o_mv rfl) ?_
                        refine h64 _ _ ?_
                        clear h64
                        refine ⟨(.tuple [.int .i64 ((i : Nat) - ((p : Nat) - 1)), .int .i64 (n : Nat)].toArray), rfl, ?_⟩
                        exact ⟨by rw [hS.most (hashP_h T) (by omega) (hA4.2 (by omega)) (by omega) (by omega) (by rw [hL]; omega) (by rw [hL]; omega), hL]; rw [show ((i : Nat) : Int) - (((p : Nat) : Int) - 1) = ((i - (p - 1) : Nat) : Int) by omega], hM58.upd⟩
                      ·
                        refine h20 _ _ ?_
                        clear h20
                        have hav := ht.av (p - 1) (by omega)
                        have hpq := pv_le (hashP T) (hashP T (p - 1)) (p - 1)
                        refine stp (v := .pointer (some ⟨bf, 0, none⟩)) (o_mv rfl) ?_
                        refine stp (v := .pointer (some ⟨bf, 0, none⟩)) (o_nilchk rfl rfl) ?_
                        refine stp (v := .pointer (some ⟨bf, 32769, none⟩)) (o_fa rfl rfl) ?_
                        refine ld (v := va) rfl (((ho.upd hM58.upd (by simp)).cell _).trans (ahead_at ht.hl)) ?_
                        refine stp (v := .int .i64 ((p : Nat) - 1)) (o_mv rfl) ?_
                        refine m_idxE 0 (j := (p - 1)) (hA.upd hM58.upd) rfl (v_int (by omega)) (by omega) fun b65 o65 hp65 => ?_
                        refine ld (v := .int .i64 (A.getD (p - 1) 0)) rfl (hp65) ?_
                        refine stp (v := .int .i64 (A.getD (p - 1) 0)) (o_mv rfl) ?_
                        refine h14 (pv (hashP T) (hashP T (p - 1)) (p - 1), s + 1, i - (p - 1), n) _ _ ⟨by first | rfl | exact v_int (by omega) | exact v_int (by simp) | exact v_int (by simp; omega), by first | rfl | exact v_int (by omega) | exact v_int (by simp) | exact v_int (by simp; omega), by first | rfl | exact v_int (by omega) | exact v_int (by simp) | exact v_int (by simp; omega), by first | rfl | exact v_int (by omega) | exact v_int (by simp) | exact v_int (by simp; omega), rfl, by first | rfl | exact v_int (by omega) | exact v_int (by simp) | exact v_int (by simp; omega), by first | rfl | exact v_int (by omega) | exact v_int (by simp) | exact v_int (by simp; omega), hM58.keep (by simp), by have h9 := hS.better (hashP_h T) (by omega) (hA4.2 (by omega)) (by omega) (by omega) (by rw [hL]; omega); rw [hL] at h9; exact h9, by omega⟩ (by (try dsimp only); omega)
          ·
            refine h9 _ _ ?_
            clear h9
            refine seq fun K66 h66 => ?_
            refine stp (v := .int .i64 (d : Nat)) (o_mv rfl) ?_
            refine stp (v := .int .i64 (b : Nat)) (o_mv rfl) ?_
            refine stp (v := .int .i64 (d : Nat)) (o_mv rfl) ?_
            refine stp (v := .int .i64 (b : Nat)) (o_mv rfl) ?_
            refine h66 _ _ ?_
            clear h66
            refine ⟨(.tuple [.int .i64 (d : Nat), .int .i64 (b : Nat)].toArray), rfl, ?_⟩
            exact ⟨by rw [hS.stop (by omega)], hM13.upd⟩
        ·
          refine gno rfl (by simp) ?_
          refine gno rfl (by simp) ?_
          refine stp (v := .bool false) (o_pickF rfl rfl) ?_
          refine h16 _ _ ?_
          clear h16
          refine cndF rfl ?_
          refine h9 _ _ ?_
          clear h9
          refine seq fun K67 h67 => ?_
          refine stp (v := .int .i64 (d : Nat)) (o_mv rfl) ?_
          refine stp (v := .int .i64 (b : Nat)) (o_mv rfl) ?_
          refine stp (v := .int .i64 (d : Nat)) (o_mv rfl) ?_
          refine stp (v := .int .i64 (b : Nat)) (o_mv rfl) ?_
          refine h67 _ _ ?_
          clear h67
          refine ⟨(.tuple [.int .i64 (d : Nat), .int .i64 (b : Nat)].toArray), rfl, ?_⟩
          exact ⟨by rw [hS.stop (by omega)], hM13.upd⟩
      ·
        refine gno rfl (by simp) ?_
        refine gno rfl (by simp) ?_
        refine gno rfl (by simp) ?_
        refine gno rfl (by simp) ?_
        refine stp (v := .bool false) (o_pickF rfl rfl) ?_
        refine stp (v := .bool false) (o_mv rfl) ?_
        refine splitF rfl ?_
        refine gno rfl (by simp) ?_
        refine gno rfl (by simp) ?_
        refine stp (v := .bool false) (o_pickF rfl rfl) ?_
        refine h16 _ _ ?_
        clear h16
        refine cndF rfl ?_
        refine h9 _ _ ?_
        clear h9
        refine seq fun K68 h68 => ?_
        refine stp (v := .int .i64 (d : Nat)) (o_mv rfl) ?_
        refine stp (v := .int .i64 (b : Nat)) (o_mv rfl) ?_
        refine stp (v := .int .i64 (d : Nat)) (o_mv rfl) ?_
        refine stp (v := .int .i64 (b : Nat)) (o_mv rfl) ?_
        refine h68 _ _ ?_
        clear h68
        refine ⟨(.tuple [.int .i64 (d : Nat), .int .i64 (b : Nat)].toArray), rfl, ?_⟩
        exact ⟨by rw [hS.stop (by omega)], hM13.upd⟩
