/- Entries as bytes, and back. -/
import Derived.Test.YtnkilhmkegmenaaF8
import Derived.Test.YtnkilhmkegmenaaK2
namespace Go.Proofs.Ytnkilhmkegmenaa.E
open Go
def fxV (b : List UInt8) (n : Int) (s : Nat × Int) : Nat := cFix b s.1 s.2 n
def fx (b : List UInt8) (n : Int) (s : Nat × Int) : Nat × Int := (cFixA b s.1 s.2 n, cFixE b s.1 s.2 n)
def nmV (b : List UInt8) (m : Int) (s : Nat × Int) : Int := cNum b s.1 s.2 m
def nm (b : List UInt8) (m : Int) (s : Nat × Int) : Nat × Int := (cNumA b s.1 s.2 m, cNumE b s.1 s.2 m)
theorem word_short {l : List UInt8} (h : l.length ≤ 8) : word l = le l := by unfold word; rw [List.take_of_length_le h]
theorem fx_in {b : List UInt8} {n : Int} {s : Nat × Int} (hn : 1 ≤ n ∧ n ≤ 8) (h : (fx b n s).2 = 0) : s.2 = 0 ∧ b.drop s.1 = fixed n.toNat (fxV b n s) ++ b.drop (fx b n s).1 := by
  obtain ⟨a, e⟩ := s
  have he : e = 0 := by
    simp only [fx, cFixE] at h
    split at h <;> omega
  subst he
  have h0 : fixE (b.drop a) n = 0 := by simpa [fx, cFixE] using h
  have hl : ¬ ((b.drop a).length : Int) < n := fun k => by
    rw [(fix_short (l := b.drop a) (n := n) (by omega) k).1] at h0; omega
  refine ⟨rfl, ?_⟩
  have hV : fxV b n (a, 0) = le ((b.drop a).take n.toNat) := by
    simp only [fxV, cFix, if_pos]
    rw [(fix_fine (l := b.drop a) (n := n) (by omega) hl).2, word_short (by rw [List.length_take]; omega)]
  have hA : (fx b n (a, 0)).1 = a + n.toNat := by
    simp only [fx, cFixA]
    rw [if_pos ⟨trivial, h0⟩]; unfold fixN; rw [if_pos h0]
  have ht : ((b.drop a).take n.toNat).length = n.toNat := by rw [List.length_take]; omega
  have hf := fixed_le ((b.drop a).take n.toNat)
  rw [ht] at hf
  rw [hV, hA, hf, ← List.drop_drop, List.take_append_drop]
theorem nm_in {b : List UInt8} {m : Int} {s : Nat × Int} (h : (nm b m s).2 = 0) : s.2 = 0 ∧ 0 ≤ nmV b m s ∧ b.drop s.1 = putI (nmV b m s) ++ b.drop (nm b m s).1 := by
  obtain ⟨a, e⟩ := s
  have he : e = 0 := by
    simp only [nm, cNumE] at h
    split at h <;> omega
  subst he
  have h0 : numE (b.drop a) m = 0 := by simpa [nm, cNumE] using h
  have hV : nmV b m (a, 0) = ((get (b.drop a)).1 : Nat) := by simp only [nmV, cNum, if_pos, numV]; rw [if_pos h0]
  have hA : (nm b m (a, 0)).1 = a + (get (b.drop a)).2.1 := by simp only [nm, cNumA]; rw [if_pos ⟨trivial, h0⟩]
  have hg := get_ok (numE_get h0)
  refine ⟨rfl, by rw [hV]; omega, ?_⟩
  rw [hV, hA, hg.2.2, ← List.drop_drop, List.take_append_drop]
theorem fx_at {b rest : List UInt8} {a n v : Nat} (hn : 1 ≤ n ∧ n ≤ 8) (h : b.drop a = fixed n v ++ rest) : fxV b n (a, 0) = v % 256 ^ n ∧ fx b n (a, 0) = (a + n, 0) ∧ b.drop (a + n) = rest := by
  have hl : (b.drop a).length = n + rest.length := by rw [h, List.length_append, fixed_length]
  have hf := fix_fine (l := b.drop a) (n := n) (by omega) (by omega)
  have ht : (b.drop a).take n = fixed n v := by rw [h, List.take_left' (fixed_length n v)]
  refine ⟨?_, ?_, ?_⟩
  · simp only [fxV, cFix, if_pos]
    rw [hf.2, Int.toNat_natCast, ht, word_short (by rw [fixed_length]; omega), le_fixed]
  · simp only [fx, cFixA, cFixE, if_pos]
    rw [if_pos ⟨trivial, hf.1⟩, hf.1]; unfold fixN; rw [if_pos hf.1, Int.toNat_natCast]
  · rw [← List.drop_drop, h, List.drop_left' (fixed_length n v)]
theorem nm_at {b rest : List UInt8} {a : Nat} {v m : Int} (h0 : 0 ≤ v) (hm : v ≤ m) (hv : v ≤ 9223372036854775807) (h : b.drop a = putI v ++ rest) : nmV b m (a, 0) = v ∧ nm b m (a, 0) = (a + (putI v).length, 0) ∧ b.drop (a + (putI v).length) = rest := by
  have hg := get_put h0 hv rest
  rw [← h] at hg
  have hE : numE (b.drop a) m = 0 := by unfold numE; rw [hg]; simp only [if_pos]; rw [if_neg (by omega)]
  refine ⟨?_, ?_, ?_⟩
  · simp only [nmV, cNum, if_pos, numV]; rw [if_pos hE, hg]; simp only []; omega
  · simp only [nm, cNumA, cNumE, if_pos]; rw [if_pos ⟨trivial, hE⟩, hE, hg]
  · rw [← List.drop_drop, h, List.drop_left]
theorem fxV_lt {b : List UInt8} {n : Nat} {s : Nat × Int} : fxV b n s < 256 ^ n := by
  have hp : 0 < 256 ^ n := Nat.pow_pos (by omega)
  unfold fxV cFix
  split
  · unfold fixV
    split
    · have h1 := le_lt (((b.drop s.1).take ((n : Int)).toNat).take 8)
      have h2 : 256 ^ (((b.drop s.1).take ((n : Int)).toNat).take 8).length ≤ 256 ^ n := Nat.pow_le_pow_right (by omega) (by rw [List.length_take, List.length_take]; omega)
      unfold word; omega
    · exact hp
  · exact hp
theorem nmV_bd {b : List UInt8} {m : Int} {s : Nat × Int} (hm : 0 ≤ m) : 0 ≤ nmV b m s ∧ nmV b m s ≤ m := by
  unfold nmV cNum
  split
  · unfold numV
    split
    · rename_i h
      refine ⟨by omega, ?_⟩
      apply Decidable.byContradiction; intro k
      have := (num_much (numE_get h) (by omega : m < _)).1
      omega
    · omega
  · omega
theorem wrap_i64 (a : Int) : IntKind.i64.wrap a = if a % 18446744073709551616 < 9223372036854775808 then a % 18446744073709551616 else a % 18446744073709551616 - 18446744073709551616 := by
  simp [IntKind.wrap, IntKind.bits, IntKind.signed]
  omega
theorem fx8_lt {b : List UInt8} {s : Nat × Int} : fxV b 8 s < 18446744073709551616 := fxV_lt (n := 8)
theorem fx4_lt {b : List UInt8} {s : Nat × Int} : fxV b 4 s < 4294967296 := fxV_lt (n := 4)
theorem fx1_lt {b : List UInt8} {s : Nat × Int} : fxV b 1 s < 256 := fxV_lt (n := 1)
def nxt (b : List UInt8) (s : Nat × Int) : Nat × Int := fx b 4 (fx b 8 (nm b 65535 (fx b 1 (nm b 16 (nm b 65535 (fx b 1 (fx b 1 s)))))))
def entD (b : List UInt8) (s : Nat × Int) : Flt :=
  ⟨(fxV b 1 s : Nat), (fxV b 1 (fx b 1 s) : Nat), nmV b 65535 (fx b 1 (fx b 1 s)), nmV b 16 (nm b 65535 (fx b 1 (fx b 1 s))), (fxV b 1 (nm b 16 (nm b 65535 (fx b 1 (fx b 1 s)))) : Nat), nmV b 65535 (fx b 1 (nm b 16 (nm b 65535 (fx b 1 (fx b 1 s))))),
    IntKind.i64.wrap (fxV b 8 (nm b 65535 (fx b 1 (nm b 16 (nm b 65535 (fx b 1 (fx b 1 s)))))) : Nat), IntKind.u32.wrap (fxV b 4 (fx b 8 (nm b 65535 (fx b 1 (nm b 16 (nm b 65535 (fx b 1 (fx b 1 s))))))) : Nat)⟩
def entB (f : Flt) : List UInt8 := fixed 1 f.kind.toNat ++ (fixed 1 f.tk.toNat ++ (putI f.task ++ (putI f.att ++ (fixed 1 f.mom.toNat ++ (putI f.rd ++ (fixed 8 (f.at_ % 18446744073709551616).toNat ++ fixed 4 f.mask.toNat))))))
theorem ent_in {b : List UInt8} {s : Nat × Int} (h : (nxt b s).2 = 0) : s.2 = 0 ∧ b.drop s.1 = entB (entD b s) ++ b.drop (nxt b s).1 := by
  have k8 := fx_in (b := b) (n := 4) (by omega) h
  have k7 := fx_in (b := b) (n := 8) (by omega) k8.1
  have k6 := nm_in k7.1
  have k5 := fx_in (b := b) (n := 1) (by omega) k6.1
  have k4 := nm_in k5.1
  have k3 := nm_in k4.1
  have k2 := fx_in (b := b) (n := 1) (by omega) k3.1
  have k1 := fx_in (b := b) (n := 1) (by omega) k2.1
  refine ⟨k1.1, ?_⟩
  have hw : ∀ v : Nat, v < 18446744073709551616 → (IntKind.i64.wrap (v : Int) % 18446744073709551616).toNat = v := fun v hv => by
    rw [wrap_i64]; split <;> omega
  have hm : ∀ v : Nat, v < 4294967296 → (IntKind.u32.wrap (v : Int)).toNat = v := fun v hv => by
    rw [wrap_u32]; omega
  unfold entB entD
  simp only [Int.toNat_natCast]
  rw [hw _ fx8_lt, hm _ fx4_lt, k1.2, k2.2, k3.2.2, k4.2.2, k5.2, k6.2.2, k7.2, k8.2]
  simp only [List.append_assoc]; rfl
theorem ent_at {b rest : List UInt8} {a : Nat} {f : Flt} (hg : goodP f) (hk : f.ok) (h : b.drop a = entB f ++ rest) : entD b (a, 0) = f ∧ nxt b (a, 0) = (a + (entB f).length, 0) ∧ b.drop (a + (entB f).length) = rest := by
  have r1 : 0 ≤ f.kind ∧ f.kind ≤ 2 ∧ 0 ≤ f.tk ∧ f.tk ≤ 1 ∧ 0 ≤ f.mom ∧ f.mom ≤ 2 ∧ 0 ≤ f.task ∧ f.task < 65535 ∧ 1 ≤ f.att ∧ f.att ≤ 16 ∧ 0 ≤ f.rd ∧ f.rd < 65535 := by
    unfold goodP stopP dmgP at hg; omega
  obtain ⟨_, _, _, _, _, _, ha, hm⟩ := hk
  simp only [inK] at ha hm
  unfold entB at h ⊢
  simp only [List.append_assoc] at h
  have q1 := fx_at (n := 1) (by omega) h
  have q2 := fx_at (n := 1) (by omega) q1.2.2
  have q3 := nm_at (m := 65535) (by omega) (by omega) (by omega) q2.2.2
  have q4 := nm_at (m := 16) (by omega) (by omega) (by omega) q3.2.2
  have q5 := fx_at (n := 1) (by omega) q4.2.2
  have q6 := nm_at (m := 65535) (by omega) (by omega) (by omega) q5.2.2
  have q7 := fx_at (n := 8) (by omega) q6.2.2
  have q8 := fx_at (n := 4) (by omega) q7.2.2
  have e1 : fx b 1 (a, 0) = (a + 1, 0) := q1.2.1
  have e2 : fx b 1 (a + 1, 0) = (a + 1 + 1, 0) := q2.2.1
  have e5 := q5.2.1
  have e7 := q7.2.1
  have e8 := q8.2.1
  refine ⟨?_, ?_, ?_⟩
  · unfold entD
    have v1 : fxV b 1 (a, 0) = _ := q1.1
    have v2 : fxV b 1 (a + 1, 0) = _ := q2.1
    have v5 : fxV b 1 (_, 0) = _ := q5.1
    have v7 : fxV b 8 (_, 0) = _ := q7.1
    have v8 : fxV b 4 (_, 0) = _ := q8.1
    have e5' : fx b 1 _ = _ := q5.2.1
    have e7' : fx b 8 _ = _ := q7.2.1
    rw [e1, e2, q3.2.1, q4.2.1, e5', q6.2.1, e7', v1, v2, q3.1, q4.1, v5, q6.1, v7, v8, wrap_i64, wrap_u32]
    obtain ⟨kind, tk, task, att, mom, rd, at_, mask⟩ := f
    simp only [Flt.mk.injEq] at *
    refine ⟨?_, ?_, trivial, trivial, ?_, trivial, ?_, ?_⟩
    · simp only [Nat.pow_one]; omega
    · simp only [Nat.pow_one]; omega
    · simp only [Nat.pow_one]; omega
    · have : (256 : Nat) ^ 8 = 18446744073709551616 := by decide
      rw [this]; split <;> omega
    · have : (256 : Nat) ^ 4 = 4294967296 := by decide
      rw [this]; omega
  · unfold nxt
    have e5' : fx b 1 _ = _ := q5.2.1
    have e7' : fx b 8 _ = _ := q7.2.1
    have e8' : fx b 4 _ = _ := q8.2.1
    rw [e1, e2, q3.2.1, q4.2.1, e5', q6.2.1, e7', e8']
    simp only [List.length_append, fixed_length, Prod.mk.injEq, and_true]; omega
  · rw [← q8.2.2]; congr 1
    simp only [List.length_append, fixed_length]; omega

theorem getD_memG {α : Type} (z : α) {l : List α} {i : Nat} (h : i < l.length) : l.getD i z ∈ l := by
  rw [List.getD_eq_getElem?_getD, List.getElem?_eq_getElem h]; exact List.getElem_mem h
/-- the first n entries, and the cursor's state behind them -/
def decR (b : List UInt8) : Nat → Nat × Int → List Flt × (Nat × Int)
  | 0, s => ([], s)
  | n + 1, s => ((decR b n s).1 ++ [entD b (decR b n s).2], nxt b (decR b n s).2)
theorem decR_length (b : List UInt8) (n : Nat) (s : Nat × Int) : (decR b n s).1.length = n := by
  induction n with
  | zero => rfl
  | succ n ih => show ((decR b n s).1 ++ [_]).length = _; rw [List.length_append, ih]; rfl
def decN (b : List UInt8) : Nat := (nmV b 256 (0, 0)).toNat
def decS (b : List UInt8) : List Flt × (Nat × Int) := decR b (decN b) (nm b 256 (0, 0))
/-- what Decode tells: the entries, the error -/
def decV (b : List UInt8) : List Flt × Int := if endE b (decS b).2.1 (decS b).2.2 = 0 ∧ check (decS b).1 = 0 then ((decS b).1, 0) else ([], 160)
def encE (l : List Flt) : List UInt8 × Int := if check l = 0 then (putI (l.length : Nat) ++ l.flatMap entB, 0) else ([], check l)
theorem decR_in {b : List UInt8} : ∀ {n : Nat} {s : Nat × Int}, (decR b n s).2.2 = 0 → s.2 = 0 ∧ b.drop s.1 = (decR b n s).1.flatMap entB ++ b.drop (decR b n s).2.1 := by
  intro n
  induction n with
  | zero => intro s h; exact ⟨h, rfl⟩
  | succ n ih =>
    intro s h
    have h1 := ent_in (b := b) (s := (decR b n s).2) h
    have h2 := ih h1.1
    refine ⟨h2.1, ?_⟩
    show _ = ((decR b n s).1 ++ [entD b (decR b n s).2]).flatMap entB ++ b.drop (nxt b (decR b n s).2).1
    rw [h2.2, h1.2, List.flatMap_append, List.append_assoc]
    simp
theorem decR_at {b : List UInt8} {l : List Flt} (hg : ∀ f ∈ l, goodP f ∧ f.ok) : ∀ {n a : Nat} {rest : List UInt8}, n ≤ l.length → b.drop a = (l.take n).flatMap entB ++ rest → (decR b n (a, 0)).1 = l.take n ∧ (decR b n (a, 0)).2.2 = 0 ∧ b.drop (decR b n (a, 0)).2.1 = rest := by
  intro n
  induction n with
  | zero => intro a rest _ h; exact ⟨rfl, rfl, by simpa [decR] using h⟩
  | succ n ih =>
    intro a rest hn h
    rw [takeG fz (by omega : n < l.length), List.flatMap_append, List.append_assoc] at h
    have h1 := ih (by omega) h
    have hm := getD_memG fz (i := n) (l := l) (by omega)
    have h2 := ent_at (b := b) (a := (decR b n (a, 0)).2.1) (f := l.getD n fz) (rest := rest) (hg _ hm).1 (hg _ hm).2 (by rw [h1.2.2]; simp)
    have e : (decR b n (a, 0)).2 = ((decR b n (a, 0)).2.1, 0) := Prod.ext rfl h1.2.1
    refine ⟨?_, ?_, ?_⟩
    · show (decR b n (a, 0)).1 ++ [entD b (decR b n (a, 0)).2] = _
      rw [h1.1, e, h2.1, takeG fz (by omega : n < l.length)]
    · show (nxt b (decR b n (a, 0)).2).2 = 0
      rw [e, h2.2.1]
    · show b.drop (nxt b (decR b n (a, 0)).2).1 = rest
      rw [e, h2.2.1]; exact h2.2.2
theorem check_0 {l : List Flt} (h : check l = 0) : l.length ≤ 256 ∧ fine l := by
  unfold check at h
  split at h
  · omega
  · split at h
    · exact ⟨by omega, by assumption⟩
    · omega
theorem fine_good {l : List Flt} (h : fine l) : ∀ f ∈ l, goodP f := by
  intro f hf
  obtain ⟨i, hi, e⟩ := List.getElem_of_mem hf
  have := (h i hi).1
  rwa [List.getD_eq_getElem?_getD, List.getElem?_eq_getElem hi, Option.getD_some, e] at this
theorem dec_enc {l : List Flt} (hk : ∀ f ∈ l, f.ok) (h : check l = 0) : decV (encE l).1 = (l, 0) := by
  obtain ⟨hl, hf⟩ := check_0 h
  have hg := fine_good hf
  unfold encE
  rw [if_pos h]
  generalize hb : putI ((l.length : Nat) : Int) ++ l.flatMap entB = b
  have q := nm_at (b := b) (a := 0) (v := (l.length : Nat)) (m := 256) (rest := l.flatMap entB) (by omega) (by omega) (by omega) (by rw [List.drop_zero, ← hb])
  have hN : decN b = l.length := by unfold decN; rw [q.1, Int.toNat_natCast]
  have r := decR_at (b := b) (l := l) (fun f hm => ⟨hg f hm, hk f hm⟩) (n := l.length) (a := 0 + (putI ((l.length : Nat) : Int)).length) (rest := []) (by omega) (by rw [List.take_length, List.append_nil]; exact q.2.2)
  have hS : decS b = decR b l.length (0 + (putI ((l.length : Nat) : Int)).length, 0) := by unfold decS; rw [hN, q.2.1]
  rw [List.take_length] at r
  have hz := congrArg List.length r.2.2
  rw [List.length_drop, List.length_nil] at hz
  have E : endE b (decR b l.length (0 + (putI ((l.length : Nat) : Int)).length, 0)).2.1 0 = 0 := by
    unfold endE
    rw [if_neg (by omega), if_neg (by omega)]
  unfold decV
  rw [hS, r.1, r.2.1, if_pos ⟨E, h⟩]
theorem enc_dec {b : List UInt8} (h : (decV b).2 = 0) : check (decV b).1 = 0 ∧ encE (decV b).1 = (b, 0) := by
  unfold decV at h ⊢
  by_cases c : endE b (decS b).2.1 (decS b).2.2 = 0 ∧ check (decS b).1 = 0
  · rw [if_pos c]
    refine ⟨c.2, ?_⟩
    have he : (decS b).2.2 = 0 ∧ ¬ (decS b).2.1 < b.length := by
      have := c.1
      unfold endE at this
      split at this
      · omega
      · split at this <;> omega
    have r := decR_in (b := b) (n := decN b) (s := nm b 256 (0, 0)) he.1
    have n0 := nm_in r.1
    rw [List.drop_zero] at n0
    unfold encE
    show (if check (decS b).1 = 0 then _ else _) = _
    rw [if_pos c.2]
    have hl : (((decS b).1.length : Nat) : Int) = nmV b 256 (0, 0) := by
      show (((decR b (decN b) (nm b 256 (0, 0))).1.length : Nat) : Int) = _
      rw [decR_length]; unfold decN; exact Int.toNat_of_nonneg n0.2.1
    rw [hl]
    have e2 : b.drop (decS b).2.1 = [] := List.drop_eq_nil_of_le (by omega)
    have e3 : (decS b).1.flatMap entB = b.drop (nm b 256 (0, 0)).1 := by
      have := r.2
      rw [this]
      show _ = (decS b).1.flatMap entB ++ b.drop (decS b).2.1
      rw [e2, List.append_nil]
    rw [e3, ← n0.2.2]
  · rw [if_neg c] at h; simp at h
theorem decV_no {b : List UInt8} (h : ¬ (decV b).2 = 0) : decV b = ([], 160) := by
  unfold decV at h ⊢
  split
  · rename_i c; rw [if_pos c] at h; simp at h
  · rfl
theorem entD_ok (b : List UInt8) (s : Nat × Int) : (entD b s).ok := by
  have h1 := @fx1_lt b
  have hn := fun m s => @nmV_bd b m s
  have hw := fun n : Int => wrap_i64 n
  unfold entD Flt.ok
  simp only [inK]
  have g1 := h1 (s := s)
  have g2 := h1 (s := fx b 1 s)
  have g3 := hn 65535 (fx b 1 (fx b 1 s)) (by omega)
  have g4 := hn 16 (nm b 65535 (fx b 1 (fx b 1 s))) (by omega)
  have g5 := h1 (s := nm b 16 (nm b 65535 (fx b 1 (fx b 1 s))))
  have g6 := hn 65535 (fx b 1 (nm b 16 (nm b 65535 (fx b 1 (fx b 1 s))))) (by omega)
  refine ⟨by omega, by omega, by omega, by omega, by omega, by omega, ?_, ?_⟩
  · rw [wrap_i64]; split <;> omega
  · rw [wrap_u32]; omega
theorem decR_ok (b : List UInt8) (n : Nat) (s : Nat × Int) : ∀ f ∈ (decR b n s).1, f.ok := by
  induction n with
  | zero => intro f hf; cases hf
  | succ n ih =>
    intro f hf
    have hf' : f ∈ (decR b n s).1 ++ [entD b (decR b n s).2] := hf
    rcases List.mem_append.1 hf' with h | h
    · exact ih f h
    · rw [List.mem_singleton.1 h]; exact entD_ok _ _
theorem decV_ok (b : List UInt8) : ∀ f ∈ (decV b).1, f.ok := by
  unfold decV
  split
  · exact decR_ok _ _ _
  · intro f hf; cases hf
theorem decN_le (b : List UInt8) : decN b ≤ 256 := by
  have := nmV_bd (b := b) (m := 256) (s := (0, 0)) (by omega)
  unfold decN; omega
theorem decV_len (b : List UInt8) : (decV b).1.length ≤ 256 := by
  unfold decV
  split
  · show (decR _ _ _).1.length ≤ 256; rw [decR_length]; exact decN_le b
  · simp
theorem check_take {l : List Flt} (h : check l = 0) (n : Nat) : check (l.take n) = 0 := by
  obtain ⟨h1, h2⟩ := check_0 h
  refine check_fine (by rw [List.length_take]; omega) fun i hi => ?_
  rw [List.length_take] at hi
  have g : ∀ k, k < n → (l.take n).getD k fz = l.getD k fz := fun k hk => by
    rw [List.getD_eq_getElem?_getD, List.getD_eq_getElem?_getD, List.getElem?_take_of_lt hk]
  obtain ⟨a, c⟩ := h2 i (by omega)
  refine ⟨by rw [g i (by omega)]; exact a, fun k hk => ?_⟩
  rw [g k (by omega), g i (by omega)]; exact c k hk
