/- Part 11 of the proof of what the last of these files says. -/
import Derived.Test.YtifnmbmijljhfaaPBc10
namespace Go.Proofs.Ytifnmbmijljhfaa.E.Hf
open Go
theorem Decode_ok (x : Value) (b : List UInt8) (n : Int) (w : World) (hx : RdE byteV w x b) (hl : b.length ≤ 140737488355328) (hn : inK .i64 n) : Calls Try.prog 12 [x, .int .i64 n].toArray w (Rt fun r w' => ∃ v rs, r = .tuple [v, .int .i64 (huffD b n).2].toArray ∧ SlE byteV 5 v (huffD b n).1 rs ∧ Mem w [] w' [rs]) := by
 have hM0 : Mem w [] w [] := Mem.nil w []
 simp only [inK] at hn
 refine calls_vc mixed Try.func12 rfl C12 (by simp [Try.ntmps12]) <| seq fun _ h1 => mv <| mv <| h1 _ _ <| seq fun _ h2 => seq fun _ h3 => mv <| bn rfl rfl <| mv <| splitP rfl (fun c4 => ?_) (fun c4 => ?_)
 ·refine gx rfl <| gx rfl <| pkT rfl <| h3 _ _ <| cndT rfl <| seq fun _ h5 => mv <| mv <| h5 _ _ <| ⟨(.tuple [.slice none 0 0, .int .i64 3].toArray), rfl, ⟨.slice none 0 0, [], by rw [huffD_arg (by omega)], by rw [huffD_arg (by omega)]; exact Sl.nil 1 5, hM0.keep (by simp)⟩⟩
 refine gmv rfl <| gbn rfl rfl rfl <| pkF rfl <| h3 _ _ <| cndP rfl (fun c6 => ?_) (fun c6 => ?_)
 ·refine seq fun _ h7 => mv <| mv <| h7 _ _ <| ⟨(.tuple [.slice none 0 0, .int .i64 3].toArray), rfl, ⟨.slice none 0 0, [], by rw [huffD_arg (by omega)], by rw [huffD_arg (by omega)]; exact Sl.nil 1 5, hM0.keep (by simp)⟩⟩
 refine h2 _ _ <| seq fun _ h8 => mv <| m_call (NewCursor_ok _ b w (hx.upd hM0.upd) (by first | omega | (simp; done) | (simp; omega))) rfl fun v9 w9 ⟨bc9, rs9, hr9, hc9, hm9⟩ => ?_
 have hM9 : Mem w [] w9 [rs9] := hM0.add hm9
 subst hr9
 refine mv <| h8 _ _ <| seq fun _ h10 => mv <| m_call (lengths_ok _ b rs9 w9 hc9 (hM9.res (i := 0) rfl) (by omega)) rfl fun v11 w11 ⟨y11, okq, L, aq, eq, r'11, rs11, hr11, hs11, hc11, hq, hez, hm11⟩ => ?_
 have hM11 : Mem w [] w11 [r'11, rs11] := hM9.stepAdd 0 rfl hm11
 subst hr11
 refine mv <| ext rfl rfl <| ext rfl rfl <| mv <| mv <| h10 _ _ <| seq fun _ h12 => seq fun _ h13 => mv <| stp (v := .bool (!okq)) (o_not rfl rfl) <| h13 _ _ <| cnd rfl (fun hkT => ?_) (fun hkF => ?_)
 ·refine seq fun _ h15 => mv <| mv <| h15 _ _ <| ⟨(.tuple [.slice none 0 0, .int .i64 40].toArray), rfl, ?_⟩
  have hok : okq = false := by simpa using hkT
  rw [hok] at hq
  exact ⟨.slice none 0 0, [], by rw [huffD_hdr (by omega) hq.symm], by rw [huffD_hdr (by omega) hq.symm]; exact Sl.nil 1 5, hM11.keep (by simp)⟩
 refine h12 _ _ <| seq fun _ h16 => ?_
 have hok : okq = true := by simpa using hkF
 rw [if_pos hok] at hq
 have hqs := hq.symm
 have hkk := hdr_ok hqs
 have htk : cTk b aq eq (restV b aq eq) = b.drop aq := by rw [hez hok]; exact take_rest hkk.2.2
 refine mv <| mv <| mv <| m_call (Rest_ok _ b aq eq r'11 w11 hc11 (hM11.res (i := 0) rfl) (by first | omega | (simp; done) | (simp; omega))) rfl fun v17 w17 ⟨hr17, hm17⟩ => ?_
 have hM17 : Mem w [] w17 [r'11, rs11] := hM11.step 0 rfl hm17
 subst hr17
 refine m_call (Take_ok _ b aq eq (restV b aq eq) r'11 w17 hc11 (hM17.res (i := 0) rfl) (by first | omega | (simp; done) | (simp; omega))) rfl fun v18 w18 ⟨r'18, rs18, hc18, hs18, hm18⟩ => ?_
 have hM18 : Mem w [] w18 [r'18, rs11, rs18] := hM17.stepAdd 0 rfl hm18
 refine mv <| m_call (words_okD _ _ b _ L aq n w18 (hs11.rd hM18 (i := 1) rfl) (hs18.rd hM18 (i := 2) rfl) htk (by omega) (by omega) (by omega) (by omega)) rfl fun v19 w19 ⟨y19, okw, T, rs19, hr19, hs19, hw, hm19⟩ => ?_
 have hM19 : Mem w [] w19 [r'18, rs11, rs18, rs19] := hM18.add hm19
 subst hr19
 refine mv <| ext rfl rfl <| ext rfl rfl <| mv <| mv <| h16 _ _ <| seq fun _ h20 => seq fun _ h21 => mv <| stp (v := .bool (!okw)) (o_not rfl rfl) <| h21 _ _ <| cnd rfl (fun hwT => ?_) (fun hwF => ?_)
 ·refine seq fun _ h23 => mv <| mv <| h23 _ _ <| ⟨(.tuple [.slice none 0 0, .int .i64 40].toArray), rfl, ?_⟩
  have hok2 : okw = false := by simpa using hwT
  rw [hok2] at hw
  exact ⟨.slice none 0 0, [], by rw [huffD_none (by omega) hqs hw.symm], by rw [huffD_none (by omega) hqs hw.symm]; exact Sl.nil 1 5, hM19.keep (by simp)⟩
 refine h20 _ _ <| seq fun _ h24 => mv <| mv <| mv <| h24 _ _ <| ⟨(.tuple [y19, .int .i64 0].toArray), rfl, ?_⟩
 have hok2 : okw = true := by simpa using hwF
 rw [hok2, if_pos rfl] at hw
 have hr := huffD_some (n := n) (by omega) hqs hw.symm
 rw [hr]
 exact ⟨_, _, rfl, hs19, hM19.keep (by simp only [List.flatten_cons, List.flatten_nil, List.append_nil, ← List.append_assoc]; exact List.sublist_append_right _ _)⟩
end Go.Proofs.Ytifnmbmijljhfaa.E.Hf
namespace Go.Proofs.Ytifnmbmijljhfaa.E
open Go
theorem decF_len (b : List UInt8) (n : Int) : (Lz.decF b n).1.length ≤ 65536 := by
 by_cases h : n < 0 ∨ 65536 < n
 ·rw [Lz.decF_arg h]; simp
 cases hr : Lz.rdF b n.toNat with
 | none => rw [Lz.decF_none h hr]; simp
 | some ps =>
  have e := Lz.exp_rd (by omega) hr
  rw [Lz.decF_some h hr]
  show (Lz.textP ps).length ≤ _
  rw [Lz.textP_len]
  have := e.2.1
  omega
open Hf in
theorem huffD_len (b : List UInt8) (n : Int) : (huffD b n).1.length ≤ 65536 := by
 unfold huffD
 split
 ·simp
 split
 ·simp
 rename_i l a _
 split
 ·simp
 rename_i t h
 have hw : t.length ≤ 65536 := by
  unfold wordsF at h
  split at h
  ·cases h
  split at h
  ·cases h
  rename_i t' e hd
  split at h
  ·injection h with h; subst h
   have := decA_bd hd (by omega); omega
  cases h
 exact hw
def dcode (fl : Nat) (p : List UInt8) (n : Int) : List UInt8 × Int := if fl = 0 then (if (p.length : Int) = n then (p, 0) else ([], 60)) else if fl = 1 then Lz.decF p n else Hf.huffD p n
def textF (tile : List UInt8) (n : Int) : Option (List UInt8) := if (openF tile).2 = 0 ∧ 0 < (openF tile).1.length ∧ ((openF tile).1.getD ((openF tile).1.length - 1) 0).toNat < 3 ∧ n ≤ 64 * (((openF tile).1.length - 1 : Nat) : Int) ∧ (dcode ((openF tile).1.getD ((openF tile).1.length - 1) 0).toNat ((openF tile).1.take ((openF tile).1.length - 1)) n).2 = 0 then some (dcode ((openF tile).1.getD ((openF tile).1.length - 1) 0).toNat ((openF tile).1.take ((openF tile).1.length - 1)) n).1 else none
theorem txt {tile T : List UInt8} {n : Int} {fl : Nat} (h1 : (openF tile).2 = 0) (h2 : 0 < (openF tile).1.length) (hfl : fl = ((openF tile).1.getD ((openF tile).1.length - 1) 0).toNat) (h3 : fl < 3) (h4 : n ≤ 64 * (((openF tile).1.length - 1 : Nat) : Int)) (h5 : dcode fl ((openF tile).1.take ((openF tile).1.length - 1)) n = (T, 0)) : textF tile n = some T := by
 unfold textF
 rw [← hfl, h5, if_pos ⟨h1, h2, h3, h4, rfl⟩]
theorem txt_no {tile T : List UInt8} {n : Int} {fl : Nat} (hfl : fl = ((openF tile).1.getD ((openF tile).1.length - 1) 0).toNat) (h : ¬ (0 < (openF tile).1.length ∧ fl < 3 ∧ n ≤ 64 * (((openF tile).1.length - 1 : Nat) : Int) ∧ (dcode fl ((openF tile).1.take ((openF tile).1.length - 1)) n).2 = 0)) : ¬ textF tile n = some T := by
 unfold textF
 rw [← hfl, if_neg (fun q => h q.2)]
 exact fun q => by cases q
theorem dc_0 {p : List UInt8} {n : Int} (h : (p.length : Int) = n) : dcode 0 p n = (p, 0) := by unfold dcode; rw [if_pos rfl, if_pos h]
theorem dc_1 {p : List UInt8} {n : Int} (h : (Lz.decF p n).2 = 0) : dcode 1 p n = ((Lz.decF p n).1, 0) := by unfold dcode; rw [if_neg (by decide), if_pos rfl, ← h]
theorem dc_2 {p : List UInt8} {n : Int} (h : (Hf.huffD p n).2 = 0) : dcode 2 p n = ((Hf.huffD p n).1, 0) := by unfold dcode; rw [if_neg (by decide), if_neg (by decide), ← h]
theorem dn_0 {p : List UInt8} {n : Int} (h : ¬ (p.length : Int) = n) : ¬ (dcode 0 p n).2 = 0 := by unfold dcode; rw [if_pos rfl, if_neg h]; decide
theorem dn_1 {p : List UInt8} {n : Int} (h : ¬ (Lz.decF p n).2 = 0) : ¬ (dcode 1 p n).2 = 0 := by unfold dcode; rw [if_neg (by decide), if_pos rfl]; exact h
theorem dn_2 {p : List UInt8} {n : Int} (h : ¬ (Hf.huffD p n).2 = 0) : ¬ (dcode 2 p n).2 = 0 := by unfold dcode; rw [if_neg (by decide), if_neg (by decide)]; exact h
def OpnQ (tile : List UInt8) (n : Int) (r : Value) (rs : List Ent) : Prop :=
 (∃ e, r = .tuple [.pointer none, .int .i64 e].toArray ∧ ((e = 3 ∧ (n < 1 ∨ 65536 < n)) ∨ ((1 ≤ n ∧ n ≤ 65536) ∧ ¬ (openF tile).2 = 0 ∧ e = (openF tile).2) ∨ ((1 ≤ n ∧ n ≤ 65536) ∧ (openF tile).2 = 0 ∧ e = 60 ∧ ∀ t, textF tile n = some t → ∀ R es, ¬ Blk R es t))) ∨
 (∃ br R es t, r = .tuple [.pointer (some ⟨br, 0, none⟩), .int .i64 0].toArray ∧ (1 ≤ n ∧ n ≤ 65536) ∧ textF tile n = some t ∧ Blk R es t ∧ RdrS br R es rs ∧ ∀ R' es', Blk R' es' t → R' = R ∧ es' = es)
theorem BOpen_ok (x : Value) (tile : List UInt8) (n : Int) (w : World) (hx : RdE byteV w x tile) (hl : tile.length ≤ 140737488355328) (hn : inK .i64 n) : Calls Try.prog 9 [x, .int .i64 n].toArray w (Rt fun r w' => ∃ rs, OpnQ tile n r rs ∧ Mem w [] w' [rs]) := by
 have hM0 : Mem w [] w [] := Mem.nil w []
 simp only [inK] at hn
 refine calls_vc mixed Try.func9 rfl C9 (by simp [Try.ntmps9]) <| seq fun _ h1 => stp (v := .pointer none) (o_mv rfl) <| stp (v := .int .i64 0) (o_mv rfl) <| h1 _ _ <| seq fun _ h2 => seq fun _ h3 => stp (v := .int .i64 n) (o_mv rfl) <| stp (v := .bool (decide (n < 1))) (o_bin rfl rfl rfl) <| stp (v := .bool (decide (n < 1))) (o_mv rfl) <| splitP rfl (fun c4 => ?_) (fun c4 => ?_)
 ·refine gx rfl <| gx rfl <| stp (v := .bool true) (o_pickT rfl rfl) <| h3 _ _ <| cndT rfl <| seq fun _ h5 => stp (v := .pointer none) (o_mv rfl) <| stp (v := .int .i64 3) (o_mv rfl) <| h5 _ _ <| ⟨(.tuple [.pointer none, .int .i64 3].toArray), rfl, ⟨[], .inl ⟨_, rfl, .inl ⟨rfl, by omega⟩⟩, hM0.keep (by simp)⟩⟩
 refine stg rfl (v := .int .i64 n) (o_mv rfl) <| stg rfl (v := .bool (decide ((65536 : Int) < n))) (o_bin rfl rfl rfl) <| stp (v := .bool (decide ((65536 : Int) < n))) (o_pickF rfl rfl) <| h3 _ _ <| cndP rfl (fun c6 => ?_) (fun c6 => ?_)
 ·refine seq fun _ h7 => stp (v := .pointer none) (o_mv rfl) <| stp (v := .int .i64 3) (o_mv rfl) <| h7 _ _ <| ⟨(.tuple [.pointer none, .int .i64 3].toArray), rfl, ⟨[], .inl ⟨_, rfl, .inl ⟨rfl, by omega⟩⟩, hM0.keep (by simp)⟩⟩
 refine h2 _ _ <| seq fun _ h8 => stp (v := x) (o_mv rfl) <| m_call (Open_ok _ tile w (hx.upd hM0.upd) (by first | omega | (simp; done) | (simp; omega))) rfl fun v9 w9 ⟨v9_, rs9, hr9, hs9, hm9⟩ => ?_
 have hM9 : Mem w [] w9 [rs9] := hM0.add hm9
 subst hr9
 have hol9 := openF_len tile
 refine stp (v := .tuple [v9_, .int .i64 ((openF tile).2)].toArray) (o_mv rfl) <| stp (v := v9_) (o_ext rfl rfl) <| stp (v := .int .i64 ((openF tile).2)) (o_ext rfl rfl) <| stp (v := v9_) (o_mv rfl) <| stp (v := .int .i64 ((openF tile).2)) (o_mv rfl) <| h8 _ _ <| seq fun _ h10 => seq fun _ h11 => stp (v := .int .i64 ((openF tile).2)) (o_mv rfl) <| stp (v := .bool (decide (¬ ((openF tile).2) = 0))) (o_bin rfl rfl v_neq) <| h11 _ _ <| cndP rfl (fun c12 => ?_) (fun c12 => ?_)
 ·refine seq fun _ h13 => stp (v := .int .i64 ((openF tile).2)) (o_mv rfl) <| stp (v := .pointer none) (o_mv rfl) <| stp (v := .int .i64 ((openF tile).2)) (o_mv rfl) <| h13 _ _ <| ⟨(.tuple [.pointer none, .int .i64 ((openF tile).2)].toArray), rfl, ⟨[], .inl ⟨_, rfl, .inr (.inl ⟨by omega, by omega, rfl⟩)⟩, hM9.keep (by simp)⟩⟩
 refine h10 _ _ <| seq fun _ h14 => seq fun _ h15 => stp (v := v9_) (o_mv rfl) <| stp (v := .int .i64 (((openF tile).1).length : Nat)) (o_lenR (hs9.rd hM9 (i := 0) rfl) rfl rfl) <| stp (v := .bool (decide (((((openF tile).1).length : Nat) : Int) = 0))) (o_bin rfl rfl rfl) <| h15 _ _ <| cndP rfl (fun c16 => ?_) (fun c16 => ?_)
 ·refine seq fun _ h17 => stp (v := .pointer none) (o_mv rfl) <| stp (v := .int .i64 60) (o_mv rfl) <| h17 _ _ <| ⟨(.tuple [.pointer none, .int .i64 60].toArray), rfl, ⟨[], .inl ⟨_, rfl, .inr (.inr ⟨by omega, by omega, rfl, fun t ht => absurd ht (txt_no rfl (fun q => by have q1 := q.1; have q2 := q.2.1; have q3 := q.2.2.1; have q4 := q.2.2.2; omega))⟩)⟩, hM9.keep (by simp)⟩⟩
 refine h14 _ _ <| seq fun _ h18 => ?_
 intro wd e1 e2 e3 e4
 have hd := Upd.same e1 e2 e3 e4 []
 have hM19 := hM9.pure hd
 clear e1 e2 e3 e4
 refine ⟨none, ?_⟩
 show vd _ _ _ _ _ _ _
 refine dq (v := v9_) (o_mv rfl) <| dq (v := v9_) (o_mv rfl) <| dq (v := .int .i64 (((openF tile).1).length : Nat)) (o_lenR (hs9.rd hM19 (i := 0) rfl) rfl rfl) <| dq (v := .int .i64 ((((openF tile).1).length : Nat) - 1)) (o_bin rfl rfl (v_sub64 (by omega))) <| dqp (m_slcO ((openF tile).1.length - 1) (hs9) rfl (by omega) (⟨_, v_int (by omega)⟩) trivial fun u20 hu20 => ?_)
 show vd _ _ _ _ _ _ _
 refine dq (v := v9_) (o_mv rfl) <| dq (v := v9_) (o_mv rfl) <| dq (v := .int .i64 (((openF tile).1).length : Nat)) (o_lenR (hs9.rd hM19 (i := 0) rfl) rfl rfl) <| dq (v := .int .i64 ((((openF tile).1).length : Nat) - 1)) (o_bin rfl rfl (v_sub64 (by omega))) <| dqp (m_idxE 0 (j := ((openF tile).1.length - 1)) (hs9.rd hM19 (i := 0) rfl) rfl (v_int (by omega)) (by omega) fun b21 o21 hp21 => ?_)
 show vd _ _ _ _ _ _ _
 refine dq (v := u20) (o_mv rfl) <| dl (ld (v := byteV (((openF tile).1).getD ((openF tile).1.length - 1) 0)) rfl (hp21) <| ⟨rfl, ?_⟩)
 have htl : ((openF tile).1.take ((openF tile).1.length - 1)).length = (openF tile).1.length - 1 := by rw [List.length_take]; omega
 obtain ⟨fl, hfl⟩ : ∃ f, f = ((openF tile).1.getD ((openF tile).1.length - 1) 0).toNat := ⟨_, rfl⟩
 refine dq (v := .int .i64 (fl : Nat)) (o_conv rfl (by rw [hfl]; exact v_byteTo (by decide))) <| dq (v := .int .i64 (fl : Nat)) (o_mv rfl) <| h18 _ _ <| seq fun _ h22 => seq fun _ h23 => stp (v := .int .i64 (fl : Nat)) (o_mv rfl) <| m_call (codes_ok wd) rfl fun v24 w24 ⟨hr24, hu24⟩ => ?_
 have hM24 : Mem w [] w24 [rs9] := hM19.pure hu24
 subst hr24
 refine stp (v := .int .i64 3) (o_mv rfl) <| stp (v := .bool (decide ((3 : Int) ≤ ((fl : Nat) : Int)))) (o_bin rfl rfl rfl) <| stp (v := .bool (decide ((3 : Int) ≤ ((fl : Nat) : Int)))) (o_mv rfl) <| splitP rfl (fun c25 => ?_) (fun c25 => ?_)
 ·refine gx rfl <| gx rfl <| gx rfl <| gx rfl <| gx rfl <| stp (v := .bool true) (o_pickT rfl rfl) <| h23 _ _ <| cndT rfl <| seq fun _ h26 => stp (v := .pointer none) (o_mv rfl) <| stp (v := .int .i64 60) (o_mv rfl) <| h26 _ _ <| ⟨(.tuple [.pointer none, .int .i64 60].toArray), rfl, ⟨[], .inl ⟨_, rfl, .inr (.inr ⟨by omega, by omega, rfl, fun t ht => absurd ht (txt_no hfl (fun q => by have q1 := q.1; have q2 := q.2.1; have q3 := q.2.2.1; have q4 := q.2.2.2; omega))⟩)⟩, hM24.keep (by simp)⟩⟩
 refine stg rfl (v := u20) (o_mv rfl) <| stg rfl (v := .int .i64 ((((openF tile).1).take ((openF tile).1.length - 1)).length : Nat)) (o_lenR (hu20.rd hM24 (i := 0) rfl) rfl rfl) <| stg rfl (v := .int .i64 (64 * ((((openF tile).1).take ((openF tile).1.length - 1)).length : Nat))) (o_bin rfl rfl (v_mul64 (by omega))) <| stg rfl (v := .int .i64 n) (o_mv rfl) <| stg rfl (v := .bool (decide ((64 * ((((openF tile).1).take ((openF tile).1.length - 1)).length : Nat) : Int) < n))) (o_bin rfl rfl rfl) <| stp (v := .bool (decide ((64 * ((((openF tile).1).take ((openF tile).1.length - 1)).length : Nat) : Int) < n))) (o_pickF rfl rfl) <| h23 _ _ <| cndP rfl (fun c27 => ?_) (fun c27 => ?_)
 ·refine seq fun _ h28 => stp (v := .pointer none) (o_mv rfl) <| stp (v := .int .i64 60) (o_mv rfl) <| h28 _ _ <| ⟨(.tuple [.pointer none, .int .i64 60].toArray), rfl, ⟨[], .inl ⟨_, rfl, .inr (.inr ⟨by omega, by omega, rfl, fun t ht => absurd ht (txt_no hfl (fun q => by have q1 := q.1; have q2 := q.2.1; have q3 := q.2.2.1; have q4 := q.2.2.2; omega))⟩)⟩, hM24.keep (by simp)⟩⟩
 refine h22 _ _ <| seq fun _ h29 => m_call (codes_ok w24) rfl fun v30 w30 ⟨hr30, hu30⟩ => ?_
 have hM30 : Mem w [] w30 [rs9] := hM24.pure hu30
 subst hr30
 rcases (by omega : (fl = 0 ∧ (((openF tile).1.take ((openF tile).1.length - 1)).length : Int) = n) ∨ (fl = 0 ∧ ¬ (((openF tile).1.take ((openF tile).1.length - 1)).length : Int) = n) ∨ fl = 1 ∨ fl = 2) with ⟨rfl, hq⟩ | ⟨rfl, hq⟩ | rfl | rfl
 ·refine stp (v := .int .i64 (0 : Nat)) (o_mv rfl) <| stp (v := .agg ([.func (.func 50) [].toArray [].toArray, .func (.func 51) [].toArray [].toArray] : List Value).toArray) (o_idxv rfl rfl (by omega) rfl) <| stp (v := .func (.func 51) [].toArray [].toArray) (o_fld rfl rfl) <| stp (v := u20) (o_mv rfl) <| stp (v := .int .i64 n) (o_mv rfl) <| m_callv rfl (by kernel_rfl) (code2_ok u20 ((openF tile).1.take ((openF tile).1.length - 1)) n w30 (hu20.rd hM30 (i := 0) rfl) (by first | omega | (simp; done) | (simp; omega))) rfl fun v31 w31 ⟨hr31, hu31⟩ => ?_
  have hM31 : Mem w [] w31 [rs9] := hM30.pure hu31
  rw [if_pos hq, if_pos hq] at hr31
  subst hr31
  refine stp (v := .tuple [u20, .int .i64 0].toArray) (o_mv rfl) <| stp (v := u20) (o_ext rfl rfl) <| stp (v := .int .i64 0) (o_ext rfl rfl) <| stp (v := u20) (o_mv rfl) <| stp (v := .int .i64 0) (o_mv rfl) <| h29 _ _ <| seq fun _ h32 => seq fun _ h33 => stp (v := .int .i64 0) (o_mv rfl) <| stp (v := .bool false) (o_bin rfl rfl v_neF) <| h33 _ _ <| cndF rfl <| h32 _ _ <| seq fun _ h34 => ?_
  refine seq fun _ h35 => stp (v := u20) (o_mv rfl) <| m_call (parsed_ok _ (((openF tile).1).take ((openF tile).1.length - 1)) w31 (hu20.rd hM31 (i := 0) rfl) (by first | omega | (rw [htl]; omega))) rfl fun v36 w36 ⟨rsq, hmq, hpq⟩ => ?_
  have hM36 : Mem w [] w36 [rs9, rsq] := hM31.add hmq
  refine stp (v := v36) (o_mv rfl) <| h35 _ _ <| seq fun _ h37 => ?_
  rcases hpq with ⟨rfl, hno⟩ | ⟨br, R, es, rfl, hblk, hrd, hun⟩
  ·refine stp (v := .pointer none) (o_mv rfl) <| stp (v := .bool false) (o_isnil rfl rfl) <| h37 _ _ <| cndF rfl <| h34 _ _ <| seq fun _ h38 => stp (v := .pointer none) (o_mv rfl) <| stp (v := .int .i64 60) (o_mv rfl) <| h38 _ _ <| ⟨(.tuple [.pointer none, .int .i64 60].toArray), rfl, ⟨[], .inl ⟨_, rfl, .inr (.inr ⟨by omega, by omega, rfl, fun t ht => by rw [(txt (by omega) (by omega) hfl (by omega) (by omega) (dc_0 hq))] at ht; cases ht; exact hno⟩)⟩, hM36.keep (by simp)⟩⟩
  refine stp (v := .pointer (some ⟨br, 0, none⟩)) (o_mv rfl) <| stp (v := .bool true) (o_isnil rfl rfl) <| h37 _ _ <| cndT rfl <| seq fun _ h39 => stp (v := .pointer (some ⟨br, 0, none⟩)) (o_mv rfl) <| stp (v := .pointer (some ⟨br, 0, none⟩)) (o_mv rfl) <| stp (v := .int .i64 0) (o_mv rfl) <| h39 _ _ <| ⟨(.tuple [.pointer (some ⟨br, 0, none⟩), .int .i64 0].toArray), rfl, ⟨_, .inr ⟨br, R, es, _, rfl, by omega, (txt (by omega) (by omega) hfl (by omega) (by omega) (dc_0 hq)), hblk, hrd, hun⟩, hM36.keep (by simp; repeat first | exact List.Sublist.refl _ | refine List.Sublist.trans ?_ (List.sublist_append_right _ _))⟩⟩
 ·refine stp (v := .int .i64 (0 : Nat)) (o_mv rfl) <| stp (v := .agg ([.func (.func 50) [].toArray [].toArray, .func (.func 51) [].toArray [].toArray] : List Value).toArray) (o_idxv rfl rfl (by omega) rfl) <| stp (v := .func (.func 51) [].toArray [].toArray) (o_fld rfl rfl) <| stp (v := u20) (o_mv rfl) <| stp (v := .int .i64 n) (o_mv rfl) <| m_callv rfl (by kernel_rfl) (code2_ok u20 ((openF tile).1.take ((openF tile).1.length - 1)) n w30 (hu20.rd hM30 (i := 0) rfl) (by first | omega | (simp; done) | (simp; omega))) rfl fun v40 w40 ⟨hr40, hu40⟩ => ?_
  have hM40 : Mem w [] w40 [rs9] := hM30.pure hu40
  rw [if_neg hq, if_neg hq] at hr40
  subst hr40
  refine stp (v := .tuple [.slice none 0 0, .int .i64 60].toArray) (o_mv rfl) <| stp (v := .slice none 0 0) (o_ext rfl rfl) <| stp (v := .int .i64 60) (o_ext rfl rfl) <| stp (v := .slice none 0 0) (o_mv rfl) <| stp (v := .int .i64 60) (o_mv rfl) <| h29 _ _ <| seq fun _ h41 => seq fun _ h42 => stp (v := .int .i64 60) (o_mv rfl) <| stp (v := .bool (decide (¬ (60 : Int) = 0))) (o_bin rfl rfl v_neq) <| h42 _ _ <| cndP rfl (fun c43 => ?_) (fun c43 => (c43 (by omega)).elim)
  refine seq fun _ h44 => stp (v := .pointer none) (o_mv rfl) <| stp (v := .int .i64 60) (o_mv rfl) <| h44 _ _ <| ⟨(.tuple [.pointer none, .int .i64 60].toArray), rfl, ⟨[], .inl ⟨_, rfl, .inr (.inr ⟨by omega, by omega, rfl, fun t ht => absurd ht (txt_no hfl (fun q => by have q1 := q.1; have q2 := q.2.1; have q3 := q.2.2.1; have q4 := q.2.2.2; exact dn_0 hq q4))⟩)⟩, hM40.keep (by simp)⟩⟩
 ·refine stp (v := .int .i64 (1 : Nat)) (o_mv rfl) <| stp (v := .agg ([.func (.func 13) [].toArray [].toArray, .func (.func 11) [].toArray [].toArray] : List Value).toArray) (o_idxv rfl rfl (by omega) rfl) <| stp (v := .func (.func 11) [].toArray [].toArray) (o_fld rfl rfl) <| stp (v := u20) (o_mv rfl) <| stp (v := .int .i64 n) (o_mv rfl) <| m_callv rfl (by kernel_rfl) (Lz.Decode_ok _ ((openF tile).1.take ((openF tile).1.length - 1)) n w30 (hu20.rd hM30 (i := 0) rfl) (by first | omega | (simp; done) | (simp; omega)) (by simp only [inK]; omega)) rfl fun v45 w45 ⟨y45, rs45, hr45, hs45, hm45⟩ => ?_
  have hM45 : Mem w [] w45 [rs9, rs45] := hM30.add hm45
  subst hr45
  have hcl45 := decF_len ((openF tile).1.take ((openF tile).1.length - 1)) n
  refine stp (v := .tuple [y45, .int .i64 ((Lz.decF ((openF tile).1.take ((openF tile).1.length - 1)) n).2)].toArray) (o_mv rfl) <| stp (v := y45) (o_ext rfl rfl) <| stp (v := .int .i64 ((Lz.decF ((openF tile).1.take ((openF tile).1.length - 1)) n).2)) (o_ext rfl rfl) <| stp (v := y45) (o_mv rfl) <| stp (v := .int .i64 ((Lz.decF ((openF tile).1.take ((openF tile).1.length - 1)) n).2)) (o_mv rfl) <| h29 _ _ <| seq fun _ h46 => seq fun _ h47 => stp (v := .int .i64 ((Lz.decF ((openF tile).1.take ((openF tile).1.length - 1)) n).2)) (o_mv rfl) <| stp (v := .bool (decide (¬ ((Lz.decF ((openF tile).1.take ((openF tile).1.length - 1)) n).2) = 0))) (o_bin rfl rfl v_neq) <| h47 _ _ <| cndP rfl (fun c48 => ?_) (fun c48 => ?_)
  ·refine seq fun _ h49 => stp (v := .pointer none) (o_mv rfl) <| stp (v := .int .i64 60) (o_mv rfl) <| h49 _ _ <| ⟨(.tuple [.pointer none, .int .i64 60].toArray), rfl, ⟨[], .inl ⟨_, rfl, .inr (.inr ⟨by omega, by omega, rfl, fun t ht => absurd ht (txt_no hfl (fun q => by have q1 := q.1; have q2 := q.2.1; have q3 := q.2.2.1; have q4 := q.2.2.2; exact dn_1 (by omega) q4))⟩)⟩, hM45.keep (by simp)⟩⟩
  refine h46 _ _ <| seq fun _ h50 => seq fun _ h51 => stp (v := y45) (o_mv rfl) <| m_call (parsed_ok _ ((Lz.decF ((openF tile).1.take ((openF tile).1.length - 1)) n).1) w45 (hs45.rd hM45 (i := 1) rfl) (by first | omega | (rw [htl]; omega))) rfl fun v52 w52 ⟨rsq, hmq, hpq⟩ => ?_
  have hM52 : Mem w [] w52 [rs9, rs45, rsq] := hM45.add hmq
  refine stp (v := v52) (o_mv rfl) <| h51 _ _ <| seq fun _ h53 => ?_
  rcases hpq with ⟨rfl, hno⟩ | ⟨br, R, es, rfl, hblk, hrd, hun⟩
  ·refine stp (v := .pointer none) (o_mv rfl) <| stp (v := .bool false) (o_isnil rfl rfl) <| h53 _ _ <| cndF rfl <| h50 _ _ <| seq fun _ h54 => stp (v := .pointer none) (o_mv rfl) <| stp (v := .int .i64 60) (o_mv rfl) <| h54 _ _ <| ⟨(.tuple [.pointer none, .int .i64 60].toArray), rfl, ⟨[], .inl ⟨_, rfl, .inr (.inr ⟨by omega, by omega, rfl, fun t ht => by rw [(txt (by omega) (by omega) hfl (by omega) (by omega) (dc_1 (by omega)))] at ht; cases ht; exact hno⟩)⟩, hM52.keep (by simp)⟩⟩
  refine stp (v := .pointer (some ⟨br, 0, none⟩)) (o_mv rfl) <| stp (v := .bool true) (o_isnil rfl rfl) <| h53 _ _ <| cndT rfl <| seq fun _ h55 => stp (v := .pointer (some ⟨br, 0, none⟩)) (o_mv rfl) <| stp (v := .pointer (some ⟨br, 0, none⟩)) (o_mv rfl) <| stp (v := .int .i64 0) (o_mv rfl) <| h55 _ _ <| ⟨(.tuple [.pointer (some ⟨br, 0, none⟩), .int .i64 0].toArray), rfl, ⟨_, .inr ⟨br, R, es, _, rfl, by omega, (txt (by omega) (by omega) hfl (by omega) (by omega) (dc_1 (by omega))), hblk, hrd, hun⟩, hM52.keep (by simp; repeat first | exact List.Sublist.refl _ | refine List.Sublist.trans ?_ (List.sublist_append_right _ _))⟩⟩
 refine stp (v := .int .i64 (2 : Nat)) (o_mv rfl) <| stp (v := .agg ([.func (.func 14) [].toArray [].toArray, .func (.func 12) [].toArray [].toArray] : List Value).toArray) (o_idxv rfl rfl (by omega) rfl) <| stp (v := .func (.func 12) [].toArray [].toArray) (o_fld rfl rfl) <| stp (v := u20) (o_mv rfl) <| stp (v := .int .i64 n) (o_mv rfl) <| m_callv rfl (by kernel_rfl) (Hf.Decode_ok _ ((openF tile).1.take ((openF tile).1.length - 1)) n w30 (hu20.rd hM30 (i := 0) rfl) (by first | omega | (simp; done) | (simp; omega)) (by simp only [inK]; omega)) rfl fun v56 w56 ⟨y56, rs56, hr56, hs56, hm56⟩ => ?_
 have hM56 : Mem w [] w56 [rs9, rs56] := hM30.add hm56
 subst hr56
 have hcl56 := huffD_len ((openF tile).1.take ((openF tile).1.length - 1)) n
 refine stp (v := .tuple [y56, .int .i64 ((Hf.huffD ((openF tile).1.take ((openF tile).1.length - 1)) n).2)].toArray) (o_mv rfl) <| stp (v := y56) (o_ext rfl rfl) <| stp (v := .int .i64 ((Hf.huffD ((openF tile).1.take ((openF tile).1.length - 1)) n).2)) (o_ext rfl rfl) <| stp (v := y56) (o_mv rfl) <| stp (v := .int .i64 ((Hf.huffD ((openF tile).1.take ((openF tile).1.length - 1)) n).2)) (o_mv rfl) <| h29 _ _ <| seq fun _ h57 => seq fun _ h58 => stp (v := .int .i64 ((Hf.huffD ((openF tile).1.take ((openF tile).1.length - 1)) n).2)) (o_mv rfl) <| stp (v := .bool (decide (¬ ((Hf.huffD ((openF tile).1.take ((openF tile).1.length - 1)) n).2) = 0))) (o_bin rfl rfl v_neq) <| h58 _ _ <| cndP rfl (fun c59 => ?_) (fun c59 => ?_)
 ·refine seq fun _ h60 => stp (v := .pointer none) (o_mv rfl) <| stp (v := .int .i64 60) (o_mv rfl) <| h60 _ _ <| ⟨(.tuple [.pointer none, .int .i64 60].toArray), rfl, ⟨[], .inl ⟨_, rfl, .inr (.inr ⟨by omega, by omega, rfl, fun t ht => absurd ht (txt_no hfl (fun q => by have q1 := q.1; have q2 := q.2.1; have q3 := q.2.2.1; have q4 := q.2.2.2; exact dn_2 (by omega) q4))⟩)⟩, hM56.keep (by simp)⟩⟩
 refine h57 _ _ <| seq fun _ h61 => seq fun _ h62 => stp (v := y56) (o_mv rfl) <| m_call (parsed_ok _ ((Hf.huffD ((openF tile).1.take ((openF tile).1.length - 1)) n).1) w56 (hs56.rd hM56 (i := 1) rfl) (by first | omega | (rw [htl]; omega))) rfl fun v63 w63 ⟨rsq, hmq, hpq⟩ => ?_
 have hM63 : Mem w [] w63 [rs9, rs56, rsq] := hM56.add hmq
 refine stp (v := v63) (o_mv rfl) <| h62 _ _ <| seq fun _ h64 => ?_
 rcases hpq with ⟨rfl, hno⟩ | ⟨br, R, es, rfl, hblk, hrd, hun⟩
 ·refine stp (v := .pointer none) (o_mv rfl) <| stp (v := .bool false) (o_isnil rfl rfl) <| h64 _ _ <| cndF rfl <| h61 _ _ <| seq fun _ h65 => stp (v := .pointer none) (o_mv rfl) <| stp (v := .int .i64 60) (o_mv rfl) <| h65 _ _ <| ⟨(.tuple [.pointer none, .int .i64 60].toArray), rfl, ⟨[], .inl ⟨_, rfl, .inr (.inr ⟨by omega, by omega, rfl, fun t ht => by rw [(txt (by omega) (by omega) hfl (by omega) (by omega) (dc_2 (by omega)))] at ht; cases ht; exact hno⟩)⟩, hM63.keep (by simp)⟩⟩
 refine stp (v := .pointer (some ⟨br, 0, none⟩)) (o_mv rfl) <| stp (v := .bool true) (o_isnil rfl rfl) <| h64 _ _ <| cndT rfl <| seq fun _ h66 => stp (v := .pointer (some ⟨br, 0, none⟩)) (o_mv rfl) <| stp (v := .pointer (some ⟨br, 0, none⟩)) (o_mv rfl) <| stp (v := .int .i64 0) (o_mv rfl) <| h66 _ _ <| ⟨(.tuple [.pointer (some ⟨br, 0, none⟩), .int .i64 0].toArray), rfl, ⟨_, .inr ⟨br, R, es, _, rfl, by omega, (txt (by omega) (by omega) hfl (by omega) (by omega) (dc_2 (by omega))), hblk, hrd, hun⟩, hM63.keep (by simp; repeat first | exact List.Sublist.refl _ | refine List.Sublist.trans ?_ (List.sublist_append_right _ _))⟩⟩
end Go.Proofs.Ytifnmbmijljhfaa.E
namespace Go.Proofs.Ytifnmbmijljhfaa.E
open Go
theorem add_fit {R M : Nat} {tk : List Pr2} {k v : List UInt8} (hR : 1 ≤ R ∧ R ≤ 64) (hM : M ≤ 65536) (ho : okB tk) (h : addE R M (bldF R tk).raw (bldF R tk).last (bldF R tk).n k v = 0) : okB (tk ++ [(k, v)]) ∧ szB R (bldF R (tk ++ [(k, v)])).raw.length (tk.length + 1) ≤ 65536 := by
 have hn := bld_n R tk
 have hla := bld_last R tk
 unfold addE at h
 split at h
 ·omega
 rename_i c1
 split at h
 ·omega
 rename_i c2
 split at h
 ·omega
 rename_i c3
 have hraw : (bldF R (tk ++ [(k, v)])).raw = (bldF R tk).raw ++ wrB (ahd R (bldF R tk).n (bldF R tk).last) k v := by rw [bld_snoc]; rfl
 constructor
 ·intro j hj
  rw [List.length_append, List.length_singleton] at hj
  by_cases hje : j = tk.length
  ·subst hje
   rw [getD_snoc]
   refine ⟨by dsimp only; omega, by dsimp only; omega, fun h0 => ?_⟩
   rw [getD_lt _ _ _ (by omega)]
   show 0 ≤ cmp k (tk.getD (tk.length - 1) ([], [])).1
   have : (tk.getD (tk.length - 1) ([], [])).1 = (bldF R tk).last := hla.symm
   rw [this]; omega
  have := ho j (by omega)
  rw [getD_lt _ _ _ (by omega)]
  refine ⟨this.1, this.2.1, fun h0 => ?_⟩
  rw [getD_lt _ _ _ (by omega)]; exact this.2.2 h0
 have hw := (wrB_len (a := ahd R (bldF R tk).n (bldF R tk).last) (k := k) (v := v) (by omega) (by omega)).1
 by_cases h0 : 0 < tk.length
 ·rw [hraw, List.length_append, ← hn]; omega
 have ht : tk = [] := List.eq_nil_of_length_eq_zero (by omega)
 subst ht
 rw [hraw, List.length_append]
 show szB R (0 + _) 1 ≤ _
 unfold szB
 rw [if_neg (by omega), show (1 + R - 1) / R = 1 by rw [show 1 + R - 1 = R by omega]; exact Nat.div_self (by omega)]
 omega
theorem raw_sz {R : Nat} {tk : List Pr2} (hR : 1 ≤ R) (h0 : 0 < tk.length) : (rawB R (bldF R tk).raw (bldF R tk).st tk.length).length = szB R (bldF R tk).raw.length tk.length := by
 have hst := bld_st R hR tk
 unfold rawB szB
 rw [List.length_append, List.length_append, List.length_append, fix4_len, fix4_len, starts_len, hst, if_neg (by omega)]
 unfold cdiv
 omega
theorem st_bd (R : Nat) : ∀ tk, ∀ j, j < (bldF R tk).st.length → 0 ≤ (bldF R tk).st.getD j 0 ∧ (bldF R tk).st.getD j 0 ≤ ((bldF R tk).raw.length : Nat) := rev_ind (fun j hj => absurd hj (Nat.not_lt_zero _)) fun tk x ih j hj => by
 rw [bld_snoc] at hj ⊢
 have hr : ((bldF R tk).add R x).raw.length = (bldF R tk).raw.length + (wrB (ahd R (bldF R tk).n (bldF R tk).last) x.1 x.2).length := by show ((bldF R tk).raw ++ _).length = _; rw [List.length_append]
 rw [hr]
 have key : ((bldF R tk).add R x).st = if (bldF R tk).n % R = 0 then (bldF R tk).st ++ [((bldF R tk).raw.length : Int)] else (bldF R tk).st := rfl
 rw [key] at hj ⊢
 split at hj
 ·rename_i c
  rw [if_pos c]
  rw [List.length_append, List.length_singleton] at hj
  by_cases hje : j = (bldF R tk).st.length
  ·subst hje; rw [getD_snoc]; omega
  rw [getD_lt _ _ _ (by omega)]; have := ih j (by omega); omega
 rename_i c
 rw [if_neg c]; have := ih j hj; omega
theorem mod_ok (x lo hi : Int) (hx : inK .i64 x) (hlo : 0 ≤ lo ∧ lo ≤ hi ∧ hi ≤ 1125899906842624) (w : World) : Calls Try.prog 8 [.int .i64 x, .int .i64 lo, .int .i64 hi].toArray w (Rt fun r w' => ∃ m : Int, r = .int .i64 m ∧ (lo ≤ m ∧ m ≤ hi) ∧ Upd [] w w') := by
 have hM0 : Mem w [] w [] := Mem.nil w []
 simp only [inK] at hx
 refine calls_vc mixed Try.func8 rfl C8 (by simp [Try.ntmps8]) <| seq fun _ h1 => mv <| h1 _ _ <| seq fun _ h2 => mv <| mv <| stp (v := .int .i64 (hi - lo)) (o_bin rfl rfl (v_sub64 (by omega))) <| stp (v := .int .i64 ((hi - lo) + 1)) (o_bin rfl rfl (v_add64 (by omega))) <| mv <| h2 _ _ <| seq fun _ h3 => mv <| mv ?_
 obtain ⟨t, ht⟩ : ∃ t, t = x.tmod (hi - lo + 1) := ⟨_, rfl⟩
 have ht1 : t < hi - lo + 1 := by rw [ht]; exact Int.tmod_lt_of_pos _ (by omega)
 have ht2 : -(hi - lo + 1) < t := by rw [ht]; exact Int.lt_tmod_of_pos _ (by omega)
 refine stp (v := .int .i64 t) (o_rem rfl rfl (by omega) (by rw [ht])) <| mv <| h3 _ _ <| seq fun _ h4 => seq fun _ h5 => mv <| bn rfl rfl <| h5 _ _ <| cndP rfl (fun c6 => ?_) (fun c6 => ?_)
 ·refine mv <| mv <| stp (v := .int .i64 (t + ((hi - lo) + 1))) (o_bin rfl rfl (v_add64 (by omega))) <| mv <| h4 _ _ <| seq fun _ h7 => mv <| mv <| stp (v := .int .i64 (lo + (t + ((hi - lo) + 1)))) (o_bin rfl rfl (v_add64 (by omega))) <| mv <| h7 _ _ <| ⟨(.int .i64 (lo + (t + ((hi - lo) + 1)))), rfl, ⟨_, rfl, by omega, hM0.upd⟩⟩
 refine h4 _ _ <| seq fun _ h8 => mv <| mv <| stp (v := .int .i64 (lo + t)) (o_bin rfl rfl (v_add64 (by omega))) <| mv <| h8 _ _ <| ⟨(.int .i64 (lo + t)), rfl, ⟨_, rfl, by omega, hM0.upd⟩⟩
end Go.Proofs.Ytifnmbmijljhfaa.E
namespace Go.Proofs.Ytifnmbmijljhfaa.E
open Go
def OKT (R : Nat) (tk : List Pr2) : Prop := okB tk ∧ (0 < tk.length → szB R (bldF R tk).raw.length tk.length ≤ 65536)
def BldT (bb R M : Nat) (tk : List Pr2) (r : List Ent) : Prop := BldS bb R M (bldF R tk).raw (bldF R tk).st (bldF R tk).last (bldF R tk).n r
def rawT (R : Nat) (tk : List Pr2) : List UInt8 := rawB R (bldF R tk).raw (bldF R tk).st tk.length
def tileT (R : Nat) (tk : List Pr2) : List UInt8 := sealF ((bestF (rawT R tk) 3).1 ++ [(bestF (rawT R tk) 3).2.toNat.toUInt8])
theorem OKT.nil (R : Nat) : OKT R [] := ⟨fun i hi => absurd hi (Nat.not_lt_zero _), fun h => absurd h (Nat.lt_irrefl _)⟩
theorem OKT.bd {R : Nat} {tk : List Pr2} (hR : 1 ≤ R) (h : OKT R tk) : (bldF R tk).raw.length ≤ 65536 ∧ (bldF R tk).n ≤ 65536 ∧ (bldF R tk).st.length ≤ 65536 ∧ (bldF R tk).last.length ≤ 1024 := by
 have hst := bld_st R hR tk
 have hn := bld_n R tk
 have hr := bld_raw (R := R) tk h.1
 rw [bld_last]
 by_cases h0 : 0 < tk.length
 ·have hs := h.2 h0
  have hz := raw_sz hR h0
  unfold rawB at hz
  rw [List.length_append, List.length_append, List.length_append, fix4_len, fix4_len, starts_len] at hz
  exact ⟨by omega, by omega, by omega, (h.1 _ (by omega)).1⟩
 have ht : tk = [] := List.eq_nil_of_length_eq_zero (by omega)
 subst ht
 exact ⟨Nat.zero_le _, Nat.zero_le _, Nat.zero_le _, Nat.zero_le _⟩
theorem OKT.len {R : Nat} {tk : List Pr2} (hR : 1 ≤ R) (h : OKT R tk) : tk.length ≤ 65536 := by
 have := h.bd hR
 have h2 := bld_n R tk
 omega
theorem OKT.raw {R : Nat} {tk : List Pr2} (hR : 1 ≤ R) (h : OKT R tk) (h0 : 0 < tk.length) : (rawT R tk).length ≤ 65536 := by
 unfold rawT; rw [raw_sz hR h0]; exact h.2 h0
theorem OKT.blk {R : Nat} {tk : List Pr2} (hR : 1 ≤ R ∧ R ≤ 64) (h : OKT R tk) (h0 : 0 < tk.length) : Blk R tk (rawT R tk) := ⟨hR, h0, h.1, rfl⟩
theorem AddT_ok (bb R M : Nat) (tk : List Pr2) (k v : List UInt8) (r0 : List Ent) (w : World) (hB : BldT bb R M tk r0) (hr : Res w r0) (hR : 1 ≤ R ∧ R ≤ 64) (hM : M ≤ 65536) (ho : OKT R tk) (hk : k.length ≤ 140737488355328) (hv : v.length ≤ 140737488355328) : Calls Try.prog 20 [.pointer (some ⟨bb, 0, none⟩), .string (str k), .string (str v)].toArray w (Rt fun r w' => ∃ e tk' r', r = .int .i64 e ∧ e = addE R M (bldF R tk).raw (bldF R tk).last (bldF R tk).n k v ∧ BldT bb R M tk' r' ∧ ((e = 0 ∧ tk' = tk ++ [(k, v)]) ∨ (¬ e = 0 ∧ tk' = tk)) ∧ OKT R tk' ∧ Mem w (ids r0) w' [r']) := by
 refine (Add_ok bb R M (bldF R tk).raw (bldF R tk).st (bldF R tk).last (bldF R tk).n k v r0 w hB hr hR hM (ho.bd hR.1) hk hv).mono fun en w2 h => h.elim fun v2 h => ⟨v2, h.1, ?_⟩
 obtain ⟨r', h1, h2, h3, h4⟩ := h.2
 by_cases he : addE R M (bldF R tk).raw (bldF R tk).last (bldF R tk).n k v = 0
 ·refine ⟨_, tk ++ [(k, v)], r', h1, rfl, ?_, .inl ⟨he, rfl⟩, ?_, h4⟩
  ·have h5 := h3 he
   unfold BldT
   rw [bld_snoc]
   exact h5
  have hf := add_fit hR hM ho.1 he
  exact ⟨hf.1, fun _ => by rw [List.length_append]; exact hf.2⟩
 exact ⟨_, tk, r', h1, rfl, h2 he, .inr ⟨he, rfl⟩, ho, h4⟩
theorem add_first {R M : Nat} : addE R M (bldF R []).raw (bldF R []).last (bldF R []).n [107] [118] = 0 := by
 unfold addE
 rw [if_neg (by decide), if_neg (fun h => absurd h.1 (Nat.lt_irrefl 0)), if_neg (fun h => absurd h.1 (Nat.lt_irrefl 0))]
theorem FinishT_ok (bb R M : Nat) (tk : List Pr2) (r0 : List Ent) (w : World) (hB : BldT bb R M tk r0) (hr : Res w r0) (hR : 1 ≤ R ∧ R ≤ 64) (ho : OKT R tk) (h0 : 0 < tk.length) : Calls Try.prog 24 [.pointer (some ⟨bb, 0, none⟩)].toArray w (Rt fun r w' => ∃ v rb rt, r = .tuple [v, .int .i64 ((rawT R tk).length : Nat), .int .i64 0].toArray ∧ SlE byteV 5 v (tileT R tk) rt ∧ BldT bb R M [] rb ∧ Mem w (ids r0) w' [rb, rt]) := by
 have hn := bld_n R tk
 have hb := ho.bd hR.1
 have hl := ho.raw hR.1 h0
 have e : rawT R tk = rawB R (bldF R tk).raw (bldF R tk).st (bldF R tk).n := by rw [hn]; rfl
 have h := Finish_ok bb R M (bldF R tk).raw (bldF R tk).st (bldF R tk).last (bldF R tk).n r0 w hB hr hR (by omega) (by rw [← e]; exact hl) (fun j hj => by have := st_bd R tk j hj; omega)
 rw [← e] at h
 exact h
theorem SizeT_ok (bb R M : Nat) (tk : List Pr2) (r0 : List Ent) (w : World) (hB : BldT bb R M tk r0) (hr : Res w r0) (hR : 1 ≤ R ∧ R ≤ 64) (ho : OKT R tk) (h0 : 0 < tk.length) : Calls Try.prog 21 [.pointer (some ⟨bb, 0, none⟩)].toArray w (Rt fun r w' => r = .int .i64 ((rawT R tk).length : Nat) ∧ Upd [] w w') := by
 have hb := ho.bd hR.1
 have h := Size_ok bb R M (bldF R tk).raw (bldF R tk).st (bldF R tk).last (bldF R tk).n r0 w hB hr hR ⟨hb.1, hb.2.1⟩
 rw [bld_n, ← raw_sz hR.1 h0] at h
 exact h
end Go.Proofs.Ytifnmbmijljhfaa.E
namespace Go.Proofs.Ytifnmbmijljhfaa.E
open Go
theorem built_ok (R M : Nat) (x : Value) (l : List Pr2) (w : World) (hR : 1 ≤ R ∧ R ≤ 64) (hM : 64 ≤ M ∧ M ≤ 65536) (hx : RdS pairC w x l) (hl : l.length ≤ 140737488351232) (hll : ∀ i, (l.getD i ([], [])).1.length ≤ 140737488355328 ∧ (l.getD i ([], [])).2.length ≤ 140737488355328) : Calls Try.prog 7 [.int .i64 (R : Nat), .int .i64 (M : Nat), x].toArray w (Rt fun r w' => ∃ v tk vt rv rt, r = .tuple [v, vt, .int .i64 ((rawT R tk).length : Nat), .bool true].toArray ∧ SlS pairC 2 50 v tk rv ∧ SlE byteV 5 vt (tileT R tk) rt ∧ OKT R tk ∧ 0 < tk.length ∧ Mem w [] w' [rv, rt]) := by
 have hM0 : Mem w [] w [] := Mem.nil w []
 refine calls_vc mixed Try.func7 rfl C7 (by simp [Try.ntmps7]) <| seq fun _ h1 => mv <| mv <| mv <| mv <| h1 _ _ <| seq fun _ h2 => mv <| mv <| m_call (NewBuilder_ok R M w hR hM) rfl fun v3 w3 ⟨bb3, rs3, hr3, hB3, hm3⟩ => ?_
 have hM3 : Mem w [] w3 [rs3] := hM0.add hm3
 subst hr3
 refine mv <| ext rfl rfl <| ext rfl rfl <| mv <| mv <| h2 _ _ <| seq fun _ h4 => seq fun _ h5 => mv <| stp (v := .bool false) (o_bin rfl rfl v_neF) <| mv <| splitF rfl <| gmv rfl <| stg rfl (v := .bool false) (o_isnil rfl rfl) ?_
 refine pkF rfl <| h5 _ _ <| cndF rfl <| h4 _ _ <| seq fun _ h6 => mv <| h6 _ _ <| seq fun _ h7 => mv <| h7 _ _ <| seq fun _ h8 => seq fun _ h9 => mv <| h9 _ _ ?_
 have hM10 : Mem w [] w3 [rs3, []] := hM3.addNil
 have hs10 : SlS pairC 2 50 (.slice none 0 0) [] [] := Sl.nil 2 50
 refine lp (n := fun _ _ => False) (ι := (Nat) × (List Pr2) × (Bool) × (List Ent) × (Value) × (List Ent)) (fun ⟨i, tk, fu, rB, y12_, r12_⟩ f w' => f 14 = .int .i64 (i : Nat) ∧ f 13 = .bool fu ∧ f 12 = y12_ ∧ f 10 = .pointer (some ⟨bb3, 0, none⟩) ∧ f 2 = x ∧ Mem w [] w' [rB, r12_] ∧ (i ≤ l.length) ∧ (BldT bb3 R M tk rB) ∧ (OKT R tk) ∧ (tk.length ≤ 65536) ∧ (SlS pairC 2 50 y12_ (tk) r12_)) (fun ⟨i, tk, fu, rB, y12_, r12_⟩ => l.length - i) (0, [], false, rs3, ((.slice none 0 0)), ([])) ?_ ?_
 ·exact ⟨vi, rfl, rfl, rfl, rfl, hM10, by omega, hB3, OKT.nil R, Nat.zero_le _, by first | exact hs10 | simpa using hs10⟩
 rintro ⟨i, tk, fu, rB, y12_, r12_⟩ f w11 ⟨e11_14, e11_13, e11_12, e11_10, e11_2, hM11, hi, hB, ho, htl, hy12_⟩ K12 h12
 obtain ⟨frm, rfl⟩ := re5 e11_14 e11_13 e11_12 e11_10 e11_2
 refine seq fun _ h13 => seq fun _ h14 => mv <| mv <| stp (v := .int .i64 (l.length : Nat)) (o_lenR (hx.upd hM11.upd) rfl rfl) <| bn rfl rfl <| mv <| splitP rfl (fun c15 => ?_) (fun c15 => ?_)
 ·refine gmv rfl <| stg rfl (v := .bool (!fu)) (o_not rfl rfl) <| pkT rfl <| h14 _ _ <| cnd rfl (fun c16 => ?_) (fun c16 => ?_)
  ·refine h13 _ _ <| seq fun _ h17 => seq fun _ h18 => ?_
   intro wd e1 e2 e3 e4
   have hd := Upd.same e1 e2 e3 e4 []
   have hM19 := hM11.pure hd
   clear e1 e2 e3 e4
   refine ⟨(some [(blkV x)]), ?_⟩
   show vd _ _ _ _ _ _ _
   refine dmv <| dmv <| dmv <| dqp (m_idxS3 ([], []) (j := i) (hx.upd hM19.upd) (hx.upd hM19.upd) rfl rfl (by omega) fun b20 o20 hp20 hbb20 => ?_)
   show vd _ _ _ _ _ _ _
   subst hbb20
   refine dfa rfl <| dmv <| dmv <| dqp (m_idxS3 ([], []) (j := i) (hx.upd hM19.upd) (hx.upd hM19.upd) rfl rfl (by omega) fun b21 o21 hp21 hbb21 => ?_)
   show vd _ _ _ _ _ _ _
   subst hbb21
   refine dfa rfl <| dqld rfl (by simp [isHeld]) (v := .string (str ((l.getD i ([], [])).2))) (hp21.get 1 rfl) <| dl (ld (v := .string (str ((l.getD i ([], [])).1))) rfl (hp20.get 0 rfl) <| ⟨(fun b hb => rfl), dl (m_call (AddT_ok bb3 R M tk ((l.getD i ([], [])).1) ((l.getD i ([], [])).2) rB wd hB (hM19.res (i := 0) rfl) hR hM.2 ho (by first | exact (hll _).1 | exact (hll _).2 | (simp; done)) (by first | exact (hll _).1 | exact (hll _).2 | (simp; done))) rfl fun v22 w22 ⟨eq_, tkq, r'22, hr22, heq, hBq, hq, hoq, hm22⟩ => ?_)⟩)
   have hM22 : Mem w [] w22 [r'22, r12_] := hM19.step 0 rfl hm22
   subst hr22
   have hh22 := held_upd (wr := wd) (bs := [(blkV x)]) hm22.upd (fun b hb => by
    simp only [List.mem_cons, List.not_mem_nil, or_false] at hb
    rw [hb]; exact ⟨Rd.blkV_ltS (hx.upd hM19.upd) (by omega), hM19.old (i := 0) rfl (Rd.blkV_ltS hx (by omega))⟩) (fun b hb => rfl)
   refine ⟨hh22, dmv <| h18 _ _ <| seq fun _ h23 => mv <| bn rfl rfl <| mv <| h23 _ _ <| seq fun _ h24 => mv <| bn rfl rfl <| h24 _ _ <| cndP rfl (fun c25 => ?_) (fun c25 => ?_)⟩
   ·refine mv <| mv <| mv <| m_idxS ([], []) (j := i) (hx.upd hM22.upd) rfl rfl (by omega) fun b26 o26 hp26 => ldA (cs := [.string (str ((l.getD i ([], [])).1)), .string (str ((l.getD i ([], [])).2))]) rfl rfl (hp26.row (k := 0) rfl rfl) <| m_app1S (enc := pairC) (q := (l.getD i ([], []))) hM22 (i := 1) rfl hy12_ rfl (by simp) (rfl) (rfl) (by first | omega | (simp; omega)) (by omega) fun v27 w27 r27 u27 (hs27 : SlS pairC 2 50 v27 (tk ++ [(l.getD i ([], []))]) r27) (hM27 : Mem w [] w27 [r'22, r27]) => mv <| h17 _ _ <| mv <| stp (v := .int .i64 ((i : Nat) + 1)) (o_bin rfl rfl (v_add64 (by omega))) <| mv ?_
    refine h12 (i + 1, tkq, decide (eq_ = 62), r'22, v27, r27) _ _ ⟨vi, rfl, rfl, rfl, rfl, hM27.keep (by simp), by omega, hBq, hoq, OKT.len hR.1 hoq, by
     rcases hq with ⟨_, h2⟩ | ⟨h1, _⟩
     ·rw [h2]; exact hs27
     exact absurd (by assumption) h1⟩ (by (try dsimp only); omega)
   refine h17 _ _ <| mv <| stp (v := .int .i64 ((i : Nat) + 1)) (o_bin rfl rfl (v_add64 (by omega))) <| mv ?_
   refine h12 (i + 1, tkq, decide (eq_ = 62), r'22, y12_, r12_) _ _ ⟨vi, rfl, rfl, rfl, rfl, hM22.keep (by simp), by omega, hBq, hoq, OKT.len hR.1 hoq, by
    rcases hq with ⟨h1, _⟩ | ⟨_, h2⟩
    ·exact absurd h1 (by assumption)
    rw [h2]; exact hy12_⟩ (by (try dsimp only); omega)
  refine h8 _ _ <| seq fun _ h28 => seq fun _ h29 => mv <| stp (v := .int .i64 (tk.length : Nat)) (o_lenR (hy12_.rd hM11 (i := 1) rfl) rfl rfl) <| bn rfl rfl <| h29 _ _ <| cndP rfl (fun c30 => ?_) (fun c30 => ?_)
  ·refine seq fun _ h31 => mv <| m_call (AddT_ok bb3 R M tk ([107]) ([118]) rB w11 hB (hM11.res (i := 0) rfl) hR hM.2 ho (by first | exact (hll _).1 | exact (hll _).2 | (simp; done)) (by first | exact (hll _).1 | exact (hll _).2 | (simp; done))) rfl fun v32 w32 ⟨eq_, tkq, r'32, hr32, heq, hBq, hq, hoq, hm32⟩ => ?_
   have hM32 : Mem w [] w32 [r'32, r12_] := hM11.step 0 rfl hm32
   subst hr32
   refine h31 _ _ ?_
   rcases (show tk = [] ∧ tkq = ([] ++ [([107], [118])] : List Pr2) from by have ht : tk = [] := List.eq_nil_of_length_eq_zero (by omega); subst ht; exact ⟨rfl, (hq.resolve_right (fun h => h.1 (by rw [heq]; exact add_first))).2⟩) with ⟨rfl, rfl⟩
   ·refine mv <| stp (v := .agg ([.string (str ([107])), .string (str ([118]))] : List Value).toArray) (o_bld rfl rfl) <| m_app1S (enc := pairC) (q := ([107], [118])) hM32 (i := 1) rfl hy12_ rfl (by simp) (rfl) (rfl) (by first | omega | (simp; omega)) (by omega) fun v33 w33 r33 u33 (hs33 : SlS pairC 2 50 v33 ([([107], [118])]) r33) (hM33 : Mem w [] w33 [r'32, r33]) => mv <| h28 _ _ <| seq fun _ h34 => mv <| m_call (SizeT_ok bb3 R M ([] ++ [([107], [118])] : List Pr2) r'32 w33 hBq (hM33.res (i := 0) rfl) hR hoq (by first | omega | (simp; done))) rfl fun v35 w35 ⟨hr35, hu35⟩ => ?_
    have hM35 : Mem w [] w35 [r'32, r33] := hM33.pure hu35
    subst hr35
    refine mv <| h34 _ _ <| seq fun _ h36 => mv <| m_call (FinishT_ok bb3 R M ([] ++ [([107], [118])] : List Pr2) r'32 w35 hBq (hM35.res (i := 0) rfl) hR hoq (by first | omega | (simp; done))) rfl fun v37 w37 ⟨y37, rb37, rs37, hr37, hs37, hB37, hm37⟩ => ?_
    have hM37 : Mem w [] w37 [rb37, r33, rs37] := hM35.stepAdd 0 rfl hm37
    subst hr37
    refine mv <| ext rfl rfl <| ext rfl rfl <| ext rfl rfl <| mv <| mv <| mv <| h36 _ _ <| seq fun _ h38 => mv <| mv <| mv <| mv <| stp (v := .bool true) (o_bin rfl rfl v_eqT) ?_
    refine mv <| splitT rfl <| gmv rfl <| gmv rfl <| stg rfl (v := .bool true) (o_bin rfl rfl v_eqT) <| pkT rfl <| mv <| splitT rfl <| gmv rfl <| gyesl rfl <| m_call (BLen_ok bb3 R M _ _ _ _ rb37 w37 hB37 (hM37.res (i := 0) rfl)) rfl fun v39 w39 ⟨hr39, hu39⟩ => ?_
    have hM39 : Mem w [] w39 [rb37, r33, rs37] := hM37.pure hu39
    subst hr39
    refine gbn rfl rfl rfl <| pkT rfl <| mv <| mv <| mv <| mv <| h38 _ _ <| ⟨(.tuple [v33, y37, .int .i64 ((rawT R ([] ++ [([107], [118])] : List Pr2)).length : Nat), .bool (decide ((((bldF R ([] : List Pr2)).n : Nat) : Int) = 0))].toArray), rfl, ⟨_, _, _, _, _, rfl, hs33, hs37, by assumption, by first | omega | (simp; done), hM39.keep (by simp)⟩⟩
  refine h28 _ _ <| seq fun _ h40 => mv <| m_call (SizeT_ok bb3 R M tk rB w11 hB (hM11.res (i := 0) rfl) hR ho (by first | omega | (simp; done))) rfl fun v41 w41 ⟨hr41, hu41⟩ => ?_
  have hM41 : Mem w [] w41 [rB, r12_] := hM11.pure hu41
  subst hr41
  refine mv <| h40 _ _ <| seq fun _ h42 => mv <| m_call (FinishT_ok bb3 R M tk rB w41 hB (hM41.res (i := 0) rfl) hR ho (by first | omega | (simp; done))) rfl fun v43 w43 ⟨y43, rb43, rs43, hr43, hs43, hB43, hm43⟩ => ?_
  have hM43 : Mem w [] w43 [rb43, r12_, rs43] := hM41.stepAdd 0 rfl hm43
  subst hr43
  refine mv <| ext rfl rfl <| ext rfl rfl <| ext rfl rfl <| mv <| mv <| mv <| h42 _ _ <| seq fun _ h44 => mv <| mv <| mv <| mv <| stp (v := .bool true) (o_bin rfl rfl v_eqT) <| mv <| splitT rfl <| gmv rfl <| gmv rfl <| stg rfl (v := .bool true) (o_bin rfl rfl v_eqT) <| pkT rfl <| mv <| splitT rfl <| gmv rfl <| gyesl rfl <| m_call (BLen_ok bb3 R M _ _ _ _ rb43 w43 hB43 (hM43.res (i := 0) rfl)) rfl fun v45 w45 ⟨hr45, hu45⟩ => ?_
  have hM45 : Mem w [] w45 [rb43, r12_, rs43] := hM43.pure hu45
  subst hr45
  refine gbn rfl rfl rfl <| pkT rfl <| mv <| mv <| mv <| mv <| h44 _ _ <| ⟨(.tuple [y12_, y43, .int .i64 ((rawT R tk).length : Nat), .bool (decide ((((bldF R ([] : List Pr2)).n : Nat) : Int) = 0))].toArray), rfl, ⟨_, _, _, _, _, rfl, hy12_, hs43, by assumption, by first | omega | (simp; done), hM45.keep (by simp)⟩⟩
 refine gx rfl <| gx rfl <| pkF rfl <| h14 _ _ <| cndF rfl <| h8 _ _ <| seq fun _ h46 => seq fun _ h47 => mv <| stp (v := .int .i64 (tk.length : Nat)) (o_lenR (hy12_.rd hM11 (i := 1) rfl) rfl rfl) <| bn rfl rfl <| h47 _ _ <| cndP rfl (fun c48 => ?_) (fun c48 => ?_)
 ·refine seq fun _ h49 => mv <| m_call (AddT_ok bb3 R M tk ([107]) ([118]) rB w11 hB (hM11.res (i := 0) rfl) hR hM.2 ho (by first | exact (hll _).1 | exact (hll _).2 | (simp; done)) (by first | exact (hll _).1 | exact (hll _).2 | (simp; done))) rfl fun v50 w50 ⟨eq_, tkq, r'50, hr50, heq, hBq, hq, hoq, hm50⟩ => ?_
  have hM50 : Mem w [] w50 [r'50, r12_] := hM11.step 0 rfl hm50
  subst hr50
  refine h49 _ _ ?_
  rcases (show tk = [] ∧ tkq = ([] ++ [([107], [118])] : List Pr2) from by have ht : tk = [] := List.eq_nil_of_length_eq_zero (by omega); subst ht; exact ⟨rfl, (hq.resolve_right (fun h => h.1 (by rw [heq]; exact add_first))).2⟩) with ⟨rfl, rfl⟩
  ·refine mv <| stp (v := .agg ([.string (str ([107])), .string (str ([118]))] : List Value).toArray) (o_bld rfl rfl) <| m_app1S (enc := pairC) (q := ([107], [118])) hM50 (i := 1) rfl hy12_ rfl (by simp) (rfl) (rfl) (by first | omega | (simp; omega)) (by omega) fun v51 w51 r51 u51 (hs51 : SlS pairC 2 50 v51 ([([107], [118])]) r51) (hM51 : Mem w [] w51 [r'50, r51]) => mv <| h46 _ _ <| seq fun _ h52 => mv <| m_call (SizeT_ok bb3 R M ([] ++ [([107], [118])] : List Pr2) r'50 w51 hBq (hM51.res (i := 0) rfl) hR hoq (by first | omega | (simp; done))) rfl fun v53 w53 ⟨hr53, hu53⟩ => ?_
   have hM53 : Mem w [] w53 [r'50, r51] := hM51.pure hu53
   subst hr53
   refine mv <| h52 _ _ <| seq fun _ h54 => mv <| m_call (FinishT_ok bb3 R M ([] ++ [([107], [118])] : List Pr2) r'50 w53 hBq (hM53.res (i := 0) rfl) hR hoq (by first | omega | (simp; done))) rfl fun v55 w55 ⟨y55, rb55, rs55, hr55, hs55, hB55, hm55⟩ => ?_
   have hM55 : Mem w [] w55 [rb55, r51, rs55] := hM53.stepAdd 0 rfl hm55
   subst hr55
   refine mv <| ext rfl rfl <| ext rfl rfl <| ext rfl rfl <| mv <| mv <| mv <| h54 _ _ <| seq fun _ h56 => mv <| mv <| mv <| mv <| stp (v := .bool true) (o_bin rfl rfl v_eqT) ?_
   refine mv <| splitT rfl <| gmv rfl <| gmv rfl <| stg rfl (v := .bool true) (o_bin rfl rfl v_eqT) <| pkT rfl <| mv <| splitT rfl <| gmv rfl <| gyesl rfl <| m_call (BLen_ok bb3 R M _ _ _ _ rb55 w55 hB55 (hM55.res (i := 0) rfl)) rfl fun v57 w57 ⟨hr57, hu57⟩ => ?_
   have hM57 : Mem w [] w57 [rb55, r51, rs55] := hM55.pure hu57
   subst hr57
   refine gbn rfl rfl rfl <| pkT rfl <| mv <| mv <| mv <| mv <| h56 _ _ <| ⟨(.tuple [v51, y55, .int .i64 ((rawT R ([] ++ [([107], [118])] : List Pr2)).length : Nat), .bool (decide ((((bldF R ([] : List Pr2)).n : Nat) : Int) = 0))].toArray), rfl, ⟨_, _, _, _, _, rfl, hs51, hs55, by assumption, by first | omega | (simp; done), hM57.keep (by simp)⟩⟩
 refine h46 _ _ <| seq fun _ h58 => mv <| m_call (SizeT_ok bb3 R M tk rB w11 hB (hM11.res (i := 0) rfl) hR ho (by first | omega | (simp; done))) rfl fun v59 w59 ⟨hr59, hu59⟩ => ?_
 have hM59 : Mem w [] w59 [rB, r12_] := hM11.pure hu59
 subst hr59
 refine mv <| h58 _ _ <| seq fun _ h60 => mv <| m_call (FinishT_ok bb3 R M tk rB w59 hB (hM59.res (i := 0) rfl) hR ho (by first | omega | (simp; done))) rfl fun v61 w61 ⟨y61, rb61, rs61, hr61, hs61, hB61, hm61⟩ => ?_
 have hM61 : Mem w [] w61 [rb61, r12_, rs61] := hM59.stepAdd 0 rfl hm61
 subst hr61
 refine mv <| ext rfl rfl <| ext rfl rfl <| ext rfl rfl <| mv <| mv <| mv <| h60 _ _ <| seq fun _ h62 => mv <| mv <| mv <| mv <| stp (v := .bool true) (o_bin rfl rfl v_eqT) <| mv <| splitT rfl <| gmv rfl <| gmv rfl <| stg rfl (v := .bool true) (o_bin rfl rfl v_eqT) <| pkT rfl <| mv <| splitT rfl <| gmv rfl <| gyesl rfl <| m_call (BLen_ok bb3 R M _ _ _ _ rb61 w61 hB61 (hM61.res (i := 0) rfl)) rfl fun v63 w63 ⟨hr63, hu63⟩ => ?_
 have hM63 : Mem w [] w63 [rb61, r12_, rs61] := hM61.pure hu63
 subst hr63
 refine gbn rfl rfl rfl <| pkT rfl <| mv <| mv <| mv <| mv <| h62 _ _ <| ⟨(.tuple [y12_, y61, .int .i64 ((rawT R tk).length : Nat), .bool (decide ((((bldF R ([] : List Pr2)).n : Nat) : Int) = 0))].toArray), rfl, ⟨_, _, _, _, _, rfl, hy12_, hs61, by assumption, by first | omega | (simp; done), hM63.keep (by simp)⟩⟩
end Go.Proofs.Ytifnmbmijljhfaa.E
namespace Go.Proofs.Ytifnmbmijljhfaa.E
open Go
theorem best_shape {T : List UInt8} : ∀ k, ∃ f, f < k + 1 ∧ bestF T (k + 1) = (cand T f, (f : Int)) ∧ T.length ≤ 64 * (cand T f).length
 | 0 => ⟨0, by omega, best_0, by show T.length ≤ 64 * T.length; omega⟩
 | k + 1 => by
  obtain ⟨f, h1, h2, h3⟩ := best_shape k
  by_cases c : T.length ≤ 64 * (cand T (k + 1)).length ∧ ((bestF T (k + 1)).2 < 0 ∨ (cand T (k + 1)).length < (bestF T (k + 1)).1.length)
  ·exact ⟨k + 1, by omega, best_yes c.1 c.2, c.1⟩
  exact ⟨f, by omega, by rw [best_no c]; exact h2, h3⟩
theorem open_seal (b : List UInt8) : openF (sealF b) = (b, 0) := by
 have hl := seal_len b
 have ht : (sealF b).take ((sealF b).length - 4) = b := by rw [hl, Nat.add_sub_cancel]; unfold sealF; exact List.take_left' rfl
 have hd : (sealF b).drop ((sealF b).length - 4) = fixed 4 (crcN 0 b) := by rw [hl, Nat.add_sub_cancel]; unfold sealF; exact List.drop_left' rfl
 rw [open_ok (by omega) (by rw [ht, hd]), ht]
theorem dc_cand {T : List UInt8} (h : T.length ≤ 65536) {f : Nat} (hf : f < 3) : dcode f (cand T f) (T.length : Nat) = (T, 0) := by
 rcases (by omega : f = 0 ∨ f = 1 ∨ f = 2) with rfl | rfl | rfl
 ·exact dc_0 rfl
 ·have e := (Lz.dec_enc h).1
  have := dc_1 (p := (Lz.encF T).1) (n := (T.length : Nat)) (by rw [e])
  rw [e] at this; exact this
 have e := Hf.huff_back h
 have e2 : (Hf.encR T).1 = Hf.encF T := by rw [Hf.encR_ok (by omega)]
 show dcode 2 (Hf.encR T).1 _ = _
 rw [e2]
 have := dc_2 (p := Hf.encF T) (n := (T.length : Nat)) (by rw [e])
 rw [e] at this; exact this
theorem u8_small {f : Nat} (h : f < 256) : f.toUInt8.toNat = f := by
 show f % 256 = f
 omega
theorem txt_code {T : List UInt8} (h : T.length ≤ 65536) {f : Nat} (hf : f < 3) (hr : T.length ≤ 64 * (cand T f).length) : textF (sealF (cand T f ++ [f.toUInt8])) (T.length : Nat) = some T := by
 have ho := open_seal (cand T f ++ [f.toUInt8])
 have hl : (cand T f ++ [f.toUInt8]).length = (cand T f).length + 1 := by rw [List.length_append]; rfl
 refine txt (fl := f) (by rw [ho]) (by rw [ho]; show 0 < (cand T f ++ [f.toUInt8]).length; omega) ?_ hf ?_ ?_
 ·rw [ho]
  show f = ((cand T f ++ [f.toUInt8]).getD ((cand T f ++ [f.toUInt8]).length - 1) 0).toNat
  rw [hl, Nat.add_sub_cancel, getD_snoc, u8_small (by omega)]
 ·rw [ho]
  show ((T.length : Nat) : Int) ≤ 64 * (((cand T f ++ [f.toUInt8]).length - 1 : Nat) : Int)
  rw [hl]; omega
 rw [ho]
 show dcode f ((cand T f ++ [f.toUInt8]).take ((cand T f ++ [f.toUInt8]).length - 1)) _ = _
 rw [hl, Nat.add_sub_cancel, List.take_left' rfl]
 exact dc_cand h hf
theorem txt_short {T U : List UInt8} {f : Nat} (hf : f < 3) (hr : ¬ T.length ≤ 64 * (cand T f).length) : ¬ textF (sealF (cand T f ++ [f.toUInt8])) (T.length : Nat) = some U := by
 have ho := open_seal (cand T f ++ [f.toUInt8])
 have hl : (cand T f ++ [f.toUInt8]).length = (cand T f).length + 1 := by rw [List.length_append]; rfl
 refine txt_no rfl fun q => ?_
 have := q.2.2.1
 rw [ho] at this
 have h2 : ((T.length : Nat) : Int) ≤ 64 * (((cand T f ++ [f.toUInt8]).length - 1 : Nat) : Int) := this
 rw [hl] at h2; omega
theorem tile_shape (R : Nat) (tk : List Pr2) : ∃ f, f < 3 ∧ tileT R tk = sealF (cand (rawT R tk) f ++ [f.toUInt8]) ∧ (rawT R tk).length ≤ 64 * (cand (rawT R tk) f).length ∧ bestF (rawT R tk) 3 = (cand (rawT R tk) f, (f : Int)) := by
 obtain ⟨f, h1, h2, h3⟩ := best_shape (T := rawT R tk) 2
 refine ⟨f, h1, ?_, h3, h2⟩
 unfold tileT
 rw [h2]; rfl
end Go.Proofs.Ytifnmbmijljhfaa.E
namespace Go.Proofs.Ytifnmbmijljhfaa.E
open Go
def PrOk (f : Pr2) : Prop := f.1.length ≤ 140737488351232 ∧ f.2.length ≤ 140737488351232
theorem two_of {cs : List Value} (h : cs.length = 2) : ∃ a b, cs = [a, b] := by
 match cs, h with
 | [a, b], _ => exact ⟨a, b, rfl⟩
theorem open_pr {W : World} {cs : List Value} (h : Arg Try.prog W 50 cs) : ∃ f : Pr2, cs = pairC f ∧ PrOk f := by
 obtain ⟨hl, hf⟩ := h.struct Try.underlying50
 have c9 : Try.prog.cellsOf 9 = 1 := by kernel_rfl
 rw [show Try.prog.cellsOf 50 = 2 by kernel_rfl] at hl
 obtain ⟨a0, a1, rfl⟩ := two_of hl
 obtain ⟨n0, e0, k0⟩ := (hf 0 _ rfl).str Try.underlying9
 obtain ⟨n1, e1, k1⟩ := (hf 1 _ rfl).str Try.underlying9
 have e0' : a0 = .string (str n0) := by simpa [c9] using e0
 have e1' : a1 = .string (str n1) := by simpa [c9] using e1
 subst e0'
 subst e1'
 exact ⟨(n0, n1), rfl, k0, k1⟩
theorem open_prs {W : World} {cs : List Value} (h : Arg Try.prog W 22 cs) : ∃ (v : Value) (l : List Pr2), cs = [v] ∧ RdS pairC W v l ∧ (∀ x ∈ l, PrOk x) ∧ l.length * 32 ≤ 140737488351232 := by
 have := h.slices Try.underlying22 (fun c hc _ => open_pr hc)
 rwa [show Try.prog.bytesOf 50 = 32 by kernel_rfl] at this
theorem pr_all {l : List Pr2} (h : ∀ x ∈ l, PrOk x) (i : Nat) : (l.getD i ([], [])).1.length ≤ 140737488355328 ∧ (l.getD i ([], [])).2.length ≤ 140737488355328 := by
 by_cases hi : i < l.length
 ·rw [List.getD_eq_getElem?_getD, List.getElem?_eq_getElem hi]
  have := h _ (List.getElem_mem hi)
  unfold PrOk at this
  show l[i].1.length ≤ _ ∧ l[i].2.length ≤ _
  omega
 rw [List.getD_eq_getElem?_getD, List.getElem?_eq_none (by omega)]
 exact ⟨Nat.zero_le _, Nat.zero_le _⟩
end Go.Proofs.Ytifnmbmijljhfaa.E
namespace Go.Proofs.Ytifnmbmijljhfaa.E
open Go
theorem best_min {T : List UInt8} : ∀ k g, g < k → T.length ≤ 64 * (cand T g).length → (bestF T k).1.length ≤ (cand T g).length ∧ ((bestF T k).1.length = (cand T g).length → (bestF T k).2 ≤ (g : Int))
 | 0, g, h, _ => absurd h (Nat.not_lt_zero _)
 | k + 1, g, h, hf => by
  by_cases c : T.length ≤ 64 * (cand T k).length ∧ ((bestF T k).2 < 0 ∨ (cand T k).length < (bestF T k).1.length)
  ·rw [best_yes c.1 c.2]
   show (cand T k).length ≤ _ ∧ ((cand T k).length = _ → (k : Int) ≤ _)
   by_cases hg : g = k
   ·subst hg; exact ⟨Nat.le_refl _, fun _ => Int.le_refl _⟩
   have ih := best_min k g (by omega) hf
   have hfl := best_fl (T := T) k (by omega)
   have h2 : (cand T k).length < (bestF T k).1.length := c.2.resolve_left (by omega)
   exact ⟨by omega, fun q => by omega⟩
  rw [best_no c]
  by_cases hg : g = k
  ·subst hg
   have h2 : ¬ ((bestF T g).2 < 0 ∨ (cand T g).length < (bestF T g).1.length) := fun q => c ⟨hf, q⟩
   have h3 := best_lt (T := T) g
   exact ⟨by omega, fun _ => by omega⟩
  exact best_min k g (by omega) hf
end Go.Proofs.Ytifnmbmijljhfaa.E
namespace Go.Proofs.Ytifnmbmijljhfaa.E
open Go
theorem byte_last {C : List UInt8} {f : Nat} (h : f < 256) : byteV ((C ++ [f.toUInt8]).getD C.length 0) = .int .u8 (f : Nat) := by
 rw [getD_snoc]
 show Value.int .u8 ((f.toUInt8.toNat : Nat) : Int) = _
 rw [u8_small h]
theorem conv_u8 {a : Nat} (h : a < 256) : Value.int .u8 (IntKind.u8.wrap (a : Int)) = .int .u8 (a : Nat) := by
 simp only [IntKind.wrap, IntKind.signed, IntKind.bits]
 congr 1
 simp
 omega
theorem opn_code {R f : Nat} {tk : List Pr2} {r : Value} {rs : List Ent} (hR : 1 ≤ R ∧ R ≤ 64) (ho : OKT R tk) (h0 : 0 < tk.length) (hf : f < 3) (hr : (rawT R tk).length ≤ 64 * (cand (rawT R tk) f).length) (h : OpnQ (sealF (cand (rawT R tk) f ++ [f.toUInt8])) ((rawT R tk).length : Nat) r rs) : ∃ br, r = .tuple [.pointer (some ⟨br, 0, none⟩), .int .i64 0].toArray ∧ RdrS br R tk rs := by
 have hl := ho.raw hR.1 h0
 have hb := ho.blk hR h0
 have h8 := blk_len hb
 have ht := txt_code hl hf hr
 rcases h with ⟨e, h1, h2 | h2 | h2⟩ | ⟨br, R2, es, t, h1, h2, h3, h4, h5, h6⟩
 ·omega
 ·rw [open_seal] at h2
  exact absurd rfl h2.2.1
 ·exact absurd hb (h2.2.2.2 _ ht R tk)
 rw [ht] at h3
 cases h3
 obtain ⟨rfl, rfl⟩ := h6 R tk hb
 exact ⟨br, h1, h5⟩
theorem opn_short {R f : Nat} {tk : List Pr2} {r : Value} {rs : List Ent} (hR : 1 ≤ R ∧ R ≤ 64) (ho : OKT R tk) (h0 : 0 < tk.length) (hf : f < 3) (hr : ¬ (rawT R tk).length ≤ 64 * (cand (rawT R tk) f).length) (h : OpnQ (sealF (cand (rawT R tk) f ++ [f.toUInt8])) ((rawT R tk).length : Nat) r rs) : r = .tuple [.pointer none, .int .i64 60].toArray := by
 have hl := ho.raw hR.1 h0
 have h8 := blk_len (ho.blk hR h0)
 rcases h with ⟨e, h1, h2 | h2 | h2⟩ | ⟨br, R2, es, t, h1, h2, h3, h4, h5, h6⟩
 ·omega
 ·rw [open_seal] at h2
  exact absurd rfl h2.2.1
 ·rw [h1, h2.2.2.1]
 exact absurd h3 (txt_short hf hr)
theorem code_len {R f : Nat} {tk : List Pr2} (hR : 1 ≤ R) (ho : OKT R tk) (h0 : 0 < tk.length) : (sealF (cand (rawT R tk) f ++ [f.toUInt8])).length ≤ 200005 := by
 have := cand_len (ho.raw hR h0) f
 rw [seal_len, List.length_append, List.length_singleton]; omega
theorem opnC_ok (R f : Nat) (tk : List Pr2) (x : Value) (w : World) (hx : RdE byteV w x (sealF (cand (rawT R tk) f ++ [f.toUInt8]))) (hR : 1 ≤ R ∧ R ≤ 64) (ho : OKT R tk) (h0 : 0 < tk.length) (hf : f < 3) (hr : (rawT R tk).length ≤ 64 * (cand (rawT R tk) f).length) : Calls Try.prog 9 [x, .int .i64 ((rawT R tk).length : Nat)].toArray w (Rt fun r w' => ∃ br rs, r = .tuple [.pointer (some ⟨br, 0, none⟩), .int .i64 0].toArray ∧ RdrS br R tk rs ∧ Mem w [] w' [rs]) := by
 have hl := ho.raw hR.1 h0
 have ht := code_len (f := f) hR.1 ho h0
 refine (BOpen_ok x _ (rawT R tk).length w hx (by omega) (by simp only [inK]; omega)).mono fun en w2 h => h.elim fun v h => ⟨v, h.1, ?_⟩
 obtain ⟨rs, h1, h2⟩ := h.2
 obtain ⟨br, h3, h4⟩ := opn_code hR ho h0 hf hr h1
 exact ⟨br, rs, h3, h4, h2⟩
theorem opnS_ok (R f : Nat) (tk : List Pr2) (x : Value) (w : World) (hx : RdE byteV w x (sealF (cand (rawT R tk) f ++ [f.toUInt8]))) (hR : 1 ≤ R ∧ R ≤ 64) (ho : OKT R tk) (h0 : 0 < tk.length) (hf : f < 3) (hr : ¬ (rawT R tk).length ≤ 64 * (cand (rawT R tk) f).length) : Calls Try.prog 9 [x, .int .i64 ((rawT R tk).length : Nat)].toArray w (Rt fun r w' => ∃ rs, r = .tuple [.pointer none, .int .i64 60].toArray ∧ Mem w [] w' [rs]) := by
 have hl := ho.raw hR.1 h0
 have ht := code_len (f := f) hR.1 ho h0
 refine (BOpen_ok x _ (rawT R tk).length w hx (by omega) (by simp only [inK]; omega)).mono fun en w2 h => h.elim fun v h => ⟨v, h.1, ?_⟩
 obtain ⟨rs, h1, h2⟩ := h.2
 exact ⟨rs, opn_short hR ho h0 hf hr h1, h2⟩
theorem crcT_ok (x : Value) (b : List UInt8) (w : World) (hx : RdE byteV w x (sealF b)) (hl : b.length ≤ 300000) : Calls Try.prog 10 [x].toArray w (Rt fun r w' => ∃ v rs, r = .tuple [v, .int .i64 0].toArray ∧ SlE byteV 5 v b rs ∧ Mem w [] w' [rs]) := by
 refine (Open_ok x (sealF b) w hx (by rw [seal_len]; omega)).mono fun en w2 h => h.elim fun v h => ⟨v, h.1, ?_⟩
 obtain ⟨v, rs, h1, h2, h3⟩ := h.2
 rw [open_seal] at h1 h2
 exact ⟨v, rs, h1, h2, h3⟩
theorem lzT_ok (x : Value) (C T : List UInt8) (w : World) (hx : RdE byteV w x C) (hl : C.length ≤ 300000) (hn : T.length ≤ 65536) (h : dcode 1 C (T.length : Nat) = (T, 0)) : Calls Try.prog 11 [x, .int .i64 (T.length : Nat)].toArray w (Rt fun r w' => ∃ v rs, r = .tuple [v, .int .i64 0].toArray ∧ SlE byteV 5 v T rs ∧ Mem w [] w' [rs]) := by
 refine (Lz.Decode_ok x C (T.length : Nat) w hx (by omega) (by simp only [inK]; omega)).mono fun en w2 h => h.elim fun v h => ⟨v, h.1, ?_⟩
 obtain ⟨v, rs, h1, h2, h3⟩ := h.2
 rw [show Lz.decF C (T.length : Nat) = (T, 0) from by assumption] at h1 h2
 exact ⟨v, rs, h1, h2, h3⟩
theorem hfT_ok (x : Value) (C T : List UInt8) (w : World) (hx : RdE byteV w x C) (hl : C.length ≤ 300000) (hn : T.length ≤ 65536) (h : dcode 2 C (T.length : Nat) = (T, 0)) : Calls Try.prog 12 [x, .int .i64 (T.length : Nat)].toArray w (Rt fun r w' => ∃ v rs, r = .tuple [v, .int .i64 0].toArray ∧ SlE byteV 5 v T rs ∧ Mem w [] w' [rs]) := by
 refine (Hf.Decode_ok x C (T.length : Nat) w hx (by omega) (by simp only [inK]; omega)).mono fun en w2 h => h.elim fun v h => ⟨v, h.1, ?_⟩
 obtain ⟨v, rs, h1, h2, h3⟩ := h.2
 rw [show Hf.huffD C (T.length : Nat) = (T, 0) from by assumption] at h1 h2
 exact ⟨v, rs, h1, h2, h3⟩
set_option maxRecDepth 100000 in
theorem BlockCodes_ok (r0 m0 : Int) (x : Value) (l : List Pr2) (w : World) (hr0 : inK .i64 r0) (hm0 : inK .i64 m0) (hx : RdS pairC w x l) (hl : l.length ≤ 140737488351232) (hll : ∀ i, (l.getD i ([], [])).1.length ≤ 140737488355328 ∧ (l.getD i ([], [])).2.length ≤ 140737488355328) : Calls Try.prog 4 [.int .i64 r0, .int .i64 m0, x].toArray w (Rt fun r w' => r = .bool true ∧ Upd [] w w') := by
 have hM0 : Mem w [] w [] := Mem.nil w []
 simp only [inK] at hr0 hm0
 refine calls_vc mixed Try.func4 rfl C4 (by simp [Try.ntmps4]) <| seq fun _ h1 => mv <| h1 _ _ <| seq fun _ h2 => mv <| m_call (mod_ok r0 1 64 (by simp only [inK]; omega) (by omega) w) rfl fun v3 w3 ⟨mi3, hr3, hmb3, hu3⟩ => ?_
 have hM3 : Mem w [] w3 [] := hM0.pure hu3
 obtain ⟨Rq, rfl⟩ : ∃ k : Nat, mi3 = (k : Nat) := ⟨mi3.toNat, by omega⟩
 subst hr3
 refine mv <| m_call (mod_ok m0 64 65536 (by simp only [inK]; omega) (by omega) w3) rfl fun v4 w4 ⟨mi4, hr4, hmb4, hu4⟩ => ?_
 have hM4 : Mem w [] w4 [] := hM3.pure hu4
 obtain ⟨Mq, rfl⟩ : ∃ k : Nat, mi4 = (k : Nat) := ⟨mi4.toNat, by omega⟩
 subst hr4
 refine mv <| m_call (built_ok Rq Mq _ l w4 ⟨by omega, by omega⟩ ⟨by omega, by omega⟩ (hx.upd hM4.upd) (by omega) hll) rfl fun v5 w5 ⟨vt5, tk, vb5, rv5, rt5, hr5, hvs5, hvb5, hoT, h0T, hm5⟩ => ?_
 have hM5 : Mem w [] w5 [rv5, rt5] := hM4.add2 hm5
 subst hr5
 have hrw := hoT.raw (R := Rq) (by omega) h0T
 have htkl := OKT.len (R := Rq) (by omega) hoT
 refine mv <| ext rfl rfl <| ext rfl rfl <| ext rfl rfl <| ext rfl rfl <| mv <| mv <| mv <| mv <| h2 _ _ <| seq fun _ h6 => seq fun _ h7 => mv <| stp (v := .bool false) (o_not rfl rfl) ?_
 refine h7 _ _ <| cndF rfl <| h6 _ _ <| seq fun _ h8 => ?_
 obtain ⟨fb, hfb, hte, hrat, hbe⟩ := tile_shape Rq tk
 have hb8 := blk_len (hoT.blk (R := Rq) ⟨by omega, by omega⟩ h0T)
 have hcl := cand_len hrw fb
 have hdc := dc_cand hrw hfb
 have hdc1 : ¬ fb = 2 → (if fb = 1 then (rawT Rq tk) else (cand (rawT Rq tk) fb)) = (rawT Rq tk) := fun h => by
  by_cases c : fb = 1
  ·rw [if_pos c]
  rw [if_neg c, show fb = 0 by omega]; rfl
 have hbl : ((cand (rawT Rq tk) fb) ++ [fb.toUInt8]).length = (cand (rawT Rq tk) fb).length + 1 := by rw [List.length_append, List.length_singleton]
 obtain ⟨hz1, hz⟩ := lz_len hrw
 obtain ⟨hy1, hy⟩ := huff_len hrw
 have hbm : ∀ g, g < 3 → (rawT Rq tk).length ≤ 64 * (cand (rawT Rq tk) g).length → (cand (rawT Rq tk) fb).length ≤ (cand (rawT Rq tk) g).length ∧ ((cand (rawT Rq tk) fb).length = (cand (rawT Rq tk) g).length → fb ≤ g) := fun g h1 h2 => by
  have q := best_min (T := (rawT Rq tk)) 3 g h1 h2
  rw [hbe] at q
  exact ⟨q.1, fun e => by have q2 : (fb : Int) ≤ (g : Int) := q.2 e; omega⟩
 refine mv <| m_call (crcT_ok _ ((cand (rawT Rq tk) fb) ++ [fb.toUInt8]) w5 (by have q := hvb5.rd hM5 (i := 1) rfl; rw [hte] at q; exact q) (by rw [List.length_append, List.length_singleton]; omega)) rfl fun v9 w9 ⟨y9, rs9, hr9, hs9, hm9⟩ => ?_
 have hM9 : Mem w [] w9 [rv5, rt5, rs9] := hM5.add hm9
 subst hr9
 refine mv <| ext rfl rfl <| ext rfl rfl <| mv <| mv <| h8 _ _ <| seq fun _ h10 => seq fun _ h11 => mv <| stp (v := .bool false) (o_bin rfl rfl v_neF) <| mv <| splitF rfl <| gmv rfl <| stg rfl (v := .int .i64 (((cand (rawT Rq tk) fb) ++ [fb.toUInt8]).length : Nat)) (o_lenR (hs9.rd hM9 (i := 2) rfl) rfl rfl) ?_
 refine gbn rfl rfl rfl <| pkF rfl <| h11 _ _ <| cndP rfl (fun c12 => absurd c12 (by omega)) (fun c12 => h10 _ _ <| seq fun _ h13 => mv <| mv <| stp (v := .int .i64 (((cand (rawT Rq tk) fb) ++ [fb.toUInt8]).length : Nat)) (o_lenR (hs9.rd hM9 (i := 2) rfl) rfl rfl) <| stp (v := .int .i64 ((((cand (rawT Rq tk) fb) ++ [fb.toUInt8]).length : Nat) - 1)) (o_bin rfl rfl (v_sub64 (by omega))) <| m_idxE 0 (j := (cand (rawT Rq tk) fb).length) (hs9.rd hM9 (i := 2) rfl) rfl (v_int (by omega)) (by omega) fun b14 o14 hp14 => ld (v := byteV (((cand (rawT Rq tk) fb) ++ [fb.toUInt8]).getD ((cand (rawT Rq tk) fb).length) 0)) rfl (hp14) <| stp (v := .int .u8 (fb : Nat)) (o_mv (byte_last (C := (cand (rawT Rq tk) fb)) (by omega))) <| h13 _ _ ?_)
 refine seq fun _ h15 => mv <| mv <| stp (v := .int .i64 (((cand (rawT Rq tk) fb) ++ [fb.toUInt8]).length : Nat)) (o_lenR (hs9.rd hM9 (i := 2) rfl) rfl rfl) <| stp (v := .int .i64 ((((cand (rawT Rq tk) fb) ++ [fb.toUInt8]).length : Nat) - 1)) (o_bin rfl rfl (v_sub64 (by omega))) <| m_slcO ((cand (rawT Rq tk) fb).length) (hs9) rfl (by omega) (⟨_, v_int (by omega)⟩) trivial fun u16 hu16 => ?_
 have hu16' := SlE.eqL (m := (cand (rawT Rq tk) fb)) hu16 (List.take_left)
 refine mv <| h15 _ _ <| seq fun _ h17 => mv <| mv <| h17 _ _ <| seqc (fun f w' => ∃ (vq : Value) (rq : List Ent), f 15 = vq ∧ f 12 = .int .i64 0 ∧ f 7 = vt5 ∧ f 9 = .int .i64 ((rawT Rq tk).length : Nat) ∧ f 13 = .int .u8 (fb : Nat) ∧ f 14 = u16 ∧ Mem w [] w' [rv5, rt5, rs9, rq] ∧ (∀ w2, (∀ e ∈ rs9, Own w2 e) → (∀ e ∈ rq, Own w2 e) → RdE byteV w2 vq (if fb = 1 then (rawT Rq tk) else (cand (rawT Rq tk) fb)))) ?_ ?_
 ·intro K18 h18
  refine seq fun _ h20 => mv <| bn rfl rfl <| h20 _ _ <| cndP rfl (fun c21 => ?_) (fun c21 => ?_)
  ·refine mv <| mv <| m_call (lzT_ok _ (cand (rawT Rq tk) fb) (rawT Rq tk) w9 (hu16'.rd hM9 (i := 2) rfl) (by omega) (by omega) (by have q := hdc; rw [show fb = 1 by omega] at q ⊢; exact q)) rfl fun v22 w22 ⟨y22, rs22, hr22, hs22, hm22⟩ => ?_
   have hM22 : Mem w [] w22 [rv5, rt5, rs9, rs22] := hM9.add hm22
   subst hr22
   refine mv <| ext rfl rfl <| ext rfl rfl <| mv <| mv <| h18 _ _ ⟨y22, rs22, rfl, vi, rfl, vi, vi, rfl, hM22.keep (by simp), fun w2 _ h2 => by rw [if_pos (by omega)]; exact (hs22).rdOwn h2⟩
  refine h18 _ _ ⟨u16, ([]), rfl, vi, rfl, vi, vi, rfl, hM9.keep (by simp), fun w2 h1 _ => by rw [if_neg (by omega)]; exact (hu16').rdOwn h1⟩
 rintro f w19 ⟨vq, rq, e19_15, e19_12, e19_7, e19_9, e19_13, e19_14, hM19, hq⟩
 obtain ⟨frm, rfl⟩ := re6 e19_15 e19_12 e19_7 e19_9 e19_13 e19_14
 refine seqc (fun f w' => ∃ (vq : Value) (rq : List Ent), f 15 = vq ∧ f 12 = .int .i64 0 ∧ f 7 = vt5 ∧ f 9 = .int .i64 ((rawT Rq tk).length : Nat) ∧ f 13 = .int .u8 (fb : Nat) ∧ f 14 = u16 ∧ Mem w [] w' [rv5, rt5, rs9, rq] ∧ (∀ w2, (∀ e ∈ rs9, Own w2 e) → (∀ e ∈ rq, Own w2 e) → RdE byteV w2 vq (rawT Rq tk))) ?_ ?_
 ·intro K23 h23
  refine seq fun _ h25 => mv <| bn rfl rfl <| h25 _ _ <| cndP rfl (fun c26 => ?_) (fun c26 => ?_)
  ·refine mv <| mv <| m_call (hfT_ok _ (cand (rawT Rq tk) fb) (rawT Rq tk) w19 (hu16'.rd hM19 (i := 2) rfl) (by omega) (by omega) (by have q := hdc; rw [show fb = 2 by omega] at q ⊢; exact q)) rfl fun v27 w27 ⟨y27, rs27, hr27, hs27, hm27⟩ => ?_
   have hM27 : Mem w [] w27 [rv5, rt5, rs9, rq, rs27] := hM19.add hm27
   subst hr27
   refine mv <| ext rfl rfl <| ext rfl rfl <| mv <| mv <| h23 _ _ ⟨y27, (rq ++ rs27), rfl, vi, rfl, vi, vi, rfl, hM27.keep (by simp), fun w2 _ h2 => (hs27).rdOwn fun e he => h2 e (List.mem_append_right _ he)⟩
  refine h23 _ _ ⟨vq, rq, rfl, vi, rfl, vi, vi, rfl, hM19.keep (by simp), fun w2 h1 h2 => hdc1 (by omega) ▸ hq w2 h1 h2⟩
 rintro f w24 ⟨vq, rq, e24_15, e24_12, e24_7, e24_9, e24_13, e24_14, hM24, hq⟩
 obtain ⟨frm, rfl⟩ := re6 e24_15 e24_12 e24_7 e24_9 e24_13 e24_14
 refine seq fun _ h28 => seq fun _ h29 => mv <| stp (v := .bool false) (o_bin rfl rfl v_neF) <| mv <| splitF rfl <| gmv rfl <| stg rfl (v := .int .i64 ((rawT Rq tk).length : Nat)) (o_lenR (hq _ (hM24.res (i := 2) rfl).1 (hM24.res (i := 3) rfl).1) rfl rfl) <| gmv rfl <| stg rfl (v := .bool false) (o_bin rfl rfl v_neF) <| pkF rfl <| mv <| splitF rfl <| gmv rfl <| gbn rfl rfl rfl <| pkF rfl <| h29 _ _ <| cndP rfl (fun c30 => absurd c30 (by omega)) (fun c30 => h28 _ _ <| seq fun _ h31 => seq fun _ h32 => mv <| h32 _ _ <| lp (n := fun _ _ => False) (ι := (Nat)) (fun fc f w' => f 16 = .int .i64 (fc : Nat) ∧ f 7 = vt5 ∧ f 9 = .int .i64 ((rawT Rq tk).length : Nat) ∧ f 13 = .int .u8 (fb : Nat) ∧ f 14 = u16 ∧ f 15 = vq ∧ Mem w [] w' [rv5, rt5, rs9, rq] ∧ (fc ≤ 3)) (fun fc => 3 - fc) (0) ?_ ?_)
 ·exact ⟨vi, rfl, vi, vi, rfl, rfl, hM24, by omega⟩
 rintro fc f w33 ⟨e33_16, e33_7, e33_9, e33_13, e33_14, e33_15, hM33, hf⟩ K34 h34
 obtain ⟨frm, rfl⟩ := re6 e33_16 e33_7 e33_9 e33_13 e33_14 e33_15
 refine seq fun _ h35 => seq fun _ h36 => mv <| bn rfl rfl <| h36 _ _ <| cndP rfl (fun c37 => ?_) (fun c37 => ?_)
 ·refine h35 _ _ <| seq fun _ h38 => seq fun _ h39 => mv <| mv <| h39 _ _ <| seq fun _ h40 => mv <| h40 _ _ <| seqc (fun f w' => ∃ (vn : Value) (rn : List Ent), f 17 = vn ∧ f 18 = .int .i64 0 ∧ f 7 = vt5 ∧ f 9 = .int .i64 ((rawT Rq tk).length : Nat) ∧ f 13 = .int .u8 (fb : Nat) ∧ f 14 = u16 ∧ f 15 = vq ∧ f 16 = .int .i64 (fc : Nat) ∧ Mem w [] w' [rv5, rt5, rs9, rq, rn] ∧ (∀ w2, (∀ e ∈ rs9, Own w2 e) → (∀ e ∈ rq, Own w2 e) → (∀ e ∈ rn, Own w2 e) → RdE byteV w2 vn (if fc = 1 then (cand (rawT Rq tk) fc) else (rawT Rq tk)))) ?_ ?_
  ·intro K41 h41
   refine seq fun _ h43 => mv <| bn rfl rfl <| h43 _ _ <| cndP rfl (fun c44 => ?_) (fun c44 => ?_)
   ·refine mv <| m_call (Lz.Encode_ok _ (rawT Rq tk) w33 (hq _ (hM33.res (i := 2) rfl).1 (hM33.res (i := 3) rfl).1) (by omega)) rfl fun v45 w45 ⟨y45, rs45, hr45, hs45, hm45⟩ => ?_
    have hM45 : Mem w [] w45 [rv5, rt5, rs9, rq, rs45] := hM33.add hm45
    subst hr45
    refine mv <| ext rfl rfl <| ext rfl rfl <| mv <| mv <| h41 _ _ ⟨y45, rs45, rfl, vi, rfl, vi, vi, rfl, rfl, vi, hM45.keep (by simp), fun w2 _ _ h3 => by rw [if_pos (by omega)]; have e : (cand (rawT Rq tk) fc) = (Lz.encF (rawT Rq tk)).1 := (by rw [show fc = 1 by omega]; rfl); rw [e]; exact (hs45).rdOwn h3⟩
   refine h41 _ _ ⟨vq, ([]), rfl, vi, rfl, vi, vi, rfl, rfl, vi, hM33.keep (by simp), fun w2 h1 h2 _ => by rw [if_neg (by omega)]; exact hq w2 h1 h2⟩
  rintro f w42 ⟨vn, rn, e42_17, e42_18, e42_7, e42_9, e42_13, e42_14, e42_15, e42_16, hM42, hn⟩
  obtain ⟨frm, rfl⟩ := re8 e42_17 e42_18 e42_7 e42_9 e42_13 e42_14 e42_15 e42_16
  refine seqc (fun f w' => ∃ (vn : Value) (rn : List Ent), f 17 = vn ∧ f 18 = .int .i64 0 ∧ f 7 = vt5 ∧ f 9 = .int .i64 ((rawT Rq tk).length : Nat) ∧ f 13 = .int .u8 (fb : Nat) ∧ f 14 = u16 ∧ f 15 = vq ∧ f 16 = .int .i64 (fc : Nat) ∧ Mem w [] w' [rv5, rt5, rs9, rq, rn] ∧ (∀ w2, (∀ e ∈ rs9, Own w2 e) → (∀ e ∈ rq, Own w2 e) → (∀ e ∈ rn, Own w2 e) → RdE byteV w2 vn (cand (rawT Rq tk) fc))) ?_ ?_
  ·intro K46 h46
   refine seq fun _ h48 => mv <| bn rfl rfl <| h48 _ _ <| cndP rfl (fun c49 => ?_) (fun c49 => ?_)
   ·refine mv <| m_call (Hf.Encode_ok _ (rawT Rq tk) w42 (hq _ (hM42.res (i := 2) rfl).1 (hM42.res (i := 3) rfl).1) (by omega)) rfl fun v50 w50 ⟨y50, rs50, hr50, hs50, hm50⟩ => ?_
    have hM50 : Mem w [] w50 [rv5, rt5, rs9, rq, rn, rs50] := hM42.add hm50
    subst hr50
    refine mv <| ext rfl rfl <| ext rfl rfl <| mv <| mv <| h46 _ _ ⟨y50, (rn ++ rs50), rfl, vi, rfl, vi, vi, rfl, rfl, vi, hM50.keep (by simp), fun w2 _ _ h3 => by have e : (cand (rawT Rq tk) fc) = (Hf.encR (rawT Rq tk)).1 := (by rw [show fc = 2 by omega]; rfl); rw [e]; exact (hs50).rdOwn fun e he => h3 e (List.mem_append_right _ he)⟩
   refine h46 _ _ ⟨vn, rn, rfl, vi, rfl, vi, vi, rfl, rfl, vi, hM42.keep (by simp), fun w2 h1 h2 h3 => by have q := hn w2 h1 h2 h3; by_cases c : fc = 1; (rw [if_pos c] at q; exact q); (rw [if_neg c] at q; rw [show fc = 0 by omega]; exact q)⟩
  rintro f w47 ⟨vn, rn, e47_17, e47_18, e47_7, e47_9, e47_13, e47_14, e47_15, e47_16, hM47, hn⟩
  obtain ⟨frm, rfl⟩ := re8 e47_17 e47_18 e47_7 e47_9 e47_13 e47_14 e47_15 e47_16
  refine seq fun _ h51 => seq fun _ h52 => mv <| stp (v := .bool false) (o_bin rfl rfl v_neF) <| h52 _ _ <| cndF rfl <| h51 _ _ <| seq fun _ h53 => ?_
  have hcf := cand_len hrw fc
  refine mv <| stp (v := .int .i64 ((cand (rawT Rq tk) fc).length : Nat)) (o_lenR (hn _ (hM47.res (i := 2) rfl).1 (hM47.res (i := 3) rfl).1 (hM47.res (i := 4) rfl).1) rfl rfl) <| stp (v := .int .i64 (64 * ((cand (rawT Rq tk) fc).length : Nat))) (o_bin rfl rfl (v_mul64 (by omega))) <| mv ?_
  obtain ⟨fi, hfi⟩ : ∃ b : Bool, b = decide ((rawT Rq tk).length ≤ 64 * (cand (rawT Rq tk) fc).length) := ⟨_, rfl⟩
  refine stp (v := .bool fi) (o_bin rfl rfl (by rw [hfi]; exact (congrArg Value.bool (decide_eq_decide.2 (by constructor <;> intro q <;> omega))))) <| mv <| h53 _ _ <| seq fun _ h54 => seq fun _ h55 => ?_
  rcases (Bool.eq_false_or_eq_true fi) with rfl | rfl
  ·refine mv ?_
   have hfit := of_decide_eq_true hfi.symm
   have hbg := hbm fc (by omega) hfit
   refine mv <| splitT rfl <| gmv rfl <| stg rfl (v := .int .i64 ((cand (rawT Rq tk) fc).length : Nat)) (o_lenR (hn _ (hM47.res (i := 2) rfl).1 (hM47.res (i := 3) rfl).1 (hM47.res (i := 4) rfl).1) rfl rfl) <| gmv rfl <| stg rfl (v := .int .i64 ((cand (rawT Rq tk) fb).length : Nat)) (o_lenR (hu16'.rd hM47 (i := 2) rfl) rfl rfl) <| gbn rfl rfl rfl <| gmv rfl <| splitP rfl (fun c56 => absurd c56 (by omega)) (fun c56 => gmv rfl <| stg rfl (v := .int .i64 ((cand (rawT Rq tk) fc).length : Nat)) (o_lenR (hn _ (hM47.res (i := 2) rfl).1 (hM47.res (i := 3) rfl).1 (hM47.res (i := 4) rfl).1) rfl rfl) <| gmv rfl <| stg rfl (v := .int .i64 ((cand (rawT Rq tk) fb).length : Nat)) (o_lenR (hu16'.rd hM47 (i := 2) rfl) rfl rfl) <| gbn rfl rfl rfl ?_)
   refine gmv rfl <| splitP rfl (fun c57 => ?_) (fun c57 => ?_)
   ·refine gmv rfl <| stg rfl (v := .int .u8 (fc : Nat)) (o_conv rfl (conv_u8 (by omega))) <| gmv rfl <| gbn rfl rfl rfl <| gpkT rfl rfl <| gpkF rfl rfl <| pkT rfl <| h55 _ _ <| cndP rfl (fun c58 => absurd c58 (by omega)) (fun c58 => h54 _ _ <| seq fun _ h59 => m_bs hM47 rfl fun b60 w61 (hM61 : Mem w [] w61 [rv5, rt5, rs9, rq, rn, [⟨b60, 5, []⟩]]) => mv ?_)
    have hs62 : SlE byteV 5 (.slice (some ⟨b60, 0, none⟩) 0 0) [] [⟨b60, 5, []⟩] := SlE.lit (l := []) rfl
    refine m_appE hM61 (i := 5) rfl hs62 rfl rfl (hn _ (hM61.res (i := 2) rfl).1 (hM61.res (i := 3) rfl).1 (hM61.res (i := 4) rfl).1) (by first | omega | (simp; omega)) (by omega) fun v63 w63 r63 (hs63 : SlE byteV 5 v63 ((cand (rawT Rq tk) fc)) r63) (hM63 : Mem w [] w63 [rv5, rt5, rs9, rq, rn, r63]) => mv <| stp (v := .int .u8 ((fc : Nat) : Int)) (o_conv rfl (conv_u8 (by omega))) <| m_app1 (E := byteV) (q := (((fc : Nat) : Int)).toNat.toUInt8) hM63 (i := 5) rfl hs63 rfl (by simp) (byteV_of (by omega) (by omega)) (by omega) (by omega) fun v64 w64 r64 u64 (hs64 : SlE byteV 5 v64 ((cand (rawT Rq tk) fc) ++ [(((fc : Nat) : Int)).toNat.toUInt8]) r64) (hM64 : Mem w [] w64 [rv5, rt5, rs9, rq, rn, r64]) => m_call (pSeal_ok _ (cand (rawT Rq tk) fc ++ [fc.toUInt8]) w64 (hs64.rd hM64 (i := 5) rfl) (by rw [List.length_append, List.length_singleton]; omega)) rfl fun v65 w65 ⟨rs65, hs65, hm65⟩ => ?_
    have hM65 : Mem w [] w65 [rv5, rt5, rs9, rq, rn, r64, rs65] := hM64.add hm65
    refine mv <| m_call (opnC_ok Rq fc tk _ w65 (hs65.rd hM65 (i := 6) rfl) ⟨by omega, by omega⟩ hoT h0T (by omega) hfit) rfl fun v66 w66 ⟨br66, rr66, hr66, hR66, hm66⟩ => ?_
    have hM66 : Mem w [] w66 [rv5, rt5, rs9, rq, rn, r64, rs65, rr66] := hM65.add hm66
    subst hr66
    refine mv <| ext rfl rfl <| ext rfl rfl <| mv <| mv <| h59 _ _ <| seq fun _ h67 => mv <| stp (v := .bool true) (o_bin rfl rfl v_eqT) <| mv <| stp (v := .bool false) (o_beq rfl rfl (by simp)) <| mv <| splitF rfl <| gmv rfl ?_
    refine gmv rfl <| splitT rfl <| gmv rfl <| gyesl rfl <| m_call (RLen_ok br66 Rq tk rr66 w66 hR66 (hM66.res (i := 7) rfl)) rfl fun v68 w68 ⟨hr68, hm68⟩ => ?_
    have hM68 : Mem w [] w68 [rv5, rt5, rs9, rq, rn, r64, rs65, rr66] := hM66.step 7 rfl hm68
    subst hr68
    refine gmv rfl <| stg rfl (v := .int .i64 (tk.length : Nat)) (o_lenR (hvs5.rd hM68 (i := 0) rfl) rfl rfl) <| stg rfl (v := .bool false) (o_bin rfl rfl v_neF) <| gpkT rfl rfl <| pkF rfl <| h67 _ _ <| cndF rfl <| h38 _ _ <| mv <| stp (v := .int .i64 ((fc : Nat) + 1)) (o_bin rfl rfl (v_add64 (by omega))) <| mv <| h34 (fc + 1) _ _ ⟨vi, rfl, vi, vi, rfl, rfl, hM68.keep (by simp), by omega⟩ (by (try dsimp only); omega)
   refine gx rfl <| gx rfl <| gx rfl <| gx rfl <| gpkF rfl rfl <| gpkF rfl rfl <| pkT rfl <| h55 _ _ <| cndF rfl <| h54 _ _ <| seq fun _ h69 => m_bs hM47 rfl fun b70 w71 (hM71 : Mem w [] w71 [rv5, rt5, rs9, rq, rn, [⟨b70, 5, []⟩]]) => mv ?_
   have hs72 : SlE byteV 5 (.slice (some ⟨b70, 0, none⟩) 0 0) [] [⟨b70, 5, []⟩] := SlE.lit (l := []) rfl
   refine m_appE hM71 (i := 5) rfl hs72 rfl rfl (hn _ (hM71.res (i := 2) rfl).1 (hM71.res (i := 3) rfl).1 (hM71.res (i := 4) rfl).1) (by first | omega | (simp; omega)) (by omega) fun v73 w73 r73 (hs73 : SlE byteV 5 v73 ((cand (rawT Rq tk) fc)) r73) (hM73 : Mem w [] w73 [rv5, rt5, rs9, rq, rn, r73]) => mv <| stp (v := .int .u8 ((fc : Nat) : Int)) (o_conv rfl (conv_u8 (by omega))) <| m_app1 (E := byteV) (q := (((fc : Nat) : Int)).toNat.toUInt8) hM73 (i := 5) rfl hs73 rfl (by simp) (byteV_of (by omega) (by omega)) (by omega) (by omega) fun v74 w74 r74 u74 (hs74 : SlE byteV 5 v74 ((cand (rawT Rq tk) fc) ++ [(((fc : Nat) : Int)).toNat.toUInt8]) r74) (hM74 : Mem w [] w74 [rv5, rt5, rs9, rq, rn, r74]) => m_call (pSeal_ok _ (cand (rawT Rq tk) fc ++ [fc.toUInt8]) w74 (hs74.rd hM74 (i := 5) rfl) (by rw [List.length_append, List.length_singleton]; omega)) rfl fun v75 w75 ⟨rs75, hs75, hm75⟩ => ?_
   have hM75 : Mem w [] w75 [rv5, rt5, rs9, rq, rn, r74, rs75] := hM74.add hm75
   refine mv <| m_call (opnC_ok Rq fc tk _ w75 (hs75.rd hM75 (i := 6) rfl) ⟨by omega, by omega⟩ hoT h0T (by omega) hfit) rfl fun v76 w76 ⟨br76, rr76, hr76, hR76, hm76⟩ => ?_
   have hM76 : Mem w [] w76 [rv5, rt5, rs9, rq, rn, r74, rs75, rr76] := hM75.add hm76
   subst hr76
   refine mv <| ext rfl rfl <| ext rfl rfl <| mv <| mv <| h69 _ _ <| seq fun _ h77 => mv <| stp (v := .bool true) (o_bin rfl rfl v_eqT) <| mv <| stp (v := .bool false) (o_beq rfl rfl (by simp)) <| mv <| splitF rfl <| gmv rfl <| gmv rfl <| splitT rfl <| gmv rfl <| gyesl rfl <| m_call (RLen_ok br76 Rq tk rr76 w76 hR76 (hM76.res (i := 7) rfl)) rfl fun v78 w78 ⟨hr78, hm78⟩ => ?_
   have hM78 : Mem w [] w78 [rv5, rt5, rs9, rq, rn, r74, rs75, rr76] := hM76.step 7 rfl hm78
   subst hr78
   refine gmv rfl <| stg rfl (v := .int .i64 (tk.length : Nat)) (o_lenR (hvs5.rd hM78 (i := 0) rfl) rfl rfl) <| stg rfl (v := .bool false) (o_bin rfl rfl v_neF) <| gpkT rfl rfl <| pkF rfl <| h77 _ _ <| cndF rfl <| h38 _ _ <| mv <| stp (v := .int .i64 ((fc : Nat) + 1)) (o_bin rfl rfl (v_add64 (by omega))) <| mv <| h34 (fc + 1) _ _ ⟨vi, rfl, vi, vi, rfl, rfl, hM78.keep (by simp), by omega⟩ (by (try dsimp only); omega)
  refine mv ?_
  have hfit := of_decide_eq_false hfi.symm
  refine mv <| splitF rfl <| gx rfl <| gx rfl <| gx rfl <| gx rfl <| gx rfl <| gx rfl <| splitU rfl <| gnou rfl <| gnou rfl <| gnou rfl <| gnou rfl <| gnou rfl <| gnou rfl <| splitU rfl <| gnou rfl <| gnou rfl <| gnou rfl <| gnou rfl <| gnou rfl <| gx rfl <| pkF rfl <| h55 _ _ <| cndF rfl <| h54 _ _ <| seq fun _ h79 => m_bs hM47 rfl fun b80 w81 (hM81 : Mem w [] w81 [rv5, rt5, rs9, rq, rn, [⟨b80, 5, []⟩]]) => mv ?_
  have hs82 : SlE byteV 5 (.slice (some ⟨b80, 0, none⟩) 0 0) [] [⟨b80, 5, []⟩] := SlE.lit (l := []) rfl
  refine m_appE hM81 (i := 5) rfl hs82 rfl rfl (hn _ (hM81.res (i := 2) rfl).1 (hM81.res (i := 3) rfl).1 (hM81.res (i := 4) rfl).1) (by first | omega | (simp; omega)) (by omega) fun v83 w83 r83 (hs83 : SlE byteV 5 v83 ((cand (rawT Rq tk) fc)) r83) (hM83 : Mem w [] w83 [rv5, rt5, rs9, rq, rn, r83]) => mv <| stp (v := .int .u8 ((fc : Nat) : Int)) (o_conv rfl (conv_u8 (by omega))) <| m_app1 (E := byteV) (q := (((fc : Nat) : Int)).toNat.toUInt8) hM83 (i := 5) rfl hs83 rfl (by simp) (byteV_of (by omega) (by omega)) (by omega) (by omega) fun v84 w84 r84 u84 (hs84 : SlE byteV 5 v84 ((cand (rawT Rq tk) fc) ++ [(((fc : Nat) : Int)).toNat.toUInt8]) r84) (hM84 : Mem w [] w84 [rv5, rt5, rs9, rq, rn, r84]) => m_call (pSeal_ok _ (cand (rawT Rq tk) fc ++ [fc.toUInt8]) w84 (hs84.rd hM84 (i := 5) rfl) (by rw [List.length_append, List.length_singleton]; omega)) rfl fun v85 w85 ⟨rs85, hs85, hm85⟩ => ?_
  have hM85 : Mem w [] w85 [rv5, rt5, rs9, rq, rn, r84, rs85] := hM84.add hm85
  refine mv <| m_call (opnS_ok Rq fc tk _ w85 (hs85.rd hM85 (i := 6) rfl) ⟨by omega, by omega⟩ hoT h0T (by omega) hfit) rfl fun v86 w86 ⟨rr86, hr86, hm86⟩ => ?_
  have hM86 : Mem w [] w86 [rv5, rt5, rs9, rq, rn, r84, rs85, rr86] := hM85.add hm86
  subst hr86
  refine mv <| ext rfl rfl <| ext rfl rfl <| mv <| mv <| h79 _ _ <| seq fun _ h87 => mv <| bn rfl rfl <| mv <| stp (v := .bool (decide (¬ (decide ((60 : Int) = 0)) = (false : Bool)))) (o_beq rfl rfl (by simp)) <| mv <| splitP rfl (fun c88 => absurd c88 (by simp)) (fun c88 => gmv rfl <| gmv rfl <| splitF rfl <| gx rfl <| gxl rfl <| gx rfl <| gx rfl <| gx rfl <| gpkF rfl rfl <| pkF rfl <| h87 _ _ <| cndF rfl <| h38 _ _ <| mv <| stp (v := .int .i64 ((fc : Nat) + 1)) (o_bin rfl rfl (v_add64 (by omega))) <| mv <| h34 (fc + 1) _ _ ⟨vi, rfl, vi, vi, rfl, rfl, hM86.keep (by simp), by omega⟩ (by (try dsimp only); omega))
 refine h31 _ _ <| seq fun _ h89 => mv <| h89 _ _ <| ⟨(.bool true), rfl, ⟨rfl, hM33.upd⟩⟩
theorem BlockCodes_row (r0 m0 : Int) (x : Value) (l : List Pr2) (hr0 : inK .i64 r0) (hm0 : inK .i64 m0) (w : World) (hx : RdS pairC w x l) (hok : ∀ z ∈ l, PrOk z) (hl : l.length * 32 ≤ 140737488351232) : Calls Try.prog 4 [.int .i64 r0, .int .i64 m0, x].toArray w (Rt fun r w' => r = .bool true ∧ Upd [] w w') :=
 BlockCodes_ok r0 m0 x l w hr0 hm0 hx (by omega) (pr_all hok)
end Go.Proofs.Ytifnmbmijljhfaa.E
