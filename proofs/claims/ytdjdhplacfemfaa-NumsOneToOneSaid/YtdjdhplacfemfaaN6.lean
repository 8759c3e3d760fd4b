/- NumsGet, NumsOneToOne: the laws' walks, and what is told of reading and writing numbers. -/
import Derived.Test.YtdjdhplacfemfaaN4
namespace Go.Proofs.Ytdjdhplacfemfaa.E
open Go

theorem xor_set {b t : List UInt8} {i : Nat} (hi : i < b.length) : ((b.take i).map (· ^^^ 129) ++ (b.drop i ++ t)).set i (b.getD i 0 ^^^ 129) = (b.take (i + 1)).map (· ^^^ 129) ++ (b.drop (i + 1) ++ t) := by
  rw [List.set_append_right _ _ (by simp; omega), drop_getD hi, take_getD hi]
  have : ((b.take i).map (· ^^^ (129 : UInt8))).length = i := by simp; omega
  rw [this, Nat.sub_self]
  simp
theorem xor_getD {b t : List UInt8} {i : Nat} (hi : i < b.length) : ((b.take i).map (· ^^^ 129) ++ (b.drop i ++ t)).getD i 0 = b.getD i 0 := by
  have : ((b.take i).map (· ^^^ (129 : UInt8))).length = i := by simp; omega
  rw [getD_app2 (by omega), this, Nat.sub_self, getD_app1 (by simp; omega), drop_getD hi]; rfl
theorem xor_getD2 {b t : List UInt8} {i : Nat} (hi : i < b.length) : ((b.take (i + 1)).map (· ^^^ 129) ++ (b.drop (i + 1) ++ t)).getD i 0 = b.getD i 0 ^^^ 129 := by
  rw [← xor_set hi, List.getD_eq_getElem?_getD, List.getElem?_set_self (by simp; omega)]; rfl
theorem xor_el {b t : List UInt8} {i : Nat} (hi : i < b.length) : byteV ((((b.take i).map (· ^^^ 129) ++ (b.drop i ++ t)).set i (b.getD i 0 ^^^ 129)).getD i 0) = byteV (b.getD i 0 ^^^ 129) := by rw [xor_set hi, xor_getD2 hi]
theorem xor_v (c : UInt8) : xorI .u8 (c.toNat : Int) 129 = ((c ^^^ 129).toNat : Int) := by
  have hc := c.toNat_lt
  have h : c.toNat ^^^ 129 < 2 ^ 8 := Nat.xor_lt_two_pow hc (by decide)
  have := xorI_nat (k := .u8) (a := c.toNat) (b := 129) (by simpa [IntKind.bits] using hc) (by decide) (by simp only [inK]; omega)
  rw [show (129 : Int) = ((129 : Nat) : Int) from rfl, this]
  simp

/-- winnowlaw2.NumsGet -/
theorem NumsGet_ok (x : Value) (b : List UInt8) (w : World) (hx : RdB w x b) (hl : b.length ≤ 140737488351232) : Calls Try.prog 4 [x].toArray w (Rt fun r w' => r = .bool true ∧ Upd [] w w') := by
  have hM0 : Mem w [] w [] := Mem.nil w []
  refine calls_vc mixed Try.func4 rfl C4 (by simp [Try.ntmps4]) ?_
  refine seq fun K1 h1 => ?_
  refine stp (v := .bool false) (o_mv rfl) ?_
  refine h1 _ _ ?_
  clear h1
  refine seq fun K2 h2 => ?_
  refine stp (v := x) (o_mv rfl) ?_
  refine m_call (spare_ok _ b w (hx.upd hM0.upd) (by first | omega | (simp; done) | (simp; omega))) rfl fun v3 w3 ⟨rs3, hs3, hm3⟩ => ?_
  have hM3 : Mem w [] w3 [rs3] := hM0.add hm3
  refine stp (v := v3) (o_mv rfl) ?_
  refine h2 _ _ ?_
  clear h2
  refine seq fun K4 h4 => ?_
  refine stp (v := v3) (o_mv rfl) ?_
  refine stp (v := x) (o_mv rfl) ?_
  refine stp (v := .int .i64 (b.length : Nat)) (o_lenR (hx.upd hM3.upd) rfl rfl) ?_
  refine m_slcE 0 b.length (hs3.rd hM3 (i := 0) rfl) rfl (by first | omega | (simp; done) | (simp; omega)) (by first | omega | (simp; done) | (simp; omega)) ⟨_, rfl⟩ rfl fun u5 hu5 => ?_
  have hu5' : RdE byteV w3 u5 b := by
    have e : ((b ++ List.replicate 64 (150 : UInt8)).take b.length).drop 0 = b := by simp
    rw [e] at hu5; exact hu5
  refine m_call (Get_ok _ b w3 (hu5') (by first | omega | (simp; done) | (simp; omega))) rfl fun v6 w6 ⟨hr6, hu6⟩ => ?_
  have hM6 : Mem w [] w6 [rs3] := hM3.pure hu6
  subst hr6
  refine stp (v := .tuple [.int .i64 ((get b).1 : Nat), .int .i64 ((get b).2.1 : Nat), .int .i64 ((get b).2.2)].toArray) (o_mv rfl) ?_
  refine stp (v := .int .i64 ((get b).1 : Nat)) (o_ext rfl rfl) ?_
  refine stp (v := .int .i64 ((get b).2.1 : Nat)) (o_ext rfl rfl) ?_
  refine stp (v := .int .i64 ((get b).2.2)) (o_ext rfl rfl) ?_
  refine stp (v := .int .i64 ((get b).1 : Nat)) (o_mv rfl) ?_
  refine stp (v := .int .i64 ((get b).2.1 : Nat)) (o_mv rfl) ?_
  refine stp (v := .int .i64 ((get b).2.2)) (o_mv rfl) ?_
  refine h4 _ _ ?_
  clear h4
  refine seq fun K7 h7 => ?_
  refine stp (v := x) (o_mv rfl) ?_
  refine m_call (refGet_ok _ b w6 (hx.upd hM6.upd) (by first | omega | (simp; done) | (simp; omega))) rfl fun v8 w8 ⟨hr8, hu8⟩ => ?_
  have hM8 : Mem w [] w8 [rs3] := hM6.pure hu8
  subst hr8
  refine stp (v := .tuple [.int .i64 ((get b).1 : Nat), .int .i64 ((get b).2.1 : Nat), .int .i64 ((get b).2.2)].toArray) (o_mv rfl) ?_
  refine stp (v := .int .i64 ((get b).1 : Nat)) (o_ext rfl rfl) ?_
  refine stp (v := .int .i64 ((get b).2.1 : Nat)) (o_ext rfl rfl) ?_
  refine stp (v := .int .i64 ((get b).2.2)) (o_ext rfl rfl) ?_
  refine stp (v := .int .i64 ((get b).1 : Nat)) (o_mv rfl) ?_
  refine stp (v := .int .i64 ((get b).2.1 : Nat)) (o_mv rfl) ?_
  refine stp (v := .int .i64 ((get b).2.2)) (o_mv rfl) ?_
  refine h7 _ _ ?_
  clear h7
  refine seq fun K9 h9 => ?_
  refine stp (v := v3) (o_mv rfl) ?_
  refine stp (v := x) (o_mv rfl) ?_
  refine stp (v := .int .i64 (b.length : Nat)) (o_lenR (hx.upd hM8.upd) rfl rfl) ?_
  refine m_slcE 0 b.length (hs3.rd hM8 (i := 0) rfl) rfl (by first | omega | (simp; done) | (simp; omega)) (by first | omega | (simp; done) | (simp; omega)) ⟨_, rfl⟩ rfl fun u10 hu10 => ?_
  have hu10' : RdE byteV w8 u10 b := by
    have e : ((b ++ List.replicate 64 (150 : UInt8)).take b.length).drop 0 = b := by simp
    rw [e] at hu10; exact hu10
  refine m_call (Word_ok _ b w8 (hu10') (by first | omega | (simp; done) | (simp; omega))) rfl fun v11 w11 ⟨hr11, hu11⟩ => ?_
  have hM11 : Mem w [] w11 [rs3] := hM8.pure hu11
  subst hr11
  refine stp (v := .int .u64 (word b : Nat)) (o_mv rfl) ?_
  refine h9 _ _ ?_
  clear h9
  refine seq fun K12 h12 => ?_
  refine seq fun K13 h13 => ?_
  refine stp (v := .int .i64 ((get b).1 : Nat)) (o_mv rfl) ?_
  refine stp (v := .int .i64 ((get b).1 : Nat)) (o_mv rfl) ?_
  refine stp (v := .bool false) (o_bin rfl rfl v_neF) ?_
  refine stp (v := .bool false) (o_mv rfl) ?_
  refine splitF rfl ?_
  refine stg rfl (v := .int .i64 ((get b).2.1 : Nat)) (o_mv rfl) ?_
  refine stg rfl (v := .int .i64 ((get b).2.1 : Nat)) (o_mv rfl) ?_
  refine stg rfl (v := .bool false) (o_bin rfl rfl v_neF) ?_
  refine stp (v := .bool false) (o_pickF rfl rfl) ?_
  refine stp (v := .bool false) (o_mv rfl) ?_
  refine splitF rfl ?_
  refine stg rfl (v := .int .i64 ((get b).2.2)) (o_mv rfl) ?_
  refine stg rfl (v := .int .i64 ((get b).2.2)) (o_mv rfl) ?_
  refine stg rfl (v := .bool false) (o_bin rfl rfl v_neF) ?_
  refine stp (v := .bool false) (o_pickF rfl rfl) ?_
  refine stp (v := .bool false) (o_mv rfl) ?_
  refine splitF rfl ?_
  refine stg rfl (v := .int .u64 (word b : Nat)) (o_mv rfl) ?_
  refine stg rfl (v := x) (o_mv rfl) ?_
  refine gyesl rfl ?_
  refine m_call (refWord_ok _ b w11 (hx.upd hM11.upd) (by first | omega | (simp; done) | (simp; omega))) rfl fun v14 w14 ⟨hr14, hu14⟩ => ?_
  have hM14 : Mem w [] w14 [rs3] := hM11.pure hu14
  subst hr14
  refine stg rfl (v := .bool false) (o_bin rfl rfl v_neF) ?_
  refine stp (v := .bool false) (o_pickF rfl rfl) ?_
  refine stp (v := .bool false) (o_mv rfl) ?_
  refine splitF rfl ?_
  refine stg rfl (v := v3) (o_mv rfl) ?_
  refine stg rfl (v := x) (o_mv rfl) ?_
  refine gyesl rfl ?_
  refine m_call (kept_ok _ _ (b ++ List.replicate 64 (150 : UInt8)) b w14 (hs3.rd hM14 (i := 0) rfl) (hx.upd hM14.upd) (by first | omega | (simp; done) | (simp; omega)) (by first | omega | (simp; done) | (simp; omega))) rfl fun v15 w15 ⟨hr15, hu15⟩ => ?_
  have hM15 : Mem w [] w15 [rs3] := hM14.pure hu15
  obtain rfl : v15 = .bool true := hr15.trans (by simp)
  clear hr15
  refine stg rfl (v := .bool false) (o_not rfl rfl) ?_
  refine stp (v := .bool false) (o_pickF rfl rfl) ?_
  refine h13 _ _ ?_
  clear h13
  refine cndF rfl ?_
  refine h12 _ _ ?_
  clear h12
  refine seq fun K16 h16 => ?_
  refine stp (v := .slice none 0 0) (o_mv rfl) ?_
  refine h16 _ _ ?_
  clear h16
  refine seq fun K17 h17 => ?_
  refine seq fun K18 h18 => ?_
  refine stp (v := .int .i64 0) (o_mv rfl) ?_
  refine h18 _ _ ?_
  clear h18
  refine lp (n := fun _ _ => False) (ι := (Nat) × (Value) × (List Ent) × (Value) × (List Ent)) (fun ⟨i, g, r, c, q⟩ f w' => f 0 = x ∧ f 3 = g ∧ f 11 = c ∧ f 12 = .int .i64 (i : Nat) ∧ Mem w [] w' [r, q] ∧ (SlB 5 g ((b.take i).map (· ^^^ 129) ++ (b.drop i ++ List.replicate 64 (150 : UInt8))) r) ∧ (SlB 5 c ((b.take i).map (· ^^^ 129)) q) ∧ (i ≤ b.length) ∧ (((b.take i).map (· ^^^ 129) ++ (b.drop i ++ List.replicate 64 (150 : UInt8))).length = b.length + 64) ∧ (((b.take i).map (· ^^^ (129 : UInt8))).length = i)) (fun ⟨i, g, r, c, q⟩ => b.length - i) (0, v3, rs3, .slice none 0 0, []) ?_ ?_
  · exact ⟨rfl, rfl, rfl, by first | rfl | exact v_int (by omega) | exact v_int (by simp) | exact v_int (by simp; omega), hM15.addNil, by simpa using hs3, Sl.nil 1 5, by omega, by simp, by simp⟩
  · rintro ⟨i, g, r, c, q⟩ f w19 ⟨e19_0, e19_3, e19_11, e19_12, hM19, hs, hs2, hi, hq, hq2⟩ K20 h20
    obtain ⟨frm, rfl⟩ : ∃ frm, f = (upd (upd (upd (upd frm 0 (x)) 3 (g)) 11 (c)) 12 (.int .i64 (i : Nat))) := ⟨f, by rw [upd_self e19_0, upd_self e19_3, upd_self e19_11, upd_self e19_12]⟩
    clear e19_0 e19_3 e19_11 e19_12
    refine seq fun K21 h21 => ?_
    refine seq fun K22 h22 => ?_
    refine stp (v := .int .i64 (i : Nat)) (o_mv rfl) ?_
    refine stp (v := x) (o_mv rfl) ?_
    refine stp (v := .int .i64 (b.length : Nat)) (o_lenR (hx.upd hM19.upd) rfl rfl) ?_
    refine stp (v := .bool (decide (((i : Nat) : Int) < (b.length : Nat)))) (o_bin rfl rfl rfl) ?_
    refine h22 _ _ ?_
    clear h22
    refine cndP rfl (fun c23 => ?_) (fun c23 => ?_)
    ·
      refine h21 _ _ ?_
      clear h21
      refine seq fun K24 h24 => ?_
      refine seq fun K25 h25 => ?_
      refine stp (v := g) (o_mv rfl) ?_
      refine stp (v := .int .i64 (i : Nat)) (o_mv rfl) ?_
      refine stp (v := g) (o_mv rfl) ?_
      refine stp (v := .int .i64 (i : Nat)) (o_mv rfl) ?_
      refine m_idxE 0 (j := i) (hs.rd hM19 (i := 0) rfl) rfl rfl (by omega) fun b26 o26 hp26 => ?_
      refine ld (v := byteV (((b.take i).map (· ^^^ 129) ++ (b.drop i ++ List.replicate 64 (150 : UInt8))).getD i 0)) rfl (hp26) ?_
      refine stp (v := .int .u8 ((b.getD i 0 ^^^ 129).toNat : Int)) (o_bin rfl rfl (by rw [xor_getD (by omega)]; exact v_int (xor_v _))) ?_
      refine m_set (E := byteV) (q := b.getD i 0 ^^^ 129) (j := i) hM19 (i := 0) rfl hs rfl rfl (by omega) (by simp) (rfl) fun w27 r27 u27 hs27 (hM27 : Mem w [] w27 [r27, q]) => ?_
      refine h25 _ _ ?_
      clear h25
      refine stp (v := c) (o_mv rfl) ?_
      refine stp (v := g) (o_mv rfl) ?_
      refine stp (v := .int .i64 (i : Nat)) (o_mv rfl) ?_
      refine m_idxE 0 (j := i) (hs27.rd hM27 (i := 0) rfl) rfl rfl (by simp; omega) fun b28 o28 hp28 => ?_
      refine ld (v := byteV ((((b.take i).map (· ^^^ 129) ++ (b.drop i ++ List.replicate 64 (150 : UInt8))).set i (b.getD i 0 ^^^ 129)).getD i 0)) rfl (hp28) ?_
      refine m_app1 (E := byteV) (q := b.getD i 0 ^^^ 129) hM27 (i := 1) rfl hs2 rfl (by simp) (xor_el (by omega)) (by omega) (by omega) fun v29 w29 r29 u29 (hs29 : SlE byteV 5 v29 (((b.take i).map (· ^^^ 129)) ++ [b.getD i 0 ^^^ 129]) r29) (hM29 : Mem w [] w29 [r27, r29]) => ?_
      refine stp (v := v29) (o_mv rfl) ?_
      refine h24 _ _ ?_
      clear h24
      refine stp (v := .int .i64 (i : Nat)) (o_mv rfl) ?_
      refine stp (v := .int .i64 ((i : Nat) + 1)) (o_bin rfl rfl (v_add64 (by constructor <;> omega))) ?_
      refine stp (v := .int .i64 ((i : Nat) + 1)) (o_mv rfl) ?_
      refine h20 (i + 1, g, r27, v29, r29) _ _ ⟨rfl, rfl, rfl, by first | rfl | exact v_int (by omega) | exact v_int (by simp) | exact v_int (by simp; omega), hM29, by rw [← xor_set (by omega)]; exact hs27, by rw [take_getD (by omega), List.map_append]; exact hs29, by omega, by simp; omega, by simp; omega⟩ (by (try dsimp only); omega)
    ·
      refine h17 _ _ ?_
      clear h17
      refine seq fun K30 h30 => ?_
      obtain rfl : i = b.length := by omega
      rw [List.take_length] at hs hs2
      rw [List.drop_length, List.nil_append] at hs
      have hq3 : (b.map (· ^^^ (129 : UInt8)) ++ List.replicate 64 (150 : UInt8)).length = b.length + 64 := by simp
      refine stp (v := g) (o_mv rfl) ?_
      refine stp (v := x) (o_mv rfl) ?_
      refine stp (v := .int .i64 (b.length : Nat)) (o_lenR (hx.upd hM19.upd) rfl rfl) ?_
      refine m_slcE 0 b.length (hs.rd hM19 (i := 0) rfl) rfl (by omega) (by omega) ⟨_, rfl⟩ rfl fun u31 hu31 => ?_
      have hu31' : RdE byteV w19 u31 (b.map (· ^^^ 129)) := by
        have e : ((b.map (· ^^^ 129) ++ List.replicate 64 (150 : UInt8)).take b.length).drop 0 = (b.map (· ^^^ 129)) := by simp
        rw [e] at hu31; exact hu31
      refine m_call (Get_ok _ (b.map (· ^^^ 129)) w19 (hu31') (by first | omega | (simp; done) | (simp; omega))) rfl fun v32 w32 ⟨hr32, hu32⟩ => ?_
      have hM32 : Mem w [] w32 [r, q] := hM19.pure hu32
      subst hr32
      refine stp (v := .tuple [.int .i64 ((get (b.map (· ^^^ 129))).1 : Nat), .int .i64 ((get (b.map (· ^^^ 129))).2.1 : Nat), .int .i64 ((get (b.map (· ^^^ 129))).2.2)].toArray) (o_mv rfl) ?_
      refine stp (v := .int .i64 ((get (b.map (· ^^^ 129))).1 : Nat)) (o_ext rfl rfl) ?_
      refine stp (v := .int .i64 ((get (b.map (· ^^^ 129))).2.1 : Nat)) (o_ext rfl rfl) ?_
      refine stp (v := .int .i64 ((get (b.map (· ^^^ 129))).2.2)) (o_ext rfl rfl) ?_
      refine stp (v := .int .i64 ((get (b.map (· ^^^ 129))).1 : Nat)) (o_mv rfl) ?_
      refine stp (v := .int .i64 ((get (b.map (· ^^^ 129))).2.1 : Nat)) (o_mv rfl) ?_
      refine stp (v := .int .i64 ((get (b.map (· ^^^ 129))).2.2)) (o_mv rfl) ?_
      refine h30 _ _ ?_
      clear h30
      refine seq fun K33 h33 => ?_
      refine stp (v := c) (o_mv rfl) ?_
      refine m_call (refGet_ok _ (b.map (· ^^^ 129)) w32 (hs2.rd hM32 (i := 1) rfl) (by first | omega | (simp; done) | (simp; omega))) rfl fun v34 w34 ⟨hr34, hu34⟩ => ?_
      have hM34 : Mem w [] w34 [r, q] := hM32.pure hu34
      subst hr34
      refine stp (v := .tuple [.int .i64 ((get (b.map (· ^^^ 129))).1 : Nat), .int .i64 ((get (b.map (· ^^^ 129))).2.1 : Nat), .int .i64 ((get (b.map (· ^^^ 129))).2.2)].toArray) (o_mv rfl) ?_
      refine stp (v := .int .i64 ((get (b.map (· ^^^ 129))).1 : Nat)) (o_ext rfl rfl) ?_
      refine stp (v := .int .i64 ((get (b.map (· ^^^ 129))).2.1 : Nat)) (o_ext rfl rfl) ?_
      refine stp (v := .int .i64 ((get (b.map (· ^^^ 129))).2.2)) (o_ext rfl rfl) ?_
      refine stp (v := .int .i64 ((get (b.map (· ^^^ 129))).1 : Nat)) (o_mv rfl) ?_
      refine stp (v := .int .i64 ((get (b.map (· ^^^ 129))).2.1 : Nat)) (o_mv rfl) ?_
      refine stp (v := .int .i64 ((get (b.map (· ^^^ 129))).2.2)) (o_mv rfl) ?_
      refine h33 _ _ ?_
      clear h33
      refine seq fun K35 h35 => ?_
      refine stp (v := .int .i64 ((get (b.map (· ^^^ 129))).1 : Nat)) (o_mv rfl) ?_
      refine stp (v := .int .i64 ((get (b.map (· ^^^ 129))).1 : Nat)) (o_mv rfl) ?_
      refine stp (v := .bool true) (o_bin rfl rfl v_eqT) ?_
      refine stp (v := .bool true) (o_mv rfl) ?_
      refine splitT rfl ?_
      refine stg rfl (v := .int .i64 ((get (b.map (· ^^^ 129))).2.1 : Nat)) (o_mv rfl) ?_
      refine stg rfl (v := .int .i64 ((get (b.map (· ^^^ 129))).2.1 : Nat)) (o_mv rfl) ?_
      refine stg rfl (v := .bool true) (o_bin rfl rfl v_eqT) ?_
      refine stp (v := .bool true) (o_pickT rfl rfl) ?_
      refine stp (v := .bool true) (o_mv rfl) ?_
      refine splitT rfl ?_
      refine stg rfl (v := .int .i64 ((get (b.map (· ^^^ 129))).2.2)) (o_mv rfl) ?_
      refine stg rfl (v := .int .i64 ((get (b.map (· ^^^ 129))).2.2)) (o_mv rfl) ?_
      refine stg rfl (v := .bool true) (o_bin rfl rfl v_eqT) ?_
      refine stp (v := .bool true) (o_pickT rfl rfl) ?_
      refine stp (v := .bool true) (o_mv rfl) ?_
      refine splitT rfl ?_
      refine stg rfl (v := g) (o_mv rfl) ?_
      refine stg rfl (v := x) (o_mv rfl) ?_
      refine stg rfl (v := .int .i64 (b.length : Nat)) (o_lenR (hx.upd hM34.upd) rfl rfl) ?_
      refine gyes rfl rfl (m_slcE 0 b.length (hs.rd hM34 (i := 0) rfl) rfl (by omega) (by omega) ⟨_, rfl⟩ rfl fun u36 hu36 => ?_)
      have hu36' : RdE byteV w34 u36 (b.map (· ^^^ 129)) := by
        have e : ((b.map (· ^^^ 129) ++ List.replicate 64 (150 : UInt8)).take b.length).drop 0 = (b.map (· ^^^ 129)) := by simp
        rw [e] at hu36; exact hu36
      refine gyesl rfl ?_
      refine m_call (Word_ok _ (b.map (· ^^^ 129)) w34 (hu36') (by first | omega | (simp; done) | (simp; omega))) rfl fun v37 w37 ⟨hr37, hu37⟩ => ?_
      have hM37 : Mem w [] w37 [r, q] := hM34.pure hu37
      subst hr37
      refine stg rfl (v := c) (o_mv rfl) ?_
      refine gyesl rfl ?_
      refine m_call (refWord_ok _ (b.map (· ^^^ 129)) w37 (hs2.rd hM37 (i := 1) rfl) (by first | omega | (simp; done) | (simp; omega))) rfl fun v38 w38 ⟨hr38, hu38⟩ => ?_
      have hM38 : Mem w [] w38 [r, q] := hM37.pure hu38
      subst hr38
      refine stg rfl (v := .bool true) (o_bin rfl rfl v_eqT) ?_
      refine stp (v := .bool true) (o_pickT rfl rfl) ?_
      refine stp (v := .bool true) (o_mv rfl) ?_
      refine splitT rfl ?_
      refine stg rfl (v := g) (o_mv rfl) ?_
      refine stg rfl (v := c) (o_mv rfl) ?_
      refine gyesl rfl ?_
      refine m_call (kept_ok _ _ (b.map (· ^^^ 129) ++ List.replicate 64 (150 : UInt8)) (b.map (· ^^^ 129)) w38 (hs.rd hM38 (i := 0) rfl) (hs2.rd hM38 (i := 1) rfl) (by first | omega | (simp; done) | (simp; omega)) (by first | omega | (simp; done) | (simp; omega))) rfl fun v39 w39 ⟨hr39, hu39⟩ => ?_
      have hM39 : Mem w [] w39 [r, q] := hM38.pure hu39
      obtain rfl : v39 = .bool true := hr39.trans (by simp)
      clear hr39
      refine stp (v := .bool true) (o_pickT rfl rfl) ?_
      refine stp (v := .bool true) (o_mv rfl) ?_
      refine h35 _ _ ?_
      clear h35
      refine ⟨(.bool true), rfl, ?_⟩
      exact ⟨rfl, hM39.upd⟩

theorem getA_put (r : List UInt8) : ∀ (n u i v : Nat), u < n → i ≤ 8 → u < 128 ^ (9 - i) → (0 < i → 0 < u) → getA i v (put u ++ r) = (v + u * 128 ^ i, i + (put u).length, 0) := by
  intro n
  induction n with
  | zero => intro u i v h; omega
  | succ n ih =>
    intro u i v hn hi hu h0
    by_cases h1 : u < 128
    · rw [put_lt h1]
      have e : u.toUInt8.toNat = u := by simp; omega
      simp only [List.cons_append, List.nil_append, getA, e, List.length_singleton]
      rw [if_neg (by omega), if_pos h1, if_neg (by omega), Nat.mod_eq_of_lt h1]
    · rw [put_ge (by omega)]
      have e : (u % 128 + 128).toUInt8.toNat = u % 128 + 128 := by simp; omega
      have h8 : i ≠ 8 := by intro h; subst h; simp at hu; omega
      simp only [List.cons_append, getA, e, List.length_cons]
      rw [if_neg (by omega), if_neg (by omega), ih _ _ _ (by omega) (by omega) ?_ (by intro; omega)]
      · have e2 : (u % 128 + 128) % 128 = u % 128 := by omega
        rw [e2, Nat.pow_succ]
        refine Prod.ext ?_ (Prod.ext ?_ rfl)
        · simp only
          have : u / 128 * (128 ^ i * 128) = (u / 128 * 128) * 128 ^ i := by rw [Nat.mul_comm (128 ^ i), ← Nat.mul_assoc]
          rw [this, Nat.add_assoc, ← Nat.add_mul]
          congr 2; omega
        · simp only; omega
      · have : 128 ^ (9 - i) = 128 ^ (9 - (i + 1)) * 128 := by rw [← Nat.pow_succ]; congr 1; omega
        rw [this] at hu; omega
theorem get_put {v : Int} (h0 : 0 ≤ v) (h : v ≤ 9223372036854775807) (r : List UInt8) : get (putI v ++ r) = (v.toNat, (putI v).length, 0) := by
  unfold get putI
  rw [if_neg (by omega), getA_put r (v.toNat + 1) v.toNat 0 0 (by omega) (by omega) (by
    have : (128 : Nat) ^ (9 - 0) = 9223372036854775808 := by decide
    omega) (by omega)]
  simp
theorem getA_inv : ∀ (b : List UInt8) (i v x m : Nat), getA i v b = (x, m, 0) → i ≤ 8 → ∃ u n, b.take n = put u ∧ n ≤ b.length ∧ 1 ≤ n ∧ m = i + n ∧ x = v + u * 128 ^ i ∧ (0 < i → 0 < u)
  | [], i, v, x, m, h, _ => by simp [getA] at h
  | c :: r, i, v, x, m, h, hi => by
    have hc := c.toNat_lt
    simp only [getA] at h
    split at h
    · simp at h
    · rename_i h8
      split at h
      · rename_i hlt
        split at h
        · simp at h
        · rename_i hz
          simp only [Prod.mk.injEq, and_true] at h
          refine ⟨c.toNat, 1, ?_, by simp, by omega, by omega, ?_, by omega⟩
          · rw [put_lt hlt]; simp
          · rw [← h.1, Nat.mod_eq_of_lt hlt]
      · rename_i hge
        obtain ⟨u, n, h1, h2, h3, h4, h5, h6⟩ := getA_inv r _ _ _ _ h (by omega)
        refine ⟨c.toNat % 128 + 128 * u, n + 1, ?_, by simp; omega, by omega, by omega, ?_, by omega⟩
        · rw [put_ge (by have := h6 (by omega); omega), List.take_succ_cons, h1]
          congr 1
          · have : (c.toNat % 128 + 128 * u) % 128 + 128 = c.toNat := by omega
            rw [this]; simp
          · congr 1; omega
        · rw [h5, Nat.pow_succ, Nat.add_mul, Nat.add_assoc]
          congr 2
          rw [Nat.mul_comm (128 ^ i), ← Nat.mul_assoc, Nat.mul_comm u]
theorem getA_bd : ∀ (b : List UInt8) (i v : Nat), i ≤ 8 → v < 128 ^ i → (getA i v b).1 < 9223372036854775808
  | [], i, v, _, _ => by simp [getA]
  | c :: r, i, v, hi, hv => by
    have hb := digit_bd (m128 c) hi hv
    simp only [getA]
    split
    · simp
    · split
      · split
        · simp
        · simp only; omega
      · exact getA_bd r _ _ (by omega) hb.1
theorem getA_err : ∀ (b : List UInt8) (i v : Nat), ((getA i v b).2.2 = 0 ∨ (getA i v b).2.2 = 20 ∨ (getA i v b).2.2 = 21) ∧ (¬ (getA i v b).2.2 = 0 → (getA i v b).1 = 0 ∧ (getA i v b).2.1 = 0)
  | [], i, v => by simp [getA]
  | c :: r, i, v => by
    simp only [getA]
    split
    · simp
    · split
      · split <;> simp
      · exact getA_err r _ _
theorem getA_short : ∀ (b : List UInt8) (i v : Nat), i ≤ 8 → (getA i v b).2.2 = 20 → b.length + i ≤ 8 ∧ (getA i v (b ++ [1])).2.2 = 0 ∧ (getA i v (b ++ [1])).2.1 = i + b.length + 1
  | [], i, v, hi, h => by
    have : (1 : UInt8).toNat = 1 := rfl
    simp [getA, this]; omega
  | c :: r, i, v, hi, h => by
    simp only [getA, List.cons_append] at h ⊢
    split at h
    · simp at h
    · rename_i h8
      rw [if_neg h8]
      split at h
      · split at h <;> simp at h
      · rename_i hge
        rw [if_neg hge]
        obtain ⟨h1, h2, h3⟩ := getA_short r _ _ (by omega) h
        refine ⟨by simp; omega, h2, by rw [h3]; simp; omega⟩
theorem getA_bad : ∀ (b : List UInt8) (i v : Nat), (getA i v b).2.2 = 21 → (getA i v (b ++ [1])).2.2 = 21
  | [], i, v, h => by simp [getA] at h
  | c :: r, i, v, h => by
    simp only [getA, List.cons_append] at h ⊢
    split at h
    · rename_i h8; rw [if_pos h8]
    · rename_i h8
      rw [if_neg h8]
      split at h
      · rename_i hlt
        rw [if_pos hlt]
        split at h
        · rename_i hz; rw [if_pos hz]
        · simp at h
      · rename_i hge
        rw [if_neg hge]
        exact getA_bad r _ _ h
theorem get_ok {b : List UInt8} (h : (get b).2.2 = 0) : 1 ≤ (get b).2.1 ∧ (get b).2.1 ≤ b.length ∧ putI ((get b).1 : Nat) = b.take (get b).2.1 := by
  obtain ⟨u, n, h1, h2, h3, h4, h5, h6⟩ := getA_inv b 0 0 (get b).1 (get b).2.1 (by rw [← h]; rfl) (by omega)
  simp at h4 h5
  refine ⟨by omega, by omega, ?_⟩
  unfold putI
  rw [if_neg (by omega), h4, h1, h5]; simp

/-- winnowlaw2.NumsOneToOne -/
theorem NumsOneToOne_ok (v : Int) (y : Value) (r : List UInt8) (x : Value) (b : List UInt8) (hv : inK .i64 v) (w : World) (hy : RdB w y r) (hlr : r.length ≤ 140737488351232) (hx : RdB w x b) (hl : b.length ≤ 140737488351232) : Calls Try.prog 6 [.int .i64 v, y, x].toArray w (Rt fun r w' => r = .bool true ∧ Upd [] w w') := by
  have hM0 : Mem w [] w [] := Mem.nil w []
  simp only [inK] at hv
  have hneg : v < 0 → (putI v).length = 0 := fun h => by unfold putI; rw [if_pos h]; rfl
  have hp9 := putI_len hv.2
  have hG : 0 ≤ v → (((get (putI v ++ r)).1 : Nat) : Int) = v ∧ (get (putI v ++ r)).2.1 = (putI v).length ∧ (get (putI v ++ r)).2.2 = 0 ∧ 0 < (putI v).length := fun h => by
    rw [get_put h hv.2]; exact ⟨by simp only; omega, rfl, rfl, putI_pos h⟩
  have ge := getA_err b 0 0
  have gk := get_ok (b := b)
  have g20 := getA_short b 0 0 (by omega)
  have g21 := getA_bad b 0 0
  have gb := getA_bd b 0 0 (by omega) (by simp)
  change (get b).1 < _ at gb
  change ((get b).2.2 = 0 ∨ (get b).2.2 = 20 ∨ (get b).2.2 = 21) ∧ (¬ (get b).2.2 = 0 → (get b).1 = 0 ∧ (get b).2.1 = 0) at ge
  change (get b).2.2 = 20 → b.length + 0 ≤ 8 ∧ (get (b ++ [1])).2.2 = 0 ∧ (get (b ++ [1])).2.1 = 0 + b.length + 1 at g20
  change (get b).2.2 = 21 → (get (b ++ [1])).2.2 = 21 at g21
  refine calls_vc mixed Try.func6 rfl C6 (by simp [Try.ntmps6]) ?_
  refine seq fun K1 h1 => ?_
  refine stp (v := .bool false) (o_mv rfl) ?_
  refine h1 _ _ ?_
  clear h1
  refine seq fun K2 h2 => ?_
  refine stp (v := .int .i64 v) (o_mv rfl) ?_
  refine m_call (Put_ok v (by simp only [inK]; omega) w) rfl fun v3 w3 ⟨rs3, hs3, hm3⟩ => ?_
  have hM3 : Mem w [] w3 [rs3] := hM0.add hm3
  have hn3 := putI_len (v := v) (by omega)
  refine stp (v := v3) (o_mv rfl) ?_
  refine h2 _ _ ?_
  clear h2
  refine seq fun K4 h4 => ?_
  refine seq fun K5 h5 => ?_
  refine stp (v := .int .i64 v) (o_mv rfl) ?_
  refine stp (v := .bool (decide (v < 0))) (o_bin rfl rfl rfl) ?_
  refine h5 _ _ ?_
  clear h5
  refine cndP rfl (fun c6 => ?_) (fun c6 => ?_)
  ·
    refine seq fun K7 h7 => ?_
    refine stp (v := v3) (o_mv rfl) ?_
    refine stp (v := .int .i64 ((putI v).length : Nat)) (o_lenR (hs3.rd hM3 (i := 0) rfl) rfl rfl) ?_
    refine stp (v := .bool (decide ((((putI v).length : Nat) : Int) = 0))) (o_bin rfl rfl rfl) ?_
    refine stp (v := .bool (decide ((((putI v).length : Nat) : Int) = 0))) (o_mv rfl) ?_
    refine splitP rfl (fun c8 => ?_) (fun c8 => (c8 (by omega)).elim)
    refine gyesl rfl ?_
    refine m_call (head_ok w3) rfl fun v9 w9 ⟨hr9, hu9⟩ => ?_
    have hM9 : Mem w [] w9 [rs3] := hM3.pure hu9
    subst hr9
    refine stp (v := .bool true) (o_pickT rfl rfl) ?_
    refine stp (v := .bool true) (o_mv rfl) ?_
    refine h7 _ _ ?_
    clear h7
    refine ⟨(.bool true), rfl, ?_⟩
    exact ⟨rfl, hM9.upd⟩
  ·
    refine h4 _ _ ?_
    clear h4
    refine seq fun K10 h10 => ?_
    refine m_bs hM3 rfl fun b11 w12 (hM12 : Mem w [] w12 [rs3, [⟨b11, 5, []⟩]]) => ?_
    refine stp (v := v3) (o_mv rfl) ?_
    have hs13 : SlE byteV 5 (.slice (some ⟨b11, 0, none⟩) 0 0) [] [⟨b11, 5, []⟩] := SlE.lit (l := []) rfl
    refine m_appE hM12 (i := 1) rfl hs13 rfl rfl (hs3.rd hM12 (i := 0) rfl) (by first | omega | (simp; omega)) (by omega) fun v14 w14 r14 (hs14 : SlE byteV 5 v14 (putI v) r14) (hM14 : Mem w [] w14 [rs3, r14]) => ?_
    refine stp (v := v14) (o_mv rfl) ?_
    refine h10 _ _ ?_
    clear h10
    refine seq fun K15 h15 => ?_
    refine stp (v := v14) (o_mv rfl) ?_
    refine stp (v := y) (o_mv rfl) ?_
    refine m_appE hM14 (i := 1) rfl hs14 rfl rfl (hy.upd hM14.upd) (by first | omega | (simp; omega)) (by omega) fun v16 w16 r16 (hs16 : SlE byteV 5 v16 ((putI v) ++ r) r16) (hM16 : Mem w [] w16 [rs3, r16]) => ?_
    refine stp (v := v16) (o_mv rfl) ?_
    refine h15 _ _ ?_
    clear h15
    refine seq fun K17 h17 => ?_
    refine stp (v := v16) (o_mv rfl) ?_
    refine m_call (Get_ok _ ((putI v) ++ r) w16 (hs16.rd hM16 (i := 1) rfl) (by first | omega | (simp; done) | (simp; omega))) rfl fun v18 w18 ⟨hr18, hu18⟩ => ?_
    have hM18 : Mem w [] w18 [rs3, r16] := hM16.pure hu18
    subst hr18
    refine stp (v := .tuple [.int .i64 ((get ((putI v) ++ r)).1 : Nat), .int .i64 ((get ((putI v) ++ r)).2.1 : Nat), .int .i64 ((get ((putI v) ++ r)).2.2)].toArray) (o_mv rfl) ?_
    refine stp (v := .int .i64 ((get ((putI v) ++ r)).1 : Nat)) (o_ext rfl rfl) ?_
    refine stp (v := .int .i64 ((get ((putI v) ++ r)).2.1 : Nat)) (o_ext rfl rfl) ?_
    refine stp (v := .int .i64 ((get ((putI v) ++ r)).2.2)) (o_ext rfl rfl) ?_
    refine stp (v := .int .i64 ((get ((putI v) ++ r)).1 : Nat)) (o_mv rfl) ?_
    refine stp (v := .int .i64 ((get ((putI v) ++ r)).2.1 : Nat)) (o_mv rfl) ?_
    refine stp (v := .int .i64 ((get ((putI v) ++ r)).2.2)) (o_mv rfl) ?_
    refine h17 _ _ ?_
    clear h17
    refine seq fun K19 h19 => ?_
    refine seq fun K20 h20 => ?_
    refine stp (v := .int .i64 ((get ((putI v) ++ r)).1 : Nat)) (o_mv rfl) ?_
    refine stp (v := .int .i64 v) (o_mv rfl) ?_
    refine stp (v := .bool (decide (¬ (((get ((putI v) ++ r)).1 : Nat) : Int) = v))) (o_bin rfl rfl v_neq) ?_
    refine stp (v := .bool (decide (¬ (((get ((putI v) ++ r)).1 : Nat) : Int) = v))) (o_mv rfl) ?_
    refine splitP rfl (fun c21 => absurd c21 (by omega)) (fun c21 => ?_)
    refine stg rfl (v := .int .i64 ((get ((putI v) ++ r)).2.1 : Nat)) (o_mv rfl) ?_
    refine stg rfl (v := v3) (o_mv rfl) ?_
    refine stg rfl (v := .int .i64 ((putI v).length : Nat)) (o_lenR (hs3.rd hM18 (i := 0) rfl) rfl rfl) ?_
    refine stg rfl (v := .bool (decide (¬ (((get ((putI v) ++ r)).2.1 : Nat) : Int) = ((putI v).length : Nat)))) (o_bin rfl rfl v_neq) ?_
    refine stp (v := .bool (decide (¬ (((get ((putI v) ++ r)).2.1 : Nat) : Int) = ((putI v).length : Nat)))) (o_pickF rfl rfl) ?_
    refine stp (v := .bool (decide (¬ (((get ((putI v) ++ r)).2.1 : Nat) : Int) = ((putI v).length : Nat)))) (o_mv rfl) ?_
    refine splitP rfl (fun c22 => absurd c22 (by omega)) (fun c22 => ?_)
    refine stg rfl (v := .int .i64 ((get ((putI v) ++ r)).2.2)) (o_mv rfl) ?_
    refine stg rfl (v := .bool (decide (¬ ((get ((putI v) ++ r)).2.2) = 0))) (o_bin rfl rfl v_neq) ?_
    refine stp (v := .bool (decide (¬ ((get ((putI v) ++ r)).2.2) = 0))) (o_pickF rfl rfl) ?_
    refine stp (v := .bool (decide (¬ ((get ((putI v) ++ r)).2.2) = 0))) (o_mv rfl) ?_
    refine splitP rfl (fun c23 => absurd c23 (by omega)) (fun c23 => ?_)
    refine stg rfl (v := .int .i64 ((get ((putI v) ++ r)).2.1 : Nat)) (o_mv rfl) ?_
    refine stg rfl (v := .bool (decide ((((get ((putI v) ++ r)).2.1 : Nat) : Int) < 1))) (o_bin rfl rfl rfl) ?_
    refine stp (v := .bool (decide ((((get ((putI v) ++ r)).2.1 : Nat) : Int) < 1))) (o_pickF rfl rfl) ?_
    refine stp (v := .bool (decide ((((get ((putI v) ++ r)).2.1 : Nat) : Int) < 1))) (o_mv rfl) ?_
    refine splitP rfl (fun c24 => absurd c24 (by omega)) (fun c24 => ?_)
    refine stg rfl (v := .int .i64 ((get ((putI v) ++ r)).2.1 : Nat)) (o_mv rfl) ?_
    refine stg rfl (v := .bool (decide ((9 : Int) < (((get ((putI v) ++ r)).2.1 : Nat) : Int)))) (o_bin rfl rfl rfl) ?_
    refine stp (v := .bool (decide ((9 : Int) < (((get ((putI v) ++ r)).2.1 : Nat) : Int)))) (o_pickF rfl rfl) ?_
    refine h20 _ _ ?_
    clear h20
    refine cndP rfl (fun c25 => absurd c25 (by omega)) (fun c25 => ?_)
    refine h19 _ _ ?_
    clear h19
    refine seq fun K26 h26 => ?_
    refine stp (v := x) (o_mv rfl) ?_
    refine m_call (Get_ok _ b w18 (hx.upd hM18.upd) (by first | omega | (simp; done) | (simp; omega))) rfl fun v27 w27 ⟨hr27, hu27⟩ => ?_
    have hM27 : Mem w [] w27 [rs3, r16] := hM18.pure hu27
    subst hr27
    refine stp (v := .tuple [.int .i64 ((get b).1 : Nat), .int .i64 ((get b).2.1 : Nat), .int .i64 ((get b).2.2)].toArray) (o_mv rfl) ?_
    refine stp (v := .int .i64 ((get b).1 : Nat)) (o_ext rfl rfl) ?_
    refine stp (v := .int .i64 ((get b).2.1 : Nat)) (o_ext rfl rfl) ?_
    refine stp (v := .int .i64 ((get b).2.2)) (o_ext rfl rfl) ?_
    refine stp (v := .int .i64 ((get b).1 : Nat)) (o_mv rfl) ?_
    refine stp (v := .int .i64 ((get b).2.1 : Nat)) (o_mv rfl) ?_
    refine stp (v := .int .i64 ((get b).2.2)) (o_mv rfl) ?_
    refine h26 _ _ ?_
    clear h26
    refine seq fun K28 h28 => ?_
    refine seq fun K29 h29 => ?_
    refine stp (v := .int .i64 ((get b).2.2)) (o_mv rfl) ?_
    refine stp (v := .bool (decide (((get b).2.2) = 0))) (o_bin rfl rfl rfl) ?_
    refine h29 _ _ ?_
    clear h29
    refine cndP rfl (fun c30 => ?_) (fun c30 => ?_)
    ·
      refine seq fun K31 h31 => ?_
      intro wd e1 e2 e3 e4
      have hd := Upd.same e1 e2 e3 e4 []
      have hM32 := hM27.pure hd
      clear e1 e2 e3 e4
      refine ⟨(some []), ?_⟩
      refine dq (v := .int .i64 ((get b).2.1 : Nat)) (o_mv rfl) ?_
      refine dq (v := .bool (decide ((1 : Int) ≤ (((get b).2.1 : Nat) : Int)))) (o_bin rfl rfl rfl) ?_
      refine dq (v := .bool (decide ((1 : Int) ≤ (((get b).2.1 : Nat) : Int)))) (o_mv rfl) ?_
      refine dsplitP rfl (fun c33 => ?_) (fun c33 => (c33 (by omega)).elim)
      refine dqg rfl (v := .int .i64 ((get b).2.1 : Nat)) (o_mv rfl) ?_
      refine dqg rfl (v := x) (o_mv rfl) ?_
      refine dqg rfl (v := .int .i64 (b.length : Nat)) (o_lenR (hx.upd hM32.upd) rfl rfl) ?_
      refine dqg rfl (v := .bool (decide ((((get b).2.1 : Nat) : Int) ≤ (b.length : Nat)))) (o_bin rfl rfl rfl) ?_
      refine dq (v := .bool (decide ((((get b).2.1 : Nat) : Int) ≤ (b.length : Nat)))) (o_pickT rfl rfl) ?_
      refine dq (v := .bool (decide ((((get b).2.1 : Nat) : Int) ≤ (b.length : Nat)))) (o_mv rfl) ?_
      refine dsplitP rfl (fun c34 => ?_) (fun c34 => (c34 (by omega)).elim)
      refine dqg rfl (v := .int .i64 ((get b).1 : Nat)) (o_mv rfl) ?_
      refine dqg rfl (v := .bool (decide ((0 : Int) ≤ (((get b).1 : Nat) : Int)))) (o_bin rfl rfl rfl) ?_
      refine dq (v := .bool (decide ((0 : Int) ≤ (((get b).1 : Nat) : Int)))) (o_pickT rfl rfl) ?_
      refine dq (v := .bool (decide ((0 : Int) ≤ (((get b).1 : Nat) : Int)))) (o_mv rfl) ?_
      refine dsplitP rfl (fun c35 => ?_) (fun c35 => (c35 (by omega)).elim)
      refine dqg rfl (v := .int .i64 ((get b).1 : Nat)) (o_mv rfl) ?_
      refine dqg rfl (v := x) (o_mv rfl) ?_
      refine dqg rfl (v := .int .i64 ((get b).2.1 : Nat)) (o_mv rfl) ?_
      refine dgyes rfl rfl (dqp (m_slcE 0 ((get b).2.1) (hx) rfl (by have := gk (by omega); omega) (by have := gk (by omega); omega) ⟨_, rfl⟩ rfl fun u36 hu36 => ?_))
      show vd _ _ _ _ _ _ _
      have hu36' : RdE byteV w u36 (b.take (get b).2.1) := by
        have e : (b.take ((get b).2.1)).drop 0 = (b.take (get b).2.1) := by simp
        rw [e] at hu36; exact hu36
      refine dgyesl rfl ?_
      refine dl (m_call (Put_ok ((get b).1 : Nat) (by simp only [inK]; omega) wd) rfl fun v37 w37 ⟨rs37, hs37, hm37⟩ => ?_)
      have hM37 : Mem w [] w37 [rs3, r16, rs37] := hM32.add hm37
      have hn37 := putI_len (v := ((get b).1 : Nat)) (by omega)
      refine ⟨(fun b hb => by cases hb), ?_⟩
      refine dgyesl rfl ?_
      refine dl (m_call (same_ok _ _ (putI ((get b).1 : Nat)) (b.take (get b).2.1) w37 (hs37.rd hM37 (i := 2) rfl) ((hu36'.upd hM37.upd)) (by first | omega | (simp; done) | (simp; omega))) rfl fun v38 w38 ⟨hr38, hu38⟩ => ?_)
      have hM38 : Mem w [] w38 [rs3, r16, rs37] := hM37.pure hu38
      subst hr38
      refine ⟨(fun b hb => by cases hb), ?_⟩
      refine dq (v := .bool (decide ((putI ((get b).1 : Nat)) = (b.take (get b).2.1)))) (o_pickT rfl rfl) ?_
      refine dq (v := .bool (decide ((putI ((get b).1 : Nat)) = (b.take (get b).2.1)))) (o_mv rfl) ?_
      refine dsplitP rfl (fun c39 => ?_) (fun c39 => (c39 ((gk (by omega)).2.2)).elim)
      refine dgyesl rfl ?_
      refine dl (m_call (head_ok w38) rfl fun v40 w40 ⟨hr40, hu40⟩ => ?_)
      have hM40 : Mem w [] w40 [rs3, r16, rs37] := hM38.pure hu40
      subst hr40
      refine ⟨(fun b hb => by cases hb), ?_⟩
      refine dq (v := .bool true) (o_pickT rfl rfl) ?_
      refine dq (v := .bool true) (o_mv rfl) ?_
      refine h31 _ _ ?_
      clear h31
      refine ⟨(.bool true), rfl, ?_⟩
      exact ⟨rfl, hM40.upd⟩
    ·
      refine h28 _ _ ?_
      clear h28
      refine seq fun K41 h41 => ?_
      refine seq fun K42 h42 => ?_
      refine stp (v := .int .i64 ((get b).1 : Nat)) (o_mv rfl) ?_
      refine stp (v := .bool (decide (¬ (((get b).1 : Nat) : Int) = 0))) (o_bin rfl rfl v_neq) ?_
      refine stp (v := .bool (decide (¬ (((get b).1 : Nat) : Int) = 0))) (o_mv rfl) ?_
      refine splitP rfl (fun c43 => absurd c43 (by omega)) (fun c43 => ?_)
      refine stg rfl (v := .int .i64 ((get b).2.1 : Nat)) (o_mv rfl) ?_
      refine stg rfl (v := .bool (decide (¬ (((get b).2.1 : Nat) : Int) = 0))) (o_bin rfl rfl v_neq) ?_
      refine stp (v := .bool (decide (¬ (((get b).2.1 : Nat) : Int) = 0))) (o_pickF rfl rfl) ?_
      refine h42 _ _ ?_
      clear h42
      refine cndP rfl (fun c44 => absurd c44 (by omega)) (fun c44 => ?_)
      refine h41 _ _ ?_
      clear h41
      refine seq fun K45 h45 => ?_
      refine seq fun K46 h46 => ?_
      refine stp (v := .int .i64 ((get b).2.2)) (o_mv rfl) ?_
      refine stp (v := .bool (decide (((get b).2.2) = 20))) (o_bin rfl rfl rfl) ?_
      refine h46 _ _ ?_
      clear h46
      refine cndP rfl (fun c47 => ?_) (fun c47 => ?_)
      ·
        refine seq fun K48 h48 => ?_
        refine seq fun K49 h49 => ?_
        refine stp (v := x) (o_mv rfl) ?_
        refine stp (v := .int .i64 (b.length : Nat)) (o_lenR (hx.upd hM27.upd) rfl rfl) ?_
        refine stp (v := .bool (decide ((8 : Int) < ((b.length : Nat) : Int)))) (o_bin rfl rfl rfl) ?_
        refine h49 _ _ ?_
        clear h49
        refine cndP rfl (fun c50 => absurd c50 (by omega)) (fun c50 => ?_)
        refine h48 _ _ ?_
        clear h48
        refine seq fun K51 h51 => ?_
        refine m_bs hM27 rfl fun b52 w53 (hM53 : Mem w [] w53 [rs3, r16, [⟨b52, 5, []⟩]]) => ?_
        refine stp (v := x) (o_mv rfl) ?_
        have hs54 : SlE byteV 5 (.slice (some ⟨b52, 0, none⟩) 0 0) [] [⟨b52, 5, []⟩] := SlE.lit (l := []) rfl
        refine m_appE hM53 (i := 2) rfl hs54 rfl rfl (hx.upd hM53.upd) (by first | omega | (simp; omega)) (by omega) fun v55 w55 r55 (hs55 : SlE byteV 5 v55 (b) r55) (hM55 : Mem w [] w55 [rs3, r16, r55]) => ?_
        refine stp (v := v55) (o_mv rfl) ?_
        refine h51 _ _ ?_
        clear h51
        refine seq fun K56 h56 => ?_
        refine stp (v := v55) (o_mv rfl) ?_
        refine m_app1 (E := byteV) (q := 1) hM55 (i := 2) rfl hs55 rfl (by simp) (rfl) (by omega) (by omega) fun v57 w57 r57 u57 (hs57 : SlE byteV 5 v57 (b ++ [1]) r57) (hM57 : Mem w [] w57 [rs3, r16, r57]) => ?_
        refine stp (v := v57) (o_mv rfl) ?_
        refine h56 _ _ ?_
        clear h56
        refine seq fun K58 h58 => ?_
        refine stp (v := v57) (o_mv rfl) ?_
        refine m_call (Get_ok _ (b ++ [1]) w57 (hs57.rd hM57 (i := 2) rfl) (by first | omega | (simp; done) | (simp; omega))) rfl fun v59 w59 ⟨hr59, hu59⟩ => ?_
        have hM59 : Mem w [] w59 [rs3, r16, r57] := hM57.pure hu59
        subst hr59
        refine stp (v := .tuple [.int .i64 ((get (b ++ [1])).1 : Nat), .int .i64 ((get (b ++ [1])).2.1 : Nat), .int .i64 ((get (b ++ [1])).2.2)].toArray) (o_mv rfl) ?_
        refine stp (v := .int .i64 ((get (b ++ [1])).1 : Nat)) (o_ext rfl rfl) ?_
        refine stp (v := .int .i64 ((get (b ++ [1])).2.1 : Nat)) (o_ext rfl rfl) ?_
        refine stp (v := .int .i64 ((get (b ++ [1])).2.2)) (o_ext rfl rfl) ?_
        refine stp (v := .int .i64 ((get (b ++ [1])).1 : Nat)) (o_mv rfl) ?_
        refine stp (v := .int .i64 ((get (b ++ [1])).2.1 : Nat)) (o_mv rfl) ?_
        refine stp (v := .int .i64 ((get (b ++ [1])).2.2)) (o_mv rfl) ?_
        refine h58 _ _ ?_
        clear h58
        refine seq fun K60 h60 => ?_
        refine stp (v := .int .i64 ((get (b ++ [1])).2.2)) (o_mv rfl) ?_
        refine stp (v := .bool (decide (((get (b ++ [1])).2.2) = 0))) (o_bin rfl rfl rfl) ?_
        refine stp (v := .bool (decide (((get (b ++ [1])).2.2) = 0))) (o_mv rfl) ?_
        refine splitP rfl (fun c61 => ?_) (fun c61 => (c61 (by omega)).elim)
        refine stg rfl (v := .int .i64 ((get (b ++ [1])).2.1 : Nat)) (o_mv rfl) ?_
        refine stg rfl (v := x) (o_mv rfl) ?_
        refine stg rfl (v := .int .i64 (b.length : Nat)) (o_lenR (hx.upd hM59.upd) rfl rfl) ?_
        refine stg rfl (v := .int .i64 ((b.length : Nat) + 1)) (o_bin rfl rfl (v_add64 (by constructor <;> omega))) ?_
        refine stg rfl (v := .bool (decide ((((get (b ++ [1])).2.1 : Nat) : Int) = ((b.length : Nat) + 1)))) (o_bin rfl rfl rfl) ?_
        refine stp (v := .bool (decide ((((get (b ++ [1])).2.1 : Nat) : Int) = ((b.length : Nat) + 1)))) (o_pickT rfl rfl) ?_
        refine stp (v := .bool (decide ((((get (b ++ [1])).2.1 : Nat) : Int) = ((b.length : Nat) + 1)))) (o_mv rfl) ?_
        refine splitP rfl (fun c62 => ?_) (fun c62 => (c62 (by omega)).elim)
        refine gyesl rfl ?_
        refine m_call (head_ok w59) rfl fun v63 w63 ⟨hr63, hu63⟩ => ?_
        have hM63 : Mem w [] w63 [rs3, r16, r57] := hM59.pure hu63
        subst hr63
        refine stp (v := .bool true) (o_pickT rfl rfl) ?_
        refine stp (v := .bool true) (o_mv rfl) ?_
        refine h60 _ _ ?_
        clear h60
        refine ⟨(.bool true), rfl, ?_⟩
        exact ⟨rfl, hM63.upd⟩
      ·
        refine h45 _ _ ?_
        clear h45
        refine seq fun K64 h64 => ?_
        refine seq fun K65 h65 => ?_
        refine stp (v := .int .i64 ((get b).2.2)) (o_mv rfl) ?_
        refine stp (v := .bool (decide (¬ ((get b).2.2) = 21))) (o_bin rfl rfl v_neq) ?_
        refine h65 _ _ ?_
        clear h65
        refine cndP rfl (fun c66 => absurd c66 (by omega)) (fun c66 => ?_)
        refine h64 _ _ ?_
        clear h64
        refine seq fun K67 h67 => ?_
        refine m_bs hM27 rfl fun b68 w69 (hM69 : Mem w [] w69 [rs3, r16, [⟨b68, 5, []⟩]]) => ?_
        refine stp (v := x) (o_mv rfl) ?_
        have hs70 : SlE byteV 5 (.slice (some ⟨b68, 0, none⟩) 0 0) [] [⟨b68, 5, []⟩] := SlE.lit (l := []) rfl
        refine m_appE hM69 (i := 2) rfl hs70 rfl rfl (hx.upd hM69.upd) (by first | omega | (simp; omega)) (by omega) fun v71 w71 r71 (hs71 : SlE byteV 5 v71 (b) r71) (hM71 : Mem w [] w71 [rs3, r16, r71]) => ?_
        refine stp (v := v71) (o_mv rfl) ?_
        refine h67 _ _ ?_
        clear h67
        refine seq fun K72 h72 => ?_
        refine stp (v := v71) (o_mv rfl) ?_
        refine m_app1 (E := byteV) (q := 1) hM71 (i := 2) rfl hs71 rfl (by simp) (rfl) (by omega) (by omega) fun v73 w73 r73 u73 (hs73 : SlE byteV 5 v73 (b ++ [1]) r73) (hM73 : Mem w [] w73 [rs3, r16, r73]) => ?_
        refine stp (v := v73) (o_mv rfl) ?_
        refine h72 _ _ ?_
        clear h72
        refine seq fun K74 h74 => ?_
        refine stp (v := v73) (o_mv rfl) ?_
        refine m_call (Get_ok _ (b ++ [1]) w73 (hs73.rd hM73 (i := 2) rfl) (by first | omega | (simp; done) | (simp; omega))) rfl fun v75 w75 ⟨hr75, hu75⟩ => ?_
        have hM75 : Mem w [] w75 [rs3, r16, r73] := hM73.pure hu75
        subst hr75
        refine stp (v := .tuple [.int .i64 ((get (b ++ [1])).1 : Nat), .int .i64 ((get (b ++ [1])).2.1 : Nat), .int .i64 ((get (b ++ [1])).2.2)].toArray) (o_mv rfl) ?_
        refine stp (v := .int .i64 ((get (b ++ [1])).1 : Nat)) (o_ext rfl rfl) ?_
        refine stp (v := .int .i64 ((get (b ++ [1])).2.1 : Nat)) (o_ext rfl rfl) ?_
        refine stp (v := .int .i64 ((get (b ++ [1])).2.2)) (o_ext rfl rfl) ?_
        refine stp (v := .int .i64 ((get (b ++ [1])).1 : Nat)) (o_mv rfl) ?_
        refine stp (v := .int .i64 ((get (b ++ [1])).2.1 : Nat)) (o_mv rfl) ?_
        refine stp (v := .int .i64 ((get (b ++ [1])).2.2)) (o_mv rfl) ?_
        refine h74 _ _ ?_
        clear h74
        refine seq fun K76 h76 => ?_
        refine stp (v := .int .i64 ((get (b ++ [1])).2.2)) (o_mv rfl) ?_
        refine stp (v := .bool (decide (((get (b ++ [1])).2.2) = 21))) (o_bin rfl rfl rfl) ?_
        refine stp (v := .bool (decide (((get (b ++ [1])).2.2) = 21))) (o_mv rfl) ?_
        refine splitP rfl (fun c77 => ?_) (fun c77 => (c77 (by omega)).elim)
        refine gyesl rfl ?_
        refine m_call (head_ok w75) rfl fun v78 w78 ⟨hr78, hu78⟩ => ?_
        have hM78 : Mem w [] w78 [rs3, r16, r73] := hM75.pure hu78
        subst hr78
        refine stp (v := .bool true) (o_pickT rfl rfl) ?_
        refine stp (v := .bool true) (o_mv rfl) ?_
        refine h76 _ _ ?_
        clear h76
        refine ⟨(.bool true), rfl, ?_⟩
        exact ⟨rfl, hM78.upd⟩
