/- The law FootDecode: any bytes as pages. -/
import Derived.Test.YthhmhmnhbababaaD44
import Derived.Test.YthhmhmnhbababaaE23
import Derived.Test.YthhmhmnhbababaaD16
import Derived.Test.YthhmhmnhbababaaD17
namespace Go.Proofs.Ythhmhmnhbababaa.E
open Go
theorem dc_uniq {pages : List UInt8} {bk pg P P' e e' : Int} {PS PS' : List Pp} (h : DcSpec pages bk pg P PS e) (h' : DcSpec pages bk pg P' PS' e') : P = P' ∧ PS = PS' ∧ e = e' := by
 rcases h with ⟨rfl, m, f, q, sp, pl, u⟩ | ⟨m, rfl, rfl, u⟩
 ·rcases h' with ⟨rfl, m', f', q', sp', pl', u'⟩ | ⟨m', rfl, rfl, u'⟩
  ·obtain ⟨rfl, rfl⟩ := u _ _ f' q'
   exact ⟨rfl, rfl, rfl⟩
  exact absurd sp (u' _ _ m pl f q)
 rcases h' with ⟨rfl, m', f', q', sp', pl', u'⟩ | ⟨m', rfl, rfl, u'⟩
 ·exact absurd sp' (u _ _ m' pl' f' q')
 refine ⟨rfl, rfl, ?_⟩
 rcases m with ⟨rfl, m⟩ | ⟨rfl, m⟩
 ·rcases m' with ⟨rfl, m'⟩ | ⟨rfl, m'⟩
  ·rfl
  exact absurd m m'
 rcases m' with ⟨rfl, m'⟩ | ⟨rfl, m'⟩
 ·exact absurd m' m
 rfl
theorem Mem.rot3 {w0 w : World} {S : List Nat} {R : List (List Ent)} {a b c : List Ent} (h : Mem w0 S w (R ++ [a, b, c])) : Mem w0 S w (R ++ [b, c, a]) := by
 refine h.perm ?_
 simp only [List.flatten_append, List.flatten_cons, List.flatten_nil, List.append_nil]
 refine List.Perm.append_left _ ?_
 rw [← List.append_assoc b c a]
 exact List.perm_append_comm
section
variable {P : Program} {r : List MI} {f : Fr} {w w0 : World} {S : List Nat} {R : List (List Ent)} {K : Fr → World → Prop} {d : Nat}
theorem m_alU {t : TypeId} {cs : List Value} (hM : Mem w0 S w R) (h : ∀ b w', Upd [] w w' → Mem w0 S w' (R ++ [[⟨b, t, cs⟩]]) → vr P r (upd f d (.pointer (some ⟨b, 0, none⟩))) w' K) : vr P (.l none (some d) (.al t cs) :: r) f w K :=
 m_al (Mem.nil w []) fun b w' hM' => h b w' hM'.upd (hM.add hM')
end
def turn1 (i : Nat) (l : List UInt8) : List UInt8 := (l.take i).map (· ^^^ 1) ++ l.drop i
theorem turn1_zero (l : List UInt8) : turn1 0 l = l := rfl
theorem turn1_length (i : Nat) (l : List UInt8) : (turn1 i l).length = l.length := by unfold turn1; simp only [List.length_append, List.length_map, List.length_take, List.length_drop]; omega
theorem turn1_get {i : Nat} {l : List UInt8} (h : i < l.length) : (turn1 i l).getD i 0 = l.getD i 0 := by
 unfold turn1
 have hn : ((l.take i).map (· ^^^ 1)).length = i := by rw [List.length_map, List.length_take]; omega
 rw [List.getD_eq_getElem?_getD, List.getElem?_append_right (by omega), hn, Nat.sub_self, List.getElem?_drop, Nat.add_zero, ← List.getD_eq_getElem?_getD]
theorem turn1_set {i : Nat} {l : List UInt8} (h : i < l.length) : (turn1 i l).set i (l.getD i 0 ^^^ 1) = turn1 (i + 1) l := by
 unfold turn1
 have hn : ((l.take i).map (· ^^^ 1)).length = i := by rw [List.length_map, List.length_take]; omega
 rw [List.set_append_right _ _ (by omega), hn, Nat.sub_self, takeG 0 h, List.map_append, List.append_assoc]
 congr 1
 rw [dropG 0 h]; rfl
theorem xor1 (x : UInt8) : xorI .u8 (x.toNat : Int) 1 = ((x ^^^ 1).toNat : Int) := by
 have hx := x.toNat_lt
 have h4 : x.toNat ^^^ 1 < 2 ^ 8 := Nat.xor_lt_two_pow hx (by decide)
 have := xorI_nat (k := .u8) (a := x.toNat) (b := 1) (by simpa [IntKind.bits] using hx) (by decide) (by simp only [inK]; omega)
 rw [UInt8.toNat_xor]; exact this
theorem turn1_two {i : Nat} {l : List UInt8} (h : i < l.length) : (turn1 i l ++ ([113, 114] : List UInt8)).getD i 0 = l.getD i 0 := by
 rw [List.getD_eq_getElem?_getD, List.getElem?_append_left (by rw [turn1_length]; exact h), ← List.getD_eq_getElem?_getD, turn1_get h]
theorem turn1_two_set {i : Nat} {l : List UInt8} (h : i < l.length) : (turn1 i l ++ ([113, 114] : List UInt8)).set i (l.getD i 0 ^^^ 1) = turn1 (i + 1) l ++ ([113, 114] : List UInt8) := by
 rw [List.set_append_left _ _ (by rw [turn1_length]; exact h), turn1_set h]
theorem turn1_two_get {i : Nat} {l : List UInt8} (h : i < l.length) : ((turn1 i l ++ ([113, 114] : List UInt8)).set i (l.getD i 0 ^^^ 1)).getD i 0 = l.getD i 0 ^^^ 1 := by
 rw [List.getD_eq_getElem?_getD, List.getElem?_set_self (by rw [List.length_append, turn1_length]; omega)]; rfl
theorem turn1_end {i : Nat} {l : List UInt8} (h : l.length ≤ i) : (l.take i).map (· ^^^ 1) = turn1 i l := by unfold turn1; rw [List.drop_of_length_le h, List.append_nil]
theorem FootDecode_ok (x : Value) (pages : List UInt8) (t : Tr) (w : World) (hx : RdE byteV w x pages) (hl : pages.length ≤ 140737488351232) (ht : t.ok w) : Calls Try.prog 7 [x, .agg (trC t).toArray].toArray w (Rt fun r w' => r = .bool true ∧ Upd [] w w') := by
 obtain ⟨hkb, hkp⟩ := ht
 simp only [inK] at hkb hkp
 have hM0 : Mem w [] w [] := Mem.nil w []
 refine calls_vc mixed Try.func7 rfl C7 (by simp [Try.ntmps7]) <| seq fun _ h1 => m_bx (v := .agg ([.int .i64 t.bk, .int .i64 t.pg] : List Value).toArray) hM0 rfl rfl fun b2 w3 (hM3 : Mem w [] w3 [[⟨b2, 36, [.int .i64 t.bk, .int .i64 t.pg]⟩]]) => stp (v := .bool false) (o_mv rfl) <| h1 _ _ <| seq fun _ h4 => m_bs hM3 rfl fun b5 w6 (hM6 : Mem w [] w6 [[⟨b2, 36, [.int .i64 t.bk, .int .i64 t.pg]⟩], [⟨b5, 5, []⟩]]) => stp (v := x) (o_mv rfl) ?_
 have hs7 : SlE byteV 5 (.slice (some ⟨b5, 0, none⟩) 0 0) [] [⟨b5, 5, []⟩] := SlE.lit (l := []) rfl
 refine m_appE hM6 (i := 1) rfl hs7 rfl rfl (hx.upd hM6.upd) (by first | omega | (simp; omega)) (by omega) fun v8 w8 r8 (hs8 : SlE byteV 5 v8 (pages) r8) (hM8 : Mem w [] w8 [[⟨b2, 36, [.int .i64 t.bk, .int .i64 t.pg]⟩], r8]) => stp (v := v8) (o_mv rfl) <| h4 _ _ <| seq fun _ h9 => stp (v := v8) (o_mv rfl) <| m_bs hM8 rfl fun b10 w11 (hM11 : Mem w [] w11 [[⟨b2, 36, [.int .i64 t.bk, .int .i64 t.pg]⟩], r8, [⟨b10, 5, [.int .u8 113, .int .u8 114]⟩]]) => m_appE hM11 (i := 1) rfl hs8 rfl rfl (own_rdE (E := byteV) (l := [113, 114]) (hM11.at (i := 2) (j := 0) rfl rfl) rfl) (by first | omega | (simp; omega)) (by omega) fun v12 w12 r12 (hs12 : SlE byteV 5 v12 (pages ++ ([113, 114])) r12) (hM12 : Mem w [] w12 [[⟨b2, 36, [.int .i64 t.bk, .int .i64 t.pg]⟩], r12, [⟨b10, 5, [.int .u8 113, .int .u8 114]⟩]]) => stp (v := v12) (o_mv rfl) <| h9 _ _ <| seqc (fun f w' => ∃ (P1 : Int) (av1 : Option Addr) (lv1 : Nat) (cv1 : Nat) (ps1 : List Pr) (rs1 : List Ent) (NS1 : List Ent) (e1 : Int) (b6_ : Nat), f 6 = .pointer (some ⟨b6_, 0, none⟩) ∧ f 7 = .int .i64 e1 ∧ f 0 = x ∧ f 3 = .pointer (some ⟨b2, 0, none⟩) ∧ f 5 = v12 ∧ Mem w [] w' [[⟨b2, 36, [.int .i64 t.bk, .int .i64 t.pg]⟩], r12, [⟨b10, 5, [.int .u8 113, .int .u8 114]⟩], rs1, NS1, [⟨b6_, 24, [.int .i64 P1, (.slice av1 lv1 cv1)]⟩]] ∧ (SlS prC 5 71 (.slice av1 lv1 cv1) ps1 rs1) ∧ (Nest NS1 ps1) ∧ (0 ≤ P1 ∧ P1 ≤ 65535) ∧ (ps1.length ≤ 65535) ∧ (DcSpec pages t.bk t.pg P1 (ps1.map Pr.p) e1)) ?_ ?_
 ·intro K13 h13
  intro wd e1 e2 e3 e4
  have hd := Upd.same e1 e2 e3 e4 []
  have hM15 := hM12.pure hd
  clear e1 e2 e3 e4
  refine ⟨(some [b2]), ?_⟩
  show vd _ _ _ _ _ _ _
  refine dq (v := v12) (o_mv rfl) <| dq (v := x) (o_mv rfl) <| dq (v := .int .i64 (pages.length : Nat)) (o_lenR (hx.upd hM15.upd) rfl rfl) <| dqp (m_slcO pages.length (hs12) rfl (by first | omega | (simp; done) | (simp; omega)) (⟨_, rfl⟩) trivial fun u16 hu16 => ?_)
  show vd _ _ _ _ _ _ _
  have hu16' := SlE.eqL (m := pages) hu16 (by simp)
  refine dqldA (cs := [.int .i64 t.bk, .int .i64 t.pg]) rfl (by simp [isHeld]) rfl ((hM15.at (i := 0) (j := 0) rfl rfl).agg rfl rfl) ?_
  show _ ∧ _
  refine ⟨?_, ?_⟩
  ·show vd _ _ _ _ _ _ _
   refine dl (m_call (Decode_ok t.bk t.pg _ pages wd (by simp only [inK]; omega) (by simp only [inK]; omega) (hu16'.rd hM15 (i := 1) rfl) (by first | omega | (simp only [turn1_length, List.length_append] at *; omega))) rfl fun v17 w17 ⟨P17, v17_, ps17, rs17, NS17, e17, hr17, hs17, hN17, hP17, hpl17, hsp17, hm17⟩ => ?_)
   have hM17 : Mem w [] w17 [[⟨b2, 36, [.int .i64 t.bk, .int .i64 t.pg]⟩], r12, [⟨b10, 5, [.int .u8 113, .int .u8 114]⟩], rs17, NS17] := hM15.add2 hm17
   subst hr17
   obtain ⟨av17, lv17, cv17, rfl⟩ := hs17.isSlice
   have hh17 := held_upd (wr := wd) (bs := [b2]) hm17.upd (fun b hb => by
    simp only [List.mem_cons, List.not_mem_nil, or_false] at hb
    rw [hb]; exact ⟨(hM15.at (i := 0) (j := 0) rfl rfl).lt, by simp⟩) (fun b hb => rfl)
   refine ⟨hh17, dq (v := .tuple [.agg ([.int .i64 P17, (.slice av17 lv17 cv17)] : List Value).toArray, .int .i64 e17].toArray) (o_mv rfl) <| dq (v := .agg ([.int .i64 P17, (.slice av17 lv17 cv17)] : List Value).toArray) (o_ext rfl rfl) <| dq (v := .int .i64 e17) (o_ext rfl rfl) <| dl (m_alU hM17 fun b18 w19 hup19 (hM19 : Mem w [] w19 [[⟨b2, 36, [.int .i64 t.bk, .int .i64 t.pg]⟩], r12, [⟨b10, 5, [.int .u8 113, .int .u8 114]⟩], rs17, NS17, [⟨b18, 24, [.int .i64 0, .slice none 0 0]⟩]]) => ?_)⟩
   have hh19 := held_upd (wr := wd) (bs := [b2]) hup19 (fun b hb => by
    simp only [List.mem_cons, List.not_mem_nil, or_false] at hb
    rw [hb]; exact ⟨(hM17.at (i := 0) (j := 0) rfl rfl).lt, by simp⟩) hh17
   refine ⟨hh19, dl (m_stAU (l := [.int .i64 P17, (.slice av17 lv17 cv17)]) hM19 (i := 5) rfl rfl rfl rfl (by simp [oneCells, Value.oneCell', byteV]) (by simp) fun w20 hup20 (hM20 : Mem w [] w20 [[⟨b2, 36, [.int .i64 t.bk, .int .i64 t.pg]⟩], r12, [⟨b10, 5, [.int .u8 113, .int .u8 114]⟩], rs17, NS17, [⟨b18, 24, [.int .i64 P17, (.slice av17 lv17 cv17)]⟩]]) => ?_)⟩
   have hh20 := held_upd (wr := wd) (bs := [b2]) hup20 (fun b hb => by
    simp only [List.mem_cons, List.not_mem_nil, or_false] at hb
    rw [hb]; exact ⟨(hM19.at (i := 0) (j := 0) rfl rfl).lt, hM19.apart (i := 0) (j := 0) (k := 5) rfl rfl rfl (by decide)⟩) hh19
   refine ⟨hh20, dq (v := .int .i64 e17) (o_mv rfl) <| h13 _ _ ⟨P17, av17, lv17, cv17, ps17, rs17, NS17, e17, b18, rfl, vi, rfl, rfl, rfl, hM20, hs17, hN17, hP17, hpl17, hsp17⟩⟩
  show vd _ _ _ _ _ _ _
  refine dl (m_alU hM15 fun b21 w22 hup22 (hM22 : Mem w [] w22 [[⟨b2, 36, [.int .i64 t.bk, .int .i64 t.pg]⟩], r12, [⟨b10, 5, [.int .u8 113, .int .u8 114]⟩], [⟨b21, 24, [.int .i64 0, .slice none 0 0]⟩]]) => ?_)
  have hh22 := held_upd (wr := wd) (bs := [b2]) hup22 (fun b hb => by
   simp only [List.mem_cons, List.not_mem_nil, or_false] at hb
   rw [hb]; exact ⟨(hM15.at (i := 0) (j := 0) rfl rfl).lt, by simp⟩) (fun b hb => rfl)
  refine ⟨hh22, dl (m_call (Decode_ok t.bk t.pg _ pages w22 (by simp only [inK]; omega) (by simp only [inK]; omega) (hu16'.rd hM22 (i := 1) rfl) (by first | omega | (simp only [turn1_length, List.length_append] at *; omega))) rfl fun v23 w23 ⟨P23, v23_, ps23, rs23, NS23, e23, hr23, hs23, hN23, hP23, hpl23, hsp23, hm23⟩ => ?_)⟩
  have hM23 : Mem w [] w23 [[⟨b2, 36, [.int .i64 t.bk, .int .i64 t.pg]⟩], r12, [⟨b10, 5, [.int .u8 113, .int .u8 114]⟩], [⟨b21, 24, [.int .i64 0, .slice none 0 0]⟩], rs23, NS23] := hM22.add2 hm23
  subst hr23
  obtain ⟨av23, lv23, cv23, rfl⟩ := hs23.isSlice
  have hh23 := held_upd (wr := wd) (bs := [b2]) hm23.upd (fun b hb => by
   simp only [List.mem_cons, List.not_mem_nil, or_false] at hb
   rw [hb]; exact ⟨(hM22.at (i := 0) (j := 0) rfl rfl).lt, by simp⟩) hh22
  refine ⟨hh23, dq (v := .tuple [.agg ([.int .i64 P23, (.slice av23 lv23 cv23)] : List Value).toArray, .int .i64 e23].toArray) (o_mv rfl) <| dq (v := .agg ([.int .i64 P23, (.slice av23 lv23 cv23)] : List Value).toArray) (o_ext rfl rfl) <| dq (v := .int .i64 e23) (o_ext rfl rfl) <| dl (m_stAU (l := [.int .i64 P23, (.slice av23 lv23 cv23)]) hM23 (i := 3) rfl rfl rfl rfl (by simp [oneCells, Value.oneCell', byteV]) (by simp) fun w24 hup24 (hM24 : Mem w [] w24 [[⟨b2, 36, [.int .i64 t.bk, .int .i64 t.pg]⟩], r12, [⟨b10, 5, [.int .u8 113, .int .u8 114]⟩], [⟨b21, 24, [.int .i64 P23, (.slice av23 lv23 cv23)]⟩], rs23, NS23]) => ?_)⟩
  have hh24 := held_upd (wr := wd) (bs := [b2]) hup24 (fun b hb => by
   simp only [List.mem_cons, List.not_mem_nil, or_false] at hb
   rw [hb]; exact ⟨(hM23.at (i := 0) (j := 0) rfl rfl).lt, hM23.apart (i := 0) (j := 0) (k := 3) rfl rfl rfl (by decide)⟩) hh23
  refine ⟨hh24, dq (v := .int .i64 e23) (o_mv rfl) <| h13 _ _ ⟨P23, av23, lv23, cv23, ps23, rs23, NS23, e23, b21, rfl, vi, rfl, rfl, rfl, Mem.rot3 (R := [[⟨b2, 36, [.int .i64 t.bk, .int .i64 t.pg]⟩], r12, [⟨b10, 5, [.int .u8 113, .int .u8 114]⟩]]) hM24, hs23, hN23, hP23, hpl23, hsp23⟩⟩
 rintro f w14 ⟨P1, av1, lv1, cv1, ps1, rs1, NS1, e1, b6_, e14_6, e14_7, e14_0, e14_3, e14_5, hM14, hs1, hN1, hP1, hpl1, hsp1⟩
 obtain ⟨frm, rfl⟩ := re5 e14_6 e14_7 e14_0 e14_3 e14_5
 refine seqc (fun f w' => ∃ (av2 : Option Addr) (lv2 : Nat) (cv2 : Nat) (ps2 : List Pr) (rs2 : List Ent) (NS2 : List Ent) (b8_ : Nat), f 8 = .pointer (some ⟨b8_, 0, none⟩) ∧ f 9 = .int .i64 e1 ∧ f 0 = x ∧ f 3 = .pointer (some ⟨b2, 0, none⟩) ∧ f 5 = v12 ∧ f 6 = .pointer (some ⟨b6_, 0, none⟩) ∧ f 7 = .int .i64 e1 ∧ Mem w [] w' [[⟨b2, 36, [.int .i64 t.bk, .int .i64 t.pg]⟩], r12, [⟨b10, 5, [.int .u8 113, .int .u8 114]⟩], rs1, NS1, [⟨b6_, 24, [.int .i64 P1, (.slice av1 lv1 cv1)]⟩], rs2, NS2, [⟨b8_, 24, [.int .i64 P1, (.slice av2 lv2 cv2)]⟩]] ∧ (SlS prC 5 71 (.slice av2 lv2 cv2) ps2 rs2) ∧ (Nest NS2 ps2) ∧ (ps2.length ≤ 65535) ∧ (ps1.map Pr.p = ps2.map Pr.p)) ?_ ?_
 ·intro K25 h25
  intro wd e1 e2 e3 e4
  have hd := Upd.same e1 e2 e3 e4 []
  have hM27 := hM14.pure hd
  clear e1 e2 e3 e4
  refine ⟨(some [b2]), ?_⟩
  show vd _ _ _ _ _ _ _
  refine dq (v := v12) (o_mv rfl) <| dq (v := x) (o_mv rfl) <| dq (v := .int .i64 (pages.length : Nat)) (o_lenR (hx.upd hM27.upd) rfl rfl) <| dqp (m_slcO pages.length (hs12) rfl (by first | omega | (simp; done) | (simp; omega)) (⟨_, rfl⟩) trivial fun u28 hu28 => ?_)
  show vd _ _ _ _ _ _ _
  have hu28' := SlE.eqL (m := pages) hu28 (by simp)
  refine dqldA (cs := [.int .i64 t.bk, .int .i64 t.pg]) rfl (by simp [isHeld]) rfl ((hM27.at (i := 0) (j := 0) rfl rfl).agg rfl rfl) ?_
  show _ ∧ _
  refine ⟨?_, ?_⟩
  ·show vd _ _ _ _ _ _ _
   refine dl (m_call (Decode_ok t.bk t.pg _ pages wd (by simp only [inK]; omega) (by simp only [inK]; omega) (hu28'.rd hM27 (i := 1) rfl) (by first | omega | (simp only [turn1_length, List.length_append] at *; omega))) rfl fun v29 w29 ⟨P29, v29_, ps29, rs29, NS29, e29, hr29, hs29, hN29, hP29, hpl29, hsp29, hm29⟩ => ?_)
   have hM29 : Mem w [] w29 [[⟨b2, 36, [.int .i64 t.bk, .int .i64 t.pg]⟩], r12, [⟨b10, 5, [.int .u8 113, .int .u8 114]⟩], rs1, NS1, [⟨b6_, 24, [.int .i64 P1, (.slice av1 lv1 cv1)]⟩], rs29, NS29] := hM27.add2 hm29
   subst hr29
   obtain ⟨av29, lv29, cv29, rfl⟩ := hs29.isSlice
   obtain ⟨q29, hq29, z29⟩ := dc_uniq hsp1 hsp29
   subst q29 z29
   have hh29 := held_upd (wr := wd) (bs := [b2]) hm29.upd (fun b hb => by
    simp only [List.mem_cons, List.not_mem_nil, or_false] at hb
    rw [hb]; exact ⟨(hM27.at (i := 0) (j := 0) rfl rfl).lt, by simp⟩) (fun b hb => rfl)
   refine ⟨hh29, dq (v := .tuple [.agg ([.int .i64 P1, (.slice av29 lv29 cv29)] : List Value).toArray, .int .i64 e1].toArray) (o_mv rfl) <| dq (v := .agg ([.int .i64 P1, (.slice av29 lv29 cv29)] : List Value).toArray) (o_ext rfl rfl) <| dq (v := .int .i64 e1) (o_ext rfl rfl) <| dl (m_alU hM29 fun b30 w31 hup31 (hM31 : Mem w [] w31 [[⟨b2, 36, [.int .i64 t.bk, .int .i64 t.pg]⟩], r12, [⟨b10, 5, [.int .u8 113, .int .u8 114]⟩], rs1, NS1, [⟨b6_, 24, [.int .i64 P1, (.slice av1 lv1 cv1)]⟩], rs29, NS29, [⟨b30, 24, [.int .i64 0, .slice none 0 0]⟩]]) => ?_)⟩
   have hh31 := held_upd (wr := wd) (bs := [b2]) hup31 (fun b hb => by
    simp only [List.mem_cons, List.not_mem_nil, or_false] at hb
    rw [hb]; exact ⟨(hM29.at (i := 0) (j := 0) rfl rfl).lt, by simp⟩) hh29
   refine ⟨hh31, dl (m_stAU (l := [.int .i64 P1, (.slice av29 lv29 cv29)]) hM31 (i := 8) rfl rfl rfl rfl (by simp [oneCells, Value.oneCell', byteV]) (by simp) fun w32 hup32 (hM32 : Mem w [] w32 [[⟨b2, 36, [.int .i64 t.bk, .int .i64 t.pg]⟩], r12, [⟨b10, 5, [.int .u8 113, .int .u8 114]⟩], rs1, NS1, [⟨b6_, 24, [.int .i64 P1, (.slice av1 lv1 cv1)]⟩], rs29, NS29, [⟨b30, 24, [.int .i64 P1, (.slice av29 lv29 cv29)]⟩]]) => ?_)⟩
   have hh32 := held_upd (wr := wd) (bs := [b2]) hup32 (fun b hb => by
    simp only [List.mem_cons, List.not_mem_nil, or_false] at hb
    rw [hb]; exact ⟨(hM31.at (i := 0) (j := 0) rfl rfl).lt, hM31.apart (i := 0) (j := 0) (k := 8) rfl rfl rfl (by decide)⟩) hh31
   refine ⟨hh32, dq (v := .int .i64 e1) (o_mv rfl) <| h25 _ _ ⟨av29, lv29, cv29, ps29, rs29, NS29, b30, rfl, vi, rfl, rfl, rfl, rfl, vi, hM32, hs29, hN29, hpl29, hq29⟩⟩
  show vd _ _ _ _ _ _ _
  refine dl (m_alU hM27 fun b33 w34 hup34 (hM34 : Mem w [] w34 [[⟨b2, 36, [.int .i64 t.bk, .int .i64 t.pg]⟩], r12, [⟨b10, 5, [.int .u8 113, .int .u8 114]⟩], rs1, NS1, [⟨b6_, 24, [.int .i64 P1, (.slice av1 lv1 cv1)]⟩], [⟨b33, 24, [.int .i64 0, .slice none 0 0]⟩]]) => ?_)
  have hh34 := held_upd (wr := wd) (bs := [b2]) hup34 (fun b hb => by
   simp only [List.mem_cons, List.not_mem_nil, or_false] at hb
   rw [hb]; exact ⟨(hM27.at (i := 0) (j := 0) rfl rfl).lt, by simp⟩) (fun b hb => rfl)
  refine ⟨hh34, dl (m_call (Decode_ok t.bk t.pg _ pages w34 (by simp only [inK]; omega) (by simp only [inK]; omega) (hu28'.rd hM34 (i := 1) rfl) (by first | omega | (simp only [turn1_length, List.length_append] at *; omega))) rfl fun v35 w35 ⟨P35, v35_, ps35, rs35, NS35, e35, hr35, hs35, hN35, hP35, hpl35, hsp35, hm35⟩ => ?_)⟩
  have hM35 : Mem w [] w35 [[⟨b2, 36, [.int .i64 t.bk, .int .i64 t.pg]⟩], r12, [⟨b10, 5, [.int .u8 113, .int .u8 114]⟩], rs1, NS1, [⟨b6_, 24, [.int .i64 P1, (.slice av1 lv1 cv1)]⟩], [⟨b33, 24, [.int .i64 0, .slice none 0 0]⟩], rs35, NS35] := hM34.add2 hm35
  subst hr35
  obtain ⟨av35, lv35, cv35, rfl⟩ := hs35.isSlice
  obtain ⟨q35, hq35, z35⟩ := dc_uniq hsp1 hsp35
  subst q35 z35
  have hh35 := held_upd (wr := wd) (bs := [b2]) hm35.upd (fun b hb => by
   simp only [List.mem_cons, List.not_mem_nil, or_false] at hb
   rw [hb]; exact ⟨(hM34.at (i := 0) (j := 0) rfl rfl).lt, by simp⟩) hh34
  refine ⟨hh35, dq (v := .tuple [.agg ([.int .i64 P1, (.slice av35 lv35 cv35)] : List Value).toArray, .int .i64 e1].toArray) (o_mv rfl) <| dq (v := .agg ([.int .i64 P1, (.slice av35 lv35 cv35)] : List Value).toArray) (o_ext rfl rfl) <| dq (v := .int .i64 e1) (o_ext rfl rfl) <| dl (m_stAU (l := [.int .i64 P1, (.slice av35 lv35 cv35)]) hM35 (i := 6) rfl rfl rfl rfl (by simp [oneCells, Value.oneCell', byteV]) (by simp) fun w36 hup36 (hM36 : Mem w [] w36 [[⟨b2, 36, [.int .i64 t.bk, .int .i64 t.pg]⟩], r12, [⟨b10, 5, [.int .u8 113, .int .u8 114]⟩], rs1, NS1, [⟨b6_, 24, [.int .i64 P1, (.slice av1 lv1 cv1)]⟩], [⟨b33, 24, [.int .i64 P1, (.slice av35 lv35 cv35)]⟩], rs35, NS35]) => ?_)⟩
  have hh36 := held_upd (wr := wd) (bs := [b2]) hup36 (fun b hb => by
   simp only [List.mem_cons, List.not_mem_nil, or_false] at hb
   rw [hb]; exact ⟨(hM35.at (i := 0) (j := 0) rfl rfl).lt, hM35.apart (i := 0) (j := 0) (k := 6) rfl rfl rfl (by decide)⟩) hh35
  refine ⟨hh36, dq (v := .int .i64 e1) (o_mv rfl) <| h25 _ _ ⟨av35, lv35, cv35, ps35, rs35, NS35, b33, rfl, vi, rfl, rfl, rfl, rfl, vi, Mem.rot3 (R := [[⟨b2, 36, [.int .i64 t.bk, .int .i64 t.pg]⟩], r12, [⟨b10, 5, [.int .u8 113, .int .u8 114]⟩], rs1, NS1, [⟨b6_, 24, [.int .i64 P1, (.slice av1 lv1 cv1)]⟩]]) hM36, hs35, hN35, hpl35, hq35⟩⟩
 rintro f w26 ⟨av2, lv2, cv2, ps2, rs2, NS2, b8_, e26_8, e26_9, e26_0, e26_3, e26_5, e26_6, e26_7, hM26, hs2, hN2, hpl2, hq2⟩
 obtain ⟨frm, rfl⟩ := re7 e26_8 e26_9 e26_0 e26_3 e26_5 e26_6 e26_7
 refine seq fun _ h37 => stp (v := x) (o_mv rfl) <| m_ldA (l := [.int .i64 t.bk, .int .i64 t.pg]) hM26 (i := 0) (j := 0) rfl rfl rfl rfl rfl <| m_call (rDecode_ok t.bk t.pg _ pages w26 (by simp only [inK]; omega) (by simp only [inK]; omega) (hx.upd hM26.upd) (by first | omega | (simp only [turn1_length, List.length_append] at *; omega))) rfl fun v38 w38 ⟨P38, v38_, ps38, rs38, NS38, e38, hr38, hs38, hN38, hP38, hpl38, hsp38, hm38⟩ => ?_
 have hM38 : Mem w [] w38 [[⟨b2, 36, [.int .i64 t.bk, .int .i64 t.pg]⟩], r12, [⟨b10, 5, [.int .u8 113, .int .u8 114]⟩], rs1, NS1, [⟨b6_, 24, [.int .i64 P1, (.slice av1 lv1 cv1)]⟩], rs2, NS2, [⟨b8_, 24, [.int .i64 P1, (.slice av2 lv2 cv2)]⟩], rs38, NS38] := hM26.add2 hm38
 subst hr38
 obtain ⟨av38, lv38, cv38, rfl⟩ := hs38.isSlice
 obtain ⟨q38, hq38, z38⟩ := dc_uniq hsp1 hsp38
 subst q38 z38
 refine stp (v := .tuple [.agg ([.int .i64 P1, (.slice av38 lv38 cv38)] : List Value).toArray, .int .i64 e1].toArray) (o_mv rfl) <| stp (v := .agg ([.int .i64 P1, (.slice av38 lv38 cv38)] : List Value).toArray) (o_ext rfl rfl) <| stp (v := .int .i64 e1) (o_ext rfl rfl) <| m_al hM38 fun b39 w40 (hM40 : Mem w [] w40 [[⟨b2, 36, [.int .i64 t.bk, .int .i64 t.pg]⟩], r12, [⟨b10, 5, [.int .u8 113, .int .u8 114]⟩], rs1, NS1, [⟨b6_, 24, [.int .i64 P1, (.slice av1 lv1 cv1)]⟩], rs2, NS2, [⟨b8_, 24, [.int .i64 P1, (.slice av2 lv2 cv2)]⟩], rs38, NS38, [⟨b39, 24, [.int .i64 0, .slice none 0 0]⟩]]) => m_stA (l := [.int .i64 P1, (.slice av38 lv38 cv38)]) hM40 (i := 11) rfl rfl rfl rfl (by simp [oneCells, Value.oneCell', byteV]) (by simp) fun w41 (hM41 : Mem w [] w41 [[⟨b2, 36, [.int .i64 t.bk, .int .i64 t.pg]⟩], r12, [⟨b10, 5, [.int .u8 113, .int .u8 114]⟩], rs1, NS1, [⟨b6_, 24, [.int .i64 P1, (.slice av1 lv1 cv1)]⟩], rs2, NS2, [⟨b8_, 24, [.int .i64 P1, (.slice av2 lv2 cv2)]⟩], rs38, NS38, [⟨b39, 24, [.int .i64 P1, (.slice av38 lv38 cv38)]⟩]]) => stp (v := .int .i64 e1) (o_mv rfl) <| h37 _ _ <| seq fun _ h42 => seq fun _ h43 => stp (v := .int .i64 e1) (o_mv rfl) <| stp (v := .int .i64 e1) (o_mv rfl) <| stp (v := .bool false) (o_bin rfl rfl v_neF) <| stp (v := .bool false) (o_mv rfl) <| splitF rfl <| stg rfl (v := .int .i64 e1) (o_mv rfl) <| stg rfl (v := .int .i64 e1) (o_mv rfl) <| stg rfl (v := .bool false) (o_bin rfl rfl v_neF) <| stp (v := .bool false) (o_pickF rfl rfl) <| stp (v := .bool false) (o_mv rfl) <| splitF rfl <| gyesl rfl <| m_ldA (l := [.int .i64 P1, (.slice av1 lv1 cv1)]) hM41 (i := 5) (j := 0) rfl rfl rfl rfl rfl <| gyesl rfl <| m_ldA (l := [.int .i64 P1, (.slice av38 lv38 cv38)]) hM41 (i := 11) (j := 0) rfl rfl rfl rfl rfl <| gyesl rfl <| m_call (sameFoot_eq P1 _ _ ps1 ps38 w41 (hs1.rd hM41 (i := 3) rfl) (hN1.rd _ (hM41.res (i := 4) rfl).1) (hs38.rd hM41 (i := 9) rfl) (hN38.rd _ (hM41.res (i := 10) rfl).1) (by omega) (hq38)) rfl fun v44 w44 ⟨hr44, hu44⟩ => ?_
 have hM44 : Mem w [] w44 [[⟨b2, 36, [.int .i64 t.bk, .int .i64 t.pg]⟩], r12, [⟨b10, 5, [.int .u8 113, .int .u8 114]⟩], rs1, NS1, [⟨b6_, 24, [.int .i64 P1, (.slice av1 lv1 cv1)]⟩], rs2, NS2, [⟨b8_, 24, [.int .i64 P1, (.slice av2 lv2 cv2)]⟩], rs38, NS38, [⟨b39, 24, [.int .i64 P1, (.slice av38 lv38 cv38)]⟩]] := hM41.pure hu44
 subst hr44
 refine stg rfl (v := .bool false) (o_not rfl rfl) <| stp (v := .bool false) (o_pickF rfl rfl) <| h43 _ _ <| cndF rfl <| h42 _ _ <| seq fun _ h45 => m_ldA (l := [.int .i64 P1, (.slice av1 lv1 cv1)]) hM44 (i := 5) (j := 0) rfl rfl rfl rfl rfl <| m_call (scrawl_ok P1 _ ps1 rs1 NS1 w44 hs1 hN1 (Mem.res2 hM44 3 4 rfl rfl (by decide)) (by omega)) rfl fun v46 w46 ⟨hr46, hm46⟩ => ?_
 have hM46 : Mem w [] w46 [[⟨b2, 36, [.int .i64 t.bk, .int .i64 t.pg]⟩], r12, [⟨b10, 5, [.int .u8 113, .int .u8 114]⟩], [], [], [⟨b6_, 24, [.int .i64 P1, (.slice av1 lv1 cv1)]⟩], rs2, NS2, [⟨b8_, 24, [.int .i64 P1, (.slice av2 lv2 cv2)]⟩], rs38, NS38, [⟨b39, 24, [.int .i64 P1, (.slice av38 lv38 cv38)]⟩]] := Mem.step2 hM44 3 4 rfl rfl (by decide) hm46
 subst hr46
 refine stp (v := .bool true) (o_mv rfl) <| h45 _ _ <| seq fun _ h47 => seq fun _ h48 => stp (v := .bool true) (o_mv rfl) <| stp (v := .bool false) (o_not rfl rfl) <| stp (v := .bool false) (o_mv rfl) <| splitF rfl <| gyesl rfl <| m_ldA (l := [.int .i64 P1, (.slice av2 lv2 cv2)]) hM46 (i := 8) (j := 0) rfl rfl rfl rfl rfl <| gyesl rfl <| m_ldA (l := [.int .i64 P1, (.slice av38 lv38 cv38)]) hM46 (i := 11) (j := 0) rfl rfl rfl rfl rfl <| gyesl rfl <| m_call (sameFoot_eq P1 _ _ ps2 ps38 w46 (hs2.rd hM46 (i := 6) rfl) (hN2.rd _ (hM46.res (i := 7) rfl).1) (hs38.rd hM46 (i := 9) rfl) (hN38.rd _ (hM46.res (i := 10) rfl).1) (by omega) ((hq2).symm.trans hq38)) rfl fun v49 w49 ⟨hr49, hu49⟩ => ?_
 have hM49 : Mem w [] w49 [[⟨b2, 36, [.int .i64 t.bk, .int .i64 t.pg]⟩], r12, [⟨b10, 5, [.int .u8 113, .int .u8 114]⟩], [], [], [⟨b6_, 24, [.int .i64 P1, (.slice av1 lv1 cv1)]⟩], rs2, NS2, [⟨b8_, 24, [.int .i64 P1, (.slice av2 lv2 cv2)]⟩], rs38, NS38, [⟨b39, 24, [.int .i64 P1, (.slice av38 lv38 cv38)]⟩]] := hM46.pure hu49
 subst hr49
 refine stg rfl (v := .bool false) (o_not rfl rfl) <| stp (v := .bool false) (o_pickF rfl rfl) <| stp (v := .bool false) (o_mv rfl) <| splitF rfl <| stg rfl (v := v12) (o_mv rfl) <| stg rfl (v := x) (o_mv rfl) <| stg rfl (v := .int .i64 (pages.length : Nat)) (o_lenR (hx.upd hM49.upd) rfl rfl) <| gyes rfl rfl (m_slcO pages.length (hs12) rfl (by first | omega | (simp; done) | (simp; omega)) (⟨_, rfl⟩) trivial fun u50 hu50 => ?_)
 have hu50' := SlE.eqL (m := pages) hu50 (by simp)
 refine stg rfl (v := x) (o_mv rfl) <| gyesl rfl <| m_call (sameL_ok _ _ pages pages w49 (hu50'.rd hM49 (i := 1) rfl) (hx.upd hM49.upd) (by first | omega | (simp; done) | (simp; omega))) rfl fun v51 w51 ⟨hr51, hu51⟩ => ?_
 have hM51 : Mem w [] w51 [[⟨b2, 36, [.int .i64 t.bk, .int .i64 t.pg]⟩], r12, [⟨b10, 5, [.int .u8 113, .int .u8 114]⟩], [], [], [⟨b6_, 24, [.int .i64 P1, (.slice av1 lv1 cv1)]⟩], rs2, NS2, [⟨b8_, 24, [.int .i64 P1, (.slice av2 lv2 cv2)]⟩], rs38, NS38, [⟨b39, 24, [.int .i64 P1, (.slice av38 lv38 cv38)]⟩]] := hM49.pure hu51
 obtain rfl : v51 = .bool true := hr51.trans (by simp)
 clear hr51
 refine stg rfl (v := .bool false) (o_not rfl rfl) <| stp (v := .bool false) (o_pickF rfl rfl) <| stp (v := .bool false) (o_mv rfl) <| splitF rfl <| stg rfl (v := v12) (o_mv rfl) <| stg rfl (v := x) (o_mv rfl) <| stg rfl (v := .int .i64 (pages.length : Nat)) (o_lenR (hx.upd hM51.upd) rfl rfl) <| gyes rfl rfl (m_idxE 0 (j := pages.length) (hs12.rd hM51 (i := 1) rfl) rfl rfl (by simp) fun b52 o52 hp52 => gyesl rfl <| ld (v := byteV ((pages ++ ([113, 114])).getD pages.length 0)) rfl (hp52) <| stg rfl (v := .bool (decide (¬ (((pages ++ ([113, 114])).getD pages.length 0).toNat : Int) = 113))) (o_bin rfl rfl v_neq) <| stp (v := .bool (decide (¬ (((pages ++ ([113, 114])).getD pages.length 0).toNat : Int) = 113))) (o_pickF rfl rfl) <| stp (v := .bool (decide (¬ (((pages ++ ([113, 114])).getD pages.length 0).toNat : Int) = 113))) (o_mv rfl) <| splitP rfl (fun c53 => absurd c53 (by simp)) (fun c53 => stg rfl (v := v12) (o_mv rfl) <| stg rfl (v := x) (o_mv rfl) <| stg rfl (v := .int .i64 (pages.length : Nat)) (o_lenR (hx.upd hM51.upd) rfl rfl) <| stg rfl (v := .int .i64 ((pages.length : Nat) + 1)) (o_bin rfl rfl (v_add64 (by omega))) <| gyes rfl rfl (m_idxE 0 (j := (pages.length + 1)) (hs12.rd hM51 (i := 1) rfl) rfl (v_int (by omega)) (by simp) fun b54 o54 hp54 => gyesl rfl <| ld (v := byteV ((pages ++ ([113, 114])).getD (pages.length + 1) 0)) rfl (hp54) <| stg rfl (v := .bool (decide (¬ (((pages ++ ([113, 114])).getD (pages.length + 1) 0).toNat : Int) = 114))) (o_bin rfl rfl v_neq) <| stp (v := .bool (decide (¬ (((pages ++ ([113, 114])).getD (pages.length + 1) 0).toNat : Int) = 114))) (o_pickF rfl rfl) <| h48 _ _ <| cndP rfl (fun c55 => absurd c55 (by simp)) (fun c55 => h47 _ _ <| seq fun _ h56 => stp (v := .slice none 0 0) (o_mv rfl) <| h56 _ _ <| seq fun _ h57 => seq fun _ h58 => stp (v := .int .i64 0) (o_mv rfl) <| h58 _ _ ?_))))
 have hM59 : Mem w [] w51 [[⟨b2, 36, [.int .i64 t.bk, .int .i64 t.pg]⟩], r12, [⟨b10, 5, [.int .u8 113, .int .u8 114]⟩], [], [], [⟨b6_, 24, [.int .i64 P1, (.slice av1 lv1 cv1)]⟩], rs2, NS2, [⟨b8_, 24, [.int .i64 P1, (.slice av2 lv2 cv2)]⟩], rs38, NS38, [⟨b39, 24, [.int .i64 P1, (.slice av38 lv38 cv38)]⟩], []] := hM51.addNil
 have hs59 : SlE byteV 5 (.slice none 0 0) [] [] := Sl.nil 1 5
 refine lp (n := fun _ _ => False) (ι := (Nat) × (Value) × (List Ent) × (Value) × (List Ent)) (fun ⟨i, y5_, r5_, y13_, r13_⟩ f w' => f 5 = y5_ ∧ f 13 = y13_ ∧ f 14 = .int .i64 (i : Nat) ∧ f 0 = x ∧ f 3 = .pointer (some ⟨b2, 0, none⟩) ∧ f 6 = .pointer (some ⟨b6_, 0, none⟩) ∧ f 10 = .pointer (some ⟨b39, 0, none⟩) ∧ Mem w [] w' [[⟨b2, 36, [.int .i64 t.bk, .int .i64 t.pg]⟩], r5_, [⟨b10, 5, [.int .u8 113, .int .u8 114]⟩], [], [], [⟨b6_, 24, [.int .i64 P1, (.slice av1 lv1 cv1)]⟩], rs2, NS2, [⟨b8_, 24, [.int .i64 P1, (.slice av2 lv2 cv2)]⟩], rs38, NS38, [⟨b39, 24, [.int .i64 P1, (.slice av38 lv38 cv38)]⟩], r13_] ∧ (i ≤ pages.length) ∧ (SlE byteV 5 y5_ (turn1 i pages ++ ([113, 114] : List UInt8)) r5_) ∧ (SlE byteV 5 y13_ ((pages.take i).map (· ^^^ 1)) r13_)) (fun ⟨i, y5_, r5_, y13_, r13_⟩ => pages.length - i) (0, v12, r12, ((.slice none 0 0)), ([])) ?_ ?_
 ·exact ⟨rfl, rfl, vi, rfl, rfl, rfl, rfl, hM59, by omega, by rw [turn1_zero]; simpa using hs12, by first | exact hs59 | simpa using hs59⟩
 rintro ⟨i, y5_, r5_, y13_, r13_⟩ f w60 ⟨e60_5, e60_13, e60_14, e60_0, e60_3, e60_6, e60_10, hM60, hi, hy5_, hy13_⟩ K61 h61
 obtain ⟨frm, rfl⟩ := re7 e60_5 e60_13 e60_14 e60_0 e60_3 e60_6 e60_10
 refine seq fun _ h62 => seq fun _ h63 => stp (v := .int .i64 (i : Nat)) (o_mv rfl) <| stp (v := x) (o_mv rfl) <| stp (v := .int .i64 (pages.length : Nat)) (o_lenR (hx.upd hM60.upd) rfl rfl) <| stp (v := .bool (decide (((i : Nat) : Int) < (pages.length : Nat)))) (o_bin rfl rfl rfl) <| h63 _ _ <| cndP rfl (fun c64 => ?_) (fun c64 => ?_)
 ·refine h62 _ _ <| seq fun _ h65 => seq fun _ h66 => ?_
  have hlen : (turn1 i pages ++ ([113, 114] : List UInt8)).length = pages.length + 2 := by rw [List.length_append, turn1_length]; rfl
  refine stp (v := y5_) (o_mv rfl) <| stp (v := .int .i64 (i : Nat)) (o_mv rfl) <| stp (v := y5_) (o_mv rfl) <| stp (v := .int .i64 (i : Nat)) (o_mv rfl) <| m_idxE 0 (j := i) (hy5_.rd hM60 (i := 1) rfl) rfl rfl (by omega) fun b67 o67 hp67 => ld (v := byteV ((turn1 i pages ++ ([113, 114] : List UInt8)).getD i 0)) rfl (hp67) <| stp (v := .int .u8 ((pages.getD i 0 ^^^ 1).toNat : Int)) (o_bin rfl rfl (by rw [turn1_two (by omega)]; exact v_int (xor1 _))) <| m_set (E := byteV) (q := pages.getD i 0 ^^^ 1) (j := i) hM60 (i := 1) rfl hy5_ rfl rfl (by omega) (by simp) (rfl) fun w68 r68 u68 he68 hs68 (hM68 : Mem w [] w68 [[⟨b2, 36, [.int .i64 t.bk, .int .i64 t.pg]⟩], r68, [⟨b10, 5, [.int .u8 113, .int .u8 114]⟩], [], [], [⟨b6_, 24, [.int .i64 P1, (.slice av1 lv1 cv1)]⟩], rs2, NS2, [⟨b8_, 24, [.int .i64 P1, (.slice av2 lv2 cv2)]⟩], rs38, NS38, [⟨b39, 24, [.int .i64 P1, (.slice av38 lv38 cv38)]⟩], r13_]) => h66 _ _ <| stp (v := y13_) (o_mv rfl) <| stp (v := y5_) (o_mv rfl) <| stp (v := .int .i64 (i : Nat)) (o_mv rfl) <| m_idxE 0 (j := i) (hs68.rd hM68 (i := 1) rfl) rfl rfl (by rw [List.length_set]; omega) fun b69 o69 hp69 => ld (v := byteV (((turn1 i pages ++ ([113, 114] : List UInt8)).set i (pages.getD i 0 ^^^ 1)).getD i 0)) rfl (hp69) ?_
  refine m_app1 (E := byteV) (q := pages.getD i 0 ^^^ 1) hM68 (i := 12) rfl hy13_ rfl (by simp) (by rw [turn1_two_get (by omega)]; rfl) (by simp; omega) (by omega) fun v70 w70 r70 u70 (hs70 : SlE byteV 5 v70 (((pages.take i).map (· ^^^ 1)) ++ [pages.getD i 0 ^^^ 1]) r70) (hM70 : Mem w [] w70 [[⟨b2, 36, [.int .i64 t.bk, .int .i64 t.pg]⟩], r68, [⟨b10, 5, [.int .u8 113, .int .u8 114]⟩], [], [], [⟨b6_, 24, [.int .i64 P1, (.slice av1 lv1 cv1)]⟩], rs2, NS2, [⟨b8_, 24, [.int .i64 P1, (.slice av2 lv2 cv2)]⟩], rs38, NS38, [⟨b39, 24, [.int .i64 P1, (.slice av38 lv38 cv38)]⟩], r70]) => stp (v := v70) (o_mv rfl) <| h65 _ _ <| stp (v := .int .i64 (i : Nat)) (o_mv rfl) <| stp (v := .int .i64 ((i : Nat) + 1)) (o_bin rfl rfl (v_add64 (by omega))) <| stp (v := .int .i64 ((i : Nat) + 1)) (o_mv rfl) <| h61 (i + 1, y5_, r68, v70, r70) _ _ ⟨rfl, rfl, vi, rfl, rfl, rfl, rfl, hM70, by omega, by rw [← turn1_two_set (by omega)]; exact hs68, by rw [takeG 0 (show i < pages.length by omega), List.map_append]; exact hs70⟩ (by (try dsimp only); omega)
 refine h57 _ _ <| seq fun _ h71 => ?_
 intro wd e1 e2 e3 e4
 have hd := Upd.same e1 e2 e3 e4 []
 have hM72 := hM60.pure hd
 clear e1 e2 e3 e4
 refine ⟨(some []), ?_⟩
 show vd _ _ _ _ _ _ _
 have hcc := turn1_end (i := i) (l := pages) (by omega)
 have htl := turn1_length i pages
 rw [hcc] at hy13_
 refine dq (v := y5_) (o_mv rfl) <| dq (v := x) (o_mv rfl) <| dq (v := .int .i64 (pages.length : Nat)) (o_lenR (hx.upd hM72.upd) rfl rfl) <| dqp (m_slcO pages.length (hy5_) rfl (by rw [List.length_append]; omega) (⟨_, v_int (by omega)⟩) trivial fun u73 hu73 => ?_)
 show vd _ _ _ _ _ _ _
 have hu73' := SlE.eqL (m := turn1 i pages) hu73 (by rw [List.take_left' htl])
 refine dl (m_ldA (l := [.int .i64 t.bk, .int .i64 t.pg]) hM72 (i := 0) (j := 0) rfl rfl rfl rfl rfl <| ⟨(fun b hb => by cases hb), dl (m_call (Decode_ok t.bk t.pg _ (turn1 i pages) wd (by simp only [inK]; omega) (by simp only [inK]; omega) (hu73'.rd hM72 (i := 1) rfl) (by first | omega | (simp only [turn1_length, List.length_append] at *; omega))) rfl fun v74 w74 ⟨P74, v74_, ps74, rs74, NS74, e74, hr74, hs74, hN74, hP74, hpl74, hsp74, hm74⟩ => ?_)⟩)
 have hM74 : Mem w [] w74 [[⟨b2, 36, [.int .i64 t.bk, .int .i64 t.pg]⟩], r5_, [⟨b10, 5, [.int .u8 113, .int .u8 114]⟩], [], [], [⟨b6_, 24, [.int .i64 P1, (.slice av1 lv1 cv1)]⟩], rs2, NS2, [⟨b8_, 24, [.int .i64 P1, (.slice av2 lv2 cv2)]⟩], rs38, NS38, [⟨b39, 24, [.int .i64 P1, (.slice av38 lv38 cv38)]⟩], r13_, rs74, NS74] := hM72.add2 hm74
 subst hr74
 obtain ⟨av74, lv74, cv74, rfl⟩ := hs74.isSlice
 refine ⟨(fun b hb => by cases hb), dq (v := .tuple [.agg ([.int .i64 P74, (.slice av74 lv74 cv74)] : List Value).toArray, .int .i64 e74].toArray) (o_mv rfl) <| dq (v := .agg ([.int .i64 P74, (.slice av74 lv74 cv74)] : List Value).toArray) (o_ext rfl rfl) <| dq (v := .int .i64 e74) (o_ext rfl rfl) <| dl (m_stA (l := [.int .i64 P74, (.slice av74 lv74 cv74)]) hM74 (i := 5) rfl rfl rfl rfl (by simp [oneCells, Value.oneCell', byteV]) (by simp) fun w75 (hM75 : Mem w [] w75 [[⟨b2, 36, [.int .i64 t.bk, .int .i64 t.pg]⟩], r5_, [⟨b10, 5, [.int .u8 113, .int .u8 114]⟩], [], [], [⟨b6_, 24, [.int .i64 P74, (.slice av74 lv74 cv74)]⟩], rs2, NS2, [⟨b8_, 24, [.int .i64 P1, (.slice av2 lv2 cv2)]⟩], rs38, NS38, [⟨b39, 24, [.int .i64 P1, (.slice av38 lv38 cv38)]⟩], r13_, rs74, NS74]) => ⟨(fun b hb => by cases hb), dq (v := .int .i64 e74) (o_mv rfl) <| h71 _ _ <| seq fun _ h76 => stp (v := y13_) (o_mv rfl) <| m_ldA (l := [.int .i64 t.bk, .int .i64 t.pg]) hM75 (i := 0) (j := 0) rfl rfl rfl rfl rfl <| m_call (rDecode_ok t.bk t.pg _ (turn1 i pages) w75 (by simp only [inK]; omega) (by simp only [inK]; omega) (hy13_.rd hM75 (i := 12) rfl) (by first | omega | (simp only [turn1_length, List.length_append] at *; omega))) rfl fun v77 w77 ⟨P77, v77_, ps77, rs77, NS77, e77, hr77, hs77, hN77, hP77, hpl77, hsp77, hm77⟩ => ?_⟩)⟩
 have hM77 : Mem w [] w77 [[⟨b2, 36, [.int .i64 t.bk, .int .i64 t.pg]⟩], r5_, [⟨b10, 5, [.int .u8 113, .int .u8 114]⟩], [], [], [⟨b6_, 24, [.int .i64 P74, (.slice av74 lv74 cv74)]⟩], rs2, NS2, [⟨b8_, 24, [.int .i64 P1, (.slice av2 lv2 cv2)]⟩], rs38, NS38, [⟨b39, 24, [.int .i64 P1, (.slice av38 lv38 cv38)]⟩], r13_, rs74, NS74, rs77, NS77] := hM75.add2 hm77
 subst hr77
 obtain ⟨av77, lv77, cv77, rfl⟩ := hs77.isSlice
 obtain ⟨q77, hq77, z77⟩ := dc_uniq hsp74 hsp77
 subst q77 z77
 refine stp (v := .tuple [.agg ([.int .i64 P74, (.slice av77 lv77 cv77)] : List Value).toArray, .int .i64 e74].toArray) (o_mv rfl) <| stp (v := .agg ([.int .i64 P74, (.slice av77 lv77 cv77)] : List Value).toArray) (o_ext rfl rfl) <| stp (v := .int .i64 e74) (o_ext rfl rfl) <| m_stA (l := [.int .i64 P74, (.slice av77 lv77 cv77)]) hM77 (i := 11) rfl rfl rfl rfl (by simp [oneCells, Value.oneCell', byteV]) (by simp) fun w78 (hM78 : Mem w [] w78 [[⟨b2, 36, [.int .i64 t.bk, .int .i64 t.pg]⟩], r5_, [⟨b10, 5, [.int .u8 113, .int .u8 114]⟩], [], [], [⟨b6_, 24, [.int .i64 P74, (.slice av74 lv74 cv74)]⟩], rs2, NS2, [⟨b8_, 24, [.int .i64 P1, (.slice av2 lv2 cv2)]⟩], rs38, NS38, [⟨b39, 24, [.int .i64 P74, (.slice av77 lv77 cv77)]⟩], r13_, rs74, NS74, rs77, NS77]) => stp (v := .int .i64 e74) (o_mv rfl) <| h76 _ _ <| seq fun _ h79 => stp (v := .int .i64 e74) (o_mv rfl) <| stp (v := .int .i64 e74) (o_mv rfl) <| stp (v := .bool true) (o_bin rfl rfl v_eqT) <| stp (v := .bool true) (o_mv rfl) <| splitT rfl <| gyesl rfl <| m_ldA (l := [.int .i64 P74, (.slice av74 lv74 cv74)]) hM78 (i := 5) (j := 0) rfl rfl rfl rfl rfl <| gyesl rfl <| m_ldA (l := [.int .i64 P74, (.slice av77 lv77 cv77)]) hM78 (i := 11) (j := 0) rfl rfl rfl rfl rfl <| gyesl rfl <| m_call (sameFoot_eq P74 _ _ ps74 ps77 w78 (hs74.rd hM78 (i := 13) rfl) (hN74.rd _ (hM78.res (i := 14) rfl).1) (hs77.rd hM78 (i := 15) rfl) (hN77.rd _ (hM78.res (i := 16) rfl).1) (by omega) (hq77)) rfl fun v80 w80 ⟨hr80, hu80⟩ => ?_
 have hM80 : Mem w [] w80 [[⟨b2, 36, [.int .i64 t.bk, .int .i64 t.pg]⟩], r5_, [⟨b10, 5, [.int .u8 113, .int .u8 114]⟩], [], [], [⟨b6_, 24, [.int .i64 P74, (.slice av74 lv74 cv74)]⟩], rs2, NS2, [⟨b8_, 24, [.int .i64 P1, (.slice av2 lv2 cv2)]⟩], rs38, NS38, [⟨b39, 24, [.int .i64 P74, (.slice av77 lv77 cv77)]⟩], r13_, rs74, NS74, rs77, NS77] := hM78.pure hu80
 subst hr80
 refine stp (v := .bool true) (o_pickT rfl rfl) <| stp (v := .bool true) (o_mv rfl) <| h79 _ _ <| ⟨(.bool true), rfl, ⟨rfl, hM80.upd⟩⟩
