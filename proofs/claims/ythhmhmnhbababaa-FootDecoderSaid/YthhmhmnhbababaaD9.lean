/- Footers read: parse. -/
import Derived.Test.YthhmhmnhbababaaD8
import Derived.Test.YthhmhmnhbababaaE23
namespace Go.Proofs.Ythhmhmnhbababaa.E
open Go
theorem decF_h (b : List UInt8) : 0 ≤ (decF b).2.1 ∧ (decF b).2.1 ≤ 255 := by
 cases b with
 | nil => exact ⟨by decide, by decide⟩
 | cons c r =>
  have hc := c.toNat_lt
  rw [decF_cons]
  split
  ·split <;> simp
  split
  ·split <;> simp
  split
  ·simp
  split
  ·simp
  simp only []; omega
structure NwP (p : Pr) (rd rb : List Ent) : Prop where
 sd : SlE byteV 5 p.dv p.d rd
 sb : SlS biC 4 74 p.bv p.bl rb
 kp : inK .i64 p.part
 kh : inK .i64 p.h
 ld : p.d.length ≤ 140737488351232
 lb : p.bl.length ≤ 3518437208780
 kb : ∀ b ∈ p.bl, b.ok
theorem NwP.ok {p : Pr} {rd rb : List Ent} {w : World} (h : NwP p rd rb) (h1 : ∀ e ∈ rd, Own w e) (h2 : ∀ e ∈ rb, Own w e) : p.ok w := ⟨Sl.rdOwn h.sb h2, Sl.rdOwn h.sd h1, h.kp, h.kh, h.ld, h.lb, h.kb⟩
def Nest (NS : List Ent) (ps : List Pr) : Prop := Nst (fun p r => ∃ rd rb, r = rd ++ rb ∧ NwP p rd rb) ps NS
theorem Nest.nil : Nest [] [] := trivial
theorem Nest.rd {NS : List Ent} {ps : List Pr} (h : Nest NS ps) (w2 : World) (ho : ∀ e ∈ NS, Own w2 e) : ∀ p ∈ ps, p.ok w2 := fun p hp => by
 obtain ⟨a, h1, rd, rb, rfl, h2⟩ := h.get p hp
 exact h2.ok (fun e he => ho e (h1 e (by simp [he]))) fun e he => ho e (h1 e (by simp [he]))
theorem Nest.snoc {NS rB rF : List Ent} {ps : List Pr} {part h : Int} {a : Bool} {ba da : Option Addr} {bn bc dn dc : Nat} {bl : List Bi} {d : List UInt8} (hN : Nest NS ps) (hb : SlS biC 4 74 (.slice ba bn bc) bl rB) (hd : SlE byteV 5 (.slice da dn dc) d rF) (hp : inK .i64 part) (hh : inK .i64 h) (ld : d.length ≤ 140737488351232) (lb : bl.length ≤ 3518437208780) (hk : ∀ x ∈ bl, x.ok) :
 Nest (NS ++ (rF ++ rB)) (ps ++ [⟨part, ba, bn, bc, bl, a, h, da, dn, dc, d⟩]) := Nst.app hN ⟨rF, rB, rfl, hd, hb, hp, hh, ld, lb, hk⟩
def PaSpec (b : List UInt8) (parts : Int) (PS : List Pp) (ok : Bool) : Prop := (ok = true → ftOk parts PS ∧ bodyF parts PS = b) ∧ ∀ P QS, ftOk P QS → bodyF P QS = b → ok = true ∧ P = parts ∧ QS = PS
def PaInv (b : List UInt8) (parts : Int) (a : Nat) (e n last : Int) (ps : List Pp) : Prop := ∀ P QS, ftOk P QS → bodyF P QS = b → P = parts ∧ e = 0 ∧ ∃ Q2 k, QS = ps ++ Q2 ∧ n = (Q2.length : Nat) ∧ b.drop a = infB last Q2 ∧ infOk P last k Q2 ∧ -1 ≤ last
theorem inf_len (P : Int) : ∀ (QS : List Pp) (last : Int) (k : Nat), infOk P last k QS → -1 ≤ last → last ≤ P - 1 → (QS.length : Int) ≤ P - 1 - last
 | [], _, _, _, _, h => by simp; omega
 | q :: QS, last, k, h, h1, h2 => by
  have h3 := h.1.1
  unfold parOk at h3
  have := inf_len P QS q.part _ h.2 (by omega) (by omega)
  rw [List.length_cons]; omega
theorem PaInv.init {b : List UInt8} {a1 a2 : Nat} {e1 e2 V1 V2 : Int} (h1 : NumR b 0 0 65535 V1 a1 e1) (h2 : NumR b a1 e1 65535 V2 a2 e2) : PaInv b V1 a2 e2 V2 (-1) [] := by
 intro P QS hf hb
 have hn := inf_len P QS (-1) 0 hf.2 (by omega) (by have := hf.1; omega)
 have hp := hf.1
 have hd : b.drop 0 = bodyF P QS := by rw [hb]; rfl
 unfold bodyF at hd
 simp only [putAll_cons, putAll_nil, List.append_nil, List.append_assoc] at hd
 obtain ⟨rfl, k1, d1⟩ := h1.2 _ _ rfl hd (by omega) (by omega) (by omega)
 obtain ⟨rfl, k2, d2⟩ := h2.2 _ _ k1 d1 (by omega) (by omega) (by omega)
 exact ⟨rfl, k2, QS, 0, rfl, rfl, d2, hf.2, by omega⟩
theorem encF_fk {a : Bool} {h : Int} {d : List UInt8} (k : ¬ fk a h d = 0) : (encF a h d).2 = 0 := by
 by_cases k1 : fk a h d = 1
 ·rw [encF_1 k1]
 by_cases k2 : fk a h d = 2
 ·rw [encF_2 k2]
 by_cases k3 : fk a h d = 3
 ·rw [encF_3 k3]
 exfalso
 unfold fk at k k1 k2 k3
 split at k
 ·rename_i c
  rw [if_pos c] at k1 k2
  cases a <;> simp at k1 k2
 rename_i c
 rw [if_neg c] at k3
 split at k
 ·rename_i c2; rw [if_pos c2] at k3; omega
 exact k rfl
theorem PaInv.step {b : List UInt8} {parts : Int} {a a1 a2 a4 : Nat} {e n last e1 e2 e4 V1 : Int} {T : List UInt8} {ps : List Pp} {bl : List Bi} (h : PaInv b parts a e n last ps) (hn : 0 < n) (h1 : NumR b a e 65535 V1 a1 e1) (h2 : TxR b a1 e1 4112 T a2 e2)
 (h3 : BlSpec b a2 (if e2 = 0 then (decF T).2.2.2 else e2) bl a4 e4) : PaInv b parts a4 e4 (n - 1) (last + 1 + V1) (ps ++ [⟨last + 1 + V1, bl, (decF T).1, (decF T).2.1, (decF T).2.2.1⟩]) := by
 intro P QS hf hb
 obtain ⟨rfl, he, Q2, k, rfl, rfl, hd, hi, hl⟩ := h P QS hf hb
 cases Q2 with
 | nil => simp at hn
 | cons q Q2 =>
  have hq := hi.1.1
  have hkb := hi.1.2
  unfold parOk at hq
  have hpar := hf.1
  have el := encF_len q.a q.h q.d
  have hde := dec_enc (encF_fk hq.2.2.2.1)
  have hib : infB last (q :: Q2) = parB last q ++ infB q.part Q2 := rfl
  rw [hib] at hd
  unfold parB at hd
  simp only [putAll_cons, putAll_nil, List.append_nil, List.append_assoc] at hd
  obtain ⟨rfl, k1, d1⟩ := h1.2 _ _ he hd (by omega) (by omega) (by omega)
  obtain ⟨rfl, k2, d2⟩ := h2.2 _ _ k1 d1 (by omega) (by omega)
  have hz : (if e2 = 0 then (decF (encF q.a q.h q.d).1).2.2.2 else e2) = 0 := by rw [if_pos k2, hde]
  obtain ⟨k3, rfl, d3⟩ := h3 _ _ hz d2 hq.2.2.2.2 (by omega)
  have hpp : last + 1 + (q.part - last - 1) = q.part := by omega
  rw [hpp, hde]
  refine ⟨rfl, k3, Q2, _, ?_, by simp, d3, hi.2, by omega⟩
  rw [List.append_assoc]; rfl
theorem PaInv.done {b : List UInt8} {parts : Int} {a : Nat} {e n last : Int} {ps : List Pp} (h : PaInv b parts a e n last ps) (hn : n ≤ 0 ∨ restV b a e ≤ 0) (P : Int) (QS : List Pp) (hf : ftOk P QS) (hb : bodyF P QS = b) : P = parts ∧ QS = ps ∧ endE b a e = 0 := by
 obtain ⟨rfl, he, Q2, k, rfl, rfl, hd, hi, hl⟩ := h P QS hf hb
 cases Q2 with
 | nil =>
  have hl1 := congrArg List.length hd
  rw [List.length_drop] at hl1
  have hz : (infB last []).length = 0 := rfl
  rw [hz] at hl1
  exact ⟨rfl, by simp, by unfold endE; rw [if_neg (fun k => k he), if_neg (by omega)]⟩
 | cons q Q2 =>
  exfalso
  have hq := hi.1.1
  unfold parOk at hq
  have hib : infB last (q :: Q2) = parB last q ++ infB q.part Q2 := rfl
  rw [hib] at hd
  unfold parB at hd
  simp only [putAll_cons, putAll_nil, List.append_nil, List.append_assoc] at hd
  have hl1 := congrArg List.length hd
  have hp := putI_pos (v := q.part - last - 1) (by omega)
  rw [List.length_append, List.length_drop] at hl1
  unfold restV at hn
  rw [if_pos he, List.length_cons] at hn
  omega
theorem PaInv.body {b : List UInt8} {parts : Int} {a : Nat} {e n last : Int} {ps : List Pp} (h : PaInv b parts a e n last ps) (hn : n ≤ 0 ∨ restV b a e ≤ 0) (h2 : ftOk parts ps) : PaSpec b parts ps (decide (bodyF parts ps = b)) := by
 refine ⟨fun k => ⟨h2, of_decide_eq_true k⟩, fun P QS hf hb => ?_⟩
 obtain ⟨rfl, rfl, h5⟩ := h.done hn P QS hf hb
 exact ⟨decide_eq_true hb, rfl, rfl⟩
theorem PaInv.no {b : List UInt8} {parts : Int} {a : Nat} {e n last : Int} {ps : List Pp} (h : PaInv b parts a e n last ps) (hn : n ≤ 0 ∨ restV b a e ≤ 0) (h2 : ¬ (endE b a e = 0 ∧ ftOk parts ps ∧ bodyF parts ps = b)) : PaSpec b parts ps false :=
 ⟨fun k => (by cases k), fun P QS hf hb => absurd ⟨(h.done hn P QS hf hb).2.2, by
  obtain ⟨rfl, rfl, h5⟩ := h.done hn P QS hf hb
  exact ⟨hf, hb⟩⟩ h2⟩
set_option maxRecDepth 100000 in
theorem parse_ok (x : Value) (b : List UInt8) (w : World) (hx : RdE byteV w x b) (hl : b.length ≤ 140737488351232) : Calls Try.prog 65 [x].toArray w (Rt fun r w' => ∃ parts v ps rs NS ok, r = .tuple #[.agg #[.int .i64 parts, v], .bool ok] ∧ SlS prC 5 71 v ps rs ∧ Nest NS ps ∧ (0 ≤ parts ∧ parts ≤ 65535) ∧ ps.length ≤ 65535 ∧ PaSpec b parts (ps.map Pr.p) ok ∧ Mem w [] w' [rs, NS]) := by
 have hM0 : Mem w [] w [] := Mem.nil w []
 refine calls_vc mixed Try.func65 rfl C65 (by simp [Try.ntmps65]) <| seq fun _ h1 => m_al hM0 fun b2 w3 (hM3 : Mem w [] w3 [[⟨b2, 24, [.int .i64 0, .slice none 0 0]⟩]]) => mv <| h1 _ _ <| seq fun _ h4 => mv <| m_call (NewCursor_ok _ b w3 (hx.upd hM3.upd) (by first | omega | (simp; done) | (simp; omega))) rfl fun v5 w5 ⟨bc5, rs5, hr5, hc5, hm5⟩ => ?_
 have hM5 : Mem w [] w5 [[⟨b2, 24, [.int .i64 0, .slice none 0 0]⟩], rs5] := hM3.add hm5
 subst hr5
 refine mv <| h4 _ _ <| seq fun _ h6 => mv <| m_call (NumN_ok _ b 0 0 65535 rs5 w5 hc5 (hM5.res (i := 1) rfl) (by first | omega | (simp; done) | (simp; omega)) (by omega)) rfl fun v7 w7 ⟨V7, a7_, e7_, r'7, hr7, hn7, hc7, hm7⟩ => ?_
 have hM7 : Mem w [] w7 [[⟨b2, 24, [.int .i64 0, .slice none 0 0]⟩], r'7] := hM5.step 1 rfl hm7
 subst hr7
 have hb7 := hn7.1
 refine stp (v := .agg ([.int .i64 V7, .slice none 0 0] : List Value).toArray) (o_bld rfl rfl) <| m_al hM7 fun b8 w9 (hM9 : Mem w [] w9 [[⟨b2, 24, [.int .i64 0, .slice none 0 0]⟩], r'7, [⟨b8, 24, [.int .i64 0, .slice none 0 0]⟩]]) => m_stA (l := [.int .i64 V7, .slice none 0 0]) hM9 (i := 2) rfl rfl rfl rfl (by simp [oneCells, Value.oneCell', byteV]) (by simp) fun w10 (hM10 : Mem w [] w10 [[⟨b2, 24, [.int .i64 0, .slice none 0 0]⟩], r'7, [⟨b8, 24, [.int .i64 V7, .slice none 0 0]⟩]]) => h6 _ _ <| seq fun _ h11 => mv <| h11 _ _ <| seq fun _ h12 => seq fun _ h13 => mv <| m_call (NumN_ok _ b a7_ e7_ 65535 r'7 w10 hc7 (hM10.res (i := 1) rfl) (by first | omega | (simp; done) | (simp; omega)) (by omega)) rfl fun v14 w14 ⟨V14, a14_, e14_, r'14, hr14, hn14, hc14, hm14⟩ => ?_
 have hM14 : Mem w [] w14 [[⟨b2, 24, [.int .i64 0, .slice none 0 0]⟩], r'14, [⟨b8, 24, [.int .i64 V7, .slice none 0 0]⟩]] := hM10.step 1 rfl hm14
 subst hr14
 have hb14 := hn14.1
 refine mv <| h13 _ _ <| lp (n := fun _ _ => False) (ι := (Nat) × (Int) × (List Ent) × (Int) × (Int) × (List Pr) × (Option Addr) × (Nat) × (Nat) × (List Ent) × (List Ent)) (fun ⟨a2, e2, rc, n, last, ps, av, lv, cv, rsP, NS⟩ f w' => f 2 = .pointer (some ⟨b2, 0, none⟩) ∧ f 4 = .pointer (some ⟨bc5, 0, none⟩) ∧ f 5 = .pointer (some ⟨b8, 0, none⟩) ∧ f 6 = .int .i64 last ∧ f 7 = .int .i64 n ∧ f 0 = x ∧ Mem w [] w' [[⟨b2, 24, [.int .i64 0, .slice none 0 0]⟩], rc, [⟨b8, 24, [.int .i64 V7, (.slice av lv cv)]⟩], rsP, NS] ∧ (CurS bc5 b a2 e2 rc) ∧ (SlS prC 5 71 (.slice av lv cv) ps rsP) ∧ (0 ≤ n ∧ (ps.length : Int) + n ≤ 65535) ∧ (-1 ≤ last ∧ last ≤ 65536 * ps.length) ∧ (Nest NS ps) ∧ (PaInv b V7 a2 e2 n last (ps.map Pr.p))) (fun ⟨a2, e2, rc, n, last, ps, av, lv, cv, rsP, NS⟩ => n.toNat) (a14_, e14_, r'14, V14, -1, [], none, 0, 0, [], []) ?_ ?_
 ·exact ⟨rfl, rfl, rfl, vi, vi, rfl, hM14.addNil.addNil, hc14, Sl.nil 5 71, by simp; omega, by simp, Nest.nil, PaInv.init hn7 hn14⟩
 rintro ⟨a2, e2, rc, n, last, ps, av, lv, cv, rsP, NS⟩ f w15 ⟨e15_2, e15_4, e15_5, e15_6, e15_7, e15_0, hM15, hcl, hs, hn, hlast, hN, hI⟩ K16 h16
 obtain ⟨frm, rfl⟩ := re6 e15_2 e15_4 e15_5 e15_6 e15_7 e15_0
 refine seq fun _ h17 => seq fun _ h18 => mv <| bn rfl rfl <| mv <| splitP rfl (fun c19 => ?_) (fun c19 => ?_)
 ·refine gmv rfl <| gyesl rfl <| m_call (Rest_ok _ b a2 e2 rc w15 hcl (hM15.res (i := 1) rfl) (by first | omega | (simp; done) | (simp; omega))) rfl fun v20 w20 ⟨hr20, hm20⟩ => ?_
  have hM20 : Mem w [] w20 [[⟨b2, 24, [.int .i64 0, .slice none 0 0]⟩], rc, [⟨b8, 24, [.int .i64 V7, (.slice av lv cv)]⟩], rsP, NS] := hM15.step 1 rfl hm20
  subst hr20
  refine gbn rfl rfl rfl <| pkT rfl <| h18 _ _ <| cndP rfl (fun c21 => ?_) (fun c21 => ?_)
  ·refine h17 _ _ <| seq fun _ h22 => seq fun _ h23 => mv <| stp (v := .int .i64 (last + 1)) (o_bin rfl rfl (v_add64 (by omega))) <| mv <| m_call (NumN_ok _ b a2 e2 65535 rc w20 hcl (hM20.res (i := 1) rfl) (by first | omega | (simp; done) | (simp; omega)) (by omega)) rfl fun v24 w24 ⟨V24, a24_, e24_, r'24, hr24, hn24, hc24, hm24⟩ => ?_
   have hM24 : Mem w [] w24 [[⟨b2, 24, [.int .i64 0, .slice none 0 0]⟩], r'24, [⟨b8, 24, [.int .i64 V7, (.slice av lv cv)]⟩], rsP, NS] := hM20.step 1 rfl hm24
   subst hr24
   have hb24 := hn24.1
   refine stp (v := .int .i64 ((last + 1) + V24)) (o_bin rfl rfl (v_add64 (by omega))) <| stp (v := .agg ([.int .i64 ((last + 1) + V24), .slice none 0 0, .bool false, .int .i64 0, .slice none 0 0] : List Value).toArray) (o_bld rfl rfl) <| m_al hM24 fun b25 w26 (hM26 : Mem w [] w26 [[⟨b2, 24, [.int .i64 0, .slice none 0 0]⟩], r'24, [⟨b8, 24, [.int .i64 V7, (.slice av lv cv)]⟩], rsP, NS, [⟨b25, 71, [.int .i64 0, .slice none 0 0, .bool false, .int .i64 0, .slice none 0 0]⟩]]) => m_stA (l := [.int .i64 ((last + 1) + V24), .slice none 0 0, .bool false, .int .i64 0, .slice none 0 0]) hM26 (i := 5) rfl rfl rfl rfl (by simp [oneCells, Value.oneCell', byteV]) (by simp) fun w27 (hM27 : Mem w [] w27 [[⟨b2, 24, [.int .i64 0, .slice none 0 0]⟩], r'24, [⟨b8, 24, [.int .i64 V7, (.slice av lv cv)]⟩], rsP, NS, [⟨b25, 71, [.int .i64 ((last + 1) + V24), .slice none 0 0, .bool false, .int .i64 0, .slice none 0 0]⟩]]) => h23 _ _ <| seq fun _ h28 => fa rfl <| m_ld (v := .int .i64 ((last + 1) + V24)) hM27 (i := 5) (j := 0) rfl rfl rfl rfl <| mv <| h28 _ _ <| seq fun _ h29 => mv <| m_call (TextN_ok _ b a24_ e24_ 4112 r'24 w27 hc24 (hM27.res (i := 1) rfl) (by first | omega | (simp; done) | (simp; omega)) (by omega)) rfl fun v30 w30 ⟨V30, a30_, e30_, r'30, hr30, hn30, hc30, hm30⟩ => ?_
   have hM30 : Mem w [] w30 [[⟨b2, 24, [.int .i64 0, .slice none 0 0]⟩], r'30, [⟨b8, 24, [.int .i64 V7, (.slice av lv cv)]⟩], rsP, NS, [⟨b25, 71, [.int .i64 ((last + 1) + V24), .slice none 0 0, .bool false, .int .i64 0, .slice none 0 0]⟩]] := hM27.step 1 rfl hm30
   subst hr30
   have hb30 := hn30.1
   refine m_s2b hM30 rfl fun v31 w31 r31 hs31 (hM31 : Mem w [] w31 [[⟨b2, 24, [.int .i64 0, .slice none 0 0]⟩], r'30, [⟨b8, 24, [.int .i64 V7, (.slice av lv cv)]⟩], rsP, NS, [⟨b25, 71, [.int .i64 ((last + 1) + V24), .slice none 0 0, .bool false, .int .i64 0, .slice none 0 0]⟩], r31]) => m_call (fDecode_ok _ V30 w31 (hs31.rd hM31 (i := 6) rfl) (by omega)) rfl fun v32 w32 ⟨vd32, rs32, hr32, hs32, hm32⟩ => ?_
   have hM32 : Mem w [] w32 [[⟨b2, 24, [.int .i64 0, .slice none 0 0]⟩], r'30, [⟨b8, 24, [.int .i64 V7, (.slice av lv cv)]⟩], rsP, NS, [⟨b25, 71, [.int .i64 ((last + 1) + V24), .slice none 0 0, .bool false, .int .i64 0, .slice none 0 0]⟩], r31, rs32] := hM31.add hm32
   obtain ⟨av32, lv32, cv32, rfl⟩ := hs32.isSlice
   subst hr32
   have hdl32 := decF_len V30
   have hdh32 := decF_h V30
   refine mv <| ext rfl rfl <| ext rfl rfl <| m_al hM32 fun b33 w34 (hM34 : Mem w [] w34 [[⟨b2, 24, [.int .i64 0, .slice none 0 0]⟩], r'30, [⟨b8, 24, [.int .i64 V7, (.slice av lv cv)]⟩], rsP, NS, [⟨b25, 71, [.int .i64 ((last + 1) + V24), .slice none 0 0, .bool false, .int .i64 0, .slice none 0 0]⟩], r31, rs32, [⟨b33, 69, [.bool false, .int .i64 0, .slice none 0 0]⟩]]) => m_stA (l := [.bool ((decF V30).1), .int .i64 ((decF V30).2.1), (.slice av32 lv32 cv32)]) hM34 (i := 8) rfl rfl rfl rfl (by simp [oneCells, Value.oneCell', byteV]) (by simp) fun w35 (hM35 : Mem w [] w35 [[⟨b2, 24, [.int .i64 0, .slice none 0 0]⟩], r'30, [⟨b8, 24, [.int .i64 V7, (.slice av lv cv)]⟩], rsP, NS, [⟨b25, 71, [.int .i64 ((last + 1) + V24), .slice none 0 0, .bool false, .int .i64 0, .slice none 0 0]⟩], r31, rs32, [⟨b33, 69, [.bool ((decF V30).1), .int .i64 ((decF V30).2.1), (.slice av32 lv32 cv32)]⟩]]) => mv <| h29 _ _ <| seq fun _ h36 => mv <| mv <| m_call (Fail_ok _ b a30_ e30_ ((decF V30).2.2.2) r'30 w35 hc30 (hM35.res (i := 1) rfl) (by first | omega | (simp; done) | (simp; omega))) rfl fun v37 w37 ⟨r'37, hc37, hm37⟩ => ?_
   have hM37 : Mem w [] w37 [[⟨b2, 24, [.int .i64 0, .slice none 0 0]⟩], r'37, [⟨b8, 24, [.int .i64 V7, (.slice av lv cv)]⟩], rsP, NS, [⟨b25, 71, [.int .i64 ((last + 1) + V24), .slice none 0 0, .bool false, .int .i64 0, .slice none 0 0]⟩], r31, rs32, [⟨b33, 69, [.bool ((decF V30).1), .int .i64 ((decF V30).2.1), (.slice av32 lv32 cv32)]⟩]] := hM35.step 1 rfl hm37
   refine h36 _ _ <| seq fun _ h38 => m_ldA (l := [.bool ((decF V30).1), .int .i64 ((decF V30).2.1), (.slice av32 lv32 cv32)]) hM37 (i := 8) (j := 0) rfl rfl rfl rfl rfl <| fa rfl <| m_stA (l := [.bool ((decF V30).1), .int .i64 ((decF V30).2.1), (.slice av32 lv32 cv32)]) hM37 (i := 5) rfl rfl rfl rfl (by simp [oneCells, Value.oneCell', byteV]) (by simp) fun w39 (hM39 : Mem w [] w39 [[⟨b2, 24, [.int .i64 0, .slice none 0 0]⟩], r'37, [⟨b8, 24, [.int .i64 V7, (.slice av lv cv)]⟩], rsP, NS, [⟨b25, 71, [.int .i64 ((last + 1) + V24), .slice none 0 0, .bool ((decF V30).1), .int .i64 ((decF V30).2.1), (.slice av32 lv32 cv32)]⟩], r31, rs32, [⟨b33, 69, [.bool ((decF V30).1), .int .i64 ((decF V30).2.1), (.slice av32 lv32 cv32)]⟩]]) => h38 _ _ <| seq fun _ h40 => mv <| m_call (blocks_ok _ b a30_ (if e30_ = 0 then ((decF V30).2.2.2) else e30_) r'37 w39 hc37 (hM39.res (i := 1) rfl) (by omega)) rfl fun v41 w41 ⟨vb41, r'41, rs41, bl41, a41_, e41_, hr41, hc41, hs41, hok41, hbl41, hsp41, hm41⟩ => ?_
   have hM41 : Mem w [] w41 [[⟨b2, 24, [.int .i64 0, .slice none 0 0]⟩], r'41, [⟨b8, 24, [.int .i64 V7, (.slice av lv cv)]⟩], rsP, NS, [⟨b25, 71, [.int .i64 ((last + 1) + V24), .slice none 0 0, .bool ((decF V30).1), .int .i64 ((decF V30).2.1), (.slice av32 lv32 cv32)]⟩], r31, rs32, [⟨b33, 69, [.bool ((decF V30).1), .int .i64 ((decF V30).2.1), (.slice av32 lv32 cv32)]⟩], rs41] := hM39.stepAdd 1 rfl hm41
   subst hr41
   obtain ⟨av41, lv41, cv41, rfl⟩ := hs41.isSlice
   refine fa rfl <| m_st (v := (.slice av41 lv41 cv41)) hM41 (i := 5) rfl rfl rfl (Sl.one hs41) (by simp) fun w42 (hM42 : Mem w [] w42 [[⟨b2, 24, [.int .i64 0, .slice none 0 0]⟩], r'41, [⟨b8, 24, [.int .i64 V7, (.slice av lv cv)]⟩], rsP, NS, [⟨b25, 71, [.int .i64 ((last + 1) + V24), (.slice av41 lv41 cv41), .bool ((decF V30).1), .int .i64 ((decF V30).2.1), (.slice av32 lv32 cv32)]⟩], r31, rs32, [⟨b33, 69, [.bool ((decF V30).1), .int .i64 ((decF V30).2.1), (.slice av32 lv32 cv32)]⟩], rs41]) => h40 _ _ <| fa rfl <| m_ld (v := (.slice av lv cv)) hM42 (i := 2) (j := 0) rfl rfl rfl rfl <| m_ldA (l := [.int .i64 ((last + 1) + V24), (.slice av41 lv41 cv41), .bool ((decF V30).1), .int .i64 ((decF V30).2.1), (.slice av32 lv32 cv32)]) hM42 (i := 5) (j := 0) rfl rfl rfl rfl rfl <| m_app1S (enc := prC) (q := (⟨(last + 1) + V24, av41, lv41, cv41, bl41, (decF V30).1, (decF V30).2.1, av32, lv32, cv32, (decF V30).2.2.1⟩ : Pr)) hM42 (i := 3) rfl hs rfl (by simp) (rfl) (rfl) (by first | omega | (simp; omega)) (by omega) fun v43 w43 r43 u43 (hs43 : SlS prC 5 71 v43 (ps ++ [(⟨(last + 1) + V24, av41, lv41, cv41, bl41, (decF V30).1, (decF V30).2.1, av32, lv32, cv32, (decF V30).2.2.1⟩ : Pr)]) r43) (hM43 : Mem w [] w43 [[⟨b2, 24, [.int .i64 0, .slice none 0 0]⟩], r'41, [⟨b8, 24, [.int .i64 V7, (.slice av lv cv)]⟩], r43, NS, [⟨b25, 71, [.int .i64 ((last + 1) + V24), (.slice av41 lv41 cv41), .bool ((decF V30).1), .int .i64 ((decF V30).2.1), (.slice av32 lv32 cv32)]⟩], r31, rs32, [⟨b33, 69, [.bool ((decF V30).1), .int .i64 ((decF V30).2.1), (.slice av32 lv32 cv32)]⟩], rs41]) => fa rfl <| m_st (v := v43) hM43 (i := 2) rfl rfl rfl (Sl.one hs43) (by simp) fun w44 (hM44 : Mem w [] w44 [[⟨b2, 24, [.int .i64 0, .slice none 0 0]⟩], r'41, [⟨b8, 24, [.int .i64 V7, v43]⟩], r43, NS, [⟨b25, 71, [.int .i64 ((last + 1) + V24), (.slice av41 lv41 cv41), .bool ((decF V30).1), .int .i64 ((decF V30).2.1), (.slice av32 lv32 cv32)]⟩], r31, rs32, [⟨b33, 69, [.bool ((decF V30).1), .int .i64 ((decF V30).2.1), (.slice av32 lv32 cv32)]⟩], rs41]) => h22 _ _ ?_
   obtain ⟨av9, lv9, cv9, rfl⟩ := hs43.isSlice
   refine mv <| stp (v := .int .i64 (n - 1)) (o_bin rfl rfl (v_sub64 (by omega))) <| mv <| h16 (a41_, e41_, r'41, n - 1, last + 1 + V24, ps ++ [(⟨last + 1 + V24, av41, lv41, cv41, bl41, (decF V30).1, (decF V30).2.1, av32, lv32, cv32, (decF V30).2.2.1⟩ : Pr)], av9, lv9, cv9, r43, NS ++ (rs32 ++ rs41)) _ _ ⟨rfl, rfl, rfl, vi, vi, rfl, (((hM44.drop 5).drop 5).drop 6).keep (by simp), hc41, hs43, by rw [List.length_append]; simp only [List.length_cons, List.length_nil]; omega, by rw [List.length_append]; simp only [List.length_cons, List.length_nil]; omega, hN.snoc hs41 hs32 (by simp only [inK]; omega) (by simp only [inK]; omega) (by omega) (by omega) hok41, by rw [List.map_append]; exact hI.step (by omega) hn24 hn30 hsp41⟩ (by (try dsimp only); omega)
  refine h12 _ _ <| seq fun _ h45 => ?_
  intro wd e1 e2 e3 e4
  have hd := Upd.same e1 e2 e3 e4 []
  have hM46 := hM20.pure hd
  clear e1 e2 e3 e4
  refine ⟨(some [b8]), ?_⟩
  show vd _ _ _ _ _ _ _
  refine dmv <| dqldA (cs := [.int .i64 V7, (.slice av lv cv)]) rfl (by simp [isHeld]) rfl ((hM46.at (i := 2) (j := 0) rfl rfl).agg rfl rfl) <| dl (m_call (End_ok _ b a2 e2 rc wd hcl (hM46.res (i := 1) rfl)) rfl fun v47 w47 ⟨hr47, hm47⟩ => ?_)
  have hM47 : Mem w [] w47 [[⟨b2, 24, [.int .i64 0, .slice none 0 0]⟩], rc, [⟨b8, 24, [.int .i64 V7, (.slice av lv cv)]⟩], rsP, NS] := hM46.step 1 rfl hm47
  subst hr47
  have hh47 := held_upd (wr := wd) (bs := [b8]) hm47.upd (fun b hb => by
   simp only [List.mem_cons, List.not_mem_nil, or_false] at hb
   rw [hb]; exact ⟨(hM46.at (i := 2) (j := 0) rfl rfl).lt, hM46.apart (i := 2) (j := 0) (k := 1) rfl rfl rfl (by decide)⟩) (fun b hb => rfl)
  refine ⟨hh47, dq (v := .int .i64 (endE b a2 e2)) (o_fld rfl rfl) <| dbn rfl rfl <| dmv <| dsplitP rfl (fun c48 => ?_) (fun c48 => ?_)⟩
  ·refine dgyesl rfl <| dl (m_ldA (l := [.int .i64 V7, (.slice av lv cv)]) hM47 (i := 2) (j := 0) rfl rfl rfl rfl rfl <| ⟨hh47, dgyesl rfl <| dl (m_call (Check_ok V7 _ ps w47 (hs.rd hM47 (i := 3) rfl) (hN.rd _ (hM47.res (i := 4) rfl).1) (by omega) (by simp only [inK]; omega)) rfl fun v49 w49 ⟨hr49, hu49⟩ => ?_)⟩)
   have hM49 : Mem w [] w49 [[⟨b2, 24, [.int .i64 0, .slice none 0 0]⟩], rc, [⟨b8, 24, [.int .i64 V7, (.slice av lv cv)]⟩], rsP, NS] := hM47.pure hu49
   subst hr49
   have hh49 := held_upd (wr := wd) (bs := [b8]) hu49 (fun b hb => by
    simp only [List.mem_cons, List.not_mem_nil, or_false] at hb
    rw [hb]; exact ⟨(hM47.at (i := 2) (j := 0) rfl rfl).lt, by simp⟩) hh47
   refine ⟨hh49, dgbn rfl rfl rfl <| dpkT rfl <| dmv <| dsplitP rfl (fun c50 => ?_) (fun c50 => ?_)⟩
   ·refine dgmv rfl <| dqgyes rfl rfl <| dqldA (cs := [.int .i64 V7, (.slice av lv cv)]) rfl (by simp [isHeld]) rfl ((hM46.at (i := 2) (j := 0) rfl rfl).agg rfl rfl) ?_
    show _ ∧ _
    refine ⟨?_, ?_⟩
    ·show vd _ _ _ _ _ _ _
     try have hft := chkF_iff.1 (by omega : chkF V7 (List.map Pr.p ps) = 0)
     refine dgyesl rfl <| dl (m_call (body_ok V7 _ ps w49 (hs.rd hM49 (i := 3) rfl) (hN.rd _ (hM49.res (i := 4) rfl).1) (by omega) (by simp only [inK]; omega) (by assumption)) rfl fun v51 w51 ⟨rs51, hs51, hm51⟩ => ?_)
     have hM51 : Mem w [] w51 [[⟨b2, 24, [.int .i64 0, .slice none 0 0]⟩], rc, [⟨b8, 24, [.int .i64 V7, (.slice av lv cv)]⟩], rsP, NS, rs51] := hM49.add hm51
     have hh51 := held_upd (wr := wd) (bs := [b8]) hm51.upd (fun b hb => by
      simp only [List.mem_cons, List.not_mem_nil, or_false] at hb
      rw [hb]; exact ⟨(hM49.at (i := 2) (j := 0) rfl rfl).lt, by simp⟩) hh49
     refine ⟨hh51, ?_⟩
     show _ ∧ _
     refine ⟨?_, ?_⟩
     ·show vd _ _ _ _ _ _ _
      refine dgyesl rfl <| dl (m_b2s rfl (hs51.rd hM51 (i := 5) rfl) <| ⟨hh51, ?_⟩)
      show _ ∧ _
      refine ⟨?_, ?_⟩
      ·show vd _ _ _ _ _ _ _
       refine dgyesl rfl <| dl (m_b2s rfl (hx.upd hM51.upd) <| ⟨hh51, dqg rfl (v := .bool (decide ((bodyF V7 (List.map Pr.p ps)) = b))) (o_seq rfl rfl rfl) <| dpkT rfl <| dl (m_stAU (l := [.int .i64 V7, (.slice av lv cv)]) hM51 (i := 0) rfl rfl rfl rfl (by simp [oneCells, Value.oneCell', byteV]) (by simp) fun w52 hup52 (hM52 : Mem w [] w52 [[⟨b2, 24, [.int .i64 V7, (.slice av lv cv)]⟩], rc, [⟨b8, 24, [.int .i64 V7, (.slice av lv cv)]⟩], rsP, NS, rs51]) => ?_)⟩)
       have hh52 := held_upd (wr := wd) (bs := [b8]) hup52 (fun b hb => by
        simp only [List.mem_cons, List.not_mem_nil, or_false] at hb
        rw [hb]; exact ⟨(hM51.at (i := 2) (j := 0) rfl rfl).lt, hM51.apart (i := 2) (j := 0) (k := 0) rfl rfl rfl (by decide)⟩) hh51
       refine ⟨hh52, dmv <| h45 _ _ ?_⟩
       show resV _ _ _ _ _
       refine res_cell (s := some 2) (by kernel_rfl) <| vl_ldA (cs := [.int .i64 V7, (.slice av lv cv)]) rfl rfl ((hM52.at (i := 0) (j := 0) rfl rfl).agg rfl rfl) <| res_tmp <| ⟨(.tuple [.agg ([.int .i64 V7, (.slice av lv cv)] : List Value).toArray, .bool (decide ((bodyF V7 (List.map Pr.p ps)) = b))].toArray), rfl, ⟨V7, _, ps, _, NS, _, rfl, hs, hN, by omega, by omega, hI.body (by omega) (chkF_iff.1 (by omega)), hM52.keep (by simp; repeat first | exact List.Sublist.refl _ | exact List.Sublist.append (List.Sublist.refl _) (List.sublist_append_left _ _) | exact .cons _ (by assumption) | refine .cons _ ?_ | refine List.sublist_append_of_sublist_right ?_)⟩⟩
      show vd _ _ _ _ _ _ _
      refine dl (m_stAU (l := [.int .i64 V7, (.slice av lv cv)]) hM51 (i := 0) rfl rfl rfl rfl (by simp [oneCells, Value.oneCell', byteV]) (by simp) fun w53 hup53 (hM53 : Mem w [] w53 [[⟨b2, 24, [.int .i64 V7, (.slice av lv cv)]⟩], rc, [⟨b8, 24, [.int .i64 V7, (.slice av lv cv)]⟩], rsP, NS, rs51]) => ?_)
      have hh53 := held_upd (wr := wd) (bs := [b8]) hup53 (fun b hb => by
       simp only [List.mem_cons, List.not_mem_nil, or_false] at hb
       rw [hb]; exact ⟨(hM51.at (i := 2) (j := 0) rfl rfl).lt, hM51.apart (i := 2) (j := 0) (k := 0) rfl rfl rfl (by decide)⟩) hh51
      refine ⟨hh53, dgyesl rfl <| dl (m_b2s rfl (hx.upd hM53.upd) <| ⟨hh53, dqg rfl (v := .bool (decide ((bodyF V7 (List.map Pr.p ps)) = b))) (o_seq rfl rfl rfl) <| dpkT rfl <| dmv <| h45 _ _ ?_⟩)⟩
      show resV _ _ _ _ _
      refine res_cell (s := some 2) (by kernel_rfl) <| vl_ldA (cs := [.int .i64 V7, (.slice av lv cv)]) rfl rfl ((hM53.at (i := 0) (j := 0) rfl rfl).agg rfl rfl) <| res_tmp <| ⟨(.tuple [.agg ([.int .i64 V7, (.slice av lv cv)] : List Value).toArray, .bool (decide ((bodyF V7 (List.map Pr.p ps)) = b))].toArray), rfl, ⟨V7, _, ps, _, NS, _, rfl, hs, hN, by omega, by omega, hI.body (by omega) (chkF_iff.1 (by omega)), hM53.keep (by simp; repeat first | exact List.Sublist.refl _ | exact List.Sublist.append (List.Sublist.refl _) (List.sublist_append_left _ _) | exact .cons _ (by assumption) | refine .cons _ ?_ | refine List.sublist_append_of_sublist_right ?_)⟩⟩
     show vd _ _ _ _ _ _ _
     show _ ∧ _
     refine ⟨?_, ?_⟩
     ·show vd _ _ _ _ _ _ _
      refine dgyesl rfl <| dl (m_b2s rfl (hx.upd hM51.upd) <| ⟨hh51, ?_⟩)
      show _ ∧ _
      refine ⟨?_, ?_⟩
      ·show vd _ _ _ _ _ _ _
       refine dgyesl rfl <| dl (m_b2s rfl (hs51.rd hM51 (i := 5) rfl) <| ⟨hh51, dqg rfl (v := .bool (decide ((bodyF V7 (List.map Pr.p ps)) = b))) (o_seq rfl rfl rfl) <| dpkT rfl <| dl (m_stAU (l := [.int .i64 V7, (.slice av lv cv)]) hM51 (i := 0) rfl rfl rfl rfl (by simp [oneCells, Value.oneCell', byteV]) (by simp) fun w54 hup54 (hM54 : Mem w [] w54 [[⟨b2, 24, [.int .i64 V7, (.slice av lv cv)]⟩], rc, [⟨b8, 24, [.int .i64 V7, (.slice av lv cv)]⟩], rsP, NS, rs51]) => ?_)⟩)
       have hh54 := held_upd (wr := wd) (bs := [b8]) hup54 (fun b hb => by
        simp only [List.mem_cons, List.not_mem_nil, or_false] at hb
        rw [hb]; exact ⟨(hM51.at (i := 2) (j := 0) rfl rfl).lt, hM51.apart (i := 2) (j := 0) (k := 0) rfl rfl rfl (by decide)⟩) hh51
       refine ⟨hh54, dmv <| h45 _ _ ?_⟩
       show resV _ _ _ _ _
       refine res_cell (s := some 2) (by kernel_rfl) <| vl_ldA (cs := [.int .i64 V7, (.slice av lv cv)]) rfl rfl ((hM54.at (i := 0) (j := 0) rfl rfl).agg rfl rfl) <| res_tmp <| ⟨(.tuple [.agg ([.int .i64 V7, (.slice av lv cv)] : List Value).toArray, .bool (decide ((bodyF V7 (List.map Pr.p ps)) = b))].toArray), rfl, ⟨V7, _, ps, _, NS, _, rfl, hs, hN, by omega, by omega, hI.body (by omega) (chkF_iff.1 (by omega)), hM54.keep (by simp; repeat first | exact List.Sublist.refl _ | exact List.Sublist.append (List.Sublist.refl _) (List.sublist_append_left _ _) | exact .cons _ (by assumption) | refine .cons _ ?_ | refine List.sublist_append_of_sublist_right ?_)⟩⟩
      show vd _ _ _ _ _ _ _
      refine dl (m_stAU (l := [.int .i64 V7, (.slice av lv cv)]) hM51 (i := 0) rfl rfl rfl rfl (by simp [oneCells, Value.oneCell', byteV]) (by simp) fun w55 hup55 (hM55 : Mem w [] w55 [[⟨b2, 24, [.int .i64 V7, (.slice av lv cv)]⟩], rc, [⟨b8, 24, [.int .i64 V7, (.slice av lv cv)]⟩], rsP, NS, rs51]) => ?_)
      have hh55 := held_upd (wr := wd) (bs := [b8]) hup55 (fun b hb => by
       simp only [List.mem_cons, List.not_mem_nil, or_false] at hb
       rw [hb]; exact ⟨(hM51.at (i := 2) (j := 0) rfl rfl).lt, hM51.apart (i := 2) (j := 0) (k := 0) rfl rfl rfl (by decide)⟩) hh51
      refine ⟨hh55, dgyesl rfl <| dl (m_b2s rfl (hs51.rd hM55 (i := 5) rfl) <| ⟨hh55, dqg rfl (v := .bool (decide ((bodyF V7 (List.map Pr.p ps)) = b))) (o_seq rfl rfl rfl) <| dpkT rfl <| dmv <| h45 _ _ ?_⟩)⟩
      show resV _ _ _ _ _
      refine res_cell (s := some 2) (by kernel_rfl) <| vl_ldA (cs := [.int .i64 V7, (.slice av lv cv)]) rfl rfl ((hM55.at (i := 0) (j := 0) rfl rfl).agg rfl rfl) <| res_tmp <| ⟨(.tuple [.agg ([.int .i64 V7, (.slice av lv cv)] : List Value).toArray, .bool (decide ((bodyF V7 (List.map Pr.p ps)) = b))].toArray), rfl, ⟨V7, _, ps, _, NS, _, rfl, hs, hN, by omega, by omega, hI.body (by omega) (chkF_iff.1 (by omega)), hM55.keep (by simp; repeat first | exact List.Sublist.refl _ | exact List.Sublist.append (List.Sublist.refl _) (List.sublist_append_left _ _) | exact .cons _ (by assumption) | refine .cons _ ?_ | refine List.sublist_append_of_sublist_right ?_)⟩⟩
     show vd _ _ _ _ _ _ _
     refine dl (m_stAU (l := [.int .i64 V7, (.slice av lv cv)]) hM51 (i := 0) rfl rfl rfl rfl (by simp [oneCells, Value.oneCell', byteV]) (by simp) fun w56 hup56 (hM56 : Mem w [] w56 [[⟨b2, 24, [.int .i64 V7, (.slice av lv cv)]⟩], rc, [⟨b8, 24, [.int .i64 V7, (.slice av lv cv)]⟩], rsP, NS, rs51]) => ?_)
     have hh56 := held_upd (wr := wd) (bs := [b8]) hup56 (fun b hb => by
      simp only [List.mem_cons, List.not_mem_nil, or_false] at hb
      rw [hb]; exact ⟨(hM51.at (i := 2) (j := 0) rfl rfl).lt, hM51.apart (i := 2) (j := 0) (k := 0) rfl rfl rfl (by decide)⟩) hh51
     refine ⟨hh56, ?_⟩
     show _ ∧ _
     refine ⟨?_, ?_⟩
     ·show vd _ _ _ _ _ _ _
      refine dgyesl rfl <| dl (m_b2s rfl (hs51.rd hM56 (i := 5) rfl) <| ⟨hh56, dgyesl rfl <| dl (m_b2s rfl (hx.upd hM56.upd) <| ⟨hh56, dqg rfl (v := .bool (decide ((bodyF V7 (List.map Pr.p ps)) = b))) (o_seq rfl rfl rfl) <| dpkT rfl <| dmv <| h45 _ _ ?_⟩)⟩)
      show resV _ _ _ _ _
      refine res_cell (s := some 2) (by kernel_rfl) <| vl_ldA (cs := [.int .i64 V7, (.slice av lv cv)]) rfl rfl ((hM56.at (i := 0) (j := 0) rfl rfl).agg rfl rfl) <| res_tmp <| ⟨(.tuple [.agg ([.int .i64 V7, (.slice av lv cv)] : List Value).toArray, .bool (decide ((bodyF V7 (List.map Pr.p ps)) = b))].toArray), rfl, ⟨V7, _, ps, _, NS, _, rfl, hs, hN, by omega, by omega, hI.body (by omega) (chkF_iff.1 (by omega)), hM56.keep (by simp; repeat first | exact List.Sublist.refl _ | exact List.Sublist.append (List.Sublist.refl _) (List.sublist_append_left _ _) | exact .cons _ (by assumption) | refine .cons _ ?_ | refine List.sublist_append_of_sublist_right ?_)⟩⟩
     show vd _ _ _ _ _ _ _
     refine dgyesl rfl <| dl (m_b2s rfl (hx.upd hM56.upd) <| ⟨hh56, dgyesl rfl <| dl (m_b2s rfl (hs51.rd hM56 (i := 5) rfl) <| ⟨hh56, dqg rfl (v := .bool (decide ((bodyF V7 (List.map Pr.p ps)) = b))) (o_seq rfl rfl rfl) <| dpkT rfl <| dmv <| h45 _ _ ?_⟩)⟩)
     show resV _ _ _ _ _
     refine res_cell (s := some 2) (by kernel_rfl) <| vl_ldA (cs := [.int .i64 V7, (.slice av lv cv)]) rfl rfl ((hM56.at (i := 0) (j := 0) rfl rfl).agg rfl rfl) <| res_tmp <| ⟨(.tuple [.agg ([.int .i64 V7, (.slice av lv cv)] : List Value).toArray, .bool (decide ((bodyF V7 (List.map Pr.p ps)) = b))].toArray), rfl, ⟨V7, _, ps, _, NS, _, rfl, hs, hN, by omega, by omega, hI.body (by omega) (chkF_iff.1 (by omega)), hM56.keep (by simp; repeat first | exact List.Sublist.refl _ | exact List.Sublist.append (List.Sublist.refl _) (List.sublist_append_left _ _) | exact .cons _ (by assumption) | refine .cons _ ?_ | refine List.sublist_append_of_sublist_right ?_)⟩⟩
    show vd _ _ _ _ _ _ _
    refine dgyesl rfl <| dl (m_b2s rfl (hx.upd hM49.upd) <| ⟨hh49, ?_⟩)
    try have hft := chkF_iff.1 (by omega : chkF V7 (List.map Pr.p ps) = 0)
    refine dgyesl rfl <| dl (m_call (body_ok V7 _ ps w49 (hs.rd hM49 (i := 3) rfl) (hN.rd _ (hM49.res (i := 4) rfl).1) (by omega) (by simp only [inK]; omega) (by assumption)) rfl fun v57 w57 ⟨rs57, hs57, hm57⟩ => ?_)
    have hM57 : Mem w [] w57 [[⟨b2, 24, [.int .i64 0, .slice none 0 0]⟩], rc, [⟨b8, 24, [.int .i64 V7, (.slice av lv cv)]⟩], rsP, NS, rs57] := hM49.add hm57
    have hh57 := held_upd (wr := wd) (bs := [b8]) hm57.upd (fun b hb => by
     simp only [List.mem_cons, List.not_mem_nil, or_false] at hb
     rw [hb]; exact ⟨(hM49.at (i := 2) (j := 0) rfl rfl).lt, by simp⟩) hh49
    refine ⟨hh57, ?_⟩
    show _ ∧ _
    refine ⟨?_, ?_⟩
    ·show vd _ _ _ _ _ _ _
     refine dgyesl rfl <| dl (m_b2s rfl (hs57.rd hM57 (i := 5) rfl) <| ⟨hh57, dqg rfl (v := .bool (decide ((bodyF V7 (List.map Pr.p ps)) = b))) (o_seq rfl rfl rfl) <| dpkT rfl <| dl (m_stAU (l := [.int .i64 V7, (.slice av lv cv)]) hM57 (i := 0) rfl rfl rfl rfl (by simp [oneCells, Value.oneCell', byteV]) (by simp) fun w58 hup58 (hM58 : Mem w [] w58 [[⟨b2, 24, [.int .i64 V7, (.slice av lv cv)]⟩], rc, [⟨b8, 24, [.int .i64 V7, (.slice av lv cv)]⟩], rsP, NS, rs57]) => ?_)⟩)
     have hh58 := held_upd (wr := wd) (bs := [b8]) hup58 (fun b hb => by
      simp only [List.mem_cons, List.not_mem_nil, or_false] at hb
      rw [hb]; exact ⟨(hM57.at (i := 2) (j := 0) rfl rfl).lt, hM57.apart (i := 2) (j := 0) (k := 0) rfl rfl rfl (by decide)⟩) hh57
     refine ⟨hh58, dmv <| h45 _ _ ?_⟩
     show resV _ _ _ _ _
     refine res_cell (s := some 2) (by kernel_rfl) <| vl_ldA (cs := [.int .i64 V7, (.slice av lv cv)]) rfl rfl ((hM58.at (i := 0) (j := 0) rfl rfl).agg rfl rfl) <| res_tmp <| ⟨(.tuple [.agg ([.int .i64 V7, (.slice av lv cv)] : List Value).toArray, .bool (decide ((bodyF V7 (List.map Pr.p ps)) = b))].toArray), rfl, ⟨V7, _, ps, _, NS, _, rfl, hs, hN, by omega, by omega, hI.body (by omega) (chkF_iff.1 (by omega)), hM58.keep (by simp; repeat first | exact List.Sublist.refl _ | exact List.Sublist.append (List.Sublist.refl _) (List.sublist_append_left _ _) | exact .cons _ (by assumption) | refine .cons _ ?_ | refine List.sublist_append_of_sublist_right ?_)⟩⟩
    show vd _ _ _ _ _ _ _
    refine dl (m_stAU (l := [.int .i64 V7, (.slice av lv cv)]) hM57 (i := 0) rfl rfl rfl rfl (by simp [oneCells, Value.oneCell', byteV]) (by simp) fun w59 hup59 (hM59 : Mem w [] w59 [[⟨b2, 24, [.int .i64 V7, (.slice av lv cv)]⟩], rc, [⟨b8, 24, [.int .i64 V7, (.slice av lv cv)]⟩], rsP, NS, rs57]) => ?_)
    have hh59 := held_upd (wr := wd) (bs := [b8]) hup59 (fun b hb => by
     simp only [List.mem_cons, List.not_mem_nil, or_false] at hb
     rw [hb]; exact ⟨(hM57.at (i := 2) (j := 0) rfl rfl).lt, hM57.apart (i := 2) (j := 0) (k := 0) rfl rfl rfl (by decide)⟩) hh57
    refine ⟨hh59, dgyesl rfl <| dl (m_b2s rfl (hs57.rd hM59 (i := 5) rfl) <| ⟨hh59, dqg rfl (v := .bool (decide ((bodyF V7 (List.map Pr.p ps)) = b))) (o_seq rfl rfl rfl) <| dpkT rfl <| dmv <| h45 _ _ ?_⟩)⟩
    show resV _ _ _ _ _
    refine res_cell (s := some 2) (by kernel_rfl) <| vl_ldA (cs := [.int .i64 V7, (.slice av lv cv)]) rfl rfl ((hM59.at (i := 0) (j := 0) rfl rfl).agg rfl rfl) <| res_tmp <| ⟨(.tuple [.agg ([.int .i64 V7, (.slice av lv cv)] : List Value).toArray, .bool (decide ((bodyF V7 (List.map Pr.p ps)) = b))].toArray), rfl, ⟨V7, _, ps, _, NS, _, rfl, hs, hN, by omega, by omega, hI.body (by omega) (chkF_iff.1 (by omega)), hM59.keep (by simp; repeat first | exact List.Sublist.refl _ | exact List.Sublist.append (List.Sublist.refl _) (List.sublist_append_left _ _) | exact .cons _ (by assumption) | refine .cons _ ?_ | refine List.sublist_append_of_sublist_right ?_)⟩⟩
   refine dx rfl <| dxq rfl ?_
   show _ ∧ _
   refine ⟨?_, ?_⟩
   ·show vd _ _ _ _ _ _ _
    refine dxl rfl ?_
    show _ ∧ _
    refine ⟨?_, ?_⟩
    ·show vd _ _ _ _ _ _ _
     refine dxl rfl ?_
     show _ ∧ _
     refine ⟨?_, ?_⟩
     ·show vd _ _ _ _ _ _ _
      refine dxl rfl <| dx rfl <| dpkF rfl <| dl (m_stAU (l := [.int .i64 V7, (.slice av lv cv)]) hM49 (i := 0) rfl rfl rfl rfl (by simp [oneCells, Value.oneCell', byteV]) (by simp) fun w60 hup60 (hM60 : Mem w [] w60 [[⟨b2, 24, [.int .i64 V7, (.slice av lv cv)]⟩], rc, [⟨b8, 24, [.int .i64 V7, (.slice av lv cv)]⟩], rsP, NS]) => ?_)
      have hh60 := held_upd (wr := wd) (bs := [b8]) hup60 (fun b hb => by
       simp only [List.mem_cons, List.not_mem_nil, or_false] at hb
       rw [hb]; exact ⟨(hM49.at (i := 2) (j := 0) rfl rfl).lt, hM49.apart (i := 2) (j := 0) (k := 0) rfl rfl rfl (by decide)⟩) hh49
      refine ⟨hh60, dmv <| h45 _ _ ?_⟩
      show resV _ _ _ _ _
      refine res_cell (s := some 2) (by kernel_rfl) <| vl_ldA (cs := [.int .i64 V7, (.slice av lv cv)]) rfl rfl ((hM60.at (i := 0) (j := 0) rfl rfl).agg rfl rfl) <| res_tmp <| ⟨(.tuple [.agg ([.int .i64 V7, (.slice av lv cv)] : List Value).toArray, .bool false].toArray), rfl, ⟨V7, _, ps, _, NS, _, rfl, hs, hN, by omega, by omega, hI.no (by omega) (fun k => by have := chkF_0 k.2.1; omega), hM60.keep (by simp; repeat first | exact List.Sublist.refl _ | exact List.Sublist.append (List.Sublist.refl _) (List.sublist_append_left _ _) | exact .cons _ (by assumption) | refine .cons _ ?_ | refine List.sublist_append_of_sublist_right ?_)⟩⟩
     show vd _ _ _ _ _ _ _
     refine dl (m_stAU (l := [.int .i64 V7, (.slice av lv cv)]) hM49 (i := 0) rfl rfl rfl rfl (by simp [oneCells, Value.oneCell', byteV]) (by simp) fun w61 hup61 (hM61 : Mem w [] w61 [[⟨b2, 24, [.int .i64 V7, (.slice av lv cv)]⟩], rc, [⟨b8, 24, [.int .i64 V7, (.slice av lv cv)]⟩], rsP, NS]) => ?_)
     have hh61 := held_upd (wr := wd) (bs := [b8]) hup61 (fun b hb => by
      simp only [List.mem_cons, List.not_mem_nil, or_false] at hb
      rw [hb]; exact ⟨(hM49.at (i := 2) (j := 0) rfl rfl).lt, hM49.apart (i := 2) (j := 0) (k := 0) rfl rfl rfl (by decide)⟩) hh49
     refine ⟨hh61, dxl rfl <| dx rfl <| dpkF rfl <| dmv <| h45 _ _ ?_⟩
     show resV _ _ _ _ _
     refine res_cell (s := some 2) (by kernel_rfl) <| vl_ldA (cs := [.int .i64 V7, (.slice av lv cv)]) rfl rfl ((hM61.at (i := 0) (j := 0) rfl rfl).agg rfl rfl) <| res_tmp <| ⟨(.tuple [.agg ([.int .i64 V7, (.slice av lv cv)] : List Value).toArray, .bool false].toArray), rfl, ⟨V7, _, ps, _, NS, _, rfl, hs, hN, by omega, by omega, hI.no (by omega) (fun k => by have := chkF_0 k.2.1; omega), hM61.keep (by simp; repeat first | exact List.Sublist.refl _ | exact List.Sublist.append (List.Sublist.refl _) (List.sublist_append_left _ _) | exact .cons _ (by assumption) | refine .cons _ ?_ | refine List.sublist_append_of_sublist_right ?_)⟩⟩
    show vd _ _ _ _ _ _ _
    show _ ∧ _
    refine ⟨?_, ?_⟩
    ·show vd _ _ _ _ _ _ _
     refine dxl rfl ?_
     show _ ∧ _
     refine ⟨?_, ?_⟩
     ·show vd _ _ _ _ _ _ _
      refine dxl rfl <| dx rfl <| dpkF rfl <| dl (m_stAU (l := [.int .i64 V7, (.slice av lv cv)]) hM49 (i := 0) rfl rfl rfl rfl (by simp [oneCells, Value.oneCell', byteV]) (by simp) fun w62 hup62 (hM62 : Mem w [] w62 [[⟨b2, 24, [.int .i64 V7, (.slice av lv cv)]⟩], rc, [⟨b8, 24, [.int .i64 V7, (.slice av lv cv)]⟩], rsP, NS]) => ?_)
      have hh62 := held_upd (wr := wd) (bs := [b8]) hup62 (fun b hb => by
       simp only [List.mem_cons, List.not_mem_nil, or_false] at hb
       rw [hb]; exact ⟨(hM49.at (i := 2) (j := 0) rfl rfl).lt, hM49.apart (i := 2) (j := 0) (k := 0) rfl rfl rfl (by decide)⟩) hh49
      refine ⟨hh62, dmv <| h45 _ _ ?_⟩
      show resV _ _ _ _ _
      refine res_cell (s := some 2) (by kernel_rfl) <| vl_ldA (cs := [.int .i64 V7, (.slice av lv cv)]) rfl rfl ((hM62.at (i := 0) (j := 0) rfl rfl).agg rfl rfl) <| res_tmp <| ⟨(.tuple [.agg ([.int .i64 V7, (.slice av lv cv)] : List Value).toArray, .bool false].toArray), rfl, ⟨V7, _, ps, _, NS, _, rfl, hs, hN, by omega, by omega, hI.no (by omega) (fun k => by have := chkF_0 k.2.1; omega), hM62.keep (by simp; repeat first | exact List.Sublist.refl _ | exact List.Sublist.append (List.Sublist.refl _) (List.sublist_append_left _ _) | exact .cons _ (by assumption) | refine .cons _ ?_ | refine List.sublist_append_of_sublist_right ?_)⟩⟩
     show vd _ _ _ _ _ _ _
     refine dl (m_stAU (l := [.int .i64 V7, (.slice av lv cv)]) hM49 (i := 0) rfl rfl rfl rfl (by simp [oneCells, Value.oneCell', byteV]) (by simp) fun w63 hup63 (hM63 : Mem w [] w63 [[⟨b2, 24, [.int .i64 V7, (.slice av lv cv)]⟩], rc, [⟨b8, 24, [.int .i64 V7, (.slice av lv cv)]⟩], rsP, NS]) => ?_)
     have hh63 := held_upd (wr := wd) (bs := [b8]) hup63 (fun b hb => by
      simp only [List.mem_cons, List.not_mem_nil, or_false] at hb
      rw [hb]; exact ⟨(hM49.at (i := 2) (j := 0) rfl rfl).lt, hM49.apart (i := 2) (j := 0) (k := 0) rfl rfl rfl (by decide)⟩) hh49
     refine ⟨hh63, dxl rfl <| dx rfl <| dpkF rfl <| dmv <| h45 _ _ ?_⟩
     show resV _ _ _ _ _
     refine res_cell (s := some 2) (by kernel_rfl) <| vl_ldA (cs := [.int .i64 V7, (.slice av lv cv)]) rfl rfl ((hM63.at (i := 0) (j := 0) rfl rfl).agg rfl rfl) <| res_tmp <| ⟨(.tuple [.agg ([.int .i64 V7, (.slice av lv cv)] : List Value).toArray, .bool false].toArray), rfl, ⟨V7, _, ps, _, NS, _, rfl, hs, hN, by omega, by omega, hI.no (by omega) (fun k => by have := chkF_0 k.2.1; omega), hM63.keep (by simp; repeat first | exact List.Sublist.refl _ | exact List.Sublist.append (List.Sublist.refl _) (List.sublist_append_left _ _) | exact .cons _ (by assumption) | refine .cons _ ?_ | refine List.sublist_append_of_sublist_right ?_)⟩⟩
    show vd _ _ _ _ _ _ _
    refine dl (m_stAU (l := [.int .i64 V7, (.slice av lv cv)]) hM49 (i := 0) rfl rfl rfl rfl (by simp [oneCells, Value.oneCell', byteV]) (by simp) fun w64 hup64 (hM64 : Mem w [] w64 [[⟨b2, 24, [.int .i64 V7, (.slice av lv cv)]⟩], rc, [⟨b8, 24, [.int .i64 V7, (.slice av lv cv)]⟩], rsP, NS]) => ?_)
    have hh64 := held_upd (wr := wd) (bs := [b8]) hup64 (fun b hb => by
     simp only [List.mem_cons, List.not_mem_nil, or_false] at hb
     rw [hb]; exact ⟨(hM49.at (i := 2) (j := 0) rfl rfl).lt, hM49.apart (i := 2) (j := 0) (k := 0) rfl rfl rfl (by decide)⟩) hh49
    refine ⟨hh64, ?_⟩
    show _ ∧ _
    refine ⟨?_, ?_⟩
    ·show vd _ _ _ _ _ _ _
     refine dxl rfl <| dxl rfl <| dx rfl <| dpkF rfl <| dmv <| h45 _ _ ?_
     show resV _ _ _ _ _
     refine res_cell (s := some 2) (by kernel_rfl) <| vl_ldA (cs := [.int .i64 V7, (.slice av lv cv)]) rfl rfl ((hM64.at (i := 0) (j := 0) rfl rfl).agg rfl rfl) <| res_tmp <| ⟨(.tuple [.agg ([.int .i64 V7, (.slice av lv cv)] : List Value).toArray, .bool false].toArray), rfl, ⟨V7, _, ps, _, NS, _, rfl, hs, hN, by omega, by omega, hI.no (by omega) (fun k => by have := chkF_0 k.2.1; omega), hM64.keep (by simp; repeat first | exact List.Sublist.refl _ | exact List.Sublist.append (List.Sublist.refl _) (List.sublist_append_left _ _) | exact .cons _ (by assumption) | refine .cons _ ?_ | refine List.sublist_append_of_sublist_right ?_)⟩⟩
    show vd _ _ _ _ _ _ _
    refine dxl rfl <| dxl rfl <| dx rfl <| dpkF rfl <| dmv <| h45 _ _ ?_
    show resV _ _ _ _ _
    refine res_cell (s := some 2) (by kernel_rfl) <| vl_ldA (cs := [.int .i64 V7, (.slice av lv cv)]) rfl rfl ((hM64.at (i := 0) (j := 0) rfl rfl).agg rfl rfl) <| res_tmp <| ⟨(.tuple [.agg ([.int .i64 V7, (.slice av lv cv)] : List Value).toArray, .bool false].toArray), rfl, ⟨V7, _, ps, _, NS, _, rfl, hs, hN, by omega, by omega, hI.no (by omega) (fun k => by have := chkF_0 k.2.1; omega), hM64.keep (by simp; repeat first | exact List.Sublist.refl _ | exact List.Sublist.append (List.Sublist.refl _) (List.sublist_append_left _ _) | exact .cons _ (by assumption) | refine .cons _ ?_ | refine List.sublist_append_of_sublist_right ?_)⟩⟩
   show vd _ _ _ _ _ _ _
   refine dxl rfl <| dxl rfl ?_
   show _ ∧ _
   refine ⟨?_, ?_⟩
   ·show vd _ _ _ _ _ _ _
    refine dxl rfl <| dx rfl <| dpkF rfl <| dl (m_stAU (l := [.int .i64 V7, (.slice av lv cv)]) hM49 (i := 0) rfl rfl rfl rfl (by simp [oneCells, Value.oneCell', byteV]) (by simp) fun w65 hup65 (hM65 : Mem w [] w65 [[⟨b2, 24, [.int .i64 V7, (.slice av lv cv)]⟩], rc, [⟨b8, 24, [.int .i64 V7, (.slice av lv cv)]⟩], rsP, NS]) => ?_)
    have hh65 := held_upd (wr := wd) (bs := [b8]) hup65 (fun b hb => by
     simp only [List.mem_cons, List.not_mem_nil, or_false] at hb
     rw [hb]; exact ⟨(hM49.at (i := 2) (j := 0) rfl rfl).lt, hM49.apart (i := 2) (j := 0) (k := 0) rfl rfl rfl (by decide)⟩) hh49
    refine ⟨hh65, dmv <| h45 _ _ ?_⟩
    show resV _ _ _ _ _
    refine res_cell (s := some 2) (by kernel_rfl) <| vl_ldA (cs := [.int .i64 V7, (.slice av lv cv)]) rfl rfl ((hM65.at (i := 0) (j := 0) rfl rfl).agg rfl rfl) <| res_tmp <| ⟨(.tuple [.agg ([.int .i64 V7, (.slice av lv cv)] : List Value).toArray, .bool false].toArray), rfl, ⟨V7, _, ps, _, NS, _, rfl, hs, hN, by omega, by omega, hI.no (by omega) (fun k => by have := chkF_0 k.2.1; omega), hM65.keep (by simp; repeat first | exact List.Sublist.refl _ | exact List.Sublist.append (List.Sublist.refl _) (List.sublist_append_left _ _) | exact .cons _ (by assumption) | refine .cons _ ?_ | refine List.sublist_append_of_sublist_right ?_)⟩⟩
   show vd _ _ _ _ _ _ _
   refine dl (m_stAU (l := [.int .i64 V7, (.slice av lv cv)]) hM49 (i := 0) rfl rfl rfl rfl (by simp [oneCells, Value.oneCell', byteV]) (by simp) fun w66 hup66 (hM66 : Mem w [] w66 [[⟨b2, 24, [.int .i64 V7, (.slice av lv cv)]⟩], rc, [⟨b8, 24, [.int .i64 V7, (.slice av lv cv)]⟩], rsP, NS]) => ?_)
   have hh66 := held_upd (wr := wd) (bs := [b8]) hup66 (fun b hb => by
    simp only [List.mem_cons, List.not_mem_nil, or_false] at hb
    rw [hb]; exact ⟨(hM49.at (i := 2) (j := 0) rfl rfl).lt, hM49.apart (i := 2) (j := 0) (k := 0) rfl rfl rfl (by decide)⟩) hh49
   refine ⟨hh66, dxl rfl <| dx rfl <| dpkF rfl <| dmv <| h45 _ _ ?_⟩
   show resV _ _ _ _ _
   refine res_cell (s := some 2) (by kernel_rfl) <| vl_ldA (cs := [.int .i64 V7, (.slice av lv cv)]) rfl rfl ((hM66.at (i := 0) (j := 0) rfl rfl).agg rfl rfl) <| res_tmp <| ⟨(.tuple [.agg ([.int .i64 V7, (.slice av lv cv)] : List Value).toArray, .bool false].toArray), rfl, ⟨V7, _, ps, _, NS, _, rfl, hs, hN, by omega, by omega, hI.no (by omega) (fun k => by have := chkF_0 k.2.1; omega), hM66.keep (by simp; repeat first | exact List.Sublist.refl _ | exact List.Sublist.append (List.Sublist.refl _) (List.sublist_append_left _ _) | exact .cons _ (by assumption) | refine .cons _ ?_ | refine List.sublist_append_of_sublist_right ?_)⟩⟩
  refine dxl rfl <| dxl rfl <| dx rfl <| dpkF rfl <| dmv <| dsplitF rfl <| dx rfl <| dxq rfl ?_
  show _ ∧ _
  refine ⟨?_, ?_⟩
  ·show vd _ _ _ _ _ _ _
   refine dxl rfl ?_
   show _ ∧ _
   refine ⟨?_, ?_⟩
   ·show vd _ _ _ _ _ _ _
    refine dxl rfl ?_
    show _ ∧ _
    refine ⟨?_, ?_⟩
    ·show vd _ _ _ _ _ _ _
     refine dxl rfl <| dx rfl <| dpkF rfl <| dl (m_stAU (l := [.int .i64 V7, (.slice av lv cv)]) hM47 (i := 0) rfl rfl rfl rfl (by simp [oneCells, Value.oneCell', byteV]) (by simp) fun w67 hup67 (hM67 : Mem w [] w67 [[⟨b2, 24, [.int .i64 V7, (.slice av lv cv)]⟩], rc, [⟨b8, 24, [.int .i64 V7, (.slice av lv cv)]⟩], rsP, NS]) => ?_)
     have hh67 := held_upd (wr := wd) (bs := [b8]) hup67 (fun b hb => by
      simp only [List.mem_cons, List.not_mem_nil, or_false] at hb
      rw [hb]; exact ⟨(hM47.at (i := 2) (j := 0) rfl rfl).lt, hM47.apart (i := 2) (j := 0) (k := 0) rfl rfl rfl (by decide)⟩) hh47
     refine ⟨hh67, dmv <| h45 _ _ ?_⟩
     show resV _ _ _ _ _
     refine res_cell (s := some 2) (by kernel_rfl) <| vl_ldA (cs := [.int .i64 V7, (.slice av lv cv)]) rfl rfl ((hM67.at (i := 0) (j := 0) rfl rfl).agg rfl rfl) <| res_tmp <| ⟨(.tuple [.agg ([.int .i64 V7, (.slice av lv cv)] : List Value).toArray, .bool false].toArray), rfl, ⟨V7, _, ps, _, NS, _, rfl, hs, hN, by omega, by omega, hI.no (by omega) (fun k => by have := k.1; omega), hM67.keep (by simp; repeat first | exact List.Sublist.refl _ | exact List.Sublist.append (List.Sublist.refl _) (List.sublist_append_left _ _) | exact .cons _ (by assumption) | refine .cons _ ?_ | refine List.sublist_append_of_sublist_right ?_)⟩⟩
    show vd _ _ _ _ _ _ _
    refine dl (m_stAU (l := [.int .i64 V7, (.slice av lv cv)]) hM47 (i := 0) rfl rfl rfl rfl (by simp [oneCells, Value.oneCell', byteV]) (by simp) fun w68 hup68 (hM68 : Mem w [] w68 [[⟨b2, 24, [.int .i64 V7, (.slice av lv cv)]⟩], rc, [⟨b8, 24, [.int .i64 V7, (.slice av lv cv)]⟩], rsP, NS]) => ?_)
    have hh68 := held_upd (wr := wd) (bs := [b8]) hup68 (fun b hb => by
     simp only [List.mem_cons, List.not_mem_nil, or_false] at hb
     rw [hb]; exact ⟨(hM47.at (i := 2) (j := 0) rfl rfl).lt, hM47.apart (i := 2) (j := 0) (k := 0) rfl rfl rfl (by decide)⟩) hh47
    refine ⟨hh68, dxl rfl <| dx rfl <| dpkF rfl <| dmv <| h45 _ _ ?_⟩
    show resV _ _ _ _ _
    refine res_cell (s := some 2) (by kernel_rfl) <| vl_ldA (cs := [.int .i64 V7, (.slice av lv cv)]) rfl rfl ((hM68.at (i := 0) (j := 0) rfl rfl).agg rfl rfl) <| res_tmp <| ⟨(.tuple [.agg ([.int .i64 V7, (.slice av lv cv)] : List Value).toArray, .bool false].toArray), rfl, ⟨V7, _, ps, _, NS, _, rfl, hs, hN, by omega, by omega, hI.no (by omega) (fun k => by have := k.1; omega), hM68.keep (by simp; repeat first | exact List.Sublist.refl _ | exact List.Sublist.append (List.Sublist.refl _) (List.sublist_append_left _ _) | exact .cons _ (by assumption) | refine .cons _ ?_ | refine List.sublist_append_of_sublist_right ?_)⟩⟩
   show vd _ _ _ _ _ _ _
   show _ ∧ _
   refine ⟨?_, ?_⟩
   ·show vd _ _ _ _ _ _ _
    refine dxl rfl ?_
    show _ ∧ _
    refine ⟨?_, ?_⟩
    ·show vd _ _ _ _ _ _ _
     refine dxl rfl <| dx rfl <| dpkF rfl <| dl (m_stAU (l := [.int .i64 V7, (.slice av lv cv)]) hM47 (i := 0) rfl rfl rfl rfl (by simp [oneCells, Value.oneCell', byteV]) (by simp) fun w69 hup69 (hM69 : Mem w [] w69 [[⟨b2, 24, [.int .i64 V7, (.slice av lv cv)]⟩], rc, [⟨b8, 24, [.int .i64 V7, (.slice av lv cv)]⟩], rsP, NS]) => ?_)
     have hh69 := held_upd (wr := wd) (bs := [b8]) hup69 (fun b hb => by
      simp only [List.mem_cons, List.not_mem_nil, or_false] at hb
      rw [hb]; exact ⟨(hM47.at (i := 2) (j := 0) rfl rfl).lt, hM47.apart (i := 2) (j := 0) (k := 0) rfl rfl rfl (by decide)⟩) hh47
     refine ⟨hh69, dmv <| h45 _ _ ?_⟩
     show resV _ _ _ _ _
     refine res_cell (s := some 2) (by kernel_rfl) <| vl_ldA (cs := [.int .i64 V7, (.slice av lv cv)]) rfl rfl ((hM69.at (i := 0) (j := 0) rfl rfl).agg rfl rfl) <| res_tmp <| ⟨(.tuple [.agg ([.int .i64 V7, (.slice av lv cv)] : List Value).toArray, .bool false].toArray), rfl, ⟨V7, _, ps, _, NS, _, rfl, hs, hN, by omega, by omega, hI.no (by omega) (fun k => by have := k.1; omega), hM69.keep (by simp; repeat first | exact List.Sublist.refl _ | exact List.Sublist.append (List.Sublist.refl _) (List.sublist_append_left _ _) | exact .cons _ (by assumption) | refine .cons _ ?_ | refine List.sublist_append_of_sublist_right ?_)⟩⟩
    show vd _ _ _ _ _ _ _
    refine dl (m_stAU (l := [.int .i64 V7, (.slice av lv cv)]) hM47 (i := 0) rfl rfl rfl rfl (by simp [oneCells, Value.oneCell', byteV]) (by simp) fun w70 hup70 (hM70 : Mem w [] w70 [[⟨b2, 24, [.int .i64 V7, (.slice av lv cv)]⟩], rc, [⟨b8, 24, [.int .i64 V7, (.slice av lv cv)]⟩], rsP, NS]) => ?_)
    have hh70 := held_upd (wr := wd) (bs := [b8]) hup70 (fun b hb => by
     simp only [List.mem_cons, List.not_mem_nil, or_false] at hb
     rw [hb]; exact ⟨(hM47.at (i := 2) (j := 0) rfl rfl).lt, hM47.apart (i := 2) (j := 0) (k := 0) rfl rfl rfl (by decide)⟩) hh47
    refine ⟨hh70, dxl rfl <| dx rfl <| dpkF rfl <| dmv <| h45 _ _ ?_⟩
    show resV _ _ _ _ _
    refine res_cell (s := some 2) (by kernel_rfl) <| vl_ldA (cs := [.int .i64 V7, (.slice av lv cv)]) rfl rfl ((hM70.at (i := 0) (j := 0) rfl rfl).agg rfl rfl) <| res_tmp <| ⟨(.tuple [.agg ([.int .i64 V7, (.slice av lv cv)] : List Value).toArray, .bool false].toArray), rfl, ⟨V7, _, ps, _, NS, _, rfl, hs, hN, by omega, by omega, hI.no (by omega) (fun k => by have := k.1; omega), hM70.keep (by simp; repeat first | exact List.Sublist.refl _ | exact List.Sublist.append (List.Sublist.refl _) (List.sublist_append_left _ _) | exact .cons _ (by assumption) | refine .cons _ ?_ | refine List.sublist_append_of_sublist_right ?_)⟩⟩
   show vd _ _ _ _ _ _ _
   refine dl (m_stAU (l := [.int .i64 V7, (.slice av lv cv)]) hM47 (i := 0) rfl rfl rfl rfl (by simp [oneCells, Value.oneCell', byteV]) (by simp) fun w71 hup71 (hM71 : Mem w [] w71 [[⟨b2, 24, [.int .i64 V7, (.slice av lv cv)]⟩], rc, [⟨b8, 24, [.int .i64 V7, (.slice av lv cv)]⟩], rsP, NS]) => ?_)
   have hh71 := held_upd (wr := wd) (bs := [b8]) hup71 (fun b hb => by
    simp only [List.mem_cons, List.not_mem_nil, or_false] at hb
    rw [hb]; exact ⟨(hM47.at (i := 2) (j := 0) rfl rfl).lt, hM47.apart (i := 2) (j := 0) (k := 0) rfl rfl rfl (by decide)⟩) hh47
   refine ⟨hh71, ?_⟩
   show _ ∧ _
   refine ⟨?_, ?_⟩
   ·show vd _ _ _ _ _ _ _
    refine dxl rfl <| dxl rfl <| dx rfl <| dpkF rfl <| dmv <| h45 _ _ ?_
    show resV _ _ _ _ _
    refine res_cell (s := some 2) (by kernel_rfl) <| vl_ldA (cs := [.int .i64 V7, (.slice av lv cv)]) rfl rfl ((hM71.at (i := 0) (j := 0) rfl rfl).agg rfl rfl) <| res_tmp <| ⟨(.tuple [.agg ([.int .i64 V7, (.slice av lv cv)] : List Value).toArray, .bool false].toArray), rfl, ⟨V7, _, ps, _, NS, _, rfl, hs, hN, by omega, by omega, hI.no (by omega) (fun k => by have := k.1; omega), hM71.keep (by simp; repeat first | exact List.Sublist.refl _ | exact List.Sublist.append (List.Sublist.refl _) (List.sublist_append_left _ _) | exact .cons _ (by assumption) | refine .cons _ ?_ | refine List.sublist_append_of_sublist_right ?_)⟩⟩
   show vd _ _ _ _ _ _ _
   refine dxl rfl <| dxl rfl <| dx rfl <| dpkF rfl <| dmv <| h45 _ _ ?_
   show resV _ _ _ _ _
   refine res_cell (s := some 2) (by kernel_rfl) <| vl_ldA (cs := [.int .i64 V7, (.slice av lv cv)]) rfl rfl ((hM71.at (i := 0) (j := 0) rfl rfl).agg rfl rfl) <| res_tmp <| ⟨(.tuple [.agg ([.int .i64 V7, (.slice av lv cv)] : List Value).toArray, .bool false].toArray), rfl, ⟨V7, _, ps, _, NS, _, rfl, hs, hN, by omega, by omega, hI.no (by omega) (fun k => by have := k.1; omega), hM71.keep (by simp; repeat first | exact List.Sublist.refl _ | exact List.Sublist.append (List.Sublist.refl _) (List.sublist_append_left _ _) | exact .cons _ (by assumption) | refine .cons _ ?_ | refine List.sublist_append_of_sublist_right ?_)⟩⟩
  show vd _ _ _ _ _ _ _
  refine dxl rfl <| dxl rfl ?_
  show _ ∧ _
  refine ⟨?_, ?_⟩
  ·show vd _ _ _ _ _ _ _
   refine dxl rfl <| dx rfl <| dpkF rfl <| dl (m_stAU (l := [.int .i64 V7, (.slice av lv cv)]) hM47 (i := 0) rfl rfl rfl rfl (by simp [oneCells, Value.oneCell', byteV]) (by simp) fun w72 hup72 (hM72 : Mem w [] w72 [[⟨b2, 24, [.int .i64 V7, (.slice av lv cv)]⟩], rc, [⟨b8, 24, [.int .i64 V7, (.slice av lv cv)]⟩], rsP, NS]) => ?_)
   have hh72 := held_upd (wr := wd) (bs := [b8]) hup72 (fun b hb => by
    simp only [List.mem_cons, List.not_mem_nil, or_false] at hb
    rw [hb]; exact ⟨(hM47.at (i := 2) (j := 0) rfl rfl).lt, hM47.apart (i := 2) (j := 0) (k := 0) rfl rfl rfl (by decide)⟩) hh47
   refine ⟨hh72, dmv <| h45 _ _ ?_⟩
   show resV _ _ _ _ _
   refine res_cell (s := some 2) (by kernel_rfl) <| vl_ldA (cs := [.int .i64 V7, (.slice av lv cv)]) rfl rfl ((hM72.at (i := 0) (j := 0) rfl rfl).agg rfl rfl) <| res_tmp <| ⟨(.tuple [.agg ([.int .i64 V7, (.slice av lv cv)] : List Value).toArray, .bool false].toArray), rfl, ⟨V7, _, ps, _, NS, _, rfl, hs, hN, by omega, by omega, hI.no (by omega) (fun k => by have := k.1; omega), hM72.keep (by simp; repeat first | exact List.Sublist.refl _ | exact List.Sublist.append (List.Sublist.refl _) (List.sublist_append_left _ _) | exact .cons _ (by assumption) | refine .cons _ ?_ | refine List.sublist_append_of_sublist_right ?_)⟩⟩
  show vd _ _ _ _ _ _ _
  refine dl (m_stAU (l := [.int .i64 V7, (.slice av lv cv)]) hM47 (i := 0) rfl rfl rfl rfl (by simp [oneCells, Value.oneCell', byteV]) (by simp) fun w73 hup73 (hM73 : Mem w [] w73 [[⟨b2, 24, [.int .i64 V7, (.slice av lv cv)]⟩], rc, [⟨b8, 24, [.int .i64 V7, (.slice av lv cv)]⟩], rsP, NS]) => ?_)
  have hh73 := held_upd (wr := wd) (bs := [b8]) hup73 (fun b hb => by
   simp only [List.mem_cons, List.not_mem_nil, or_false] at hb
   rw [hb]; exact ⟨(hM47.at (i := 2) (j := 0) rfl rfl).lt, hM47.apart (i := 2) (j := 0) (k := 0) rfl rfl rfl (by decide)⟩) hh47
  refine ⟨hh73, dxl rfl <| dx rfl <| dpkF rfl <| dmv <| h45 _ _ ?_⟩
  show resV _ _ _ _ _
  refine res_cell (s := some 2) (by kernel_rfl) <| vl_ldA (cs := [.int .i64 V7, (.slice av lv cv)]) rfl rfl ((hM73.at (i := 0) (j := 0) rfl rfl).agg rfl rfl) <| res_tmp <| ⟨(.tuple [.agg ([.int .i64 V7, (.slice av lv cv)] : List Value).toArray, .bool false].toArray), rfl, ⟨V7, _, ps, _, NS, _, rfl, hs, hN, by omega, by omega, hI.no (by omega) (fun k => by have := k.1; omega), hM73.keep (by simp; repeat first | exact List.Sublist.refl _ | exact List.Sublist.append (List.Sublist.refl _) (List.sublist_append_left _ _) | exact .cons _ (by assumption) | refine .cons _ ?_ | refine List.sublist_append_of_sublist_right ?_)⟩⟩
 refine gx rfl <| gxl rfl <| gx rfl <| pkF rfl <| h18 _ _ <| cndF rfl <| h12 _ _ <| seq fun _ h74 => ?_
 intro wd e1 e2 e3 e4
 have hd := Upd.same e1 e2 e3 e4 []
 have hM75 := hM15.pure hd
 clear e1 e2 e3 e4
 refine ⟨(some [b8]), ?_⟩
 show vd _ _ _ _ _ _ _
 refine dmv <| dqldA (cs := [.int .i64 V7, (.slice av lv cv)]) rfl (by simp [isHeld]) rfl ((hM75.at (i := 2) (j := 0) rfl rfl).agg rfl rfl) <| dl (m_call (End_ok _ b a2 e2 rc wd hcl (hM75.res (i := 1) rfl)) rfl fun v76 w76 ⟨hr76, hm76⟩ => ?_)
 have hM76 : Mem w [] w76 [[⟨b2, 24, [.int .i64 0, .slice none 0 0]⟩], rc, [⟨b8, 24, [.int .i64 V7, (.slice av lv cv)]⟩], rsP, NS] := hM75.step 1 rfl hm76
 subst hr76
 have hh76 := held_upd (wr := wd) (bs := [b8]) hm76.upd (fun b hb => by
  simp only [List.mem_cons, List.not_mem_nil, or_false] at hb
  rw [hb]; exact ⟨(hM75.at (i := 2) (j := 0) rfl rfl).lt, hM75.apart (i := 2) (j := 0) (k := 1) rfl rfl rfl (by decide)⟩) (fun b hb => rfl)
 refine ⟨hh76, dq (v := .int .i64 (endE b a2 e2)) (o_fld rfl rfl) <| dbn rfl rfl <| dmv <| dsplitP rfl (fun c77 => ?_) (fun c77 => ?_)⟩
 ·refine dgyesl rfl <| dl (m_ldA (l := [.int .i64 V7, (.slice av lv cv)]) hM76 (i := 2) (j := 0) rfl rfl rfl rfl rfl <| ⟨hh76, dgyesl rfl <| dl (m_call (Check_ok V7 _ ps w76 (hs.rd hM76 (i := 3) rfl) (hN.rd _ (hM76.res (i := 4) rfl).1) (by omega) (by simp only [inK]; omega)) rfl fun v78 w78 ⟨hr78, hu78⟩ => ?_)⟩)
  have hM78 : Mem w [] w78 [[⟨b2, 24, [.int .i64 0, .slice none 0 0]⟩], rc, [⟨b8, 24, [.int .i64 V7, (.slice av lv cv)]⟩], rsP, NS] := hM76.pure hu78
  subst hr78
  have hh78 := held_upd (wr := wd) (bs := [b8]) hu78 (fun b hb => by
   simp only [List.mem_cons, List.not_mem_nil, or_false] at hb
   rw [hb]; exact ⟨(hM76.at (i := 2) (j := 0) rfl rfl).lt, by simp⟩) hh76
  refine ⟨hh78, dgbn rfl rfl rfl <| dpkT rfl <| dmv <| dsplitP rfl (fun c79 => ?_) (fun c79 => ?_)⟩
  ·refine dgmv rfl <| dqgyes rfl rfl <| dqldA (cs := [.int .i64 V7, (.slice av lv cv)]) rfl (by simp [isHeld]) rfl ((hM75.at (i := 2) (j := 0) rfl rfl).agg rfl rfl) ?_
   show _ ∧ _
   refine ⟨?_, ?_⟩
   ·show vd _ _ _ _ _ _ _
    try have hft := chkF_iff.1 (by omega : chkF V7 (List.map Pr.p ps) = 0)
    refine dgyesl rfl <| dl (m_call (body_ok V7 _ ps w78 (hs.rd hM78 (i := 3) rfl) (hN.rd _ (hM78.res (i := 4) rfl).1) (by omega) (by simp only [inK]; omega) (by assumption)) rfl fun v80 w80 ⟨rs80, hs80, hm80⟩ => ?_)
    have hM80 : Mem w [] w80 [[⟨b2, 24, [.int .i64 0, .slice none 0 0]⟩], rc, [⟨b8, 24, [.int .i64 V7, (.slice av lv cv)]⟩], rsP, NS, rs80] := hM78.add hm80
    have hh80 := held_upd (wr := wd) (bs := [b8]) hm80.upd (fun b hb => by
     simp only [List.mem_cons, List.not_mem_nil, or_false] at hb
     rw [hb]; exact ⟨(hM78.at (i := 2) (j := 0) rfl rfl).lt, by simp⟩) hh78
    refine ⟨hh80, ?_⟩
    show _ ∧ _
    refine ⟨?_, ?_⟩
    ·show vd _ _ _ _ _ _ _
     refine dgyesl rfl <| dl (m_b2s rfl (hs80.rd hM80 (i := 5) rfl) <| ⟨hh80, ?_⟩)
     show _ ∧ _
     refine ⟨?_, ?_⟩
     ·show vd _ _ _ _ _ _ _
      refine dgyesl rfl <| dl (m_b2s rfl (hx.upd hM80.upd) <| ⟨hh80, dqg rfl (v := .bool (decide ((bodyF V7 (List.map Pr.p ps)) = b))) (o_seq rfl rfl rfl) <| dpkT rfl <| dl (m_stAU (l := [.int .i64 V7, (.slice av lv cv)]) hM80 (i := 0) rfl rfl rfl rfl (by simp [oneCells, Value.oneCell', byteV]) (by simp) fun w81 hup81 (hM81 : Mem w [] w81 [[⟨b2, 24, [.int .i64 V7, (.slice av lv cv)]⟩], rc, [⟨b8, 24, [.int .i64 V7, (.slice av lv cv)]⟩], rsP, NS, rs80]) => ?_)⟩)
      have hh81 := held_upd (wr := wd) (bs := [b8]) hup81 (fun b hb => by
       simp only [List.mem_cons, List.not_mem_nil, or_false] at hb
       rw [hb]; exact ⟨(hM80.at (i := 2) (j := 0) rfl rfl).lt, hM80.apart (i := 2) (j := 0) (k := 0) rfl rfl rfl (by decide)⟩) hh80
      refine ⟨hh81, dmv <| h74 _ _ ?_⟩
      show resV _ _ _ _ _
      refine res_cell (s := some 2) (by kernel_rfl) <| vl_ldA (cs := [.int .i64 V7, (.slice av lv cv)]) rfl rfl ((hM81.at (i := 0) (j := 0) rfl rfl).agg rfl rfl) <| res_tmp <| ⟨(.tuple [.agg ([.int .i64 V7, (.slice av lv cv)] : List Value).toArray, .bool (decide ((bodyF V7 (List.map Pr.p ps)) = b))].toArray), rfl, ⟨V7, _, ps, _, NS, _, rfl, hs, hN, by omega, by omega, hI.body (by omega) (chkF_iff.1 (by omega)), hM81.keep (by simp; repeat first | exact List.Sublist.refl _ | exact List.Sublist.append (List.Sublist.refl _) (List.sublist_append_left _ _) | exact .cons _ (by assumption) | refine .cons _ ?_ | refine List.sublist_append_of_sublist_right ?_)⟩⟩
     show vd _ _ _ _ _ _ _
     refine dl (m_stAU (l := [.int .i64 V7, (.slice av lv cv)]) hM80 (i := 0) rfl rfl rfl rfl (by simp [oneCells, Value.oneCell', byteV]) (by simp) fun w82 hup82 (hM82 : Mem w [] w82 [[⟨b2, 24, [.int .i64 V7, (.slice av lv cv)]⟩], rc, [⟨b8, 24, [.int .i64 V7, (.slice av lv cv)]⟩], rsP, NS, rs80]) => ?_)
     have hh82 := held_upd (wr := wd) (bs := [b8]) hup82 (fun b hb => by
      simp only [List.mem_cons, List.not_mem_nil, or_false] at hb
      rw [hb]; exact ⟨(hM80.at (i := 2) (j := 0) rfl rfl).lt, hM80.apart (i := 2) (j := 0) (k := 0) rfl rfl rfl (by decide)⟩) hh80
     refine ⟨hh82, dgyesl rfl <| dl (m_b2s rfl (hx.upd hM82.upd) <| ⟨hh82, dqg rfl (v := .bool (decide ((bodyF V7 (List.map Pr.p ps)) = b))) (o_seq rfl rfl rfl) <| dpkT rfl <| dmv <| h74 _ _ ?_⟩)⟩
     show resV _ _ _ _ _
     refine res_cell (s := some 2) (by kernel_rfl) <| vl_ldA (cs := [.int .i64 V7, (.slice av lv cv)]) rfl rfl ((hM82.at (i := 0) (j := 0) rfl rfl).agg rfl rfl) <| res_tmp <| ⟨(.tuple [.agg ([.int .i64 V7, (.slice av lv cv)] : List Value).toArray, .bool (decide ((bodyF V7 (List.map Pr.p ps)) = b))].toArray), rfl, ⟨V7, _, ps, _, NS, _, rfl, hs, hN, by omega, by omega, hI.body (by omega) (chkF_iff.1 (by omega)), hM82.keep (by simp; repeat first | exact List.Sublist.refl _ | exact List.Sublist.append (List.Sublist.refl _) (List.sublist_append_left _ _) | exact .cons _ (by assumption) | refine .cons _ ?_ | refine List.sublist_append_of_sublist_right ?_)⟩⟩
    show vd _ _ _ _ _ _ _
    show _ ∧ _
    refine ⟨?_, ?_⟩
    ·show vd _ _ _ _ _ _ _
     refine dgyesl rfl <| dl (m_b2s rfl (hx.upd hM80.upd) <| ⟨hh80, ?_⟩)
     show _ ∧ _
     refine ⟨?_, ?_⟩
     ·show vd _ _ _ _ _ _ _
      refine dgyesl rfl <| dl (m_b2s rfl (hs80.rd hM80 (i := 5) rfl) <| ⟨hh80, dqg rfl (v := .bool (decide ((bodyF V7 (List.map Pr.p ps)) = b))) (o_seq rfl rfl rfl) <| dpkT rfl <| dl (m_stAU (l := [.int .i64 V7, (.slice av lv cv)]) hM80 (i := 0) rfl rfl rfl rfl (by simp [oneCells, Value.oneCell', byteV]) (by simp) fun w83 hup83 (hM83 : Mem w [] w83 [[⟨b2, 24, [.int .i64 V7, (.slice av lv cv)]⟩], rc, [⟨b8, 24, [.int .i64 V7, (.slice av lv cv)]⟩], rsP, NS, rs80]) => ?_)⟩)
      have hh83 := held_upd (wr := wd) (bs := [b8]) hup83 (fun b hb => by
       simp only [List.mem_cons, List.not_mem_nil, or_false] at hb
       rw [hb]; exact ⟨(hM80.at (i := 2) (j := 0) rfl rfl).lt, hM80.apart (i := 2) (j := 0) (k := 0) rfl rfl rfl (by decide)⟩) hh80
      refine ⟨hh83, dmv <| h74 _ _ ?_⟩
      show resV _ _ _ _ _
      refine res_cell (s := some 2) (by kernel_rfl) <| vl_ldA (cs := [.int .i64 V7, (.slice av lv cv)]) rfl rfl ((hM83.at (i := 0) (j := 0) rfl rfl).agg rfl rfl) <| res_tmp <| ⟨(.tuple [.agg ([.int .i64 V7, (.slice av lv cv)] : List Value).toArray, .bool (decide ((bodyF V7 (List.map Pr.p ps)) = b))].toArray), rfl, ⟨V7, _, ps, _, NS, _, rfl, hs, hN, by omega, by omega, hI.body (by omega) (chkF_iff.1 (by omega)), hM83.keep (by simp; repeat first | exact List.Sublist.refl _ | exact List.Sublist.append (List.Sublist.refl _) (List.sublist_append_left _ _) | exact .cons _ (by assumption) | refine .cons _ ?_ | refine List.sublist_append_of_sublist_right ?_)⟩⟩
     show vd _ _ _ _ _ _ _
     refine dl (m_stAU (l := [.int .i64 V7, (.slice av lv cv)]) hM80 (i := 0) rfl rfl rfl rfl (by simp [oneCells, Value.oneCell', byteV]) (by simp) fun w84 hup84 (hM84 : Mem w [] w84 [[⟨b2, 24, [.int .i64 V7, (.slice av lv cv)]⟩], rc, [⟨b8, 24, [.int .i64 V7, (.slice av lv cv)]⟩], rsP, NS, rs80]) => ?_)
     have hh84 := held_upd (wr := wd) (bs := [b8]) hup84 (fun b hb => by
      simp only [List.mem_cons, List.not_mem_nil, or_false] at hb
      rw [hb]; exact ⟨(hM80.at (i := 2) (j := 0) rfl rfl).lt, hM80.apart (i := 2) (j := 0) (k := 0) rfl rfl rfl (by decide)⟩) hh80
     refine ⟨hh84, dgyesl rfl <| dl (m_b2s rfl (hs80.rd hM84 (i := 5) rfl) <| ⟨hh84, dqg rfl (v := .bool (decide ((bodyF V7 (List.map Pr.p ps)) = b))) (o_seq rfl rfl rfl) <| dpkT rfl <| dmv <| h74 _ _ ?_⟩)⟩
     show resV _ _ _ _ _
     refine res_cell (s := some 2) (by kernel_rfl) <| vl_ldA (cs := [.int .i64 V7, (.slice av lv cv)]) rfl rfl ((hM84.at (i := 0) (j := 0) rfl rfl).agg rfl rfl) <| res_tmp <| ⟨(.tuple [.agg ([.int .i64 V7, (.slice av lv cv)] : List Value).toArray, .bool (decide ((bodyF V7 (List.map Pr.p ps)) = b))].toArray), rfl, ⟨V7, _, ps, _, NS, _, rfl, hs, hN, by omega, by omega, hI.body (by omega) (chkF_iff.1 (by omega)), hM84.keep (by simp; repeat first | exact List.Sublist.refl _ | exact List.Sublist.append (List.Sublist.refl _) (List.sublist_append_left _ _) | exact .cons _ (by assumption) | refine .cons _ ?_ | refine List.sublist_append_of_sublist_right ?_)⟩⟩
    show vd _ _ _ _ _ _ _
    refine dl (m_stAU (l := [.int .i64 V7, (.slice av lv cv)]) hM80 (i := 0) rfl rfl rfl rfl (by simp [oneCells, Value.oneCell', byteV]) (by simp) fun w85 hup85 (hM85 : Mem w [] w85 [[⟨b2, 24, [.int .i64 V7, (.slice av lv cv)]⟩], rc, [⟨b8, 24, [.int .i64 V7, (.slice av lv cv)]⟩], rsP, NS, rs80]) => ?_)
    have hh85 := held_upd (wr := wd) (bs := [b8]) hup85 (fun b hb => by
     simp only [List.mem_cons, List.not_mem_nil, or_false] at hb
     rw [hb]; exact ⟨(hM80.at (i := 2) (j := 0) rfl rfl).lt, hM80.apart (i := 2) (j := 0) (k := 0) rfl rfl rfl (by decide)⟩) hh80
    refine ⟨hh85, ?_⟩
    show _ ∧ _
    refine ⟨?_, ?_⟩
    ·show vd _ _ _ _ _ _ _
     refine dgyesl rfl <| dl (m_b2s rfl (hs80.rd hM85 (i := 5) rfl) <| ⟨hh85, dgyesl rfl <| dl (m_b2s rfl (hx.upd hM85.upd) <| ⟨hh85, dqg rfl (v := .bool (decide ((bodyF V7 (List.map Pr.p ps)) = b))) (o_seq rfl rfl rfl) <| dpkT rfl <| dmv <| h74 _ _ ?_⟩)⟩)
     show resV _ _ _ _ _
     refine res_cell (s := some 2) (by kernel_rfl) <| vl_ldA (cs := [.int .i64 V7, (.slice av lv cv)]) rfl rfl ((hM85.at (i := 0) (j := 0) rfl rfl).agg rfl rfl) <| res_tmp <| ⟨(.tuple [.agg ([.int .i64 V7, (.slice av lv cv)] : List Value).toArray, .bool (decide ((bodyF V7 (List.map Pr.p ps)) = b))].toArray), rfl, ⟨V7, _, ps, _, NS, _, rfl, hs, hN, by omega, by omega, hI.body (by omega) (chkF_iff.1 (by omega)), hM85.keep (by simp; repeat first | exact List.Sublist.refl _ | exact List.Sublist.append (List.Sublist.refl _) (List.sublist_append_left _ _) | exact .cons _ (by assumption) | refine .cons _ ?_ | refine List.sublist_append_of_sublist_right ?_)⟩⟩
    show vd _ _ _ _ _ _ _
    refine dgyesl rfl <| dl (m_b2s rfl (hx.upd hM85.upd) <| ⟨hh85, dgyesl rfl <| dl (m_b2s rfl (hs80.rd hM85 (i := 5) rfl) <| ⟨hh85, dqg rfl (v := .bool (decide ((bodyF V7 (List.map Pr.p ps)) = b))) (o_seq rfl rfl rfl) <| dpkT rfl <| dmv <| h74 _ _ ?_⟩)⟩)
    show resV _ _ _ _ _
    refine res_cell (s := some 2) (by kernel_rfl) <| vl_ldA (cs := [.int .i64 V7, (.slice av lv cv)]) rfl rfl ((hM85.at (i := 0) (j := 0) rfl rfl).agg rfl rfl) <| res_tmp <| ⟨(.tuple [.agg ([.int .i64 V7, (.slice av lv cv)] : List Value).toArray, .bool (decide ((bodyF V7 (List.map Pr.p ps)) = b))].toArray), rfl, ⟨V7, _, ps, _, NS, _, rfl, hs, hN, by omega, by omega, hI.body (by omega) (chkF_iff.1 (by omega)), hM85.keep (by simp; repeat first | exact List.Sublist.refl _ | exact List.Sublist.append (List.Sublist.refl _) (List.sublist_append_left _ _) | exact .cons _ (by assumption) | refine .cons _ ?_ | refine List.sublist_append_of_sublist_right ?_)⟩⟩
   show vd _ _ _ _ _ _ _
   refine dgyesl rfl <| dl (m_b2s rfl (hx.upd hM78.upd) <| ⟨hh78, ?_⟩)
   try have hft := chkF_iff.1 (by omega : chkF V7 (List.map Pr.p ps) = 0)
   refine dgyesl rfl <| dl (m_call (body_ok V7 _ ps w78 (hs.rd hM78 (i := 3) rfl) (hN.rd _ (hM78.res (i := 4) rfl).1) (by omega) (by simp only [inK]; omega) (by assumption)) rfl fun v86 w86 ⟨rs86, hs86, hm86⟩ => ?_)
   have hM86 : Mem w [] w86 [[⟨b2, 24, [.int .i64 0, .slice none 0 0]⟩], rc, [⟨b8, 24, [.int .i64 V7, (.slice av lv cv)]⟩], rsP, NS, rs86] := hM78.add hm86
   have hh86 := held_upd (wr := wd) (bs := [b8]) hm86.upd (fun b hb => by
    simp only [List.mem_cons, List.not_mem_nil, or_false] at hb
    rw [hb]; exact ⟨(hM78.at (i := 2) (j := 0) rfl rfl).lt, by simp⟩) hh78
   refine ⟨hh86, ?_⟩
   show _ ∧ _
   refine ⟨?_, ?_⟩
   ·show vd _ _ _ _ _ _ _
    refine dgyesl rfl <| dl (m_b2s rfl (hs86.rd hM86 (i := 5) rfl) <| ⟨hh86, dqg rfl (v := .bool (decide ((bodyF V7 (List.map Pr.p ps)) = b))) (o_seq rfl rfl rfl) <| dpkT rfl <| dl (m_stAU (l := [.int .i64 V7, (.slice av lv cv)]) hM86 (i := 0) rfl rfl rfl rfl (by simp [oneCells, Value.oneCell', byteV]) (by simp) fun w87 hup87 (hM87 : Mem w [] w87 [[⟨b2, 24, [.int .i64 V7, (.slice av lv cv)]⟩], rc, [⟨b8, 24, [.int .i64 V7, (.slice av lv cv)]⟩], rsP, NS, rs86]) => ?_)⟩)
    have hh87 := held_upd (wr := wd) (bs := [b8]) hup87 (fun b hb => by
     simp only [List.mem_cons, List.not_mem_nil, or_false] at hb
     rw [hb]; exact ⟨(hM86.at (i := 2) (j := 0) rfl rfl).lt, hM86.apart (i := 2) (j := 0) (k := 0) rfl rfl rfl (by decide)⟩) hh86
    refine ⟨hh87, dmv <| h74 _ _ ?_⟩
    show resV _ _ _ _ _
    refine res_cell (s := some 2) (by kernel_rfl) <| vl_ldA (cs := [.int .i64 V7, (.slice av lv cv)]) rfl rfl ((hM87.at (i := 0) (j := 0) rfl rfl).agg rfl rfl) <| res_tmp <| ⟨(.tuple [.agg ([.int .i64 V7, (.slice av lv cv)] : List Value).toArray, .bool (decide ((bodyF V7 (List.map Pr.p ps)) = b))].toArray), rfl, ⟨V7, _, ps, _, NS, _, rfl, hs, hN, by omega, by omega, hI.body (by omega) (chkF_iff.1 (by omega)), hM87.keep (by simp; repeat first | exact List.Sublist.refl _ | exact List.Sublist.append (List.Sublist.refl _) (List.sublist_append_left _ _) | exact .cons _ (by assumption) | refine .cons _ ?_ | refine List.sublist_append_of_sublist_right ?_)⟩⟩
   show vd _ _ _ _ _ _ _
   refine dl (m_stAU (l := [.int .i64 V7, (.slice av lv cv)]) hM86 (i := 0) rfl rfl rfl rfl (by simp [oneCells, Value.oneCell', byteV]) (by simp) fun w88 hup88 (hM88 : Mem w [] w88 [[⟨b2, 24, [.int .i64 V7, (.slice av lv cv)]⟩], rc, [⟨b8, 24, [.int .i64 V7, (.slice av lv cv)]⟩], rsP, NS, rs86]) => ?_)
   have hh88 := held_upd (wr := wd) (bs := [b8]) hup88 (fun b hb => by
    simp only [List.mem_cons, List.not_mem_nil, or_false] at hb
    rw [hb]; exact ⟨(hM86.at (i := 2) (j := 0) rfl rfl).lt, hM86.apart (i := 2) (j := 0) (k := 0) rfl rfl rfl (by decide)⟩) hh86
   refine ⟨hh88, dgyesl rfl <| dl (m_b2s rfl (hs86.rd hM88 (i := 5) rfl) <| ⟨hh88, dqg rfl (v := .bool (decide ((bodyF V7 (List.map Pr.p ps)) = b))) (o_seq rfl rfl rfl) <| dpkT rfl <| dmv <| h74 _ _ ?_⟩)⟩
   show resV _ _ _ _ _
   refine res_cell (s := some 2) (by kernel_rfl) <| vl_ldA (cs := [.int .i64 V7, (.slice av lv cv)]) rfl rfl ((hM88.at (i := 0) (j := 0) rfl rfl).agg rfl rfl) <| res_tmp <| ⟨(.tuple [.agg ([.int .i64 V7, (.slice av lv cv)] : List Value).toArray, .bool (decide ((bodyF V7 (List.map Pr.p ps)) = b))].toArray), rfl, ⟨V7, _, ps, _, NS, _, rfl, hs, hN, by omega, by omega, hI.body (by omega) (chkF_iff.1 (by omega)), hM88.keep (by simp; repeat first | exact List.Sublist.refl _ | exact List.Sublist.append (List.Sublist.refl _) (List.sublist_append_left _ _) | exact .cons _ (by assumption) | refine .cons _ ?_ | refine List.sublist_append_of_sublist_right ?_)⟩⟩
  refine dx rfl <| dxq rfl ?_
  show _ ∧ _
  refine ⟨?_, ?_⟩
  ·show vd _ _ _ _ _ _ _
   refine dxl rfl ?_
   show _ ∧ _
   refine ⟨?_, ?_⟩
   ·show vd _ _ _ _ _ _ _
    refine dxl rfl ?_
    show _ ∧ _
    refine ⟨?_, ?_⟩
    ·show vd _ _ _ _ _ _ _
     refine dxl rfl <| dx rfl <| dpkF rfl <| dl (m_stAU (l := [.int .i64 V7, (.slice av lv cv)]) hM78 (i := 0) rfl rfl rfl rfl (by simp [oneCells, Value.oneCell', byteV]) (by simp) fun w89 hup89 (hM89 : Mem w [] w89 [[⟨b2, 24, [.int .i64 V7, (.slice av lv cv)]⟩], rc, [⟨b8, 24, [.int .i64 V7, (.slice av lv cv)]⟩], rsP, NS]) => ?_)
     have hh89 := held_upd (wr := wd) (bs := [b8]) hup89 (fun b hb => by
      simp only [List.mem_cons, List.not_mem_nil, or_false] at hb
      rw [hb]; exact ⟨(hM78.at (i := 2) (j := 0) rfl rfl).lt, hM78.apart (i := 2) (j := 0) (k := 0) rfl rfl rfl (by decide)⟩) hh78
     refine ⟨hh89, dmv <| h74 _ _ ?_⟩
     show resV _ _ _ _ _
     refine res_cell (s := some 2) (by kernel_rfl) <| vl_ldA (cs := [.int .i64 V7, (.slice av lv cv)]) rfl rfl ((hM89.at (i := 0) (j := 0) rfl rfl).agg rfl rfl) <| res_tmp <| ⟨(.tuple [.agg ([.int .i64 V7, (.slice av lv cv)] : List Value).toArray, .bool false].toArray), rfl, ⟨V7, _, ps, _, NS, _, rfl, hs, hN, by omega, by omega, hI.no (by omega) (fun k => by have := chkF_0 k.2.1; omega), hM89.keep (by simp; repeat first | exact List.Sublist.refl _ | exact List.Sublist.append (List.Sublist.refl _) (List.sublist_append_left _ _) | exact .cons _ (by assumption) | refine .cons _ ?_ | refine List.sublist_append_of_sublist_right ?_)⟩⟩
    show vd _ _ _ _ _ _ _
    refine dl (m_stAU (l := [.int .i64 V7, (.slice av lv cv)]) hM78 (i := 0) rfl rfl rfl rfl (by simp [oneCells, Value.oneCell', byteV]) (by simp) fun w90 hup90 (hM90 : Mem w [] w90 [[⟨b2, 24, [.int .i64 V7, (.slice av lv cv)]⟩], rc, [⟨b8, 24, [.int .i64 V7, (.slice av lv cv)]⟩], rsP, NS]) => ?_)
    have hh90 := held_upd (wr := wd) (bs := [b8]) hup90 (fun b hb => by
     simp only [List.mem_cons, List.not_mem_nil, or_false] at hb
     rw [hb]; exact ⟨(hM78.at (i := 2) (j := 0) rfl rfl).lt, hM78.apart (i := 2) (j := 0) (k := 0) rfl rfl rfl (by decide)⟩) hh78
    refine ⟨hh90, dxl rfl <| dx rfl <| dpkF rfl <| dmv <| h74 _ _ ?_⟩
    show resV _ _ _ _ _
    refine res_cell (s := some 2) (by kernel_rfl) <| vl_ldA (cs := [.int .i64 V7, (.slice av lv cv)]) rfl rfl ((hM90.at (i := 0) (j := 0) rfl rfl).agg rfl rfl) <| res_tmp <| ⟨(.tuple [.agg ([.int .i64 V7, (.slice av lv cv)] : List Value).toArray, .bool false].toArray), rfl, ⟨V7, _, ps, _, NS, _, rfl, hs, hN, by omega, by omega, hI.no (by omega) (fun k => by have := chkF_0 k.2.1; omega), hM90.keep (by simp; repeat first | exact List.Sublist.refl _ | exact List.Sublist.append (List.Sublist.refl _) (List.sublist_append_left _ _) | exact .cons _ (by assumption) | refine .cons _ ?_ | refine List.sublist_append_of_sublist_right ?_)⟩⟩
   show vd _ _ _ _ _ _ _
   show _ ∧ _
   refine ⟨?_, ?_⟩
   ·show vd _ _ _ _ _ _ _
    refine dxl rfl ?_
    show _ ∧ _
    refine ⟨?_, ?_⟩
    ·show vd _ _ _ _ _ _ _
     refine dxl rfl <| dx rfl <| dpkF rfl <| dl (m_stAU (l := [.int .i64 V7, (.slice av lv cv)]) hM78 (i := 0) rfl rfl rfl rfl (by simp [oneCells, Value.oneCell', byteV]) (by simp) fun w91 hup91 (hM91 : Mem w [] w91 [[⟨b2, 24, [.int .i64 V7, (.slice av lv cv)]⟩], rc, [⟨b8, 24, [.int .i64 V7, (.slice av lv cv)]⟩], rsP, NS]) => ?_)
     have hh91 := held_upd (wr := wd) (bs := [b8]) hup91 (fun b hb => by
      simp only [List.mem_cons, List.not_mem_nil, or_false] at hb
      rw [hb]; exact ⟨(hM78.at (i := 2) (j := 0) rfl rfl).lt, hM78.apart (i := 2) (j := 0) (k := 0) rfl rfl rfl (by decide)⟩) hh78
     refine ⟨hh91, dmv <| h74 _ _ ?_⟩
     show resV _ _ _ _ _
     refine res_cell (s := some 2) (by kernel_rfl) <| vl_ldA (cs := [.int .i64 V7, (.slice av lv cv)]) rfl rfl ((hM91.at (i := 0) (j := 0) rfl rfl).agg rfl rfl) <| res_tmp <| ⟨(.tuple [.agg ([.int .i64 V7, (.slice av lv cv)] : List Value).toArray, .bool false].toArray), rfl, ⟨V7, _, ps, _, NS, _, rfl, hs, hN, by omega, by omega, hI.no (by omega) (fun k => by have := chkF_0 k.2.1; omega), hM91.keep (by simp; repeat first | exact List.Sublist.refl _ | exact List.Sublist.append (List.Sublist.refl _) (List.sublist_append_left _ _) | exact .cons _ (by assumption) | refine .cons _ ?_ | refine List.sublist_append_of_sublist_right ?_)⟩⟩
    show vd _ _ _ _ _ _ _
    refine dl (m_stAU (l := [.int .i64 V7, (.slice av lv cv)]) hM78 (i := 0) rfl rfl rfl rfl (by simp [oneCells, Value.oneCell', byteV]) (by simp) fun w92 hup92 (hM92 : Mem w [] w92 [[⟨b2, 24, [.int .i64 V7, (.slice av lv cv)]⟩], rc, [⟨b8, 24, [.int .i64 V7, (.slice av lv cv)]⟩], rsP, NS]) => ?_)
    have hh92 := held_upd (wr := wd) (bs := [b8]) hup92 (fun b hb => by
     simp only [List.mem_cons, List.not_mem_nil, or_false] at hb
     rw [hb]; exact ⟨(hM78.at (i := 2) (j := 0) rfl rfl).lt, hM78.apart (i := 2) (j := 0) (k := 0) rfl rfl rfl (by decide)⟩) hh78
    refine ⟨hh92, dxl rfl <| dx rfl <| dpkF rfl <| dmv <| h74 _ _ ?_⟩
    show resV _ _ _ _ _
    refine res_cell (s := some 2) (by kernel_rfl) <| vl_ldA (cs := [.int .i64 V7, (.slice av lv cv)]) rfl rfl ((hM92.at (i := 0) (j := 0) rfl rfl).agg rfl rfl) <| res_tmp <| ⟨(.tuple [.agg ([.int .i64 V7, (.slice av lv cv)] : List Value).toArray, .bool false].toArray), rfl, ⟨V7, _, ps, _, NS, _, rfl, hs, hN, by omega, by omega, hI.no (by omega) (fun k => by have := chkF_0 k.2.1; omega), hM92.keep (by simp; repeat first | exact List.Sublist.refl _ | exact List.Sublist.append (List.Sublist.refl _) (List.sublist_append_left _ _) | exact .cons _ (by assumption) | refine .cons _ ?_ | refine List.sublist_append_of_sublist_right ?_)⟩⟩
   show vd _ _ _ _ _ _ _
   refine dl (m_stAU (l := [.int .i64 V7, (.slice av lv cv)]) hM78 (i := 0) rfl rfl rfl rfl (by simp [oneCells, Value.oneCell', byteV]) (by simp) fun w93 hup93 (hM93 : Mem w [] w93 [[⟨b2, 24, [.int .i64 V7, (.slice av lv cv)]⟩], rc, [⟨b8, 24, [.int .i64 V7, (.slice av lv cv)]⟩], rsP, NS]) => ?_)
   have hh93 := held_upd (wr := wd) (bs := [b8]) hup93 (fun b hb => by
    simp only [List.mem_cons, List.not_mem_nil, or_false] at hb
    rw [hb]; exact ⟨(hM78.at (i := 2) (j := 0) rfl rfl).lt, hM78.apart (i := 2) (j := 0) (k := 0) rfl rfl rfl (by decide)⟩) hh78
   refine ⟨hh93, ?_⟩
   show _ ∧ _
   refine ⟨?_, ?_⟩
   ·show vd _ _ _ _ _ _ _
    refine dxl rfl <| dxl rfl <| dx rfl <| dpkF rfl <| dmv <| h74 _ _ ?_
    show resV _ _ _ _ _
    refine res_cell (s := some 2) (by kernel_rfl) <| vl_ldA (cs := [.int .i64 V7, (.slice av lv cv)]) rfl rfl ((hM93.at (i := 0) (j := 0) rfl rfl).agg rfl rfl) <| res_tmp <| ⟨(.tuple [.agg ([.int .i64 V7, (.slice av lv cv)] : List Value).toArray, .bool false].toArray), rfl, ⟨V7, _, ps, _, NS, _, rfl, hs, hN, by omega, by omega, hI.no (by omega) (fun k => by have := chkF_0 k.2.1; omega), hM93.keep (by simp; repeat first | exact List.Sublist.refl _ | exact List.Sublist.append (List.Sublist.refl _) (List.sublist_append_left _ _) | exact .cons _ (by assumption) | refine .cons _ ?_ | refine List.sublist_append_of_sublist_right ?_)⟩⟩
   show vd _ _ _ _ _ _ _
   refine dxl rfl <| dxl rfl <| dx rfl <| dpkF rfl <| dmv <| h74 _ _ ?_
   show resV _ _ _ _ _
   refine res_cell (s := some 2) (by kernel_rfl) <| vl_ldA (cs := [.int .i64 V7, (.slice av lv cv)]) rfl rfl ((hM93.at (i := 0) (j := 0) rfl rfl).agg rfl rfl) <| res_tmp <| ⟨(.tuple [.agg ([.int .i64 V7, (.slice av lv cv)] : List Value).toArray, .bool false].toArray), rfl, ⟨V7, _, ps, _, NS, _, rfl, hs, hN, by omega, by omega, hI.no (by omega) (fun k => by have := chkF_0 k.2.1; omega), hM93.keep (by simp; repeat first | exact List.Sublist.refl _ | exact List.Sublist.append (List.Sublist.refl _) (List.sublist_append_left _ _) | exact .cons _ (by assumption) | refine .cons _ ?_ | refine List.sublist_append_of_sublist_right ?_)⟩⟩
  show vd _ _ _ _ _ _ _
  refine dxl rfl <| dxl rfl ?_
  show _ ∧ _
  refine ⟨?_, ?_⟩
  ·show vd _ _ _ _ _ _ _
   refine dxl rfl <| dx rfl <| dpkF rfl <| dl (m_stAU (l := [.int .i64 V7, (.slice av lv cv)]) hM78 (i := 0) rfl rfl rfl rfl (by simp [oneCells, Value.oneCell', byteV]) (by simp) fun w94 hup94 (hM94 : Mem w [] w94 [[⟨b2, 24, [.int .i64 V7, (.slice av lv cv)]⟩], rc, [⟨b8, 24, [.int .i64 V7, (.slice av lv cv)]⟩], rsP, NS]) => ?_)
   have hh94 := held_upd (wr := wd) (bs := [b8]) hup94 (fun b hb => by
    simp only [List.mem_cons, List.not_mem_nil, or_false] at hb
    rw [hb]; exact ⟨(hM78.at (i := 2) (j := 0) rfl rfl).lt, hM78.apart (i := 2) (j := 0) (k := 0) rfl rfl rfl (by decide)⟩) hh78
   refine ⟨hh94, dmv <| h74 _ _ ?_⟩
   show resV _ _ _ _ _
   refine res_cell (s := some 2) (by kernel_rfl) <| vl_ldA (cs := [.int .i64 V7, (.slice av lv cv)]) rfl rfl ((hM94.at (i := 0) (j := 0) rfl rfl).agg rfl rfl) <| res_tmp <| ⟨(.tuple [.agg ([.int .i64 V7, (.slice av lv cv)] : List Value).toArray, .bool false].toArray), rfl, ⟨V7, _, ps, _, NS, _, rfl, hs, hN, by omega, by omega, hI.no (by omega) (fun k => by have := chkF_0 k.2.1; omega), hM94.keep (by simp; repeat first | exact List.Sublist.refl _ | exact List.Sublist.append (List.Sublist.refl _) (List.sublist_append_left _ _) | exact .cons _ (by assumption) | refine .cons _ ?_ | refine List.sublist_append_of_sublist_right ?_)⟩⟩
  show vd _ _ _ _ _ _ _
  refine dl (m_stAU (l := [.int .i64 V7, (.slice av lv cv)]) hM78 (i := 0) rfl rfl rfl rfl (by simp [oneCells, Value.oneCell', byteV]) (by simp) fun w95 hup95 (hM95 : Mem w [] w95 [[⟨b2, 24, [.int .i64 V7, (.slice av lv cv)]⟩], rc, [⟨b8, 24, [.int .i64 V7, (.slice av lv cv)]⟩], rsP, NS]) => ?_)
  have hh95 := held_upd (wr := wd) (bs := [b8]) hup95 (fun b hb => by
   simp only [List.mem_cons, List.not_mem_nil, or_false] at hb
   rw [hb]; exact ⟨(hM78.at (i := 2) (j := 0) rfl rfl).lt, hM78.apart (i := 2) (j := 0) (k := 0) rfl rfl rfl (by decide)⟩) hh78
  refine ⟨hh95, dxl rfl <| dx rfl <| dpkF rfl <| dmv <| h74 _ _ ?_⟩
  show resV _ _ _ _ _
  refine res_cell (s := some 2) (by kernel_rfl) <| vl_ldA (cs := [.int .i64 V7, (.slice av lv cv)]) rfl rfl ((hM95.at (i := 0) (j := 0) rfl rfl).agg rfl rfl) <| res_tmp <| ⟨(.tuple [.agg ([.int .i64 V7, (.slice av lv cv)] : List Value).toArray, .bool false].toArray), rfl, ⟨V7, _, ps, _, NS, _, rfl, hs, hN, by omega, by omega, hI.no (by omega) (fun k => by have := chkF_0 k.2.1; omega), hM95.keep (by simp; repeat first | exact List.Sublist.refl _ | exact List.Sublist.append (List.Sublist.refl _) (List.sublist_append_left _ _) | exact .cons _ (by assumption) | refine .cons _ ?_ | refine List.sublist_append_of_sublist_right ?_)⟩⟩
 refine dxl rfl <| dxl rfl <| dx rfl <| dpkF rfl <| dmv <| dsplitF rfl <| dx rfl <| dxq rfl ?_
 show _ ∧ _
 refine ⟨?_, ?_⟩
 ·show vd _ _ _ _ _ _ _
  refine dxl rfl ?_
  show _ ∧ _
  refine ⟨?_, ?_⟩
  ·show vd _ _ _ _ _ _ _
   refine dxl rfl ?_
   show _ ∧ _
   refine ⟨?_, ?_⟩
   ·show vd _ _ _ _ _ _ _
    refine dxl rfl <| dx rfl <| dpkF rfl <| dl (m_stAU (l := [.int .i64 V7, (.slice av lv cv)]) hM76 (i := 0) rfl rfl rfl rfl (by simp [oneCells, Value.oneCell', byteV]) (by simp) fun w96 hup96 (hM96 : Mem w [] w96 [[⟨b2, 24, [.int .i64 V7, (.slice av lv cv)]⟩], rc, [⟨b8, 24, [.int .i64 V7, (.slice av lv cv)]⟩], rsP, NS]) => ?_)
    have hh96 := held_upd (wr := wd) (bs := [b8]) hup96 (fun b hb => by
     simp only [List.mem_cons, List.not_mem_nil, or_false] at hb
     rw [hb]; exact ⟨(hM76.at (i := 2) (j := 0) rfl rfl).lt, hM76.apart (i := 2) (j := 0) (k := 0) rfl rfl rfl (by decide)⟩) hh76
    refine ⟨hh96, dmv <| h74 _ _ ?_⟩
    show resV _ _ _ _ _
    refine res_cell (s := some 2) (by kernel_rfl) <| vl_ldA (cs := [.int .i64 V7, (.slice av lv cv)]) rfl rfl ((hM96.at (i := 0) (j := 0) rfl rfl).agg rfl rfl) <| res_tmp <| ⟨(.tuple [.agg ([.int .i64 V7, (.slice av lv cv)] : List Value).toArray, .bool false].toArray), rfl, ⟨V7, _, ps, _, NS, _, rfl, hs, hN, by omega, by omega, hI.no (by omega) (fun k => by have := k.1; omega), hM96.keep (by simp; repeat first | exact List.Sublist.refl _ | exact List.Sublist.append (List.Sublist.refl _) (List.sublist_append_left _ _) | exact .cons _ (by assumption) | refine .cons _ ?_ | refine List.sublist_append_of_sublist_right ?_)⟩⟩
   show vd _ _ _ _ _ _ _
   refine dl (m_stAU (l := [.int .i64 V7, (.slice av lv cv)]) hM76 (i := 0) rfl rfl rfl rfl (by simp [oneCells, Value.oneCell', byteV]) (by simp) fun w97 hup97 (hM97 : Mem w [] w97 [[⟨b2, 24, [.int .i64 V7, (.slice av lv cv)]⟩], rc, [⟨b8, 24, [.int .i64 V7, (.slice av lv cv)]⟩], rsP, NS]) => ?_)
   have hh97 := held_upd (wr := wd) (bs := [b8]) hup97 (fun b hb => by
    simp only [List.mem_cons, List.not_mem_nil, or_false] at hb
    rw [hb]; exact ⟨(hM76.at (i := 2) (j := 0) rfl rfl).lt, hM76.apart (i := 2) (j := 0) (k := 0) rfl rfl rfl (by decide)⟩) hh76
   refine ⟨hh97, dxl rfl <| dx rfl <| dpkF rfl <| dmv <| h74 _ _ ?_⟩
   show resV _ _ _ _ _
   refine res_cell (s := some 2) (by kernel_rfl) <| vl_ldA (cs := [.int .i64 V7, (.slice av lv cv)]) rfl rfl ((hM97.at (i := 0) (j := 0) rfl rfl).agg rfl rfl) <| res_tmp <| ⟨(.tuple [.agg ([.int .i64 V7, (.slice av lv cv)] : List Value).toArray, .bool false].toArray), rfl, ⟨V7, _, ps, _, NS, _, rfl, hs, hN, by omega, by omega, hI.no (by omega) (fun k => by have := k.1; omega), hM97.keep (by simp; repeat first | exact List.Sublist.refl _ | exact List.Sublist.append (List.Sublist.refl _) (List.sublist_append_left _ _) | exact .cons _ (by assumption) | refine .cons _ ?_ | refine List.sublist_append_of_sublist_right ?_)⟩⟩
  show vd _ _ _ _ _ _ _
  show _ ∧ _
  refine ⟨?_, ?_⟩
  ·show vd _ _ _ _ _ _ _
   refine dxl rfl ?_
   show _ ∧ _
   refine ⟨?_, ?_⟩
   ·show vd _ _ _ _ _ _ _
    refine dxl rfl <| dx rfl <| dpkF rfl <| dl (m_stAU (l := [.int .i64 V7, (.slice av lv cv)]) hM76 (i := 0) rfl rfl rfl rfl (by simp [oneCells, Value.oneCell', byteV]) (by simp) fun w98 hup98 (hM98 : Mem w [] w98 [[⟨b2, 24, [.int .i64 V7, (.slice av lv cv)]⟩], rc, [⟨b8, 24, [.int .i64 V7, (.slice av lv cv)]⟩], rsP, NS]) => ?_)
    have hh98 := held_upd (wr := wd) (bs := [b8]) hup98 (fun b hb => by
     simp only [List.mem_cons, List.not_mem_nil, or_false] at hb
     rw [hb]; exact ⟨(hM76.at (i := 2) (j := 0) rfl rfl).lt, hM76.apart (i := 2) (j := 0) (k := 0) rfl rfl rfl (by decide)⟩) hh76
    refine ⟨hh98, dmv <| h74 _ _ ?_⟩
    show resV _ _ _ _ _
    refine res_cell (s := some 2) (by kernel_rfl) <| vl_ldA (cs := [.int .i64 V7, (.slice av lv cv)]) rfl rfl ((hM98.at (i := 0) (j := 0) rfl rfl).agg rfl rfl) <| res_tmp <| ⟨(.tuple [.agg ([.int .i64 V7, (.slice av lv cv)] : List Value).toArray, .bool false].toArray), rfl, ⟨V7, _, ps, _, NS, _, rfl, hs, hN, by omega, by omega, hI.no (by omega) (fun k => by have := k.1; omega), hM98.keep (by simp; repeat first | exact List.Sublist.refl _ | exact List.Sublist.append (List.Sublist.refl _) (List.sublist_append_left _ _) | exact .cons _ (by assumption) | refine .cons _ ?_ | refine List.sublist_append_of_sublist_right ?_)⟩⟩
   show vd _ _ _ _ _ _ _
   refine dl (m_stAU (l := [.int .i64 V7, (.slice av lv cv)]) hM76 (i := 0) rfl rfl rfl rfl (by simp [oneCells, Value.oneCell', byteV]) (by simp) fun w99 hup99 (hM99 : Mem w [] w99 [[⟨b2, 24, [.int .i64 V7, (.slice av lv cv)]⟩], rc, [⟨b8, 24, [.int .i64 V7, (.slice av lv cv)]⟩], rsP, NS]) => ?_)
   have hh99 := held_upd (wr := wd) (bs := [b8]) hup99 (fun b hb => by
    simp only [List.mem_cons, List.not_mem_nil, or_false] at hb
    rw [hb]; exact ⟨(hM76.at (i := 2) (j := 0) rfl rfl).lt, hM76.apart (i := 2) (j := 0) (k := 0) rfl rfl rfl (by decide)⟩) hh76
   refine ⟨hh99, dxl rfl <| dx rfl <| dpkF rfl <| dmv <| h74 _ _ ?_⟩
   show resV _ _ _ _ _
   refine res_cell (s := some 2) (by kernel_rfl) <| vl_ldA (cs := [.int .i64 V7, (.slice av lv cv)]) rfl rfl ((hM99.at (i := 0) (j := 0) rfl rfl).agg rfl rfl) <| res_tmp <| ⟨(.tuple [.agg ([.int .i64 V7, (.slice av lv cv)] : List Value).toArray, .bool false].toArray), rfl, ⟨V7, _, ps, _, NS, _, rfl, hs, hN, by omega, by omega, hI.no (by omega) (fun k => by have := k.1; omega), hM99.keep (by simp; repeat first | exact List.Sublist.refl _ | exact List.Sublist.append (List.Sublist.refl _) (List.sublist_append_left _ _) | exact .cons _ (by assumption) | refine .cons _ ?_ | refine List.sublist_append_of_sublist_right ?_)⟩⟩
  show vd _ _ _ _ _ _ _
  refine dl (m_stAU (l := [.int .i64 V7, (.slice av lv cv)]) hM76 (i := 0) rfl rfl rfl rfl (by simp [oneCells, Value.oneCell', byteV]) (by simp) fun w100 hup100 (hM100 : Mem w [] w100 [[⟨b2, 24, [.int .i64 V7, (.slice av lv cv)]⟩], rc, [⟨b8, 24, [.int .i64 V7, (.slice av lv cv)]⟩], rsP, NS]) => ?_)
  have hh100 := held_upd (wr := wd) (bs := [b8]) hup100 (fun b hb => by
   simp only [List.mem_cons, List.not_mem_nil, or_false] at hb
   rw [hb]; exact ⟨(hM76.at (i := 2) (j := 0) rfl rfl).lt, hM76.apart (i := 2) (j := 0) (k := 0) rfl rfl rfl (by decide)⟩) hh76
  refine ⟨hh100, ?_⟩
  show _ ∧ _
  refine ⟨?_, ?_⟩
  ·show vd _ _ _ _ _ _ _
   refine dxl rfl <| dxl rfl <| dx rfl <| dpkF rfl <| dmv <| h74 _ _ ?_
   show resV _ _ _ _ _
   refine res_cell (s := some 2) (by kernel_rfl) <| vl_ldA (cs := [.int .i64 V7, (.slice av lv cv)]) rfl rfl ((hM100.at (i := 0) (j := 0) rfl rfl).agg rfl rfl) <| res_tmp <| ⟨(.tuple [.agg ([.int .i64 V7, (.slice av lv cv)] : List Value).toArray, .bool false].toArray), rfl, ⟨V7, _, ps, _, NS, _, rfl, hs, hN, by omega, by omega, hI.no (by omega) (fun k => by have := k.1; omega), hM100.keep (by simp; repeat first | exact List.Sublist.refl _ | exact List.Sublist.append (List.Sublist.refl _) (List.sublist_append_left _ _) | exact .cons _ (by assumption) | refine .cons _ ?_ | refine List.sublist_append_of_sublist_right ?_)⟩⟩
  show vd _ _ _ _ _ _ _
  refine dxl rfl <| dxl rfl <| dx rfl <| dpkF rfl <| dmv <| h74 _ _ ?_
  show resV _ _ _ _ _
  refine res_cell (s := some 2) (by kernel_rfl) <| vl_ldA (cs := [.int .i64 V7, (.slice av lv cv)]) rfl rfl ((hM100.at (i := 0) (j := 0) rfl rfl).agg rfl rfl) <| res_tmp <| ⟨(.tuple [.agg ([.int .i64 V7, (.slice av lv cv)] : List Value).toArray, .bool false].toArray), rfl, ⟨V7, _, ps, _, NS, _, rfl, hs, hN, by omega, by omega, hI.no (by omega) (fun k => by have := k.1; omega), hM100.keep (by simp; repeat first | exact List.Sublist.refl _ | exact List.Sublist.append (List.Sublist.refl _) (List.sublist_append_left _ _) | exact .cons _ (by assumption) | refine .cons _ ?_ | refine List.sublist_append_of_sublist_right ?_)⟩⟩
 show vd _ _ _ _ _ _ _
 refine dxl rfl <| dxl rfl ?_
 show _ ∧ _
 refine ⟨?_, ?_⟩
 ·show vd _ _ _ _ _ _ _
  refine dxl rfl <| dx rfl <| dpkF rfl <| dl (m_stAU (l := [.int .i64 V7, (.slice av lv cv)]) hM76 (i := 0) rfl rfl rfl rfl (by simp [oneCells, Value.oneCell', byteV]) (by simp) fun w101 hup101 (hM101 : Mem w [] w101 [[⟨b2, 24, [.int .i64 V7, (.slice av lv cv)]⟩], rc, [⟨b8, 24, [.int .i64 V7, (.slice av lv cv)]⟩], rsP, NS]) => ?_)
  have hh101 := held_upd (wr := wd) (bs := [b8]) hup101 (fun b hb => by
   simp only [List.mem_cons, List.not_mem_nil, or_false] at hb
   rw [hb]; exact ⟨(hM76.at (i := 2) (j := 0) rfl rfl).lt, hM76.apart (i := 2) (j := 0) (k := 0) rfl rfl rfl (by decide)⟩) hh76
  refine ⟨hh101, dmv <| h74 _ _ ?_⟩
  show resV _ _ _ _ _
  refine res_cell (s := some 2) (by kernel_rfl) <| vl_ldA (cs := [.int .i64 V7, (.slice av lv cv)]) rfl rfl ((hM101.at (i := 0) (j := 0) rfl rfl).agg rfl rfl) <| res_tmp <| ⟨(.tuple [.agg ([.int .i64 V7, (.slice av lv cv)] : List Value).toArray, .bool false].toArray), rfl, ⟨V7, _, ps, _, NS, _, rfl, hs, hN, by omega, by omega, hI.no (by omega) (fun k => by have := k.1; omega), hM101.keep (by simp; repeat first | exact List.Sublist.refl _ | exact List.Sublist.append (List.Sublist.refl _) (List.sublist_append_left _ _) | exact .cons _ (by assumption) | refine .cons _ ?_ | refine List.sublist_append_of_sublist_right ?_)⟩⟩
 show vd _ _ _ _ _ _ _
 refine dl (m_stAU (l := [.int .i64 V7, (.slice av lv cv)]) hM76 (i := 0) rfl rfl rfl rfl (by simp [oneCells, Value.oneCell', byteV]) (by simp) fun w102 hup102 (hM102 : Mem w [] w102 [[⟨b2, 24, [.int .i64 V7, (.slice av lv cv)]⟩], rc, [⟨b8, 24, [.int .i64 V7, (.slice av lv cv)]⟩], rsP, NS]) => ?_)
 have hh102 := held_upd (wr := wd) (bs := [b8]) hup102 (fun b hb => by
  simp only [List.mem_cons, List.not_mem_nil, or_false] at hb
  rw [hb]; exact ⟨(hM76.at (i := 2) (j := 0) rfl rfl).lt, hM76.apart (i := 2) (j := 0) (k := 0) rfl rfl rfl (by decide)⟩) hh76
 refine ⟨hh102, dxl rfl <| dx rfl <| dpkF rfl <| dmv <| h74 _ _ ?_⟩
 show resV _ _ _ _ _
 refine res_cell (s := some 2) (by kernel_rfl) <| vl_ldA (cs := [.int .i64 V7, (.slice av lv cv)]) rfl rfl ((hM102.at (i := 0) (j := 0) rfl rfl).agg rfl rfl) <| res_tmp <| ⟨(.tuple [.agg ([.int .i64 V7, (.slice av lv cv)] : List Value).toArray, .bool false].toArray), rfl, ⟨V7, _, ps, _, NS, _, rfl, hs, hN, by omega, by omega, hI.no (by omega) (fun k => by have := k.1; omega), hM102.keep (by simp; repeat first | exact List.Sublist.refl _ | exact List.Sublist.append (List.Sublist.refl _) (List.sublist_append_left _ _) | exact .cons _ (by assumption) | refine .cons _ ?_ | refine List.sublist_append_of_sublist_right ?_)⟩⟩
