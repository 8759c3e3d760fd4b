/- Footers: which may be. -/
import Derived.Test.YthhmhmnhbababaaD1
import Derived.Test.YthhmhmnhbababaaE23
namespace Go.Proofs.Ythhmhmnhbababaa.E
open Go
structure Bi where
 st : Int
 ra : Int
 ct : Int
 cut : List UInt8
def biC (b : Bi) : List Value := [.int .i64 b.st, .int .i64 b.ra, .int .i64 b.ct, .string (str b.cut)]
instance : Enc biC 4 := ⟨fun _ => rfl, by omega, fun c => by intro v hv; simp only [biC, List.mem_cons, List.not_mem_nil, or_false] at hv; rcases hv with rfl | rfl | rfl | rfl <;> rfl⟩
def bz : Bi := ⟨0, 0, 0, []⟩
def Bi.ok (b : Bi) : Prop := inK .i64 b.st ∧ inK .i64 b.ra ∧ inK .i64 b.ct ∧ b.cut.length ≤ 140737488351232
structure Pr where
 part : Int
 bad : Option Addr
 bln : Nat
 bcp : Nat
 bl : List Bi
 a : Bool
 h : Int
 dad : Option Addr
 dln : Nat
 dcp : Nat
 d : List UInt8
abbrev Pr.bv (p : Pr) : Value := .slice p.bad p.bln p.bcp
abbrev Pr.dv (p : Pr) : Value := .slice p.dad p.dln p.dcp
def prC (p : Pr) : List Value := [.int .i64 p.part, .slice p.bad p.bln p.bcp, .bool p.a, .int .i64 p.h, .slice p.dad p.dln p.dcp]
instance : Enc prC 5 := ⟨fun _ => rfl, by omega, fun c => by intro v hv; simp only [prC, List.mem_cons, List.not_mem_nil, or_false] at hv; rcases hv with rfl | rfl | rfl | rfl | rfl <;> rfl⟩
def pz : Pr := ⟨0, none, 0, 0, [], false, 0, none, 0, 0, []⟩
structure Pp where
 part : Int
 bl : List Bi
 a : Bool
 h : Int
 d : List UInt8
abbrev Pr.p (p : Pr) : Pp := ⟨p.part, p.bl, p.a, p.h, p.d⟩
structure Pr.ok (p : Pr) (w : World) : Prop where
 rb : RdS biC w p.bv p.bl
 rd : RdE byteV w p.dv p.d
 kp : inK .i64 p.part
 kh : inK .i64 p.h
 ld : p.d.length ≤ 140737488351232
 lb : p.bl.length ≤ 3518437208780
 kb : ∀ b ∈ p.bl, b.ok
theorem Pr.ok.upd {p : Pr} {w w' : World} (h : p.ok w) (u : Upd [] w w') : p.ok w' := ⟨h.rb.upd u, h.rd.upd u, h.kp, h.kh, h.ld, h.lb, h.kb⟩
def blkOk (b : Bi) : Prop := (1 ≤ b.st ∧ b.st ≤ 65536) ∧ (1 ≤ b.ra ∧ b.ra ≤ 65536) ∧ b.ra ≤ 64 * b.st ∧ 1 ≤ b.ct ∧ b.ct ≤ b.ra ∧ b.cut.length ≤ 64
instance (b : Bi) : Decidable (blkOk b) := by unfold blkOk; infer_instance
def blsOk : List UInt8 → List Bi → Prop
 | _, [] => True
 | last, b :: bs => (blkOk b ∧ 0 ≤ cmp b.cut last) ∧ blsOk b.cut bs
instance decBls : ∀ (l : List UInt8) (bs : List Bi), Decidable (blsOk l bs)
 | _, [] => isTrue trivial
 | l, b :: bs => by
  have := decBls b.cut bs
  unfold blsOk; infer_instance
def parOk (parts last : Int) (p : Pp) : Prop := last < p.part ∧ p.part < parts ∧ ¬ p.bl.length = 0 ∧ ¬ fk p.a p.h p.d = 0 ∧ blsOk [] p.bl
instance (parts last : Int) (p : Pp) : Decidable (parOk parts last p) := by unfold parOk; infer_instance
def infOk (parts : Int) : Int → Nat → List Pp → Prop
 | _, _, [] => True
 | last, n, p :: ps => (parOk parts last p ∧ n + p.bl.length ≤ 262144) ∧ infOk parts p.part (n + p.bl.length) ps
instance decInf (parts : Int) : ∀ (last : Int) (n : Nat) (ps : List Pp), Decidable (infOk parts last n ps)
 | _, _, [] => isTrue trivial
 | last, n, p :: ps => by
  have := decInf parts p.part (n + p.bl.length) ps
  unfold infOk; infer_instance
def ftOk (parts : Int) (ps : List Pp) : Prop := (1 ≤ parts ∧ parts ≤ 65535) ∧ infOk parts (-1) 0 ps
instance (parts : Int) (ps : List Pp) : Decidable (ftOk parts ps) := by unfold ftOk; infer_instance
def chkF (parts : Int) (ps : List Pp) : Int := if ftOk parts ps then 0 else 80
theorem chkF_0 {parts : Int} {ps : List Pp} (h : ftOk parts ps) : chkF parts ps = 0 := by unfold chkF; rw [if_pos h]
theorem chkF_80 {parts : Int} {ps : List Pp} (h : ¬ ftOk parts ps) : chkF parts ps = 80 := by unfold chkF; rw [if_neg h]
theorem chkF_iff {parts : Int} {ps : List Pp} : chkF parts ps = 0 ↔ ftOk parts ps := by
 by_cases h : ftOk parts ps
 ·rw [chkF_0 h]; simp [h]
 rw [chkF_80 h]; simp [h]
section
variable {ps : List Pr} {i : Nat}
theorem drop_p (h : i < ps.length) : (ps.drop i).map Pr.p = (ps.getD i pz).p :: (ps.drop (i + 1)).map Pr.p := by rw [dropG pz h]; rfl
theorem inf_cons {parts last : Int} {n : Nat} (h : i < ps.length) : infOk parts last n ((ps.drop i).map Pr.p) ↔ (parOk parts last (ps.getD i pz).p ∧ n + (ps.getD i pz).bl.length ≤ 262144) ∧ infOk parts (ps.getD i pz).part (n + (ps.getD i pz).bl.length) ((ps.drop (i + 1)).map Pr.p) := by
 rw [drop_p h]; exact Iff.rfl
theorem inf_end {parts last : Int} {n : Nat} (h : ps.length ≤ i) : infOk parts last n ((ps.drop i).map Pr.p) := by rw [List.drop_eq_nil_of_le h]; trivial
theorem bls_cons {last : List UInt8} {bl : List Bi} {k : Nat} (h : k < bl.length) : blsOk last (bl.drop k) ↔ (blkOk (bl.getD k bz) ∧ 0 ≤ cmp (bl.getD k bz).cut last) ∧ blsOk (bl.getD k bz).cut (bl.drop (k + 1)) := by
 rw [dropG bz h]; exact Iff.rfl
theorem bls_end {last : List UInt8} {bl : List Bi} {k : Nat} (h : bl.length ≤ k) : blsOk last (bl.drop k) := by rw [List.drop_eq_nil_of_le h]; trivial
end
def infR (parts : Int) : Int → List Pp → Prop
 | _, [] => True
 | last, p :: ps => parOk parts last p ∧ infR parts p.part ps
def sumB (ps : List Pp) : Nat := (ps.map fun p => p.bl.length).sum
theorem sumB_cons (p : Pp) (ps : List Pp) : sumB (p :: ps) = p.bl.length + sumB ps := by unfold sumB; rw [List.map_cons, List.sum_cons]
theorem infR_iff (parts : Int) : ∀ (ps : List Pp) (last : Int) (n : Nat), n ≤ 262144 → (infOk parts last n ps ↔ infR parts last ps ∧ n + sumB ps ≤ 262144)
 | [], last, n, hn => by simp [infOk, infR, sumB]; exact hn
 | p :: ps, last, n, hn => by
  rw [infOk, infR, sumB_cons]
  constructor
  ·rintro ⟨⟨h1, h2⟩, h3⟩
   have := (infR_iff parts ps p.part (n + p.bl.length) h2).1 h3
   exact ⟨⟨h1, this.1⟩, by omega⟩
  rintro ⟨⟨h1, h2⟩, h3⟩
  exact ⟨⟨h1, by omega⟩, (infR_iff parts ps p.part (n + p.bl.length) (by omega)).2 ⟨h2, by omega⟩⟩
theorem less_cmp : ∀ a b : List UInt8, Op.bytesLess a b = decide (cmp a b < 0)
 | [], [] => by simp [Op.bytesLess, cmp]
 | _ :: _, [] => by simp [Op.bytesLess, cmp]
 | [], _ :: _ => by simp [Op.bytesLess, cmp]
 | x :: a, y :: b => by
  rw [Op.bytesLess, cmp, less_cmp a b]
  rcases Nat.lt_trichotomy x.toNat y.toNat with h | h | h
  ·rw [if_pos h]
   have : x < y := UInt8.lt_iff_toNat_lt.2 h
   simp [this]
  ·have e : x = y := UInt8.toNat_inj.1 h
   subst e
   rw [if_neg (Nat.lt_irrefl _), if_neg (Nat.lt_irrefl _)]
   have : ¬ x < x := by rw [UInt8.lt_iff_toNat_lt]; omega
   simp [this]
  rw [if_neg (by omega), if_pos h]
  have h1 : ¬ x < y := by rw [UInt8.lt_iff_toNat_lt]; omega
  have h2 : ¬ x = y := fun e => by rw [e] at h; omega
  simp [h1, h2]
theorem bool_iff {p q : Prop} [Decidable p] [Decidable q] (h : p ↔ q) : Value.bool (decide p) = .bool (decide q) := by rw [decide_eq_decide.2 h]
theorem bool_no {q : Prop} [Decidable q] (h : ¬ q) : Value.bool false = .bool (decide q) := by rw [decide_eq_false h]
theorem bool_yes {q : Prop} [Decidable q] (h : q) : Value.bool true = .bool (decide q) := by rw [decide_eq_true h]
theorem cmp_nil (a : List UInt8) : 0 ≤ cmp a [] := by cases a <;> simp [cmp]
theorem rightBlock_ok (b : Bi) (last : List UInt8) (w : World) (hb : b.ok) (hl : last.length ≤ 1152921504606846976) : Calls Try.prog 47 [.agg (biC b).toArray, .string (str last)].toArray w (Rt fun r w' => r = .bool (decide (blkOk b ∧ 0 ≤ cmp b.cut last)) ∧ Upd [] w w') := by
 have hM0 : Mem w [] w [] := Mem.nil w []
 obtain ⟨hb1, hb2, hb3, hb4⟩ := hb
 simp only [inK] at hb1 hb2 hb3
 refine calls_vc mixed Try.func47 rfl C47 (by simp [Try.ntmps47]) <| seq fun _ h1 => m_bx (v := .agg ([.int .i64 b.st, .int .i64 b.ra, .int .i64 b.ct, .string (str b.cut)] : List Value).toArray) hM0 rfl rfl fun b2 w3 (hM3 : Mem w [] w3 [[⟨b2, 74, [.int .i64 b.st, .int .i64 b.ra, .int .i64 b.ct, .string (str b.cut)]⟩]]) => mv <| h1 _ _ <| seq fun _ h4 => fa rfl <| m_ld (v := .int .i64 b.st) hM3 (i := 0) (j := 0) rfl rfl rfl rfl <| bn rfl rfl <| mv <| splitP rfl (fun c5 => ?_) (fun c5 => ?_)
 ·refine gfa rfl rfl <| gyesl rfl <| m_ld (v := .int .i64 b.st) hM3 (i := 0) (j := 0) rfl rfl rfl rfl <| gbn rfl rfl rfl <| pkT rfl <| mv <| splitP rfl (fun c6 => ?_) (fun c6 => ?_)
  ·refine gfa rfl rfl <| gyesl rfl <| m_ld (v := .int .i64 b.ra) hM3 (i := 0) (j := 0) rfl rfl rfl rfl <| gbn rfl rfl rfl <| pkT rfl <| mv <| splitP rfl (fun c7 => ?_) (fun c7 => ?_)
   ·refine gfa rfl rfl <| gyesl rfl <| m_ld (v := .int .i64 b.ra) hM3 (i := 0) (j := 0) rfl rfl rfl rfl <| gbn rfl rfl rfl <| pkT rfl <| mv <| splitP rfl (fun c8 => ?_) (fun c8 => ?_)
    ·refine gfa rfl rfl <| gyesl rfl <| m_ld (v := .int .i64 b.ra) hM3 (i := 0) (j := 0) rfl rfl rfl rfl <| gfa rfl rfl <| gyesl rfl <| m_ld (v := .int .i64 b.st) hM3 (i := 0) (j := 0) rfl rfl rfl rfl <| stg rfl (v := .int .i64 (64 * b.st)) (o_bin rfl rfl (v_mul64 (by omega))) <| gbn rfl rfl rfl <| pkT rfl <| mv <| splitP rfl (fun c9 => ?_) (fun c9 => ?_)
     ·refine gfa rfl rfl <| gyesl rfl <| m_ld (v := .int .i64 b.ct) hM3 (i := 0) (j := 0) rfl rfl rfl rfl <| gbn rfl rfl rfl <| pkT rfl <| mv <| splitP rfl (fun c10 => ?_) (fun c10 => ?_)
      ·refine gfa rfl rfl <| gyesl rfl <| m_ld (v := .int .i64 b.ct) hM3 (i := 0) (j := 0) rfl rfl rfl rfl <| gfa rfl rfl <| gyesl rfl <| m_ld (v := .int .i64 b.ra) hM3 (i := 0) (j := 0) rfl rfl rfl rfl <| gbn rfl rfl rfl <| pkT rfl <| mv <| splitP rfl (fun c11 => ?_) (fun c11 => ?_)
       ·refine gfa rfl rfl <| gyesl rfl <| m_ld (v := .string (str b.cut)) hM3 (i := 0) (j := 0) rfl rfl rfl rfl <| stg rfl (v := .int .i64 (b.cut.length : Nat)) (o_lens rfl rfl) <| gbn rfl rfl rfl <| pkT rfl <| mv <| splitP rfl (fun c12 => ?_) (fun c12 => ?_)
        ·refine gfa rfl rfl <| gyesl rfl <| m_ld (v := .string (str b.cut)) hM3 (i := 0) (j := 0) rfl rfl rfl rfl <| gmv rfl <| gyesl rfl <| m_call (Compare_ok b.cut last w3 (by first | omega | (simp; done) | (simp; omega)) (by first | omega | (simp; done) | (simp; omega))) rfl fun v13 w13 ⟨hr13, hu13⟩ => ?_
         have hM13 : Mem w [] w13 [[⟨b2, 74, [.int .i64 b.st, .int .i64 b.ra, .int .i64 b.ct, .string (str b.cut)]⟩]] := hM3.pure hu13
         subst hr13
         refine gbn rfl rfl rfl <| pkT rfl <| mv <| h4 _ _ <| ⟨(.bool (decide ((0 : Int) ≤ (cmp b.cut last)))), rfl, ⟨bool_iff (by unfold blkOk; omega), hM13.upd⟩⟩
        refine gx rfl <| gxl rfl <| gx rfl <| gxl rfl <| gx rfl <| pkF rfl <| mv <| h4 _ _ <| ⟨(.bool false), rfl, ⟨bool_no (by unfold blkOk; omega), hM3.upd⟩⟩
       refine gx rfl <| gxl rfl <| gx rfl <| gx rfl <| pkF rfl <| mv <| splitF rfl <| gx rfl <| gxl rfl <| gx rfl <| gxl rfl <| gx rfl <| pkF rfl <| mv <| h4 _ _ <| ⟨(.bool false), rfl, ⟨bool_no (by unfold blkOk; omega), hM3.upd⟩⟩
      refine gx rfl <| gxl rfl <| gx rfl <| gxl rfl <| gx rfl <| pkF rfl <| mv <| splitF rfl <| gx rfl <| gxl rfl <| gx rfl <| gx rfl <| pkF rfl <| mv <| splitF rfl <| gx rfl <| gxl rfl <| gx rfl <| gxl rfl <| gx rfl <| pkF rfl <| mv <| h4 _ _ <| ⟨(.bool false), rfl, ⟨bool_no (by unfold blkOk; omega), hM3.upd⟩⟩
     refine gx rfl <| gxl rfl <| gx rfl <| pkF rfl <| mv <| splitF rfl <| gx rfl <| gxl rfl <| gx rfl <| gxl rfl <| gx rfl <| pkF rfl <| mv <| splitF rfl <| gx rfl <| gxl rfl <| gx rfl <| gx rfl <| pkF rfl <| mv <| splitF rfl <| gx rfl <| gxl rfl <| gx rfl <| gxl rfl <| gx rfl <| pkF rfl <| mv <| h4 _ _ <| ⟨(.bool false), rfl, ⟨bool_no (by unfold blkOk; omega), hM3.upd⟩⟩
    refine gx rfl <| gxl rfl <| gx rfl <| gxl rfl <| gx rfl <| gx rfl <| pkF rfl <| mv <| splitF rfl <| gx rfl <| gxl rfl <| gx rfl <| pkF rfl <| mv <| splitF rfl <| gx rfl <| gxl rfl <| gx rfl <| gxl rfl <| gx rfl <| pkF rfl <| mv <| splitF rfl <| gx rfl <| gxl rfl <| gx rfl <| gx rfl <| pkF rfl <| mv <| splitF rfl <| gx rfl <| gxl rfl <| gx rfl <| gxl rfl <| gx rfl <| pkF rfl <| mv <| h4 _ _ <| ⟨(.bool false), rfl, ⟨bool_no (by unfold blkOk; omega), hM3.upd⟩⟩
   refine gx rfl <| gxl rfl <| gx rfl <| pkF rfl <| mv <| splitF rfl <| gx rfl <| gxl rfl <| gx rfl <| gxl rfl <| gx rfl <| gx rfl <| pkF rfl <| mv <| splitF rfl <| gx rfl <| gxl rfl <| gx rfl <| pkF rfl <| mv <| splitF rfl <| gx rfl <| gxl rfl <| gx rfl <| gxl rfl <| gx rfl <| pkF rfl <| mv <| splitF rfl <| gx rfl <| gxl rfl <| gx rfl <| gx rfl <| pkF rfl <| mv <| splitF rfl <| gx rfl <| gxl rfl <| gx rfl <| gxl rfl <| gx rfl <| pkF rfl <| mv <| h4 _ _ <| ⟨(.bool false), rfl, ⟨bool_no (by unfold blkOk; omega), hM3.upd⟩⟩
  refine gx rfl <| gxl rfl <| gx rfl <| pkF rfl <| mv <| splitF rfl <| gx rfl <| gxl rfl <| gx rfl <| pkF rfl <| mv <| splitF rfl <| gx rfl <| gxl rfl <| gx rfl <| gxl rfl <| gx rfl <| gx rfl <| pkF rfl <| mv <| splitF rfl <| gx rfl <| gxl rfl <| gx rfl <| pkF rfl <| mv <| splitF rfl <| gx rfl <| gxl rfl <| gx rfl <| gxl rfl <| gx rfl <| pkF rfl <| mv <| splitF rfl <| gx rfl <| gxl rfl <| gx rfl <| gx rfl <| pkF rfl <| mv <| splitF rfl <| gx rfl <| gxl rfl <| gx rfl <| gxl rfl <| gx rfl <| pkF rfl <| mv <| h4 _ _ <| ⟨(.bool false), rfl, ⟨bool_no (by unfold blkOk; omega), hM3.upd⟩⟩
 refine gx rfl <| gxl rfl <| gx rfl <| pkF rfl <| mv <| splitF rfl <| gx rfl <| gxl rfl <| gx rfl <| pkF rfl <| mv <| splitF rfl <| gx rfl <| gxl rfl <| gx rfl <| pkF rfl <| mv <| splitF rfl <| gx rfl <| gxl rfl <| gx rfl <| gxl rfl <| gx rfl <| gx rfl <| pkF rfl <| mv <| splitF rfl <| gx rfl <| gxl rfl <| gx rfl <| pkF rfl <| mv <| splitF rfl <| gx rfl <| gxl rfl <| gx rfl <| gxl rfl <| gx rfl <| pkF rfl <| mv <| splitF rfl <| gx rfl <| gxl rfl <| gx rfl <| gx rfl <| pkF rfl <| mv <| splitF rfl <| gx rfl <| gxl rfl <| gx rfl <| gxl rfl <| gx rfl <| pkF rfl <| mv <| h4 _ _ <| ⟨(.bool false), rfl, ⟨bool_no (by unfold blkOk; omega), hM3.upd⟩⟩
theorem blockRight_ok (b : Bi) (w : World) (hb : b.ok) : Calls Try.prog 45 [.agg (biC b).toArray].toArray w (Rt fun r w' => r = .bool (decide (blkOk b)) ∧ Upd [] w w') := by
 have hM0 : Mem w [] w [] := Mem.nil w []
 obtain ⟨hb1, hb2, hb3, hb4⟩ := hb
 simp only [inK] at hb1 hb2 hb3
 refine calls_vc mixed Try.func45 rfl C45 (by simp [Try.ntmps45]) <| seq fun _ h1 => m_bx (v := .agg ([.int .i64 b.st, .int .i64 b.ra, .int .i64 b.ct, .string (str b.cut)] : List Value).toArray) hM0 rfl rfl fun b2 w3 (hM3 : Mem w [] w3 [[⟨b2, 74, [.int .i64 b.st, .int .i64 b.ra, .int .i64 b.ct, .string (str b.cut)]⟩]]) => mv <| h1 _ _ <| seq fun _ h4 => seq fun _ h5 => fa rfl <| m_ld (v := .int .i64 b.st) hM3 (i := 0) (j := 0) rfl rfl rfl rfl <| bn rfl rfl <| mv <| splitP rfl (fun c6 => ?_) (fun c6 => ?_)
 ·refine gx rfl <| gxl rfl <| gx rfl <| pkT rfl <| mv <| splitT rfl <| gx rfl <| gxl rfl <| gx rfl <| pkT rfl <| mv <| splitT rfl <| gx rfl <| gxl rfl ?_
  refine gx rfl <| pkT rfl <| mv <| splitT rfl <| gx rfl <| gxl rfl <| gx rfl <| gxl rfl <| gx rfl <| gx rfl <| pkT rfl <| h5 _ _ <| cndT rfl <| seq fun _ h7 => ?_
  refine mv <| h7 _ _ <| ⟨(.bool false), rfl, ⟨bool_no (by unfold blkOk; omega), hM3.upd⟩⟩
 refine gfa rfl rfl <| gyesl rfl <| m_ld (v := .int .i64 b.st) hM3 (i := 0) (j := 0) rfl rfl rfl rfl <| gbn rfl rfl rfl <| pkF rfl <| mv <| splitP rfl (fun c8 => ?_) (fun c8 => ?_)
 ·refine gx rfl <| gxl rfl <| gx rfl <| pkT rfl <| mv <| splitT rfl <| gx rfl <| gxl rfl <| gx rfl <| pkT rfl <| mv <| splitT rfl <| gx rfl <| gxl rfl ?_
  refine gx rfl <| gxl rfl <| gx rfl <| gx rfl <| pkT rfl <| h5 _ _ <| cndT rfl <| seq fun _ h9 => mv <| h9 _ _ <| ⟨(.bool false), rfl, ⟨bool_no (by unfold blkOk; omega), hM3.upd⟩⟩
 refine gfa rfl rfl <| gyesl rfl <| m_ld (v := .int .i64 b.ra) hM3 (i := 0) (j := 0) rfl rfl rfl rfl <| gbn rfl rfl rfl <| pkF rfl <| mv <| splitP rfl (fun c10 => ?_) (fun c10 => ?_)
 ·refine gx rfl <| gxl rfl <| gx rfl <| pkT rfl <| mv <| splitT rfl <| gx rfl <| gxl rfl <| gx rfl <| gxl rfl <| gx rfl <| gx rfl <| pkT rfl <| h5 _ _ ?_
  refine cndT rfl <| seq fun _ h11 => mv <| h11 _ _ <| ⟨(.bool false), rfl, ⟨bool_no (by unfold blkOk; omega), hM3.upd⟩⟩
 refine gfa rfl rfl <| gyesl rfl <| m_ld (v := .int .i64 b.ra) hM3 (i := 0) (j := 0) rfl rfl rfl rfl <| gbn rfl rfl rfl <| pkF rfl <| mv <| splitP rfl (fun c12 => ?_) (fun c12 => ?_)
 ·refine gx rfl <| gxl rfl <| gx rfl <| gxl rfl <| gx rfl <| gx rfl <| pkT rfl <| h5 _ _ <| cndT rfl <| seq fun _ h13 => mv <| h13 _ _ <| ⟨(.bool false), rfl, ⟨bool_no (by unfold blkOk; omega), hM3.upd⟩⟩
 refine gfa rfl rfl <| gyesl rfl <| m_ld (v := .int .i64 b.ra) hM3 (i := 0) (j := 0) rfl rfl rfl rfl <| gfa rfl rfl <| gyesl rfl <| m_ld (v := .int .i64 b.st) hM3 (i := 0) (j := 0) rfl rfl rfl rfl <| stg rfl (v := .int .i64 (64 * b.st)) (o_bin rfl rfl (v_mul64 (by omega))) <| gbn rfl rfl rfl <| pkF rfl <| h5 _ _ <| cndP rfl (fun c14 => ?_) (fun c14 => ?_)
 ·refine seq fun _ h15 => mv <| h15 _ _ <| ⟨(.bool false), rfl, ⟨bool_no (by unfold blkOk; omega), hM3.upd⟩⟩
 refine h4 _ _ <| seq fun _ h16 => fa rfl <| m_ld (v := .int .i64 b.ct) hM3 (i := 0) (j := 0) rfl rfl rfl rfl <| bn rfl rfl <| mv <| splitP rfl (fun c17 => ?_) (fun c17 => ?_)
 ·refine gfa rfl rfl <| gyesl rfl <| m_ld (v := .int .i64 b.ct) hM3 (i := 0) (j := 0) rfl rfl rfl rfl <| gfa rfl rfl <| gyesl rfl <| m_ld (v := .int .i64 b.ra) hM3 (i := 0) (j := 0) rfl rfl rfl rfl <| gbn rfl rfl rfl <| pkT rfl <| mv <| splitP rfl (fun c18 => ?_) (fun c18 => ?_)
  ·refine gfa rfl rfl <| gyesl rfl <| m_ld (v := .string (str b.cut)) hM3 (i := 0) (j := 0) rfl rfl rfl rfl <| stg rfl (v := .int .i64 (b.cut.length : Nat)) (o_lens rfl rfl) <| gbn rfl rfl rfl <| pkT rfl <| mv <| h16 _ _ <| ⟨(.bool (decide (((b.cut.length : Nat) : Int) ≤ 64))), rfl, ⟨bool_iff (by unfold blkOk; omega), hM3.upd⟩⟩
  refine gx rfl <| gxl rfl <| gx rfl <| gx rfl <| pkF rfl <| mv <| h16 _ _ <| ⟨(.bool false), rfl, ⟨bool_no (by unfold blkOk; omega), hM3.upd⟩⟩
 refine gx rfl <| gxl rfl <| gx rfl <| gxl rfl <| gx rfl <| pkF rfl <| mv <| splitF rfl <| gx rfl <| gxl rfl <| gx rfl <| gx rfl <| pkF rfl <| mv <| h16 _ _ <| ⟨(.bool false), rfl, ⟨bool_no (by unfold blkOk; omega), hM3.upd⟩⟩
