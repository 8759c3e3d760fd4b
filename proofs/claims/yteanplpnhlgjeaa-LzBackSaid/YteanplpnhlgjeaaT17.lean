/- LzEncodes: the law's walk. -/
import Derived.Test.YteanplpnhlgjeaaT11
import Derived.Test.YteanplpnhlgjeaaT16
namespace Go.Proofs.Yteanplpnhlgjeaa.E
open Go

attribute [local irreducible] vr in
set_option maxHeartbeats 4000000 in
/-- winnowlaw3.LzEncodes -/
theorem LzEncodes_ok (x : Value) (b : List UInt8) (w : World) (hx : RdE byteV w x b) (hl : b.length ≤ 140737488351232) : Calls Try.prog 5 [x].toArray w (Rt fun r w' => r = .bool true ∧ Upd [] w w') := by
  have hM0 : Mem w [] w [] := Mem.nil w []
  refine calls_vc mixed Try.func5 rfl C5 (by simp [Try.ntmps5]) ?_
  refine seq fun K1 h1 => ?_
  refine stp (v := .bool false) (o_mv rfl) ?_
  refine vnil ?_
  refine h1 _ _ ?_
  clear h1
  refine seq fun K2 h2 => ?_
  refine stp (v := x) (o_mv rfl) ?_
  refine m_call (refEncode_ok _ b w (hx.upd hM0.upd) (by first | omega | (simp; done) | (simp; omega))) rfl fun v3 w3 ⟨y3, rs3, hr3, hs3, hm3⟩ => ?_
  have hM3 : Mem w [] w3 [rs3] := hM0.add hm3
  subst hr3
  have hle3 := enc_len (T := b)
  refine stp (v := .tuple [y3, .int .i64 ((encF b).2)].toArray) (o_mv rfl) ?_
  refine stp (v := y3) (o_ext rfl rfl) ?_
  refine stp (v := .int .i64 ((encF b).2)) (o_ext rfl rfl) ?_
  refine stp (v := y3) (o_mv rfl) ?_
  refine stp (v := .int .i64 ((encF b).2)) (o_mv rfl) ?_
  refine vnil ?_
  refine h2 _ _ ?_
  clear h2
  refine seq fun K4 h4 => ?_
  refine stp (v := x) (o_mv rfl) ?_
  refine m_call (roomy_ok _ b w3 (hx.upd hM3.upd) (by first | omega | (simp; done) | (simp; omega))) rfl fun v5 w5 ⟨bg5, cp5, rs5, hr5, hs5, hcp5, hm5⟩ => ?_
  have hM5 : Mem w [] w5 [rs3, rs5] := hM3.add hm5
  subst hr5
  refine stp (v := (.slice (some ⟨bg5, 0, none⟩) b.length cp5)) (o_mv rfl) ?_
  refine vnil ?_
  refine h4 _ _ ?_
  clear h4
  refine seq fun K6 h6 => ?_
  refine stp (v := (.slice (some ⟨bg5, 0, none⟩) b.length cp5)) (o_mv rfl) ?_
  refine m_call (Encode_ok _ b w5 (hs5.cutTo.rd hM5 (i := 1) rfl) (by first | omega | (simp; done) | (simp; omega))) rfl fun v7 w7 ⟨y7, rs7, hr7, hs7, hm7⟩ => ?_
  have hM7 : Mem w [] w7 [rs3, rs5, rs7] := hM5.add hm7
  subst hr7
  have hle7 := enc_len (T := b)
  refine stp (v := .tuple [y7, .int .i64 ((encF b).2)].toArray) (o_mv rfl) ?_
  refine stp (v := y7) (o_ext rfl rfl) ?_
  refine stp (v := .int .i64 ((encF b).2)) (o_ext rfl rfl) ?_
  refine stp (v := y7) (o_mv rfl) ?_
  refine stp (v := .int .i64 ((encF b).2)) (o_mv rfl) ?_
  refine vnil ?_
  refine h6 _ _ ?_
  clear h6
  refine seq fun K8 h8 => ?_
  refine stp (v := (.slice (some ⟨bg5, 0, none⟩) b.length cp5)) (o_mv rfl) ?_
  refine m_call (Encode_ok _ b w7 (hs5.cutTo.rd hM7 (i := 1) rfl) (by first | omega | (simp; done) | (simp; omega))) rfl fun v9 w9 ⟨y9, rs9, hr9, hs9, hm9⟩ => ?_
  have hM9 : Mem w [] w9 [rs3, rs5, rs7, rs9] := hM7.add hm9
  subst hr9
  have hle9 := enc_len (T := b)
  refine stp (v := .tuple [y9, .int .i64 ((encF b).2)].toArray) (o_mv rfl) ?_
  refine stp (v := y9) (o_ext rfl rfl) ?_
  refine stp (v := .int .i64 ((encF b).2)) (o_ext rfl rfl) ?_
  refine stp (v := y9) (o_mv rfl) ?_
  refine stp (v := .int .i64 ((encF b).2)) (o_mv rfl) ?_
  refine vnil ?_
  refine h8 _ _ ?_
  clear h8
  refine seq fun K10 h10 => ?_
  refine m_bsL (E := byteV) [97, 110, 111, 116, 104, 101, 114, 32, 113, 117, 101, 115, 116, 105, 111, 110, 44, 32, 97, 110, 111, 116, 104, 101, 114, 32, 97, 110, 115, 119, 101, 114, 44, 32, 97, 110, 111, 116, 104, 101, 114, 32, 113, 117, 101, 115, 116, 105, 111, 110] hM9 rfl rfl (fun _ => rfl) rfl fun L11 v11 w11 r11 hL11 hs11 (hM11 : Mem w [] w11 [rs3, rs5, rs7, rs9, r11]) => ?_
  have hl11 : L11.length = 50 := by rw [hL11]; rfl
  refine m_markE hM11 (i := 4) rfl hs11 (by omega) Try.underlying25 Try.underlying5 rfl fun w12 (hM12 : Mem w [] w12 [rs3, rs5, rs7, rs9, r11]) => ?_
  refine m_call (Encode_ok _ L11 w12 (hs11.rd hM12 (i := 4) rfl) (by first | omega | (simp; done) | (simp; omega))) rfl fun v13 w13 ⟨y13, rs13, hr13, hs13, hm13⟩ => ?_
  have hM13 : Mem w [] w13 [rs3, rs5, rs7, rs9, r11, rs13] := hM12.add hm13
  subst hr13
  have hle13 := enc_len (T := L11)
  refine vnil ?_
  refine h10 _ _ ?_
  clear h10
  refine seq fun K14 h14 => ?_
  refine stp (v := .int .i64 ((encF b).2)) (o_mv rfl) ?_
  refine stp (v := .int .i64 ((encF b).2)) (o_mv rfl) ?_
  refine stp (v := .bool true) (o_bin rfl rfl v_eqT) ?_
  refine stp (v := .bool true) (o_mv rfl) ?_
  refine splitT rfl ?_
  refine stg rfl (v := .int .i64 ((encF b).2)) (o_mv rfl) ?_
  refine stg rfl (v := .int .i64 ((encF b).2)) (o_mv rfl) ?_
  refine stg rfl (v := .bool true) (o_bin rfl rfl v_eqT) ?_
  refine stp (v := .bool true) (o_pickT rfl rfl) ?_
  refine stp (v := .bool true) (o_mv rfl) ?_
  refine splitT rfl ?_
  refine stg rfl (v := y7) (o_mv rfl) ?_
  refine stg rfl (v := y3) (o_mv rfl) ?_
  refine gyesl rfl ?_
  refine m_call (sameBytes_ok _ _ ((encF b).1) ((encF b).1) w13 (hs7.rd hM13 (i := 2) rfl) (hs3.rd hM13 (i := 0) rfl) (by first | omega | (simp; done) | (simp; omega))) rfl fun v15 w15 ⟨hr15, hu15⟩ => ?_
  have hM15 : Mem w [] w15 [rs3, rs5, rs7, rs9, r11, rs13] := hM13.pure hu15
  obtain rfl : v15 = .bool true := hr15.trans (by simp)
  clear hr15
  refine stp (v := .bool true) (o_pickT rfl rfl) ?_
  refine stp (v := .bool true) (o_mv rfl) ?_
  refine splitT rfl ?_
  refine stg rfl (v := y9) (o_mv rfl) ?_
  refine stg rfl (v := y3) (o_mv rfl) ?_
  refine gyesl rfl ?_
  refine m_call (sameBytes_ok _ _ ((encF b).1) ((encF b).1) w15 (hs9.rd hM15 (i := 3) rfl) (hs3.rd hM15 (i := 0) rfl) (by first | omega | (simp; done) | (simp; omega))) rfl fun v16 w16 ⟨hr16, hu16⟩ => ?_
  have hM16 : Mem w [] w16 [rs3, rs5, rs7, rs9, r11, rs13] := hM15.pure hu16
  obtain rfl : v16 = .bool true := hr16.trans (by simp)
  clear hr16
  refine stp (v := .bool true) (o_pickT rfl rfl) ?_
  refine stp (v := .bool true) (o_mv rfl) ?_
  refine splitT rfl ?_
  refine stg rfl (v := (.slice (some ⟨bg5, 0, none⟩) b.length cp5)) (o_mv rfl) ?_
  refine stg rfl (v := x) (o_mv rfl) ?_
  refine gyesl rfl ?_
  refine m_call (kept_in bg5 cp5 _ b _ w16 (hs5.rd hM16 (i := 1) rfl) (hs5.cutTo.rd hM16 (i := 1) rfl) hcp5 (hx.upd hM16.upd) rfl (by omega)) rfl fun v17 w17 ⟨hr17, hu17⟩ => ?_
  have hM17 : Mem w [] w17 [rs3, rs5, rs7, rs9, r11, rs13] := hM16.pure hu17
  subst hr17
  refine stp (v := .bool true) (o_pickT rfl rfl) ?_
  refine stp (v := .bool true) (o_mv rfl) ?_
  refine vnil ?_
  refine h14 _ _ ?_
  clear h14
  refine seq fun K18 h18 => ?_
  refine seq fun K19 h19 => ?_
  refine stp (v := .int .i64 0) (o_mv rfl) ?_
  refine vnil ?_
  refine h19 _ _ ?_
  clear h19
  refine lp (n := fun _ _ => False) (ι := (Nat) × (List UInt8) × (Value) × (List Ent)) (fun ⟨i, la, y6_, r6_⟩ f w' => f 6 = y6_ ∧ f 11 = .int .i64 (i : Nat) ∧ f 0 = x ∧ f 3 = y3 ∧ f 5 = (.slice (some ⟨bg5, 0, none⟩) b.length cp5) ∧ f 8 = y9 ∧ f 10 = .bool true ∧ Mem w [] w' [rs3, rs5, r6_, rs9, r11, rs13] ∧ (la.length = (encF b).1.length) ∧ (i ≤ la.length) ∧ (SlE byteV 5 y6_ (la) r6_)) (fun ⟨i, la, y6_, r6_⟩ => (encF b).1.length - i) (0, (encF b).1, y7, rs7) ?_ ?_
  · exact ⟨rfl, by first | rfl | exact v_int (by omega) | exact v_int (by simp) | exact v_int (by simp; omega), rfl, rfl, rfl, rfl, rfl, hM17, rfl, by omega, by first | exact hs7 | simpa using hs7⟩
  · rintro ⟨i, la, y6_, r6_⟩ f w20 ⟨e20_6, e20_11, e20_0, e20_3, e20_5, e20_8, e20_10, hM20, hla, hi, hy6_⟩ K21 h21
    obtain ⟨frm, rfl⟩ : ∃ frm, f = (upd (upd (upd (upd (upd (upd (upd frm 6 (y6_)) 11 (.int .i64 (i : Nat))) 0 (x)) 3 (y3)) 5 ((.slice (some ⟨bg5, 0, none⟩) b.length cp5))) 8 (y9)) 10 (.bool true)) := ⟨f, by rw [upd_self e20_6, upd_self e20_11, upd_self e20_0, upd_self e20_3, upd_self e20_5, upd_self e20_8, upd_self e20_10]⟩
    clear e20_6 e20_11 e20_0 e20_3 e20_5 e20_8 e20_10
    refine seq fun K22 h22 => ?_
    refine seq fun K23 h23 => ?_
    refine stp (v := .int .i64 (i : Nat)) (o_mv rfl) ?_
    refine stp (v := y6_) (o_mv rfl) ?_
    refine stp (v := .int .i64 (la.length : Nat)) (o_lenR (hy6_.rd hM20 (i := 2) rfl) rfl rfl) ?_
    refine stp (v := .bool (decide (((i : Nat) : Int) < (la.length : Nat)))) (o_bin rfl rfl rfl) ?_
    refine vnil ?_
    refine h23 _ _ ?_
    clear h23
    refine cndP rfl (fun c24 => ?_) (fun c24 => ?_)
    ·
      refine h22 _ _ ?_
      clear h22
      refine seq fun K25 h25 => ?_
      refine stp (v := y6_) (o_mv rfl) ?_
      refine stp (v := .int .i64 (i : Nat)) (o_mv rfl) ?_
      refine m_set (E := byteV) (q := 7) (j := i) hM20 (i := 2) rfl hy6_ rfl rfl (by omega) (by simp) (rfl) fun w26 r26 u26 he26 hs26 (hM26 : Mem w [] w26 [rs3, rs5, r26, rs9, r11, rs13]) => ?_
      refine vnil ?_
      refine h25 _ _ ?_
      clear h25
      refine stp (v := .int .i64 (i : Nat)) (o_mv rfl) ?_
      refine stp (v := .int .i64 ((i : Nat) + 1)) (o_bin rfl rfl (v_add64 (by constructor <;> omega))) ?_
      refine stp (v := .int .i64 ((i : Nat) + 1)) (o_mv rfl) ?_
      refine vnil ?_
      refine h21 (i + 1, (la.set i 7), y6_, r26) _ _ ⟨rfl, by first | rfl | exact v_int (by omega) | exact v_int (by simp) | exact v_int (by simp; omega), rfl, rfl, rfl, rfl, rfl, hM26, by rw [List.length_set]; exact hla, by rw [List.length_set]; omega, by first | exact hs26 | simpa using hs26⟩ (by dsimp only; omega)
    ·
      refine h18 _ _ ?_
      clear h18
      refine seq fun K27 h27 => ?_
      refine seq fun K28 h28 => ?_
      refine stp (v := .int .i64 0) (o_mv rfl) ?_
      refine vnil ?_
      refine h28 _ _ ?_
      clear h28
      refine lp (n := fun _ _ => False) (ι := (Nat) × (List UInt8) × (Value) × (List Ent)) (fun ⟨i, lb, y6_, r6_⟩ f w' => f 6 = y6_ ∧ f 12 = .int .i64 (i : Nat) ∧ f 0 = x ∧ f 3 = y3 ∧ f 5 = (.slice (some ⟨bg5, 0, none⟩) b.length cp5) ∧ f 8 = y9 ∧ f 10 = .bool true ∧ Mem w [] w' [rs3, rs5, r6_, rs9, r11, rs13] ∧ (lb.length = (encF b).1.length + i) ∧ (i ≤ 64) ∧ (SlE byteV 5 y6_ (lb) r6_)) (fun ⟨i, lb, y6_, r6_⟩ => 64 - i) (0, la, y6_, r6_) ?_ ?_
      · exact ⟨rfl, by first | rfl | exact v_int (by omega) | exact v_int (by simp) | exact v_int (by simp; omega), rfl, rfl, rfl, rfl, rfl, hM20, by omega, by omega, by first | exact hy6_ | simpa using hy6_⟩
      · rintro ⟨i, lb, y6_, r6_⟩ f w29 ⟨e29_6, e29_12, e29_0, e29_3, e29_5, e29_8, e29_10, hM29, hlb, hi, hy6_⟩ K30 h30
        obtain ⟨frm, rfl⟩ : ∃ frm, f = (upd (upd (upd (upd (upd (upd (upd frm 6 (y6_)) 12 (.int .i64 (i : Nat))) 0 (x)) 3 (y3)) 5 ((.slice (some ⟨bg5, 0, none⟩) b.length cp5))) 8 (y9)) 10 (.bool true)) := ⟨f, by rw [upd_self e29_6, upd_self e29_12, upd_self e29_0, upd_self e29_3, upd_self e29_5, upd_self e29_8, upd_self e29_10]⟩
        clear e29_6 e29_12 e29_0 e29_3 e29_5 e29_8 e29_10
        refine seq fun K31 h31 => ?_
        refine seq fun K32 h32 => ?_
        refine stp (v := .int .i64 (i : Nat)) (o_mv rfl) ?_
        refine stp (v := .bool (decide (((i : Nat) : Int) < 64))) (o_bin rfl rfl rfl) ?_
        refine vnil ?_
        refine h32 _ _ ?_
        clear h32
        refine cndP rfl (fun c33 => ?_) (fun c33 => ?_)
        ·
          refine h31 _ _ ?_
          clear h31
          refine seq fun K34 h34 => ?_
          refine stp (v := y6_) (o_mv rfl) ?_
          refine m_app1 (E := byteV) (q := 8) hM29 (i := 2) rfl hy6_ rfl (by simp) (rfl) (by omega) (by omega) fun v35 w35 r35 u35 (hs35 : SlE byteV 5 v35 (lb ++ [8]) r35) (hM35 : Mem w [] w35 [rs3, rs5, r35, rs9, r11, rs13]) => ?_
          refine stp (v := v35) (o_mv rfl) ?_
          refine vnil ?_
          refine h34 _ _ ?_
          clear h34
          refine stp (v := .int .i64 (i : Nat)) (o_mv rfl) ?_
          refine stp (v := .int .i64 ((i : Nat) + 1)) (o_bin rfl rfl (v_add64 (by constructor <;> omega))) ?_
          refine stp (v := .int .i64 ((i : Nat) + 1)) (o_mv rfl) ?_
          refine vnil ?_
          refine h30 (i + 1, (lb ++ [8]), v35, r35) _ _ ⟨rfl, by first | rfl | exact v_int (by omega) | exact v_int (by simp) | exact v_int (by simp; omega), rfl, rfl, rfl, rfl, rfl, hM35, by rw [List.length_append, List.length_singleton]; omega, by omega, by first | exact hs35 | simpa using hs35⟩ (by dsimp only; omega)
        ·
          refine h27 _ _ ?_
          clear h27
          refine seq fun K36 h36 => ?_
          refine stp (v := .bool true) (o_mv rfl) ?_
          refine stp (v := .bool true) (o_mv rfl) ?_
          refine splitT rfl ?_
          refine stg rfl (v := y9) (o_mv rfl) ?_
          refine stg rfl (v := y3) (o_mv rfl) ?_
          refine gyesl rfl ?_
          refine m_call (sameBytes_ok _ _ ((encF b).1) ((encF b).1) w29 (hs9.rd hM29 (i := 3) rfl) (hs3.rd hM29 (i := 0) rfl) (by first | omega | (simp; done) | (simp; omega))) rfl fun v37 w37 ⟨hr37, hu37⟩ => ?_
          have hM37 : Mem w [] w37 [rs3, rs5, r6_, rs9, r11, rs13] := hM29.pure hu37
          obtain rfl : v37 = .bool true := hr37.trans (by simp)
          clear hr37
          refine stp (v := .bool true) (o_pickT rfl rfl) ?_
          refine stp (v := .bool true) (o_mv rfl) ?_
          refine splitT rfl ?_
          refine stg rfl (v := y6_) (o_mv rfl) ?_
          refine stg rfl (v := .int .i64 (lb.length : Nat)) (o_lenR (hy6_.rd hM37 (i := 2) rfl) rfl rfl) ?_
          refine stg rfl (v := y3) (o_mv rfl) ?_
          refine stg rfl (v := .int .i64 (((encF b).1).length : Nat)) (o_lenR (hs3.rd hM37 (i := 0) rfl) rfl rfl) ?_
          refine stg rfl (v := .int .i64 ((((encF b).1).length : Nat) + 64)) (o_bin rfl rfl (v_add64 (by constructor <;> omega))) ?_
          refine stg rfl (v := .bool (decide (((lb.length : Nat) : Int) = ((((encF b).1).length : Nat) + 64)))) (o_bin rfl rfl rfl) ?_
          refine stp (v := .bool (decide (((lb.length : Nat) : Int) = ((((encF b).1).length : Nat) + 64)))) (o_pickT rfl rfl) ?_
          refine stp (v := .bool (decide (((lb.length : Nat) : Int) = ((((encF b).1).length : Nat) + 64)))) (o_mv rfl) ?_
          refine splitP rfl (fun c38 => ?_) (fun c38 => (c38 (by omega)).elim)
          refine stg rfl (v := (.slice (some ⟨bg5, 0, none⟩) b.length cp5)) (o_mv rfl) ?_
          refine stg rfl (v := x) (o_mv rfl) ?_
          refine gyesl rfl ?_
          refine m_call (kept_in bg5 cp5 _ b _ w37 (hs5.rd hM37 (i := 1) rfl) (hs5.cutTo.rd hM37 (i := 1) rfl) hcp5 (hx.upd hM37.upd) rfl (by omega)) rfl fun v39 w39 ⟨hr39, hu39⟩ => ?_
          have hM39 : Mem w [] w39 [rs3, rs5, r6_, rs9, r11, rs13] := hM37.pure hu39
          subst hr39
          refine stp (v := .bool true) (o_pickT rfl rfl) ?_
          refine stp (v := .bool true) (o_mv rfl) ?_
          refine vnil ?_
          refine h36 _ _ ?_
          clear h36
          refine seq fun K40 h40 => ?_
          refine stp (v := (.slice (some ⟨bg5, 0, none⟩) b.length cp5)) (o_mv rfl) ?_
          refine m_call (Encode_ok _ b w39 (hs5.cutTo.rd hM39 (i := 1) rfl) (by first | omega | (simp; done) | (simp; omega))) rfl fun v41 w41 ⟨y41, rs41, hr41, hs41, hm41⟩ => ?_
          have hM41 : Mem w [] w41 [rs3, rs5, r6_, rs9, r11, rs13, rs41] := hM39.add hm41
          subst hr41
          have hle41 := enc_len (T := b)
          refine vnil ?_
          refine h40 _ _ ?_
          clear h40
          refine seq fun K42 h42 => ?_
          refine stp (v := (.slice (some ⟨bg5, 0, none⟩) b.length cp5)) (o_mv rfl) ?_
          refine m_call (turned_ok _ b rs5 w41 hs5.cutTo (hM41.res (i := 1) rfl) (by omega)) rfl fun v43 w43 ⟨r'43, rs43, hx43, hs43, hm43⟩ => ?_
          have hM43 : Mem w [] w43 [rs3, r'43, r6_, rs9, r11, rs13, rs41, rs43] := hM41.stepAdd 1 rfl hm43
          have hlt43 := turnP_len b
          refine stp (v := v43) (o_mv rfl) ?_
          refine vnil ?_
          refine h42 _ _ ?_
          clear h42
          refine seq fun K44 h44 => ?_
          refine stp (v := v43) (o_mv rfl) ?_
          refine m_call (refEncode_ok _ (turnP b) w43 (hs43.rd hM43 (i := 7) rfl) (by first | omega | (simp; done) | (simp; omega))) rfl fun v45 w45 ⟨y45, rs45, hr45, hs45, hm45⟩ => ?_
          have hM45 : Mem w [] w45 [rs3, r'43, r6_, rs9, r11, rs13, rs41, rs43, rs45] := hM43.add hm45
          subst hr45
          have hle45 := enc_len (T := (turnP b))
          refine stp (v := .tuple [y45, .int .i64 ((encF (turnP b)).2)].toArray) (o_mv rfl) ?_
          refine stp (v := y45) (o_ext rfl rfl) ?_
          refine stp (v := .int .i64 ((encF (turnP b)).2)) (o_ext rfl rfl) ?_
          refine stp (v := y45) (o_mv rfl) ?_
          refine stp (v := .int .i64 ((encF (turnP b)).2)) (o_mv rfl) ?_
          refine vnil ?_
          refine h44 _ _ ?_
          clear h44
          refine seq fun K46 h46 => ?_
          refine stp (v := (.slice (some ⟨bg5, 0, none⟩) b.length cp5)) (o_mv rfl) ?_
          refine m_call (Encode_ok _ (turnP b) w45 (hx43.rd hM45 (i := 1) rfl) (by first | omega | (simp; done) | (simp; omega))) rfl fun v47 w47 ⟨y47, rs47, hr47, hs47, hm47⟩ => ?_
          have hM47 : Mem w [] w47 [rs3, r'43, r6_, rs9, r11, rs13, rs41, rs43, rs45, rs47] := hM45.add hm47
          subst hr47
          have hle47 := enc_len (T := (turnP b))
          refine stp (v := .tuple [y47, .int .i64 ((encF (turnP b)).2)].toArray) (o_mv rfl) ?_
          refine stp (v := y47) (o_ext rfl rfl) ?_
          refine stp (v := .int .i64 ((encF (turnP b)).2)) (o_ext rfl rfl) ?_
          refine stp (v := y47) (o_mv rfl) ?_
          refine stp (v := .int .i64 ((encF (turnP b)).2)) (o_mv rfl) ?_
          refine vnil ?_
          refine h46 _ _ ?_
          clear h46
          refine seq fun K48 h48 => ?_
          refine stp (v := .bool true) (o_mv rfl) ?_
          refine stp (v := .bool true) (o_mv rfl) ?_
          refine splitT rfl ?_
          refine stg rfl (v := .int .i64 ((encF (turnP b)).2)) (o_mv rfl) ?_
          refine stg rfl (v := .int .i64 ((encF (turnP b)).2)) (o_mv rfl) ?_
          refine stg rfl (v := .bool true) (o_bin rfl rfl v_eqT) ?_
          refine stp (v := .bool true) (o_pickT rfl rfl) ?_
          refine stp (v := .bool true) (o_mv rfl) ?_
          refine splitT rfl ?_
          refine stg rfl (v := y47) (o_mv rfl) ?_
          refine stg rfl (v := y45) (o_mv rfl) ?_
          refine gyesl rfl ?_
          refine m_call (sameBytes_ok _ _ ((encF (turnP b)).1) ((encF (turnP b)).1) w47 (hs47.rd hM47 (i := 9) rfl) (hs45.rd hM47 (i := 8) rfl) (by first | omega | (simp; done) | (simp; omega))) rfl fun v49 w49 ⟨hr49, hu49⟩ => ?_
          have hM49 : Mem w [] w49 [rs3, r'43, r6_, rs9, r11, rs13, rs41, rs43, rs45, rs47] := hM47.pure hu49
          obtain rfl : v49 = .bool true := hr49.trans (by simp)
          clear hr49
          refine stp (v := .bool true) (o_pickT rfl rfl) ?_
          refine stp (v := .bool true) (o_mv rfl) ?_
          refine vnil ?_
          refine h48 _ _ ?_
          clear h48
          refine ⟨(.bool true), rfl, ?_⟩
          exact ⟨by first | rfl | simp, hM49.upd⟩
