/- LzTokens: the law's walk. -/
import Derived.Test.YteanplpnhlgjeaaT3
import Derived.Test.YteanplpnhlgjeaaT6
namespace Go.Proofs.Yteanplpnhlgjeaa.E
open Go
theorem kept_us {us : List Tk} {r : List Ent} {w0 w : World} {S : List Nat} {R : List (List Ent)} {i j : Nat} {y : Value} {m : List UInt8} (h : Nst RmB us r) (hM : Mem w0 S w R) (hi : R[i]? = some r) (hj : j < us.length) (he : (us.getD j tz).bs = m) (hy : RdE byteV w y m) (hl : (us.getD j tz).bs.length ≤ 140737488355328) : Calls Try.prog 21 [(us.getD j tz).lit, y].toArray w (Rt fun r w' => r = .bool true ∧ Upd [] w w') := by
  have hm := getD_memG tz hj
  obtain ⟨b, h1, h2, h3, h4⟩ := h.rm hM hi hm
  have h5 := (h.mono fun _ _ => RmB.own).rdE hM hi _ hm
  have e : (us.getD j tz).lit = .slice (some ⟨b, 0, none⟩) (us.getD j tz).bs.length (us.getD j tz).cp := by
    show Value.slice _ _ _ = _
    rw [h1, h2]
  rw [e] at h5 ⊢
  exact kept_in b _ _ m y w h4 h5 h3 hy he hl
def k77 : Tk := ⟨none, 0, 0, [], -77, 0⟩
theorem at_77 {us : List Tk} {n : Nat} (h : us.length = n) : (us ++ [(⟨none, 0, 0, [], (-77), 0⟩ : Tk)]).getD n tz = k77 := by
  subst h; rw [appG2 tz (Nat.le_refl _), Nat.sub_self]; rfl
theorem rd_77 {us : List Tk} {n : Nat} {w : World} (h : us.length = n) : RdE byteV w ((us ++ [(⟨none, 0, 0, [], (-77), 0⟩ : Tk)]).getD n tz).lit ((us ++ [(⟨none, 0, 0, [], (-77), 0⟩ : Tk)]).getD n tz).bs := by rw [at_77 h]; exact Rd.nilE byteV w

set_option maxRecDepth 100000 in
/-- winnowlaw3.LzTokens -/
theorem LzTokens_ok (x : Value) (ts : List Tk) (w : World) (hx : RdS tokC w x ts) (hts : ∀ t ∈ ts, t.ok w) (hl : ts.length * 40 ≤ 140737488351232) : Calls Try.prog 4 [x].toArray w (Rt fun r w' => r = .bool true ∧ Upd [] w w') := by
  have hM0 : Mem w [] w [] := Mem.nil w []
  refine calls_vc mixed Try.func4 rfl C4 (by simp [Try.ntmps4]) ?_
  refine seq fun K1 h1 => ?_
  refine stp (v := .bool false) (o_mv rfl) ?_
  refine h1 _ _ ?_
  clear h1
  refine seq fun K2 h2 => ?_
  refine stp (v := x) (o_mv rfl) ?_
  refine m_call (refExpand_ok _ ts w (hx.upd hM0.upd) ((fun t ht => ⟨(hts t ht).1.upd hM0.upd, (hts t ht).2⟩ : ∀ t ∈ ts, Tk.ok w t)) (by first | omega | (simp; done) | (simp; omega))) rfl fun v3 w3 ⟨y3, rs3, hr3, hs3, hm3⟩ => ?_
  have hM3 : Mem w [] w3 [rs3] := hM0.add hm3
  subst hr3
  have hln3 := expF_len (List.map Tk.p ts)
  refine stp (v := .tuple [y3, .int .i64 ((expF (List.map Tk.p ts)).2)].toArray) (o_mv rfl) ?_
  refine stp (v := y3) (o_ext rfl rfl) ?_
  refine stp (v := .int .i64 ((expF (List.map Tk.p ts)).2)) (o_ext rfl rfl) ?_
  refine stp (v := y3) (o_mv rfl) ?_
  refine stp (v := .int .i64 ((expF (List.map Tk.p ts)).2)) (o_mv rfl) ?_
  refine h2 _ _ ?_
  clear h2
  refine seq fun K4 h4 => ?_
  refine stp (v := x) (o_mv rfl) ?_
  refine m_call (refWrite_ok _ ts w3 (hx.upd hM3.upd) ((fun t ht => ⟨(hts t ht).1.upd hM3.upd, (hts t ht).2⟩ : ∀ t ∈ ts, Tk.ok w3 t)) (by first | omega | (simp; done) | (simp; omega))) rfl fun v5 w5 ⟨y5, rs5, hr5, hs5, hm5⟩ => ?_
  have hM5 : Mem w [] w5 [rs3, rs5] := hM3.add hm5
  subst hr5
  have hln5 := wrF_len (List.map Tk.p ts)
  refine stp (v := .tuple [y5, .int .i64 ((wrF (List.map Tk.p ts)).2)].toArray) (o_mv rfl) ?_
  refine stp (v := y5) (o_ext rfl rfl) ?_
  refine stp (v := .int .i64 ((wrF (List.map Tk.p ts)).2)) (o_ext rfl rfl) ?_
  refine stp (v := y5) (o_mv rfl) ?_
  refine stp (v := .int .i64 ((wrF (List.map Tk.p ts)).2)) (o_mv rfl) ?_
  refine h4 _ _ ?_
  clear h4
  refine seq fun K6 h6 => ?_
  refine stp (v := x) (o_mv rfl) ?_
  refine m_call (copied_ok _ ts w5 (hx.upd hM5.upd) ((fun t ht => ⟨(hts t ht).1.upd hM5.upd, (hts t ht).2⟩ : ∀ t ∈ ts, Tk.ok w5 t)) (by first | omega | (simp; done) | (simp; omega))) rfl fun v7 w7 ⟨us7, rA7, rB7, hs7, hn7, hp7, hm7⟩ => ?_
  have hM7 : Mem w [] w7 [rs3, rs5, rA7, rB7] := hM5.add2 hm7
  have hlu7 := len_us hp7
  refine stp (v := .agg ([.slice none 0 0, .int .i64 (-77), .int .i64 0] : List Value).toArray) (o_bld rfl rfl) ?_
  refine m_app1S (enc := tokC) (q := (⟨none, 0, 0, [], -77, 0⟩ : Tk)) hM7 (i := 2) rfl hs7 rfl (by simp) (rfl) rfl (by first | omega | (simp; omega)) (by omega) fun v8 w8 r8 u8 (hs8 : SlS tokC 3 31 v8 (us7 ++ [(⟨none, 0, 0, [], -77, 0⟩ : Tk)]) r8) (hM8 : Mem w [] w8 [rs3, rs5, r8, rB7]) => ?_
  refine stp (v := v8) (o_mv rfl) ?_
  refine h6 _ _ ?_
  clear h6
  refine seq fun K9 h9 => ?_
  refine stp (v := v8) (o_mv rfl) ?_
  refine stp (v := x) (o_mv rfl) ?_
  refine stp (v := .int .i64 (ts.length : Nat)) (o_lenR (hx.upd hM8.upd) rfl rfl) ?_
  refine m_slcOS ts.length (hs8) rfl (by first | omega | (simp; omega)) (⟨_, rfl⟩) trivial fun u10 hu10 => ?_
  have hu10' := SlS.eqL (m := us7) hu10 (List.take_left' hlu7)
  refine stp (v := u10) (o_mv rfl) ?_
  refine h9 _ _ ?_
  clear h9
  refine seq fun K11 h11 => ?_
  refine stp (v := u10) (o_mv rfl) ?_
  refine m_call (Expand_ok _ us7 w8 (hu10'.rd hM8 (i := 2) rfl) ((ok_us (w := w8) hp7 ((fun t ht => ⟨(hts t ht).1.upd hM8.upd, (hts t ht).2⟩ : ∀ t ∈ ts, Tk.ok w8 t)) ((hn7.mono fun _ _ => RmB.own).rdE hM8 (i := 3) rfl) : ∀ t ∈ us7, Tk.ok w8 t)) (by first | omega | (simp; done) | (simp; omega))) rfl fun v12 w12 ⟨y12, rs12, hr12, hs12, hm12⟩ => ?_
  have hM12 : Mem w [] w12 [rs3, rs5, r8, rB7, rs12] := hM8.add hm12
  rw [hp7] at hr12 hs12
  subst hr12
  have hln12 := expF_len (List.map Tk.p ts)
  refine stp (v := .tuple [y12, .int .i64 ((expF (List.map Tk.p ts)).2)].toArray) (o_mv rfl) ?_
  refine stp (v := y12) (o_ext rfl rfl) ?_
  refine stp (v := .int .i64 ((expF (List.map Tk.p ts)).2)) (o_ext rfl rfl) ?_
  refine stp (v := y12) (o_mv rfl) ?_
  refine stp (v := .int .i64 ((expF (List.map Tk.p ts)).2)) (o_mv rfl) ?_
  refine h11 _ _ ?_
  clear h11
  refine seq fun K13 h13 => ?_
  refine stp (v := u10) (o_mv rfl) ?_
  refine m_call (Expand_ok _ us7 w12 (hu10'.rd hM12 (i := 2) rfl) ((ok_us (w := w12) hp7 ((fun t ht => ⟨(hts t ht).1.upd hM12.upd, (hts t ht).2⟩ : ∀ t ∈ ts, Tk.ok w12 t)) ((hn7.mono fun _ _ => RmB.own).rdE hM12 (i := 3) rfl) : ∀ t ∈ us7, Tk.ok w12 t)) (by first | omega | (simp; done) | (simp; omega))) rfl fun v14 w14 ⟨y14, rs14, hr14, hs14, hm14⟩ => ?_
  have hM14 : Mem w [] w14 [rs3, rs5, r8, rB7, rs12, rs14] := hM12.add hm14
  rw [hp7] at hr14 hs14
  subst hr14
  have hln14 := expF_len (List.map Tk.p ts)
  refine stp (v := .tuple [y14, .int .i64 ((expF (List.map Tk.p ts)).2)].toArray) (o_mv rfl) ?_
  refine stp (v := y14) (o_ext rfl rfl) ?_
  refine stp (v := .int .i64 ((expF (List.map Tk.p ts)).2)) (o_ext rfl rfl) ?_
  refine stp (v := y14) (o_mv rfl) ?_
  refine stp (v := .int .i64 ((expF (List.map Tk.p ts)).2)) (o_mv rfl) ?_
  refine h13 _ _ ?_
  clear h13
  refine seq fun K15 h15 => ?_
  refine stp (v := u10) (o_mv rfl) ?_
  refine m_call (Write_ok _ us7 w14 (hu10'.rd hM14 (i := 2) rfl) ((ok_us (w := w14) hp7 ((fun t ht => ⟨(hts t ht).1.upd hM14.upd, (hts t ht).2⟩ : ∀ t ∈ ts, Tk.ok w14 t)) ((hn7.mono fun _ _ => RmB.own).rdE hM14 (i := 3) rfl) : ∀ t ∈ us7, Tk.ok w14 t)) (by first | omega | (simp; done) | (simp; omega))) rfl fun v16 w16 ⟨y16, rs16, hr16, hs16, hm16⟩ => ?_
  have hM16 : Mem w [] w16 [rs3, rs5, r8, rB7, rs12, rs14, rs16] := hM14.add hm16
  rw [hp7] at hr16 hs16
  subst hr16
  have hln16 := wrF_len (List.map Tk.p ts)
  refine stp (v := .tuple [y16, .int .i64 ((wrF (List.map Tk.p ts)).2)].toArray) (o_mv rfl) ?_
  refine stp (v := y16) (o_ext rfl rfl) ?_
  refine stp (v := .int .i64 ((wrF (List.map Tk.p ts)).2)) (o_ext rfl rfl) ?_
  refine stp (v := y16) (o_mv rfl) ?_
  refine stp (v := .int .i64 ((wrF (List.map Tk.p ts)).2)) (o_mv rfl) ?_
  refine h15 _ _ ?_
  clear h15
  refine seq fun K17 h17 => ?_
  refine stp (v := u10) (o_mv rfl) ?_
  refine m_call (Write_ok _ us7 w16 (hu10'.rd hM16 (i := 2) rfl) ((ok_us (w := w16) hp7 ((fun t ht => ⟨(hts t ht).1.upd hM16.upd, (hts t ht).2⟩ : ∀ t ∈ ts, Tk.ok w16 t)) ((hn7.mono fun _ _ => RmB.own).rdE hM16 (i := 3) rfl) : ∀ t ∈ us7, Tk.ok w16 t)) (by first | omega | (simp; done) | (simp; omega))) rfl fun v18 w18 ⟨y18, rs18, hr18, hs18, hm18⟩ => ?_
  have hM18 : Mem w [] w18 [rs3, rs5, r8, rB7, rs12, rs14, rs16, rs18] := hM16.add hm18
  rw [hp7] at hr18 hs18
  subst hr18
  have hln18 := wrF_len (List.map Tk.p ts)
  refine stp (v := .tuple [y18, .int .i64 ((wrF (List.map Tk.p ts)).2)].toArray) (o_mv rfl) ?_
  refine stp (v := y18) (o_ext rfl rfl) ?_
  refine stp (v := .int .i64 ((wrF (List.map Tk.p ts)).2)) (o_ext rfl rfl) ?_
  refine stp (v := y18) (o_mv rfl) ?_
  refine stp (v := .int .i64 ((wrF (List.map Tk.p ts)).2)) (o_mv rfl) ?_
  refine h17 _ _ ?_
  clear h17
  refine seq fun K19 h19 => ?_
  refine m_bs hM18 rfl fun b20 w21 (hM21 : Mem w [] w21 [rs3, rs5, r8, rB7, rs12, rs14, rs16, rs18, [⟨b20, 5, [.int .u8 97]⟩]]) => ?_
  refine stp (v := .agg ([.slice (some ⟨b20, 0, none⟩) 1 1, .int .i64 1, .int .i64 5] : List Value).toArray) (o_bld rfl rfl) ?_
  refine m_bs hM21 rfl fun b22 w23 (hM23 : Mem w [] w23 [rs3, rs5, r8, rB7, rs12, rs14, rs16, rs18, [⟨b20, 5, [.int .u8 97]⟩], [⟨b22, 31, [.slice (some ⟨b20, 0, none⟩) 1 1, .int .i64 1, .int .i64 5]⟩]]) => ?_
  refine m_call (Expand_ok _ [(⟨some ⟨b20, 0, none⟩, 1, 1, [97], 1, 5⟩ : Tk)] w23 (own_rdS (enc := tokC) (l := [(⟨some ⟨b20, 0, none⟩, 1, 1, [97], 1, 5⟩ : Tk)]) (hM23.at (i := 9) (j := 0) rfl rfl) rfl) (by intro t ht; rw [List.mem_singleton.1 ht]; exact ⟨own_rdE (E := byteV) (l := [97]) (hM23.at (i := 8) (j := 0) rfl rfl) rfl, by simp only [inK]; omega, by simp only [inK]; omega, by simp⟩) (by simp)) rfl fun v24 w24 ⟨y24, rs24, hr24, hs24, hm24⟩ => ?_
  have hM24 : Mem w [] w24 [rs3, rs5, r8, rB7, rs12, rs14, rs16, rs18, [⟨b20, 5, [.int .u8 97]⟩], [⟨b22, 31, [.slice (some ⟨b20, 0, none⟩) 1 1, .int .i64 1, .int .i64 5]⟩], rs24] := hM23.add hm24
  refine h19 _ _ ?_
  clear h19
  refine seq fun K25 h25 => ?_
  refine m_bs hM24 rfl fun b26 w27 (hM27 : Mem w [] w27 [rs3, rs5, r8, rB7, rs12, rs14, rs16, rs18, [⟨b20, 5, [.int .u8 97]⟩], [⟨b22, 31, [.slice (some ⟨b20, 0, none⟩) 1 1, .int .i64 1, .int .i64 5]⟩], rs24, [⟨b26, 5, [.int .u8 97]⟩]]) => ?_
  refine stp (v := .agg ([.slice (some ⟨b26, 0, none⟩) 1 1, .int .i64 1, .int .i64 5] : List Value).toArray) (o_bld rfl rfl) ?_
  refine m_bs hM27 rfl fun b28 w29 (hM29 : Mem w [] w29 [rs3, rs5, r8, rB7, rs12, rs14, rs16, rs18, [⟨b20, 5, [.int .u8 97]⟩], [⟨b22, 31, [.slice (some ⟨b20, 0, none⟩) 1 1, .int .i64 1, .int .i64 5]⟩], rs24, [⟨b26, 5, [.int .u8 97]⟩], [⟨b28, 31, [.slice (some ⟨b26, 0, none⟩) 1 1, .int .i64 1, .int .i64 5]⟩]]) => ?_
  refine m_call (Write_ok _ [(⟨some ⟨b26, 0, none⟩, 1, 1, [97], 1, 5⟩ : Tk)] w29 (own_rdS (enc := tokC) (l := [(⟨some ⟨b26, 0, none⟩, 1, 1, [97], 1, 5⟩ : Tk)]) (hM29.at (i := 12) (j := 0) rfl rfl) rfl) (by intro t ht; rw [List.mem_singleton.1 ht]; exact ⟨own_rdE (E := byteV) (l := [97]) (hM29.at (i := 11) (j := 0) rfl rfl) rfl, by simp only [inK]; omega, by simp only [inK]; omega, by simp⟩) (by simp)) rfl fun v30 w30 ⟨y30, rs30, hr30, hs30, hm30⟩ => ?_
  have hM30 : Mem w [] w30 [rs3, rs5, r8, rB7, rs12, rs14, rs16, rs18, [⟨b20, 5, [.int .u8 97]⟩], [⟨b22, 31, [.slice (some ⟨b20, 0, none⟩) 1 1, .int .i64 1, .int .i64 5]⟩], rs24, [⟨b26, 5, [.int .u8 97]⟩], [⟨b28, 31, [.slice (some ⟨b26, 0, none⟩) 1 1, .int .i64 1, .int .i64 5]⟩], rs30] := hM29.add hm30
  refine h25 _ _ ?_
  clear h25
  refine seq fun K31 h31 => ?_
  refine stp (v := .int .i64 ((expF (List.map Tk.p ts)).2)) (o_mv rfl) ?_
  refine stp (v := .int .i64 ((expF (List.map Tk.p ts)).2)) (o_mv rfl) ?_
  refine stp (v := .bool true) (o_bin rfl rfl v_eqT) ?_
  refine stp (v := .bool true) (o_mv rfl) ?_
  refine splitT rfl ?_
  refine stg rfl (v := .int .i64 ((wrF (List.map Tk.p ts)).2)) (o_mv rfl) ?_
  refine stg rfl (v := .int .i64 ((wrF (List.map Tk.p ts)).2)) (o_mv rfl) ?_
  refine stg rfl (v := .bool true) (o_bin rfl rfl v_eqT) ?_
  refine stp (v := .bool true) (o_pickT rfl rfl) ?_
  refine stp (v := .bool true) (o_mv rfl) ?_
  refine splitT rfl ?_
  refine stg rfl (v := y12) (o_mv rfl) ?_
  refine stg rfl (v := y3) (o_mv rfl) ?_
  refine gyesl rfl ?_
  refine m_call (sameBytes_ok _ _ ((expF (List.map Tk.p ts)).1) ((expF (List.map Tk.p ts)).1) w30 (hs12.rd hM30 (i := 4) rfl) (hs3.rd hM30 (i := 0) rfl) (by first | omega | (simp; done) | (simp; omega))) rfl fun v32 w32 ⟨hr32, hu32⟩ => ?_
  have hM32 : Mem w [] w32 [rs3, rs5, r8, rB7, rs12, rs14, rs16, rs18, [⟨b20, 5, [.int .u8 97]⟩], [⟨b22, 31, [.slice (some ⟨b20, 0, none⟩) 1 1, .int .i64 1, .int .i64 5]⟩], rs24, [⟨b26, 5, [.int .u8 97]⟩], [⟨b28, 31, [.slice (some ⟨b26, 0, none⟩) 1 1, .int .i64 1, .int .i64 5]⟩], rs30] := hM30.pure hu32
  obtain rfl : v32 = .bool true := hr32.trans (by simp)
  clear hr32
  refine stp (v := .bool true) (o_pickT rfl rfl) ?_
  refine stp (v := .bool true) (o_mv rfl) ?_
  refine splitT rfl ?_
  refine stg rfl (v := y14) (o_mv rfl) ?_
  refine stg rfl (v := y3) (o_mv rfl) ?_
  refine gyesl rfl ?_
  refine m_call (sameBytes_ok _ _ ((expF (List.map Tk.p ts)).1) ((expF (List.map Tk.p ts)).1) w32 (hs14.rd hM32 (i := 5) rfl) (hs3.rd hM32 (i := 0) rfl) (by first | omega | (simp; done) | (simp; omega))) rfl fun v33 w33 ⟨hr33, hu33⟩ => ?_
  have hM33 : Mem w [] w33 [rs3, rs5, r8, rB7, rs12, rs14, rs16, rs18, [⟨b20, 5, [.int .u8 97]⟩], [⟨b22, 31, [.slice (some ⟨b20, 0, none⟩) 1 1, .int .i64 1, .int .i64 5]⟩], rs24, [⟨b26, 5, [.int .u8 97]⟩], [⟨b28, 31, [.slice (some ⟨b26, 0, none⟩) 1 1, .int .i64 1, .int .i64 5]⟩], rs30] := hM32.pure hu33
  obtain rfl : v33 = .bool true := hr33.trans (by simp)
  clear hr33
  refine stp (v := .bool true) (o_pickT rfl rfl) ?_
  refine stp (v := .bool true) (o_mv rfl) ?_
  refine splitT rfl ?_
  refine stg rfl (v := y16) (o_mv rfl) ?_
  refine stg rfl (v := y5) (o_mv rfl) ?_
  refine gyesl rfl ?_
  refine m_call (sameBytes_ok _ _ ((wrF (List.map Tk.p ts)).1) ((wrF (List.map Tk.p ts)).1) w33 (hs16.rd hM33 (i := 6) rfl) (hs5.rd hM33 (i := 1) rfl) (by first | omega | (simp; done) | (simp; omega))) rfl fun v34 w34 ⟨hr34, hu34⟩ => ?_
  have hM34 : Mem w [] w34 [rs3, rs5, r8, rB7, rs12, rs14, rs16, rs18, [⟨b20, 5, [.int .u8 97]⟩], [⟨b22, 31, [.slice (some ⟨b20, 0, none⟩) 1 1, .int .i64 1, .int .i64 5]⟩], rs24, [⟨b26, 5, [.int .u8 97]⟩], [⟨b28, 31, [.slice (some ⟨b26, 0, none⟩) 1 1, .int .i64 1, .int .i64 5]⟩], rs30] := hM33.pure hu34
  obtain rfl : v34 = .bool true := hr34.trans (by simp)
  clear hr34
  refine stp (v := .bool true) (o_pickT rfl rfl) ?_
  refine stp (v := .bool true) (o_mv rfl) ?_
  refine splitT rfl ?_
  refine stg rfl (v := y18) (o_mv rfl) ?_
  refine stg rfl (v := y5) (o_mv rfl) ?_
  refine gyesl rfl ?_
  refine m_call (sameBytes_ok _ _ ((wrF (List.map Tk.p ts)).1) ((wrF (List.map Tk.p ts)).1) w34 (hs18.rd hM34 (i := 7) rfl) (hs5.rd hM34 (i := 1) rfl) (by first | omega | (simp; done) | (simp; omega))) rfl fun v35 w35 ⟨hr35, hu35⟩ => ?_
  have hM35 : Mem w [] w35 [rs3, rs5, r8, rB7, rs12, rs14, rs16, rs18, [⟨b20, 5, [.int .u8 97]⟩], [⟨b22, 31, [.slice (some ⟨b20, 0, none⟩) 1 1, .int .i64 1, .int .i64 5]⟩], rs24, [⟨b26, 5, [.int .u8 97]⟩], [⟨b28, 31, [.slice (some ⟨b26, 0, none⟩) 1 1, .int .i64 1, .int .i64 5]⟩], rs30] := hM34.pure hu35
  obtain rfl : v35 = .bool true := hr35.trans (by simp)
  clear hr35
  refine stp (v := .bool true) (o_pickT rfl rfl) ?_
  refine stp (v := .bool true) (o_mv rfl) ?_
  refine h31 _ _ ?_
  clear h31
  refine seq fun K36 h36 => ?_
  refine stp (v := .bool true) (o_mv rfl) ?_
  refine stp (v := .bool true) (o_mv rfl) ?_
  refine splitT rfl ?_
  refine stg rfl (v := y12) (o_mv rfl) ?_
  refine gyesl rfl ?_
  refine m_call (full_ok _ ((expF (List.map Tk.p ts)).1) rs12 w35 hs12 (hM35.res (i := 4) rfl) (by first | omega | (simp; done) | (simp; omega))) rfl fun v37 w37 ⟨hr37, hm37⟩ => ?_
  have hM37 : Mem w [] w37 [rs3, rs5, r8, rB7, [], rs14, rs16, rs18, [⟨b20, 5, [.int .u8 97]⟩], [⟨b22, 31, [.slice (some ⟨b20, 0, none⟩) 1 1, .int .i64 1, .int .i64 5]⟩], rs24, [⟨b26, 5, [.int .u8 97]⟩], [⟨b28, 31, [.slice (some ⟨b26, 0, none⟩) 1 1, .int .i64 1, .int .i64 5]⟩], rs30] := hM35.step 4 (r' := []) rfl (hm37.keep (by simp))
  subst hr37
  refine stg rfl (v := y16) (o_mv rfl) ?_
  refine gyesl rfl ?_
  refine m_call (full_ok _ ((wrF (List.map Tk.p ts)).1) rs16 w37 hs16 (hM37.res (i := 6) rfl) (by first | omega | (simp; done) | (simp; omega))) rfl fun v38 w38 ⟨hr38, hm38⟩ => ?_
  have hM38 : Mem w [] w38 [rs3, rs5, r8, rB7, [], rs14, [], rs18, [⟨b20, 5, [.int .u8 97]⟩], [⟨b22, 31, [.slice (some ⟨b20, 0, none⟩) 1 1, .int .i64 1, .int .i64 5]⟩], rs24, [⟨b26, 5, [.int .u8 97]⟩], [⟨b28, 31, [.slice (some ⟨b26, 0, none⟩) 1 1, .int .i64 1, .int .i64 5]⟩], rs30] := hM37.step 6 (r' := []) rfl (hm38.keep (by simp))
  subst hr38
  refine stg rfl (v := .int .i64 ((((expF (List.map Tk.p ts)).1).length + 64 : Nat) + (((wrF (List.map Tk.p ts)).1).length + 64 : Nat))) (o_bin rfl rfl (v_add64 (by constructor <;> omega))) ?_
  refine stg rfl (v := y3) (o_mv rfl) ?_
  refine stg rfl (v := .int .i64 (((expF (List.map Tk.p ts)).1).length : Nat)) (o_lenR (hs3.rd hM38 (i := 0) rfl) rfl rfl) ?_
  refine stg rfl (v := y5) (o_mv rfl) ?_
  refine stg rfl (v := .int .i64 (((wrF (List.map Tk.p ts)).1).length : Nat)) (o_lenR (hs5.rd hM38 (i := 1) rfl) rfl rfl) ?_
  refine stg rfl (v := .int .i64 ((((expF (List.map Tk.p ts)).1).length : Nat) + (((wrF (List.map Tk.p ts)).1).length : Nat))) (o_bin rfl rfl (v_add64 (by constructor <;> omega))) ?_
  refine stg rfl (v := .int .i64 (((((expF (List.map Tk.p ts)).1).length : Nat) + (((wrF (List.map Tk.p ts)).1).length : Nat)) + 128)) (o_bin rfl rfl (v_add64 (by constructor <;> omega))) ?_
  refine stg rfl (v := .bool (decide (((((expF (List.map Tk.p ts)).1).length + 64 : Nat) + (((wrF (List.map Tk.p ts)).1).length + 64 : Nat) : Int) = (((((expF (List.map Tk.p ts)).1).length : Nat) + (((wrF (List.map Tk.p ts)).1).length : Nat)) + 128)))) (o_bin rfl rfl rfl) ?_
  refine stp (v := .bool (decide (((((expF (List.map Tk.p ts)).1).length + 64 : Nat) + (((wrF (List.map Tk.p ts)).1).length + 64 : Nat) : Int) = (((((expF (List.map Tk.p ts)).1).length : Nat) + (((wrF (List.map Tk.p ts)).1).length : Nat)) + 128)))) (o_pickT rfl rfl) ?_
  refine stp (v := .bool (decide (((((expF (List.map Tk.p ts)).1).length + 64 : Nat) + (((wrF (List.map Tk.p ts)).1).length + 64 : Nat) : Int) = (((((expF (List.map Tk.p ts)).1).length : Nat) + (((wrF (List.map Tk.p ts)).1).length : Nat)) + 128)))) (o_mv rfl) ?_
  refine splitP rfl (fun c39 => ?_) (fun c39 => (c39 (by omega)).elim)
  refine stg rfl (v := y14) (o_mv rfl) ?_
  refine stg rfl (v := y3) (o_mv rfl) ?_
  refine gyesl rfl ?_
  refine m_call (sameBytes_ok _ _ ((expF (List.map Tk.p ts)).1) ((expF (List.map Tk.p ts)).1) w38 (hs14.rd hM38 (i := 5) rfl) (hs3.rd hM38 (i := 0) rfl) (by first | omega | (simp; done) | (simp; omega))) rfl fun v40 w40 ⟨hr40, hu40⟩ => ?_
  have hM40 : Mem w [] w40 [rs3, rs5, r8, rB7, [], rs14, [], rs18, [⟨b20, 5, [.int .u8 97]⟩], [⟨b22, 31, [.slice (some ⟨b20, 0, none⟩) 1 1, .int .i64 1, .int .i64 5]⟩], rs24, [⟨b26, 5, [.int .u8 97]⟩], [⟨b28, 31, [.slice (some ⟨b26, 0, none⟩) 1 1, .int .i64 1, .int .i64 5]⟩], rs30] := hM38.pure hu40
  obtain rfl : v40 = .bool true := hr40.trans (by simp)
  clear hr40
  refine stp (v := .bool true) (o_pickT rfl rfl) ?_
  refine stp (v := .bool true) (o_mv rfl) ?_
  refine splitT rfl ?_
  refine stg rfl (v := y18) (o_mv rfl) ?_
  refine stg rfl (v := y5) (o_mv rfl) ?_
  refine gyesl rfl ?_
  refine m_call (sameBytes_ok _ _ ((wrF (List.map Tk.p ts)).1) ((wrF (List.map Tk.p ts)).1) w40 (hs18.rd hM40 (i := 7) rfl) (hs5.rd hM40 (i := 1) rfl) (by first | omega | (simp; done) | (simp; omega))) rfl fun v41 w41 ⟨hr41, hu41⟩ => ?_
  have hM41 : Mem w [] w41 [rs3, rs5, r8, rB7, [], rs14, [], rs18, [⟨b20, 5, [.int .u8 97]⟩], [⟨b22, 31, [.slice (some ⟨b20, 0, none⟩) 1 1, .int .i64 1, .int .i64 5]⟩], rs24, [⟨b26, 5, [.int .u8 97]⟩], [⟨b28, 31, [.slice (some ⟨b26, 0, none⟩) 1 1, .int .i64 1, .int .i64 5]⟩], rs30] := hM40.pure hu41
  obtain rfl : v41 = .bool true := hr41.trans (by simp)
  clear hr41
  refine stp (v := .bool true) (o_pickT rfl rfl) ?_
  refine stp (v := .bool true) (o_mv rfl) ?_
  refine splitT rfl ?_
  refine stg rfl (v := u10) (o_mv rfl) ?_
  refine stg rfl (v := x) (o_mv rfl) ?_
  refine gyesl rfl ?_
  refine m_call (same_ok _ _ us7 ts w41 (hu10'.rd hM41 (i := 2) rfl) (hx.upd hM41.upd) (fun t ht => (((ok_us (w := w41) hp7 ((fun t ht => ⟨(hts t ht).1.upd hM41.upd, (hts t ht).2⟩ : ∀ t ∈ ts, Tk.ok w41 t)) ((hn7.mono fun _ _ => RmB.own).rdE hM41 (i := 3) rfl) : ∀ t ∈ us7, Tk.ok w41 t)) t ht).1) (fun t ht => (((fun t ht => ⟨(hts t ht).1.upd hM41.upd, (hts t ht).2⟩ : ∀ t ∈ ts, Tk.ok w41 t)) t ht).1) (hp7) (by omega) (fun t ht => by have := (((fun t ht => ⟨(hts t ht).1.upd hM41.upd, (hts t ht).2⟩ : ∀ t ∈ ts, Tk.ok w41 t)) t ht).2.2.2; omega)) rfl fun v42 w42 ⟨hr42, hu42⟩ => ?_
  have hM42 : Mem w [] w42 [rs3, rs5, r8, rB7, [], rs14, [], rs18, [⟨b20, 5, [.int .u8 97]⟩], [⟨b22, 31, [.slice (some ⟨b20, 0, none⟩) 1 1, .int .i64 1, .int .i64 5]⟩], rs24, [⟨b26, 5, [.int .u8 97]⟩], [⟨b28, 31, [.slice (some ⟨b26, 0, none⟩) 1 1, .int .i64 1, .int .i64 5]⟩], rs30] := hM41.pure hu42
  subst hr42
  refine stp (v := .bool true) (o_pickT rfl rfl) ?_
  refine stp (v := .bool true) (o_mv rfl) ?_
  refine h36 _ _ ?_
  clear h36
  refine seq fun K43 h43 => ?_
  refine seq fun K44 h44 => ?_
  refine stp (v := .int .i64 0) (o_mv rfl) ?_
  refine h44 _ _ ?_
  clear h44
  refine lp (n := fun _ _ => False) (ι := (Nat)) (fun i f w' => f 17 = .bool true ∧ f 18 = .int .i64 (i : Nat) ∧ f 0 = x ∧ f 7 = v8 ∧ f 8 = u10 ∧ Mem w [] w' [rs3, rs5, r8, rB7, [], rs14, [], rs18, [⟨b20, 5, [.int .u8 97]⟩], [⟨b22, 31, [.slice (some ⟨b20, 0, none⟩) 1 1, .int .i64 1, .int .i64 5]⟩], rs24, [⟨b26, 5, [.int .u8 97]⟩], [⟨b28, 31, [.slice (some ⟨b26, 0, none⟩) 1 1, .int .i64 1, .int .i64 5]⟩], rs30] ∧ (i ≤ ts.length)) (fun i => ts.length - i) (0) ?_ ?_
  · exact ⟨rfl, by first | rfl | exact v_int (by omega) | exact v_int (by simp) | exact v_int (by simp; omega), rfl, rfl, rfl, hM42, by omega⟩
  · rintro i f w45 ⟨e45_17, e45_18, e45_0, e45_7, e45_8, hM45, hi⟩ K46 h46
    obtain ⟨frm, rfl⟩ : ∃ frm, f = (upd (upd (upd (upd (upd frm 17 (.bool true)) 18 (.int .i64 (i : Nat))) 0 (x)) 7 (v8)) 8 (u10)) := ⟨f, by rw [upd_self e45_17, upd_self e45_18, upd_self e45_0, upd_self e45_7, upd_self e45_8]⟩
    clear e45_17 e45_18 e45_0 e45_7 e45_8
    refine seq fun K47 h47 => ?_
    refine seq fun K48 h48 => ?_
    refine stp (v := .int .i64 (i : Nat)) (o_mv rfl) ?_
    refine stp (v := x) (o_mv rfl) ?_
    refine stp (v := .int .i64 (ts.length : Nat)) (o_lenR (hx.upd hM45.upd) rfl rfl) ?_
    refine stp (v := .bool (decide (((i : Nat) : Int) < (ts.length : Nat)))) (o_bin rfl rfl rfl) ?_
    refine h48 _ _ ?_
    clear h48
    refine cndP rfl (fun c49 => ?_) (fun c49 => ?_)
    ·
      refine h47 _ _ ?_
      clear h47
      refine seq fun K50 h50 => ?_
      intro wd e1 e2 e3 e4
      have hd := Upd.same e1 e2 e3 e4 []
      have hM51 := hM45.pure hd
      clear e1 e2 e3 e4
      refine ⟨(some [(blkV x)]), ?_⟩
      show vd _ _ _ _ _ _ _
      refine dq (v := .bool true) (o_mv rfl) ?_
      refine dq (v := .bool true) (o_mv rfl) ?_
      refine dsplitT rfl ?_
      have hk4 := (hts _ (getD_memG tz (i := i) (l := ts) (by omega))).2.2.2
      have hk5 : (us7.getD i tz).bs.length ≤ 140737488351232 := by rw [(p_us hp7 i).1]; exact hk4
      refine dqg rfl (v := u10) (o_mv rfl) ?_
      refine dqg rfl (v := .int .i64 (i : Nat)) (o_mv rfl) ?_
      refine dgyes rfl rfl (dqp (m_idxS tz (j := i) (hu10'.rd hM51 (i := 2) rfl) rfl rfl (by omega) fun b52 o52 hp52 => ?_))
      show vd _ _ _ _ _ _ _
      refine dqg rfl (v := .pointer (some ⟨b52, o52, none⟩)) (o_fa rfl rfl) ?_
      refine dqg rfl (v := x) (o_mv rfl) ?_
      refine dqg rfl (v := .int .i64 (i : Nat)) (o_mv rfl) ?_
      refine dgyes rfl rfl (dqp (m_idxS3 tz (j := i) (hx.upd hM51.upd) (hx.upd hM51.upd) rfl rfl (by omega) fun b53 o53 hp53 hbb53 => ?_))
      show vd _ _ _ _ _ _ _
      subst hbb53
      refine dqg rfl (v := .pointer (some ⟨(blkV x), o53, none⟩)) (o_fa rfl rfl) ?_
      refine dqgyes rfl rfl ?_
      refine dqld rfl (by simp [isHeld]) (v := (ts.getD i tz).lit) (hp53.get 0 rfl) ?_
      refine dgyesl rfl ?_
      refine dl (ld (v := (us7.getD i tz).lit) rfl (hp52.get 0 rfl) ?_)
      refine ⟨(fun b hb => rfl), ?_⟩
      refine dgyesl rfl ?_
      refine dl (m_call (kept_us hn7 hM51 (i := 3) rfl (j := i) (by omega) (p_us hp7 i).1 ((hts _ (getD_memG tz (by omega))).1.upd hM51.upd) (by omega)) rfl fun v54 w54 ⟨hr54, hu54⟩ => ?_)
      have hM54 : Mem w [] w54 [rs3, rs5, r8, rB7, [], rs14, [], rs18, [⟨b20, 5, [.int .u8 97]⟩], [⟨b22, 31, [.slice (some ⟨b20, 0, none⟩) 1 1, .int .i64 1, .int .i64 5]⟩], rs24, [⟨b26, 5, [.int .u8 97]⟩], [⟨b28, 31, [.slice (some ⟨b26, 0, none⟩) 1 1, .int .i64 1, .int .i64 5]⟩], rs30] := hM51.pure hu54
      subst hr54
      have hh54 := held_upd (wr := wd) (bs := [(blkV x)]) hu54 (fun b hb => by
        simp only [List.mem_cons, List.not_mem_nil, or_false] at hb
        rw [hb]; exact ⟨Rd.blkV_ltS (hx.upd hM51.upd) (by omega), by simp⟩) (fun b hb => rfl)
      refine ⟨hh54, ?_⟩
      refine dq (v := .bool true) (o_pickT rfl rfl) ?_
      refine dq (v := .bool true) (o_mv rfl) ?_
      refine h50 _ _ ?_
      clear h50
      refine stp (v := .int .i64 (i : Nat)) (o_mv rfl) ?_
      refine stp (v := .int .i64 ((i : Nat) + 1)) (o_bin rfl rfl (v_add64 (by constructor <;> omega))) ?_
      refine stp (v := .int .i64 ((i : Nat) + 1)) (o_mv rfl) ?_
      refine h46 (i + 1) _ _ ⟨rfl, by first | rfl | exact v_int (by omega) | exact v_int (by simp) | exact v_int (by simp; omega), rfl, rfl, rfl, hM54, by omega⟩ (by (try dsimp only); omega)
    ·
      refine h43 _ _ ?_
      clear h43
      refine seq fun K55 h55 => ?_
      refine stp (v := .bool true) (o_mv rfl) ?_
      refine stp (v := .bool true) (o_mv rfl) ?_
      refine splitT rfl ?_
      refine stg rfl (v := v8) (o_mv rfl) ?_
      refine stg rfl (v := x) (o_mv rfl) ?_
      refine stg rfl (v := .int .i64 (ts.length : Nat)) (o_lenR (hx.upd hM45.upd) rfl rfl) ?_
      refine gyes rfl rfl (m_idxS tz (j := ts.length) (hs8.rd hM45 (i := 2) rfl) rfl rfl (by simp; omega) fun b56 o56 hp56 => ?_)
      refine stg rfl (v := .pointer (some ⟨b56, o56 + 1, none⟩)) (o_fa rfl rfl) ?_
      refine gyesl rfl ?_
      refine ld (v := .int .i64 ((((us7 ++ [(⟨none, 0, 0, [], -77, 0⟩ : Tk)]).getD ts.length tz)).d)) rfl (hp56.get 1 rfl) ?_
      refine stg rfl (v := .bool (decide (((((us7 ++ [(⟨none, 0, 0, [], -77, 0⟩ : Tk)]).getD ts.length tz)).d) = (-77)))) (o_bin rfl rfl rfl) ?_
      refine stp (v := .bool (decide (((((us7 ++ [(⟨none, 0, 0, [], -77, 0⟩ : Tk)]).getD ts.length tz)).d) = (-77)))) (o_pickT rfl rfl) ?_
      refine stp (v := .bool (decide (((((us7 ++ [(⟨none, 0, 0, [], -77, 0⟩ : Tk)]).getD ts.length tz)).d) = (-77)))) (o_mv rfl) ?_
      refine splitP rfl (fun c57 => ?_) (fun c57 => (c57 (by rw [at_77 hlu7]; rfl)).elim)
      refine stg rfl (v := v8) (o_mv rfl) ?_
      refine stg rfl (v := x) (o_mv rfl) ?_
      refine stg rfl (v := .int .i64 (ts.length : Nat)) (o_lenR (hx.upd hM45.upd) rfl rfl) ?_
      refine gyes rfl rfl (m_idxS tz (j := ts.length) (hs8.rd hM45 (i := 2) rfl) rfl rfl (by simp; omega) fun b58 o58 hp58 => ?_)
      refine stg rfl (v := .pointer (some ⟨b58, o58 + 2, none⟩)) (o_fa rfl rfl) ?_
      refine gyesl rfl ?_
      refine ld (v := .int .i64 ((((us7 ++ [(⟨none, 0, 0, [], -77, 0⟩ : Tk)]).getD ts.length tz)).n)) rfl (hp58.get 2 rfl) ?_
      refine stg rfl (v := .bool (decide (((((us7 ++ [(⟨none, 0, 0, [], -77, 0⟩ : Tk)]).getD ts.length tz)).n) = 0))) (o_bin rfl rfl rfl) ?_
      refine stp (v := .bool (decide (((((us7 ++ [(⟨none, 0, 0, [], -77, 0⟩ : Tk)]).getD ts.length tz)).n) = 0))) (o_pickT rfl rfl) ?_
      refine stp (v := .bool (decide (((((us7 ++ [(⟨none, 0, 0, [], -77, 0⟩ : Tk)]).getD ts.length tz)).n) = 0))) (o_mv rfl) ?_
      refine splitP rfl (fun c59 => ?_) (fun c59 => (c59 (by rw [at_77 hlu7]; rfl)).elim)
      refine stg rfl (v := v8) (o_mv rfl) ?_
      refine stg rfl (v := x) (o_mv rfl) ?_
      refine stg rfl (v := .int .i64 (ts.length : Nat)) (o_lenR (hx.upd hM45.upd) rfl rfl) ?_
      refine gyes rfl rfl (m_idxS tz (j := ts.length) (hs8.rd hM45 (i := 2) rfl) rfl rfl (by simp; omega) fun b60 o60 hp60 => ?_)
      refine stg rfl (v := .pointer (some ⟨b60, o60, none⟩)) (o_fa rfl rfl) ?_
      refine gyesl rfl ?_
      refine ld (v := ((us7 ++ [(⟨none, 0, 0, [], -77, 0⟩ : Tk)]).getD ts.length tz).lit) rfl (hp60.get 0 rfl) ?_
      refine stg rfl (v := .int .i64 ((((us7 ++ [(⟨none, 0, 0, [], -77, 0⟩ : Tk)]).getD ts.length tz).bs).length : Nat)) (o_lenR ((rd_77 (w := w45) hlu7)) rfl rfl) ?_
      refine stg rfl (v := .bool (decide ((((((us7 ++ [(⟨none, 0, 0, [], -77, 0⟩ : Tk)]).getD ts.length tz).bs).length : Nat) : Int) = 0))) (o_bin rfl rfl rfl) ?_
      refine stp (v := .bool (decide ((((((us7 ++ [(⟨none, 0, 0, [], -77, 0⟩ : Tk)]).getD ts.length tz).bs).length : Nat) : Int) = 0))) (o_pickT rfl rfl) ?_
      refine stp (v := .bool (decide ((((((us7 ++ [(⟨none, 0, 0, [], -77, 0⟩ : Tk)]).getD ts.length tz).bs).length : Nat) : Int) = 0))) (o_mv rfl) ?_
      refine h55 _ _ ?_
      clear h55
      refine seq fun K61 h61 => ?_
      refine stp (v := u10) (o_mv rfl) ?_
      refine m_call (Expand_ok _ us7 w45 (hu10'.rd hM45 (i := 2) rfl) ((ok_us (w := w45) hp7 ((fun t ht => ⟨(hts t ht).1.upd hM45.upd, (hts t ht).2⟩ : ∀ t ∈ ts, Tk.ok w45 t)) ((hn7.mono fun _ _ => RmB.own).rdE hM45 (i := 3) rfl) : ∀ t ∈ us7, Tk.ok w45 t)) (by first | omega | (simp; done) | (simp; omega))) rfl fun v62 w62 ⟨y62, rs62, hr62, hs62, hm62⟩ => ?_
      have hM62 : Mem w [] w62 [rs3, rs5, r8, rB7, [], rs14, [], rs18, [⟨b20, 5, [.int .u8 97]⟩], [⟨b22, 31, [.slice (some ⟨b20, 0, none⟩) 1 1, .int .i64 1, .int .i64 5]⟩], rs24, [⟨b26, 5, [.int .u8 97]⟩], [⟨b28, 31, [.slice (some ⟨b26, 0, none⟩) 1 1, .int .i64 1, .int .i64 5]⟩], rs30, rs62] := hM45.add hm62
      rw [hp7] at hr62 hs62
      subst hr62
      have hln62 := expF_len (List.map Tk.p ts)
      refine h61 _ _ ?_
      clear h61
      refine seq fun K63 h63 => ?_
      refine stp (v := u10) (o_mv rfl) ?_
      refine m_call (Write_ok _ us7 w62 (hu10'.rd hM62 (i := 2) rfl) ((ok_us (w := w62) hp7 ((fun t ht => ⟨(hts t ht).1.upd hM62.upd, (hts t ht).2⟩ : ∀ t ∈ ts, Tk.ok w62 t)) ((hn7.mono fun _ _ => RmB.own).rdE hM62 (i := 3) rfl) : ∀ t ∈ us7, Tk.ok w62 t)) (by first | omega | (simp; done) | (simp; omega))) rfl fun v64 w64 ⟨y64, rs64, hr64, hs64, hm64⟩ => ?_
      have hM64 : Mem w [] w64 [rs3, rs5, r8, rB7, [], rs14, [], rs18, [⟨b20, 5, [.int .u8 97]⟩], [⟨b22, 31, [.slice (some ⟨b20, 0, none⟩) 1 1, .int .i64 1, .int .i64 5]⟩], rs24, [⟨b26, 5, [.int .u8 97]⟩], [⟨b28, 31, [.slice (some ⟨b26, 0, none⟩) 1 1, .int .i64 1, .int .i64 5]⟩], rs30, rs62, rs64] := hM62.add hm64
      rw [hp7] at hr64 hs64
      subst hr64
      have hln64 := wrF_len (List.map Tk.p ts)
      refine h63 _ _ ?_
      clear h63
      refine seq fun K65 h65 => ?_
      refine seq fun K66 h66 => ?_
      refine stp (v := .int .i64 0) (o_mv rfl) ?_
      refine h66 _ _ ?_
      clear h66
      refine lp (n := fun _ _ => False) (ι := (Nat) × (Value) × (List Ent)) (fun ⟨i, y8_, r8_⟩ f w' => f 8 = y8_ ∧ f 19 = .int .i64 (i : Nat) ∧ f 17 = .bool (decide ((((((us7 ++ [(⟨none, 0, 0, [], -77, 0⟩ : Tk)]).getD ts.length tz).bs).length : Nat) : Int) = 0)) ∧ Mem w [] w' [rs3, rs5, r8_, rB7, [], rs14, [], rs18, [⟨b20, 5, [.int .u8 97]⟩], [⟨b22, 31, [.slice (some ⟨b20, 0, none⟩) 1 1, .int .i64 1, .int .i64 5]⟩], rs24, [⟨b26, 5, [.int .u8 97]⟩], [⟨b28, 31, [.slice (some ⟨b26, 0, none⟩) 1 1, .int .i64 1, .int .i64 5]⟩], rs30, rs62, rs64] ∧ (i ≤ us7.length) ∧ ((revI tz i us7).length = us7.length) ∧ (SlS tokC 3 31 y8_ (revI tz i us7) r8_)) (fun ⟨i, y8_, r8_⟩ => us7.length - i) (0, u10, r8) ?_ ?_
      · exact ⟨rfl, by first | rfl | exact v_int (by omega) | exact v_int (by simp) | exact v_int (by simp; omega), by first | rfl | simp [upd], hM64, by omega, by rw [revI_zero], by rw [revI_zero]; exact hu10'⟩
      · rintro ⟨i, y8_, r8_⟩ f w67 ⟨e67_8, e67_19, e67_17, hM67, hi, hq, hy8_⟩ K68 h68
        obtain ⟨frm, rfl⟩ : ∃ frm, f = (upd (upd (upd frm 8 (y8_)) 19 (.int .i64 (i : Nat))) 17 (.bool (decide ((((((us7 ++ [(⟨none, 0, 0, [], -77, 0⟩ : Tk)]).getD ts.length tz).bs).length : Nat) : Int) = 0)))) := ⟨f, by rw [upd_self e67_8, upd_self e67_19, upd_self e67_17]⟩
        clear e67_8 e67_19 e67_17
        refine seq fun K69 h69 => ?_
        refine seq fun K70 h70 => ?_
        refine stp (v := .int .i64 (i : Nat)) (o_mv rfl) ?_
        refine stp (v := y8_) (o_mv rfl) ?_
        refine stp (v := .int .i64 ((revI tz i us7).length : Nat)) (o_lenR (hy8_.rd hM67 (i := 2) rfl) rfl rfl) ?_
        refine stp (v := .int .i64 (((revI tz i us7).length : Nat) / 2)) (o_quo rfl rfl (by omega) (v_quo (by omega) (by omega) (by simp only [inK]; omega))) ?_
        refine stp (v := .bool (decide (((i : Nat) : Int) < (((revI tz i us7).length : Nat) / 2)))) (o_bin rfl rfl rfl) ?_
        refine h70 _ _ ?_
        clear h70
        refine cndP rfl (fun c71 => ?_) (fun c71 => ?_)
        ·
          refine h69 _ _ ?_
          clear h69
          refine seq fun K72 h72 => ?_
          refine seq fun K73 h73 => ?_
          refine stp (v := y8_) (o_mv rfl) ?_
          refine stp (v := .int .i64 (i : Nat)) (o_mv rfl) ?_
          refine m_idxS tz (j := i) (hy8_.rd hM67 (i := 2) rfl) rfl rfl (by omega) fun b74 o74 hp74 => ?_
          refine ldA (cs := [(((revI tz i us7).getD i tz)).lit, .int .i64 ((((revI tz i us7).getD i tz)).d), .int .i64 ((((revI tz i us7).getD i tz)).n)]) rfl rfl (hp74.row (k := 0) rfl rfl) ?_
          refine m_al hM67 fun b75 w76 (hM76 : Mem w [] w76 [rs3, rs5, r8_, rB7, [], rs14, [], rs18, [⟨b20, 5, [.int .u8 97]⟩], [⟨b22, 31, [.slice (some ⟨b20, 0, none⟩) 1 1, .int .i64 1, .int .i64 5]⟩], rs24, [⟨b26, 5, [.int .u8 97]⟩], [⟨b28, 31, [.slice (some ⟨b26, 0, none⟩) 1 1, .int .i64 1, .int .i64 5]⟩], rs30, rs62, rs64, [⟨b75, 31, [.slice none 0 0, .int .i64 0, .int .i64 0]⟩]]) => ?_
          refine m_stA (l := [(((revI tz i us7).getD i tz)).lit, .int .i64 ((((revI tz i us7).getD i tz)).d), .int .i64 ((((revI tz i us7).getD i tz)).n)]) hM76 (i := 16) rfl rfl rfl rfl (by simp [oneCells, Value.oneCell', byteV]) (by simp) fun w77 (hM77 : Mem w [] w77 [rs3, rs5, r8_, rB7, [], rs14, [], rs18, [⟨b20, 5, [.int .u8 97]⟩], [⟨b22, 31, [.slice (some ⟨b20, 0, none⟩) 1 1, .int .i64 1, .int .i64 5]⟩], rs24, [⟨b26, 5, [.int .u8 97]⟩], [⟨b28, 31, [.slice (some ⟨b26, 0, none⟩) 1 1, .int .i64 1, .int .i64 5]⟩], rs30, rs62, rs64, [⟨b75, 31, [(((revI tz i us7).getD i tz)).lit, .int .i64 ((((revI tz i us7).getD i tz)).d), .int .i64 ((((revI tz i us7).getD i tz)).n)]⟩]]) => ?_
          refine h73 _ _ ?_
          clear h73
          refine seq fun K78 h78 => ?_
          refine stp (v := y8_) (o_mv rfl) ?_
          refine stp (v := .int .i64 (i : Nat)) (o_mv rfl) ?_
          refine stp (v := y8_) (o_mv rfl) ?_
          refine stp (v := y8_) (o_mv rfl) ?_
          refine stp (v := .int .i64 ((revI tz i us7).length : Nat)) (o_lenR (hy8_.rd hM77 (i := 2) rfl) rfl rfl) ?_
          refine stp (v := .int .i64 (((revI tz i us7).length : Nat) - 1)) (o_bin rfl rfl (v_sub64 (by constructor <;> omega))) ?_
          refine stp (v := .int .i64 (i : Nat)) (o_mv rfl) ?_
          refine stp (v := .int .i64 ((((revI tz i us7).length : Nat) - 1) - (i : Nat))) (o_bin rfl rfl (v_sub64 (by constructor <;> omega))) ?_
          refine m_idxS tz (j := (us7.length - 1 - i)) (hy8_.rd hM77 (i := 2) rfl) rfl (v_int (by omega)) (by omega) fun b79 o79 hp79 => ?_
          refine ldA (cs := [(((revI tz i us7).getD (us7.length - 1 - i) tz)).lit, .int .i64 ((((revI tz i us7).getD (us7.length - 1 - i) tz)).d), .int .i64 ((((revI tz i us7).getD (us7.length - 1 - i) tz)).n)]) rfl rfl (hp79.row (k := 0) rfl rfl) ?_
          refine m_setS (enc := tokC) tz (q := ((revI tz i us7).getD (us7.length - 1 - i) tz)) (j := i) hM77 (i := 2) rfl hy8_ rfl rfl (by omega) (by simp) (rfl) fun w80 r80 u80 he80 hs80 (hM80 : Mem w [] w80 [rs3, rs5, r80, rB7, [], rs14, [], rs18, [⟨b20, 5, [.int .u8 97]⟩], [⟨b22, 31, [.slice (some ⟨b20, 0, none⟩) 1 1, .int .i64 1, .int .i64 5]⟩], rs24, [⟨b26, 5, [.int .u8 97]⟩], [⟨b28, 31, [.slice (some ⟨b26, 0, none⟩) 1 1, .int .i64 1, .int .i64 5]⟩], rs30, rs62, rs64, [⟨b75, 31, [(((revI tz i us7).getD i tz)).lit, .int .i64 ((((revI tz i us7).getD i tz)).d), .int .i64 ((((revI tz i us7).getD i tz)).n)]⟩]]) => ?_
          refine h78 _ _ ?_
          clear h78
          have hsl9 : ((revI tz i us7).set i ((revI tz i us7).getD (us7.length - 1 - i) tz)).length = (revI tz i us7).length := List.length_set
          refine stp (v := y8_) (o_mv rfl) ?_
          refine stp (v := y8_) (o_mv rfl) ?_
          refine stp (v := .int .i64 (((revI tz i us7).set i ((revI tz i us7).getD (us7.length - 1 - i) tz)).length : Nat)) (o_lenR (hs80.rd hM80 (i := 2) rfl) rfl rfl) ?_
          refine stp (v := .int .i64 ((((revI tz i us7).set i ((revI tz i us7).getD (us7.length - 1 - i) tz)).length : Nat) - 1)) (o_bin rfl rfl (v_sub64 (by constructor <;> omega))) ?_
          refine stp (v := .int .i64 (i : Nat)) (o_mv rfl) ?_
          refine stp (v := .int .i64 (((((revI tz i us7).set i ((revI tz i us7).getD (us7.length - 1 - i) tz)).length : Nat) - 1) - (i : Nat))) (o_bin rfl rfl (v_sub64 (by constructor <;> omega))) ?_
          refine m_ldA (l := [(((revI tz i us7).getD i tz)).lit, .int .i64 ((((revI tz i us7).getD i tz)).d), .int .i64 ((((revI tz i us7).getD i tz)).n)]) hM80 (i := 16) (j := 0) rfl rfl rfl rfl rfl ?_
          refine m_setS (enc := tokC) tz (q := ((revI tz i us7).getD i tz)) (j := (us7.length - 1 - i)) hM80 (i := 2) rfl hs80 rfl (v_int (by omega)) (by omega) (by simp) (rfl) fun w81 r81 u81 he81 hs81 (hM81 : Mem w [] w81 [rs3, rs5, r81, rB7, [], rs14, [], rs18, [⟨b20, 5, [.int .u8 97]⟩], [⟨b22, 31, [.slice (some ⟨b20, 0, none⟩) 1 1, .int .i64 1, .int .i64 5]⟩], rs24, [⟨b26, 5, [.int .u8 97]⟩], [⟨b28, 31, [.slice (some ⟨b26, 0, none⟩) 1 1, .int .i64 1, .int .i64 5]⟩], rs30, rs62, rs64, [⟨b75, 31, [(((revI tz i us7).getD i tz)).lit, .int .i64 ((((revI tz i us7).getD i tz)).d), .int .i64 ((((revI tz i us7).getD i tz)).n)]⟩]]) => ?_
          refine h72 _ _ ?_
          clear h72
          refine stp (v := .int .i64 (i : Nat)) (o_mv rfl) ?_
          refine stp (v := .int .i64 ((i : Nat) + 1)) (o_bin rfl rfl (v_add64 (by constructor <;> omega))) ?_
          refine stp (v := .int .i64 ((i : Nat) + 1)) (o_mv rfl) ?_
          refine h68 (i + 1, y8_, r81) _ _ ⟨rfl, by first | rfl | exact v_int (by omega) | exact v_int (by simp) | exact v_int (by simp; omega), by first | rfl | simp [upd], hM81.keep (by simp), by omega, by rw [revI_length], by rw [← revI_succ tz (by omega)]; exact back_elS tz hy8_ (by omega) hs81⟩ (by (try dsimp only); omega)
        ·
          refine h65 _ _ ?_
          clear h65
          refine seq fun K82 h82 => ?_
          have hx8 := SlS.eqL (m := us7.reverse) hy8_ (revI_end tz (by omega))
          have hlr : us7.reverse.length = us7.length := by simp
          refine stp (v := y8_) (o_mv rfl) ?_
          refine m_call (copied_ok _ us7.reverse w67 (hx8.rd hM67 (i := 2) rfl) ((fun t ht => ((ok_us (w := w67) hp7 (fun t ht => ⟨(hts t ht).1.upd hM67.upd, (hts t ht).2⟩) ((hn7.mono fun _ _ => RmB.own).rdE hM67 (i := 3) rfl) : ∀ t ∈ us7, Tk.ok w67 t)) t (List.mem_reverse.1 ht) : ∀ t ∈ us7.reverse, Tk.ok w67 t)) (by first | omega | (simp; done) | (simp; omega))) rfl fun v83 w83 ⟨us83, rA83, rB83, hs83, hn83, hp83, hm83⟩ => ?_
          have hM83 : Mem w [] w83 [rs3, rs5, r8_, rB7, [], rs14, [], rs18, [⟨b20, 5, [.int .u8 97]⟩], [⟨b22, 31, [.slice (some ⟨b20, 0, none⟩) 1 1, .int .i64 1, .int .i64 5]⟩], rs24, [⟨b26, 5, [.int .u8 97]⟩], [⟨b28, 31, [.slice (some ⟨b26, 0, none⟩) 1 1, .int .i64 1, .int .i64 5]⟩], rs30, rs62, rs64, rA83, rB83] := hM67.add2 hm83
          have hlu83 := len_us hp83
          refine stp (v := v83) (o_mv rfl) ?_
          refine h82 _ _ ?_
          clear h82
          refine seq fun K84 h84 => ?_
          refine stp (v := v83) (o_mv rfl) ?_
          refine m_call (refExpand_ok _ us83 w83 (hs83.rd hM83 (i := 16) rfl) ((ok_us (w := w83) hp83 ((fun t ht => ((ok_us (w := w83) hp7 (fun t ht => ⟨(hts t ht).1.upd hM83.upd, (hts t ht).2⟩) ((hn7.mono fun _ _ => RmB.own).rdE hM83 (i := 3) rfl) : ∀ t ∈ us7, Tk.ok w83 t)) t (List.mem_reverse.1 ht) : ∀ t ∈ us7.reverse, Tk.ok w83 t)) ((hn83.mono fun _ _ => RmB.own).rdE hM83 (i := 17) rfl) : ∀ t ∈ us83, Tk.ok w83 t)) (by first | omega | (simp; done) | (simp; omega))) rfl fun v85 w85 ⟨y85, rs85, hr85, hs85, hm85⟩ => ?_
          have hM85 : Mem w [] w85 [rs3, rs5, r8_, rB7, [], rs14, [], rs18, [⟨b20, 5, [.int .u8 97]⟩], [⟨b22, 31, [.slice (some ⟨b20, 0, none⟩) 1 1, .int .i64 1, .int .i64 5]⟩], rs24, [⟨b26, 5, [.int .u8 97]⟩], [⟨b28, 31, [.slice (some ⟨b26, 0, none⟩) 1 1, .int .i64 1, .int .i64 5]⟩], rs30, rs62, rs64, rA83, rB83, rs85] := hM83.add hm85
          rw [hp83] at hr85 hs85
          subst hr85
          have hln85 := expF_len (List.map Tk.p us7.reverse)
          refine stp (v := .tuple [y85, .int .i64 ((expF (List.map Tk.p us7.reverse)).2)].toArray) (o_mv rfl) ?_
          refine stp (v := y85) (o_ext rfl rfl) ?_
          refine stp (v := .int .i64 ((expF (List.map Tk.p us7.reverse)).2)) (o_ext rfl rfl) ?_
          refine stp (v := y85) (o_mv rfl) ?_
          refine stp (v := .int .i64 ((expF (List.map Tk.p us7.reverse)).2)) (o_mv rfl) ?_
          refine h84 _ _ ?_
          clear h84
          refine seq fun K86 h86 => ?_
          refine stp (v := v83) (o_mv rfl) ?_
          refine m_call (refWrite_ok _ us83 w85 (hs83.rd hM85 (i := 16) rfl) ((ok_us (w := w85) hp83 ((fun t ht => ((ok_us (w := w85) hp7 (fun t ht => ⟨(hts t ht).1.upd hM85.upd, (hts t ht).2⟩) ((hn7.mono fun _ _ => RmB.own).rdE hM85 (i := 3) rfl) : ∀ t ∈ us7, Tk.ok w85 t)) t (List.mem_reverse.1 ht) : ∀ t ∈ us7.reverse, Tk.ok w85 t)) ((hn83.mono fun _ _ => RmB.own).rdE hM85 (i := 17) rfl) : ∀ t ∈ us83, Tk.ok w85 t)) (by first | omega | (simp; done) | (simp; omega))) rfl fun v87 w87 ⟨y87, rs87, hr87, hs87, hm87⟩ => ?_
          have hM87 : Mem w [] w87 [rs3, rs5, r8_, rB7, [], rs14, [], rs18, [⟨b20, 5, [.int .u8 97]⟩], [⟨b22, 31, [.slice (some ⟨b20, 0, none⟩) 1 1, .int .i64 1, .int .i64 5]⟩], rs24, [⟨b26, 5, [.int .u8 97]⟩], [⟨b28, 31, [.slice (some ⟨b26, 0, none⟩) 1 1, .int .i64 1, .int .i64 5]⟩], rs30, rs62, rs64, rA83, rB83, rs85, rs87] := hM85.add hm87
          rw [hp83] at hr87 hs87
          subst hr87
          have hln87 := wrF_len (List.map Tk.p us7.reverse)
          refine stp (v := .tuple [y87, .int .i64 ((wrF (List.map Tk.p us7.reverse)).2)].toArray) (o_mv rfl) ?_
          refine stp (v := y87) (o_ext rfl rfl) ?_
          refine stp (v := .int .i64 ((wrF (List.map Tk.p us7.reverse)).2)) (o_ext rfl rfl) ?_
          refine stp (v := y87) (o_mv rfl) ?_
          refine stp (v := .int .i64 ((wrF (List.map Tk.p us7.reverse)).2)) (o_mv rfl) ?_
          refine h86 _ _ ?_
          clear h86
          refine seq fun K88 h88 => ?_
          refine stp (v := y8_) (o_mv rfl) ?_
          refine m_call (Expand_ok _ us7.reverse w87 (hx8.rd hM87 (i := 2) rfl) ((fun t ht => ((ok_us (w := w87) hp7 (fun t ht => ⟨(hts t ht).1.upd hM87.upd, (hts t ht).2⟩) ((hn7.mono fun _ _ => RmB.own).rdE hM87 (i := 3) rfl) : ∀ t ∈ us7, Tk.ok w87 t)) t (List.mem_reverse.1 ht) : ∀ t ∈ us7.reverse, Tk.ok w87 t)) (by first | omega | (simp; done) | (simp; omega))) rfl fun v89 w89 ⟨y89, rs89, hr89, hs89, hm89⟩ => ?_
          have hM89 : Mem w [] w89 [rs3, rs5, r8_, rB7, [], rs14, [], rs18, [⟨b20, 5, [.int .u8 97]⟩], [⟨b22, 31, [.slice (some ⟨b20, 0, none⟩) 1 1, .int .i64 1, .int .i64 5]⟩], rs24, [⟨b26, 5, [.int .u8 97]⟩], [⟨b28, 31, [.slice (some ⟨b26, 0, none⟩) 1 1, .int .i64 1, .int .i64 5]⟩], rs30, rs62, rs64, rA83, rB83, rs85, rs87, rs89] := hM87.add hm89
          subst hr89
          have hln89 := expF_len (List.map Tk.p us7.reverse)
          refine stp (v := .tuple [y89, .int .i64 ((expF (List.map Tk.p us7.reverse)).2)].toArray) (o_mv rfl) ?_
          refine stp (v := y89) (o_ext rfl rfl) ?_
          refine stp (v := .int .i64 ((expF (List.map Tk.p us7.reverse)).2)) (o_ext rfl rfl) ?_
          refine stp (v := y89) (o_mv rfl) ?_
          refine stp (v := .int .i64 ((expF (List.map Tk.p us7.reverse)).2)) (o_mv rfl) ?_
          refine h88 _ _ ?_
          clear h88
          refine seq fun K90 h90 => ?_
          refine stp (v := y8_) (o_mv rfl) ?_
          refine m_call (Write_ok _ us7.reverse w89 (hx8.rd hM89 (i := 2) rfl) ((fun t ht => ((ok_us (w := w89) hp7 (fun t ht => ⟨(hts t ht).1.upd hM89.upd, (hts t ht).2⟩) ((hn7.mono fun _ _ => RmB.own).rdE hM89 (i := 3) rfl) : ∀ t ∈ us7, Tk.ok w89 t)) t (List.mem_reverse.1 ht) : ∀ t ∈ us7.reverse, Tk.ok w89 t)) (by first | omega | (simp; done) | (simp; omega))) rfl fun v91 w91 ⟨y91, rs91, hr91, hs91, hm91⟩ => ?_
          have hM91 : Mem w [] w91 [rs3, rs5, r8_, rB7, [], rs14, [], rs18, [⟨b20, 5, [.int .u8 97]⟩], [⟨b22, 31, [.slice (some ⟨b20, 0, none⟩) 1 1, .int .i64 1, .int .i64 5]⟩], rs24, [⟨b26, 5, [.int .u8 97]⟩], [⟨b28, 31, [.slice (some ⟨b26, 0, none⟩) 1 1, .int .i64 1, .int .i64 5]⟩], rs30, rs62, rs64, rA83, rB83, rs85, rs87, rs89, rs91] := hM89.add hm91
          subst hr91
          have hln91 := wrF_len (List.map Tk.p us7.reverse)
          refine stp (v := .tuple [y91, .int .i64 ((wrF (List.map Tk.p us7.reverse)).2)].toArray) (o_mv rfl) ?_
          refine stp (v := y91) (o_ext rfl rfl) ?_
          refine stp (v := .int .i64 ((wrF (List.map Tk.p us7.reverse)).2)) (o_ext rfl rfl) ?_
          refine stp (v := y91) (o_mv rfl) ?_
          refine stp (v := .int .i64 ((wrF (List.map Tk.p us7.reverse)).2)) (o_mv rfl) ?_
          refine h90 _ _ ?_
          clear h90
          refine seq fun K92 h92 => ?_
          refine stp (v := .bool (decide ((((((us7 ++ [(⟨none, 0, 0, [], -77, 0⟩ : Tk)]).getD ts.length tz).bs).length : Nat) : Int) = 0))) (o_mv rfl) ?_
          refine stp (v := .bool (decide ((((((us7 ++ [(⟨none, 0, 0, [], -77, 0⟩ : Tk)]).getD ts.length tz).bs).length : Nat) : Int) = 0))) (o_mv rfl) ?_
          refine splitP rfl (fun c93 => ?_) (fun c93 => (c93 (by rw [at_77 hlu7]; rfl)).elim)
          refine stg rfl (v := .int .i64 ((expF (List.map Tk.p us7.reverse)).2)) (o_mv rfl) ?_
          refine stg rfl (v := .int .i64 ((expF (List.map Tk.p us7.reverse)).2)) (o_mv rfl) ?_
          refine stg rfl (v := .bool true) (o_bin rfl rfl v_eqT) ?_
          refine stp (v := .bool true) (o_pickT rfl rfl) ?_
          refine stp (v := .bool true) (o_mv rfl) ?_
          refine splitT rfl ?_
          refine stg rfl (v := .int .i64 ((wrF (List.map Tk.p us7.reverse)).2)) (o_mv rfl) ?_
          refine stg rfl (v := .int .i64 ((wrF (List.map Tk.p us7.reverse)).2)) (o_mv rfl) ?_
          refine stg rfl (v := .bool true) (o_bin rfl rfl v_eqT) ?_
          refine stp (v := .bool true) (o_pickT rfl rfl) ?_
          refine stp (v := .bool true) (o_mv rfl) ?_
          refine splitT rfl ?_
          refine stg rfl (v := y89) (o_mv rfl) ?_
          refine stg rfl (v := y85) (o_mv rfl) ?_
          refine gyesl rfl ?_
          refine m_call (sameBytes_ok _ _ ((expF (List.map Tk.p us7.reverse)).1) ((expF (List.map Tk.p us7.reverse)).1) w91 (hs89.rd hM91 (i := 20) rfl) (hs85.rd hM91 (i := 18) rfl) (by first | omega | (simp; done) | (simp; omega))) rfl fun v94 w94 ⟨hr94, hu94⟩ => ?_
          have hM94 : Mem w [] w94 [rs3, rs5, r8_, rB7, [], rs14, [], rs18, [⟨b20, 5, [.int .u8 97]⟩], [⟨b22, 31, [.slice (some ⟨b20, 0, none⟩) 1 1, .int .i64 1, .int .i64 5]⟩], rs24, [⟨b26, 5, [.int .u8 97]⟩], [⟨b28, 31, [.slice (some ⟨b26, 0, none⟩) 1 1, .int .i64 1, .int .i64 5]⟩], rs30, rs62, rs64, rA83, rB83, rs85, rs87, rs89, rs91] := hM91.pure hu94
          obtain rfl : v94 = .bool true := hr94.trans (by simp)
          clear hr94
          refine stp (v := .bool true) (o_pickT rfl rfl) ?_
          refine stp (v := .bool true) (o_mv rfl) ?_
          refine splitT rfl ?_
          refine stg rfl (v := y91) (o_mv rfl) ?_
          refine stg rfl (v := y87) (o_mv rfl) ?_
          refine gyesl rfl ?_
          refine m_call (sameBytes_ok _ _ ((wrF (List.map Tk.p us7.reverse)).1) ((wrF (List.map Tk.p us7.reverse)).1) w94 (hs91.rd hM94 (i := 21) rfl) (hs87.rd hM94 (i := 19) rfl) (by first | omega | (simp; done) | (simp; omega))) rfl fun v95 w95 ⟨hr95, hu95⟩ => ?_
          have hM95 : Mem w [] w95 [rs3, rs5, r8_, rB7, [], rs14, [], rs18, [⟨b20, 5, [.int .u8 97]⟩], [⟨b22, 31, [.slice (some ⟨b20, 0, none⟩) 1 1, .int .i64 1, .int .i64 5]⟩], rs24, [⟨b26, 5, [.int .u8 97]⟩], [⟨b28, 31, [.slice (some ⟨b26, 0, none⟩) 1 1, .int .i64 1, .int .i64 5]⟩], rs30, rs62, rs64, rA83, rB83, rs85, rs87, rs89, rs91] := hM94.pure hu95
          obtain rfl : v95 = .bool true := hr95.trans (by simp)
          clear hr95
          refine stp (v := .bool true) (o_pickT rfl rfl) ?_
          refine stp (v := .bool true) (o_mv rfl) ?_
          refine h92 _ _ ?_
          clear h92
          refine ⟨(.bool true), rfl, ?_⟩
          exact ⟨by first | rfl | simp, hM95.upd⟩
